/- Closed facts on the program: how types lie, which functions have bodies; asked of the kernel. -/
import Derived.Test.YtckcldimnelklaaLF
import Derived.Test.YtckcldimnelklaaProg
import Derived.KernelRfl
namespace Go.Proofs.Ytckcldimnelklaa
open Go
set_option linter.unusedVariables false

theorem mixed : Try.prog.follows .mixedOrders = true := by kernel_rfl
theorem ag131 : AggT Try.prog 131 1 := ⟨fun _ => by kernel_rfl, fun _ => by kernel_rfl⟩
theorem ag143 : AggT Try.prog 143 57 := ⟨fun _ => by kernel_rfl, fun _ => by kernel_rfl⟩
theorem ag158 : AggT Try.prog 158 4 := ⟨fun _ => by kernel_rfl, fun _ => by kernel_rfl⟩
theorem ag160 : AggT Try.prog 160 62 := ⟨fun _ => by kernel_rfl, fun _ => by kernel_rfl⟩
theorem ag202 : AggT Try.prog 202 56 := ⟨fun _ => by kernel_rfl, fun _ => by kernel_rfl⟩
theorem ag213 : AggT Try.prog 213 2 := ⟨fun _ => by kernel_rfl, fun _ => by kernel_rfl⟩
theorem ag246 : AggT Try.prog 246 2 := ⟨fun _ => by kernel_rfl, fun _ => by kernel_rfl⟩
theorem ag249 : AggT Try.prog 249 4 := ⟨fun _ => by kernel_rfl, fun _ => by kernel_rfl⟩
theorem ag25 : AggT Try.prog 25 1 := ⟨fun _ => by kernel_rfl, fun _ => by kernel_rfl⟩
theorem ag49 : AggT Try.prog 49 6 := ⟨fun _ => by kernel_rfl, fun _ => by kernel_rfl⟩
theorem ag58 : AggT Try.prog 58 55 := ⟨fun _ => by kernel_rfl, fun _ => by kernel_rfl⟩
theorem ag60 : AggT Try.prog 60 56 := ⟨fun _ => by kernel_rfl, fun _ => by kernel_rfl⟩
theorem ag62 : AggT Try.prog 62 57 := ⟨fun _ => by kernel_rfl, fun _ => by kernel_rfl⟩
theorem ag73 : AggT Try.prog 73 2 := ⟨fun _ => by kernel_rfl, fun _ => by kernel_rfl⟩
theorem bo100 : Bodied Try.prog 100 := ⟨_, Try.func100, by decide +kernel, fun h => by cases h⟩
theorem bo101 : Bodied Try.prog 101 := ⟨_, Try.func101, by decide +kernel, fun h => by cases h⟩
theorem bo102 : Bodied Try.prog 102 := ⟨_, Try.func102, by decide +kernel, fun h => by cases h⟩
theorem bo103 : Bodied Try.prog 103 := ⟨_, Try.func103, by decide +kernel, fun h => by cases h⟩
theorem bo104 : Bodied Try.prog 104 := ⟨_, Try.func104, by decide +kernel, fun h => by cases h⟩
theorem bo105 : Bodied Try.prog 105 := ⟨_, Try.func105, by decide +kernel, fun h => by cases h⟩
theorem bo106 : Bodied Try.prog 106 := ⟨_, Try.func106, by decide +kernel, fun h => by cases h⟩
theorem bo107 : Bodied Try.prog 107 := ⟨_, Try.func107, by decide +kernel, fun h => by cases h⟩
theorem bo108 : Bodied Try.prog 108 := ⟨_, Try.func108, by decide +kernel, fun h => by cases h⟩
theorem bo109 : Bodied Try.prog 109 := ⟨_, Try.func109, by decide +kernel, fun h => by cases h⟩
theorem bo110 : Bodied Try.prog 110 := ⟨_, Try.func110, by decide +kernel, fun h => by cases h⟩
theorem bo111 : Bodied Try.prog 111 := ⟨_, Try.func111, by decide +kernel, fun h => by cases h⟩
theorem bo112 : Bodied Try.prog 112 := ⟨_, Try.func112, by decide +kernel, fun h => by cases h⟩
theorem bo113 : Bodied Try.prog 113 := ⟨_, Try.func113, by decide +kernel, fun h => by cases h⟩
theorem bo114 : Bodied Try.prog 114 := ⟨_, Try.func114, by decide +kernel, fun h => by cases h⟩
theorem bo115 : Bodied Try.prog 115 := ⟨_, Try.func115, by decide +kernel, fun h => by cases h⟩
theorem bo118 : Bodied Try.prog 118 := ⟨_, Try.func118, by decide +kernel, fun h => by cases h⟩
theorem bo121 : Bodied Try.prog 121 := ⟨_, Try.func121, by decide +kernel, fun h => by cases h⟩
theorem bo122 : Bodied Try.prog 122 := ⟨_, Try.func122, by decide +kernel, fun h => by cases h⟩
theorem bo123 : Bodied Try.prog 123 := ⟨_, Try.func123, by decide +kernel, fun h => by cases h⟩
theorem bo124 : Bodied Try.prog 124 := ⟨_, Try.func124, by decide +kernel, fun h => by cases h⟩
theorem bo126 : Bodied Try.prog 126 := ⟨_, Try.func126, by decide +kernel, fun h => by cases h⟩
theorem bo130 : Bodied Try.prog 130 := ⟨_, Try.func130, by decide +kernel, fun h => by cases h⟩
theorem bo131 : Bodied Try.prog 131 := ⟨_, Try.func131, by decide +kernel, fun h => by cases h⟩
theorem bo132 : Bodied Try.prog 132 := ⟨_, Try.func132, by decide +kernel, fun h => by cases h⟩
theorem bo133 : Bodied Try.prog 133 := ⟨_, Try.func133, by decide +kernel, fun h => by cases h⟩
theorem bo134 : Bodied Try.prog 134 := ⟨_, Try.func134, by decide +kernel, fun h => by cases h⟩
theorem bo135 : Bodied Try.prog 135 := ⟨_, Try.func135, by decide +kernel, fun h => by cases h⟩
theorem bo136 : Bodied Try.prog 136 := ⟨_, Try.func136, by decide +kernel, fun h => by cases h⟩
theorem bo137 : Bodied Try.prog 137 := ⟨_, Try.func137, by decide +kernel, fun h => by cases h⟩
theorem bo138 : Bodied Try.prog 138 := ⟨_, Try.func138, by decide +kernel, fun h => by cases h⟩
theorem bo30 : Bodied Try.prog 30 := ⟨_, Try.func30, by decide +kernel, fun h => by cases h⟩
theorem bo31 : Bodied Try.prog 31 := ⟨_, Try.func31, by decide +kernel, fun h => by cases h⟩
theorem bo32 : Bodied Try.prog 32 := ⟨_, Try.func32, by decide +kernel, fun h => by cases h⟩
theorem bo33 : Bodied Try.prog 33 := ⟨_, Try.func33, by decide +kernel, fun h => by cases h⟩
theorem bo34 : Bodied Try.prog 34 := ⟨_, Try.func34, by decide +kernel, fun h => by cases h⟩
theorem bo35 : Bodied Try.prog 35 := ⟨_, Try.func35, by decide +kernel, fun h => by cases h⟩
theorem bo36 : Bodied Try.prog 36 := ⟨_, Try.func36, by decide +kernel, fun h => by cases h⟩
theorem bo37 : Bodied Try.prog 37 := ⟨_, Try.func37, by decide +kernel, fun h => by cases h⟩
theorem bo38 : Bodied Try.prog 38 := ⟨_, Try.func38, by decide +kernel, fun h => by cases h⟩
theorem bo39 : Bodied Try.prog 39 := ⟨_, Try.func39, by decide +kernel, fun h => by cases h⟩
theorem bo40 : Bodied Try.prog 40 := ⟨_, Try.func40, by decide +kernel, fun h => by cases h⟩
theorem bo41 : Bodied Try.prog 41 := ⟨_, Try.func41, by decide +kernel, fun h => by cases h⟩
theorem bo42 : Bodied Try.prog 42 := ⟨_, Try.func42, by decide +kernel, fun h => by cases h⟩
theorem bo43 : Bodied Try.prog 43 := ⟨_, Try.func43, by decide +kernel, fun h => by cases h⟩
theorem bo44 : Bodied Try.prog 44 := ⟨_, Try.func44, by decide +kernel, fun h => by cases h⟩
theorem bo45 : Bodied Try.prog 45 := ⟨_, Try.func45, by decide +kernel, fun h => by cases h⟩
theorem bo46 : Bodied Try.prog 46 := ⟨_, Try.func46, by decide +kernel, fun h => by cases h⟩
theorem bo47 : Bodied Try.prog 47 := ⟨_, Try.func47, by decide +kernel, fun h => by cases h⟩
theorem bo48 : Bodied Try.prog 48 := ⟨_, Try.func48, by decide +kernel, fun h => by cases h⟩
theorem bo49 : Bodied Try.prog 49 := ⟨_, Try.func49, by decide +kernel, fun h => by cases h⟩
theorem bo50 : Bodied Try.prog 50 := ⟨_, Try.func50, by decide +kernel, fun h => by cases h⟩
theorem bo51 : Bodied Try.prog 51 := ⟨_, Try.func51, by decide +kernel, fun h => by cases h⟩
theorem bo52 : Bodied Try.prog 52 := ⟨_, Try.func52, by decide +kernel, fun h => by cases h⟩
theorem bo53 : Bodied Try.prog 53 := ⟨_, Try.func53, by decide +kernel, fun h => by cases h⟩
theorem bo60 : Bodied Try.prog 60 := ⟨_, Try.func60, by decide +kernel, fun h => by cases h⟩
theorem bo61 : Bodied Try.prog 61 := ⟨_, Try.func61, by decide +kernel, fun h => by cases h⟩
theorem bo64 : Bodied Try.prog 64 := ⟨_, Try.func64, by decide +kernel, fun h => by cases h⟩
theorem bo65 : Bodied Try.prog 65 := ⟨_, Try.func65, by decide +kernel, fun h => by cases h⟩
theorem bo66 : Bodied Try.prog 66 := ⟨_, Try.func66, by decide +kernel, fun h => by cases h⟩
theorem bo67 : Bodied Try.prog 67 := ⟨_, Try.func67, by decide +kernel, fun h => by cases h⟩
theorem bo68 : Bodied Try.prog 68 := ⟨_, Try.func68, by decide +kernel, fun h => by cases h⟩
theorem bo69 : Bodied Try.prog 69 := ⟨_, Try.func69, by decide +kernel, fun h => by cases h⟩
theorem bo70 : Bodied Try.prog 70 := ⟨_, Try.func70, by decide +kernel, fun h => by cases h⟩
theorem bo71 : Bodied Try.prog 71 := ⟨_, Try.func71, by decide +kernel, fun h => by cases h⟩
theorem bo72 : Bodied Try.prog 72 := ⟨_, Try.func72, by decide +kernel, fun h => by cases h⟩
theorem bo73 : Bodied Try.prog 73 := ⟨_, Try.func73, by decide +kernel, fun h => by cases h⟩
theorem bo74 : Bodied Try.prog 74 := ⟨_, Try.func74, by decide +kernel, fun h => by cases h⟩
theorem bo75 : Bodied Try.prog 75 := ⟨_, Try.func75, by decide +kernel, fun h => by cases h⟩
theorem bo76 : Bodied Try.prog 76 := ⟨_, Try.func76, by decide +kernel, fun h => by cases h⟩
theorem bo77 : Bodied Try.prog 77 := ⟨_, Try.func77, by decide +kernel, fun h => by cases h⟩
theorem bo78 : Bodied Try.prog 78 := ⟨_, Try.func78, by decide +kernel, fun h => by cases h⟩
theorem bo80 : Bodied Try.prog 80 := ⟨_, Try.func80, by decide +kernel, fun h => by cases h⟩
theorem bo83 : Bodied Try.prog 83 := ⟨_, Try.func83, by decide +kernel, fun h => by cases h⟩
theorem bo93 : Bodied Try.prog 93 := ⟨_, Try.func93, by decide +kernel, fun h => by cases h⟩
theorem bo94 : Bodied Try.prog 94 := ⟨_, Try.func94, by decide +kernel, fun h => by cases h⟩
theorem bo95 : Bodied Try.prog 95 := ⟨_, Try.func95, by decide +kernel, fun h => by cases h⟩
theorem bo96 : Bodied Try.prog 96 := ⟨_, Try.func96, by decide +kernel, fun h => by cases h⟩
theorem bo97 : Bodied Try.prog 97 := ⟨_, Try.func97, by decide +kernel, fun h => by cases h⟩
theorem bo98 : Bodied Try.prog 98 := ⟨_, Try.func98, by decide +kernel, fun h => by cases h⟩
theorem bo99 : Bodied Try.prog 99 := ⟨_, Try.func99, by decide +kernel, fun h => by cases h⟩
theorem fa123_0 : FA Try.prog 123 0 0 := fun _ _ => by kernel_rfl
theorem fa123_1 : FA Try.prog 123 1 1 := fun _ _ => by kernel_rfl
theorem fa123_2 : FA Try.prog 123 2 2 := fun _ _ => by kernel_rfl
theorem fa123_3 : FA Try.prog 123 3 3 := fun _ _ => by kernel_rfl
theorem fa123_4 : FA Try.prog 123 4 4 := fun _ _ => by kernel_rfl
theorem fa131_0 : FA Try.prog 131 0 0 := fun _ _ => by kernel_rfl
theorem fa143_0 : FA Try.prog 143 0 0 := fun _ _ => by kernel_rfl
theorem fa143_1 : FA Try.prog 143 1 1 := fun _ _ => by kernel_rfl
theorem fa143_2 : FA Try.prog 143 2 56 := fun _ _ => by kernel_rfl
theorem fa158_0 : FA Try.prog 158 0 0 := fun _ _ => by kernel_rfl
theorem fa158_1 : FA Try.prog 158 1 1 := fun _ _ => by kernel_rfl
theorem fa158_2 : FA Try.prog 158 2 2 := fun _ _ => by kernel_rfl
theorem fa158_3 : FA Try.prog 158 3 3 := fun _ _ => by kernel_rfl
theorem fa160_0 : FA Try.prog 160 0 0 := fun _ _ => by kernel_rfl
theorem fa160_1 : FA Try.prog 160 1 4 := fun _ _ => by kernel_rfl
theorem fa174_0 : FA Try.prog 174 0 0 := fun _ _ => by kernel_rfl
theorem fa174_1 : FA Try.prog 174 1 1 := fun _ _ => by kernel_rfl
theorem fa174_2 : FA Try.prog 174 2 2 := fun _ _ => by kernel_rfl
theorem fa174_3 : FA Try.prog 174 3 3 := fun _ _ => by kernel_rfl
theorem fa174_4 : FA Try.prog 174 4 4 := fun _ _ => by kernel_rfl
theorem fa202_0 : FA Try.prog 202 0 0 := fun _ _ => by kernel_rfl
theorem fa202_1 : FA Try.prog 202 1 1 := fun _ _ => by kernel_rfl
theorem fa216_0 : FA Try.prog 216 0 0 := fun _ _ => by kernel_rfl
theorem fa216_1 : FA Try.prog 216 1 1 := fun _ _ => by kernel_rfl
theorem fa227_0 : FA Try.prog 227 0 0 := fun _ _ => by kernel_rfl
theorem fa227_1 : FA Try.prog 227 1 1 := fun _ _ => by kernel_rfl
theorem fa230_0 : FA Try.prog 230 0 0 := fun _ _ => by kernel_rfl
theorem fa230_1 : FA Try.prog 230 1 1 := fun _ _ => by kernel_rfl
theorem fa246_0 : FA Try.prog 246 0 0 := fun _ _ => by kernel_rfl
theorem fa246_1 : FA Try.prog 246 1 1 := fun _ _ => by kernel_rfl
theorem fa25_0 : FA Try.prog 25 0 0 := fun _ _ => by kernel_rfl
theorem fa264_0 : FA Try.prog 264 0 0 := fun _ _ => by kernel_rfl
theorem fa264_1 : FA Try.prog 264 1 1 := fun _ _ => by kernel_rfl
theorem fa43_0 : FA Try.prog 43 0 0 := fun _ _ => by kernel_rfl
theorem fa43_1 : FA Try.prog 43 1 1 := fun _ _ => by kernel_rfl
theorem fa47_0 : FA Try.prog 47 0 0 := fun _ _ => by kernel_rfl
theorem fa47_2 : FA Try.prog 47 2 2 := fun _ _ => by kernel_rfl
theorem fa47_3 : FA Try.prog 47 3 3 := fun _ _ => by kernel_rfl
theorem fa49_0 : FA Try.prog 49 0 0 := fun _ _ => by kernel_rfl
theorem fa49_1 : FA Try.prog 49 1 1 := fun _ _ => by kernel_rfl
theorem fa49_2 : FA Try.prog 49 2 2 := fun _ _ => by kernel_rfl
theorem fa56_1 : FA Try.prog 56 1 8 := fun _ _ => by kernel_rfl
theorem fa56_3 : FA Try.prog 56 3 24 := fun _ _ => by kernel_rfl
theorem fa56_5 : FA Try.prog 56 5 40 := fun _ _ => by kernel_rfl
theorem fa56_6 : FA Try.prog 56 6 41 := fun _ _ => by kernel_rfl
theorem fa58_0 : FA Try.prog 58 0 0 := fun _ _ => by kernel_rfl
theorem fa58_1 : FA Try.prog 58 1 1 := fun _ _ => by kernel_rfl
theorem fa58_2 : FA Try.prog 58 2 7 := fun _ _ => by kernel_rfl
theorem fa58_3 : FA Try.prog 58 3 13 := fun _ _ => by kernel_rfl
theorem fa60_0 : FA Try.prog 60 0 0 := fun _ _ => by kernel_rfl
theorem fa60_1 : FA Try.prog 60 1 1 := fun _ _ => by kernel_rfl
theorem fa62_0 : FA Try.prog 62 0 0 := fun _ _ => by kernel_rfl
theorem fa62_1 : FA Try.prog 62 1 1 := fun _ _ => by kernel_rfl
theorem fa62_2 : FA Try.prog 62 2 56 := fun _ _ => by kernel_rfl
theorem fa73_0 : FA Try.prog 73 0 0 := fun _ _ => by kernel_rfl
theorem fa73_1 : FA Try.prog 73 1 1 := fun _ _ => by kernel_rfl
theorem fa81_0 : FA Try.prog 81 0 0 := fun _ _ => by kernel_rfl
theorem fa81_1 : FA Try.prog 81 1 1 := fun _ _ => by kernel_rfl
theorem fa83_0 : FA Try.prog 83 0 0 := fun _ _ => by kernel_rfl
theorem fa83_1 : FA Try.prog 83 1 2 := fun _ _ => by kernel_rfl
theorem lf117 : LeafT Try.prog 117 := ⟨fun _ => by kernel_rfl, fun _ => by kernel_rfl⟩
theorem lf151 : LeafT Try.prog 151 := ⟨fun _ => by kernel_rfl, fun _ => by kernel_rfl⟩
theorem lf172 : LeafT Try.prog 172 := ⟨fun _ => by kernel_rfl, fun _ => by kernel_rfl⟩
theorem lf196 : LeafT Try.prog 196 := ⟨fun _ => by kernel_rfl, fun _ => by kernel_rfl⟩
theorem lf2 : LeafT Try.prog 2 := ⟨fun _ => by kernel_rfl, fun _ => by kernel_rfl⟩
theorem lf22 : LeafT Try.prog 22 := ⟨fun _ => by kernel_rfl, fun _ => by kernel_rfl⟩
theorem lf258 : LeafT Try.prog 258 := ⟨fun _ => by kernel_rfl, fun _ => by kernel_rfl⟩
theorem lf28 : LeafT Try.prog 28 := ⟨fun _ => by kernel_rfl, fun _ => by kernel_rfl⟩
theorem lf3 : LeafT Try.prog 3 := ⟨fun _ => by kernel_rfl, fun _ => by kernel_rfl⟩
theorem lf31 : LeafT Try.prog 31 := ⟨fun _ => by kernel_rfl, fun _ => by kernel_rfl⟩
theorem lf33 : LeafT Try.prog 33 := ⟨fun _ => by kernel_rfl, fun _ => by kernel_rfl⟩
theorem lf4 : LeafT Try.prog 4 := ⟨fun _ => by kernel_rfl, fun _ => by kernel_rfl⟩
theorem lf44 : LeafT Try.prog 44 := ⟨fun _ => by kernel_rfl, fun _ => by kernel_rfl⟩
theorem lf45 : LeafT Try.prog 45 := ⟨fun _ => by kernel_rfl, fun _ => by kernel_rfl⟩
theorem lf5 : LeafT Try.prog 5 := ⟨fun _ => by kernel_rfl, fun _ => by kernel_rfl⟩
theorem lf52 : LeafT Try.prog 52 := ⟨fun _ => by kernel_rfl, fun _ => by kernel_rfl⟩
theorem lf54 : LeafT Try.prog 54 := ⟨fun _ => by kernel_rfl, fun _ => by kernel_rfl⟩
theorem lf85 : LeafT Try.prog 85 := ⟨fun _ => by kernel_rfl, fun _ => by kernel_rfl⟩
theorem lf87 : LeafT Try.prog 87 := ⟨fun _ => by kernel_rfl, fun _ => by kernel_rfl⟩
theorem lf93 : LeafT Try.prog 93 := ⟨fun _ => by kernel_rfl, fun _ => by kernel_rfl⟩
theorem sl172 : SlT Try.prog 172 249 4 96 [Value.slice none 0 0, Value.slice none 0 0, Value.slice none 0 0, Value.slice none 0 0] := ⟨by kernel_rfl, slT_el (by kernel_rfl), rfl, by decide⟩
theorem sl196 : SlT Try.prog 196 2 1 8 [Value.int .i64 0] := ⟨by kernel_rfl, slT_el (by kernel_rfl), rfl, by decide⟩
theorem sl22 : SlT Try.prog 22 62 57 160 (encR Rw.none (Value.slice none 0 0)) := ⟨by kernel_rfl, slT_el (by kernel_rfl), rfl, by decide⟩
theorem sl258 : SlT Try.prog 258 2 1 8 [Value.int .i64 0] := ⟨by kernel_rfl, slT_el (by kernel_rfl), rfl, by decide⟩
theorem sl28 : SlT Try.prog 28 60 56 136 (encH Hd.none) := ⟨by kernel_rfl, slT_el (by kernel_rfl), rfl, by decide⟩
theorem sl31 : SlT Try.prog 31 202 56 136 (encH Hd.none) := ⟨by kernel_rfl, slT_el (by kernel_rfl), rfl, by decide⟩
theorem sl33 : SlT Try.prog 33 143 57 160 (encR Rw.none (Value.slice none 0 0)) := ⟨by kernel_rfl, slT_el (by kernel_rfl), rfl, by decide⟩
theorem sl85 : SlT Try.prog 85 4 1 1 [Value.bool false] := ⟨by kernel_rfl, slT_el (by kernel_rfl), rfl, by decide⟩
theorem un102 : Try.prog.underlying 102 = some (.slice 232) := by kernel_rfl
theorem un117 : Try.prog.underlying 117 = some (.pointer 216) := by kernel_rfl
theorem un124 : Try.prog.underlying 124 = some (.slice 87) := by kernel_rfl
theorem un126 : Try.prog.underlying 126 = some (.slice 52) := by kernel_rfl
theorem un149 : Try.prog.underlying 149 = some (.slice 160) := by kernel_rfl
theorem un151 : Try.prog.underlying 151 = some (.pointer 174) := by kernel_rfl
theorem un172 : Try.prog.underlying 172 = some (.slice 249) := by kernel_rfl
theorem un175 : Try.prog.underlying 175 = some (.slice 151) := by kernel_rfl
theorem un196 : Try.prog.underlying 196 = some (.slice 2) := by kernel_rfl
theorem un197 : Try.prog.underlying 197 = some (.array 2 73) := by kernel_rfl
theorem un198 : Try.prog.underlying 198 = some (.array 2 28) := by kernel_rfl
theorem un2 : Try.prog.underlying 2 = some (.int .i64) := by kernel_rfl
theorem un205 : Try.prog.underlying 205 = some (.slice 213) := by kernel_rfl
theorem un213 : Try.prog.underlying 213 = some (.array 2 2) := by kernel_rfl
theorem un217 : Try.prog.underlying 217 = some (.slice 117) := by kernel_rfl
theorem un219 : Try.prog.underlying 219 = some (.array 3 5) := by kernel_rfl
theorem un22 : Try.prog.underlying 22 = some (.slice 62) := by kernel_rfl
theorem un228 : Try.prog.underlying 228 = some (.slice 93) := by kernel_rfl
theorem un235 : Try.prog.underlying 235 = some (.slice 49) := by kernel_rfl
theorem un241 : Try.prog.underlying 241 = some (.slice 25) := by kernel_rfl
theorem un249 : Try.prog.underlying 249 = some (.array 2 246) := by kernel_rfl
theorem un258 : Try.prog.underlying 258 = some (.slice 2) := by kernel_rfl
theorem un267 : Try.prog.underlying 267 = some (.map 58 3) := by kernel_rfl
theorem un28 : Try.prog.underlying 28 = some (.slice 60) := by kernel_rfl
theorem un3 : Try.prog.underlying 3 = some (.int .i64) := by kernel_rfl
theorem un31 : Try.prog.underlying 31 = some (.slice 202) := by kernel_rfl
theorem un33 : Try.prog.underlying 33 = some (.slice 143) := by kernel_rfl
theorem un4 : Try.prog.underlying 4 = some (.bool) := by kernel_rfl
theorem un40 : Try.prog.underlying 40 = some (.array 2 5) := by kernel_rfl
theorem un41 : Try.prog.underlying 41 = some (.slice 58) := by kernel_rfl
theorem un44 : Try.prog.underlying 44 = some (.int .u8) := by kernel_rfl
theorem un45 : Try.prog.underlying 45 = some (.int .u32) := by kernel_rfl
theorem un5 : Try.prog.underlying 5 = some (.int .u8) := by kernel_rfl
theorem un50 : Try.prog.underlying 50 = some (.array 8 4) := by kernel_rfl
theorem un51 : Try.prog.underlying 51 = some (.array 8 5) := by kernel_rfl
theorem un52 : Try.prog.underlying 52 = some (.int .u16) := by kernel_rfl
theorem un53 : Try.prog.underlying 53 = some (.array 8 52) := by kernel_rfl
theorem un54 : Try.prog.underlying 54 = some (.int .i8) := by kernel_rfl
theorem un64 : Try.prog.underlying 64 = some (.slice 73) := by kernel_rfl
theorem un65 : Try.prog.underlying 65 = some (.pointer 83) := by kernel_rfl
theorem un66 : Try.prog.underlying 66 = some (.int .i64) := by kernel_rfl
theorem un85 : Try.prog.underlying 85 = some (.slice 4) := by kernel_rfl
theorem un87 : Try.prog.underlying 87 = some (.pointer 123) := by kernel_rfl
theorem un93 : Try.prog.underlying 93 = some (.int .u8) := by kernel_rfl
theorem un99 : Try.prog.underlying 99 = some (.slice 5) := by kernel_rfl
theorem zr123 (w : World) : (zeroValue 123).run Try.prog w = .ok (Value.agg (List.toArray [Value.bool false, Value.int .i64 0, Value.int .u8 0, Value.int .i64 0, Value.int .i64 0])) w := by kernel_rfl
theorem zr131 (w : World) : (zeroValue 131).run Try.prog w = .ok (Value.agg (List.toArray [Value.slice none 0 0])) w := by kernel_rfl
theorem zr143 (w : World) : (zeroValue 143).run Try.prog w = .ok (Value.agg (List.toArray (encR Rw.none (Value.slice none 0 0)))) w := by kernel_rfl
theorem zr174 (w : World) : (zeroValue 174).run Try.prog w = .ok (Value.agg (List.toArray [Value.int .i64 0, Value.int .i64 0, Value.int .i64 0, Value.bool false, Value.slice none 0 0])) w := by kernel_rfl
theorem zr198 (w : World) : (zeroValue 198).run Try.prog w = .ok (Value.agg (List.toArray [Value.slice none 0 0, Value.slice none 0 0])) w := by kernel_rfl
theorem zr202 (w : World) : (zeroValue 202).run Try.prog w = .ok (Value.agg (List.toArray (encH Hd.none))) w := by kernel_rfl
theorem zr216 (w : World) : (zeroValue 216).run Try.prog w = .ok (Value.agg (List.toArray [Value.int .i64 0, Value.slice none 0 0])) w := by kernel_rfl
theorem zr246 (w : World) : (zeroValue 246).run Try.prog w = .ok (Value.agg (List.toArray [Value.slice none 0 0, Value.slice none 0 0])) w := by kernel_rfl
theorem zr249 (w : World) : (zeroValue 249).run Try.prog w = .ok (Value.agg (List.toArray [Value.slice none 0 0, Value.slice none 0 0, Value.slice none 0 0, Value.slice none 0 0])) w := by kernel_rfl
theorem zr25 (w : World) : (zeroValue 25).run Try.prog w = .ok (Value.agg (List.toArray [Value.slice none 0 0])) w := by kernel_rfl
theorem zr258 (w : World) : (zeroValue 258).run Try.prog w = .ok (Value.slice none 0 0) w := by kernel_rfl
theorem zr3 (w : World) : (zeroValue 3).run Try.prog w = .ok (Value.int .i64 0) w := by kernel_rfl
theorem zr49 (w : World) : (zeroValue 49).run Try.prog w = .ok (Value.agg (List.toArray (encS Sd.none))) w := by kernel_rfl
theorem zr58 (w : World) : (zeroValue 58).run Try.prog w = .ok (Value.agg (List.toArray (encC Cl.zero))) w := by kernel_rfl
theorem zr60 (w : World) : (zeroValue 60).run Try.prog w = .ok (Value.agg (List.toArray (encH Hd.none))) w := by kernel_rfl
theorem zr62 (w : World) : (zeroValue 62).run Try.prog w = .ok (Value.agg (List.toArray (encR Rw.none (Value.slice none 0 0)))) w := by kernel_rfl
theorem zr83 (w : World) : (zeroValue 83).run Try.prog w = .ok (Value.agg (List.toArray ([Value.int .i64 0, Value.int .i64 0] ++ ((Value.int .i64 0) :: [])))) w := by kernel_rfl
end Go.Proofs.Ytckcldimnelklaa
