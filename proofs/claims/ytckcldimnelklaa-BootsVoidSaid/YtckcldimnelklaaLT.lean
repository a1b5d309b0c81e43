/- Closed facts on the program: how types lie, which functions have bodies; asked of the kernel. -/
import Derived.Test.YtckcldimnelklaaLF
import Derived.Test.YtckcldimnelklaaProg
import Derived.KernelRfl
namespace Go.Proofs.Ytckcldimnelklaa
open Go
set_option linter.unusedVariables false

theorem mixed : Try.prog.follows .mixedOrders = true := by kernel_rfl
theorem ag202 : AggT Try.prog 202 56 := ⟨fun _ => by kernel_rfl, fun _ => by kernel_rfl⟩
theorem ag49 : AggT Try.prog 49 6 := ⟨fun _ => by kernel_rfl, fun _ => by kernel_rfl⟩
theorem ag58 : AggT Try.prog 58 55 := ⟨fun _ => by kernel_rfl, fun _ => by kernel_rfl⟩
theorem ag60 : AggT Try.prog 60 56 := ⟨fun _ => by kernel_rfl, fun _ => by kernel_rfl⟩
theorem ag62 : AggT Try.prog 62 57 := ⟨fun _ => by kernel_rfl, fun _ => by kernel_rfl⟩
theorem bo107 : Bodied Try.prog 107 := ⟨_, Try.func107, by decide +kernel, fun h => by cases h⟩
theorem bo49 : Bodied Try.prog 49 := ⟨_, Try.func49, by decide +kernel, fun h => by cases h⟩
theorem bo50 : Bodied Try.prog 50 := ⟨_, Try.func50, by decide +kernel, fun h => by cases h⟩
theorem bo51 : Bodied Try.prog 51 := ⟨_, Try.func51, by decide +kernel, fun h => by cases h⟩
theorem bo52 : Bodied Try.prog 52 := ⟨_, Try.func52, by decide +kernel, fun h => by cases h⟩
theorem bo53 : Bodied Try.prog 53 := ⟨_, Try.func53, by decide +kernel, fun h => by cases h⟩
theorem fa123_0 : FA Try.prog 123 0 0 := fun _ _ => by kernel_rfl
theorem fa123_1 : FA Try.prog 123 1 1 := fun _ _ => by kernel_rfl
theorem fa123_2 : FA Try.prog 123 2 2 := fun _ _ => by kernel_rfl
theorem fa123_3 : FA Try.prog 123 3 3 := fun _ _ => by kernel_rfl
theorem fa123_4 : FA Try.prog 123 4 4 := fun _ _ => by kernel_rfl
theorem fa143_0 : FA Try.prog 143 0 0 := fun _ _ => by kernel_rfl
theorem fa143_1 : FA Try.prog 143 1 1 := fun _ _ => by kernel_rfl
theorem fa143_2 : FA Try.prog 143 2 56 := fun _ _ => by kernel_rfl
theorem fa230_0 : FA Try.prog 230 0 0 := fun _ _ => by kernel_rfl
theorem fa230_1 : FA Try.prog 230 1 1 := fun _ _ => by kernel_rfl
theorem fa25_0 : FA Try.prog 25 0 0 := fun _ _ => by kernel_rfl
theorem fa47_0 : FA Try.prog 47 0 0 := fun _ _ => by kernel_rfl
theorem fa49_0 : FA Try.prog 49 0 0 := fun _ _ => by kernel_rfl
theorem fa49_1 : FA Try.prog 49 1 1 := fun _ _ => by kernel_rfl
theorem fa49_2 : FA Try.prog 49 2 2 := fun _ _ => by kernel_rfl
theorem fa62_0 : FA Try.prog 62 0 0 := fun _ _ => by kernel_rfl
theorem fa62_1 : FA Try.prog 62 1 1 := fun _ _ => by kernel_rfl
theorem fa62_2 : FA Try.prog 62 2 56 := fun _ _ => by kernel_rfl
theorem lf2 : LeafT Try.prog 2 := ⟨fun _ => by kernel_rfl, fun _ => by kernel_rfl⟩
theorem lf22 : LeafT Try.prog 22 := ⟨fun _ => by kernel_rfl, fun _ => by kernel_rfl⟩
theorem lf28 : LeafT Try.prog 28 := ⟨fun _ => by kernel_rfl, fun _ => by kernel_rfl⟩
theorem lf3 : LeafT Try.prog 3 := ⟨fun _ => by kernel_rfl, fun _ => by kernel_rfl⟩
theorem lf31 : LeafT Try.prog 31 := ⟨fun _ => by kernel_rfl, fun _ => by kernel_rfl⟩
theorem lf4 : LeafT Try.prog 4 := ⟨fun _ => by kernel_rfl, fun _ => by kernel_rfl⟩
theorem lf44 : LeafT Try.prog 44 := ⟨fun _ => by kernel_rfl, fun _ => by kernel_rfl⟩
theorem lf5 : LeafT Try.prog 5 := ⟨fun _ => by kernel_rfl, fun _ => by kernel_rfl⟩
theorem lf52 : LeafT Try.prog 52 := ⟨fun _ => by kernel_rfl, fun _ => by kernel_rfl⟩
theorem lf87 : LeafT Try.prog 87 := ⟨fun _ => by kernel_rfl, fun _ => by kernel_rfl⟩
theorem lf93 : LeafT Try.prog 93 := ⟨fun _ => by kernel_rfl, fun _ => by kernel_rfl⟩
theorem sl28 : SlT Try.prog 28 60 56 136 (encH Hd.none) := ⟨by kernel_rfl, slT_el (by kernel_rfl), rfl, by decide⟩
theorem un124 : Try.prog.underlying 124 = some (.slice 87) := by kernel_rfl
theorem un126 : Try.prog.underlying 126 = some (.slice 52) := by kernel_rfl
theorem un196 : Try.prog.underlying 196 = some (.slice 2) := by kernel_rfl
theorem un2 : Try.prog.underlying 2 = some (.int .i64) := by kernel_rfl
theorem un22 : Try.prog.underlying 22 = some (.slice 62) := by kernel_rfl
theorem un228 : Try.prog.underlying 228 = some (.slice 93) := by kernel_rfl
theorem un28 : Try.prog.underlying 28 = some (.slice 60) := by kernel_rfl
theorem un3 : Try.prog.underlying 3 = some (.int .i64) := by kernel_rfl
theorem un31 : Try.prog.underlying 31 = some (.slice 202) := by kernel_rfl
theorem un4 : Try.prog.underlying 4 = some (.bool) := by kernel_rfl
theorem un44 : Try.prog.underlying 44 = some (.int .u8) := by kernel_rfl
theorem un45 : Try.prog.underlying 45 = some (.int .u32) := by kernel_rfl
theorem un5 : Try.prog.underlying 5 = some (.int .u8) := by kernel_rfl
theorem un50 : Try.prog.underlying 50 = some (.array 8 4) := by kernel_rfl
theorem un51 : Try.prog.underlying 51 = some (.array 8 5) := by kernel_rfl
theorem un52 : Try.prog.underlying 52 = some (.int .u16) := by kernel_rfl
theorem un53 : Try.prog.underlying 53 = some (.array 8 52) := by kernel_rfl
theorem un54 : Try.prog.underlying 54 = some (.int .i8) := by kernel_rfl
theorem un66 : Try.prog.underlying 66 = some (.int .i64) := by kernel_rfl
theorem un85 : Try.prog.underlying 85 = some (.slice 4) := by kernel_rfl
theorem un87 : Try.prog.underlying 87 = some (.pointer 123) := by kernel_rfl
theorem un93 : Try.prog.underlying 93 = some (.int .u8) := by kernel_rfl
theorem zr49 (w : World) : (zeroValue 49).run Try.prog w = .ok (.agg (List.toArray (encS Sd.none))) w := by kernel_rfl
theorem zr62 (w : World) : (zeroValue 62).run Try.prog w = .ok (.agg (List.toArray (encR Rw.none (.slice none 0 0)))) w := by kernel_rfl
end Go.Proofs.Ytckcldimnelklaa
