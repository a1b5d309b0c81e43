/- The functions come to what their twins answer: group 13r. -/
import Derived.Test.YtckcldimnelklaaW13ba
import Derived.Test.YtckcldimnelklaaW13e
import Derived.Test.YtckcldimnelklaaW13ta
import Derived.Test.YtckcldimnelklaaW13u
import Derived.Test.YtckcldimnelklaaW13o
import Derived.Test.YtckcldimnelklaaWT
import Derived.Test.YtckcldimnelklaaD13r
namespace Go.Proofs.Ytckcldimnelklaa
open Go
set_option linter.unusedVariables false
set_option linter.unusedSimpArgs false
set_option maxRecDepth 100000
set_option maxHeartbeats 4000000

theorem rsaid13_ok (w : World) (ok : Nat → Prop) (p0 : Sd) {r : Sd} (h : rsaid13 p0 = some r) :
    Ret Try.prog 121 [Value.agg (List.toArray (encS p0))] w (fun v w' => v = Value.agg (List.toArray (encS r)) ∧ St [] w w' []) := by
  rw [rsaid13] at h
  have hs100 : St [] w w [] := St.start w
  refine enter (n := 29) Try.func121 rfl rfl rfl ?_
  refine WC.seq ?_
  refine WC.region ?_
  refine WL.new (L' := fun b101 => [blk b101 49 (encS p0)]) (f := fun b101 => Value.pointer (some ⟨b101, 0, none⟩)) (X.box (v := Value.agg (List.toArray (encS p0))) (c := encS p0) (hs100.here) rfl rfl (fun _ => rfl)) rfl ?_
  intro b101 w102 ht107 he104 hz105
  have hs108 := hs100.trans ht107
  refine WL.new (L' := fun b109 => [blk b101 49 (encS p0), blk b109 49 (encS Sd.none)]) (f := fun b109 => Value.pointer (some ⟨b109, 0, none⟩)) (X.alloc (c := encS Sd.none) (hs108.here) zr49 rfl (fun _ => rfl)) rfl ?_
  intro b109 w110 ht115 he112 hz113
  have hs116 := hs108.trans ht115
  refine WL.nil ?_
  refine thenN ?_
  refine WC.seq ?_
  refine WC.seq ?_
  refine WC.region ?_
  refine WL.val (R.fieldAddr (o := 0) (o' := 0) fa49_0 rfl rfl) rfl ?_
  refine WL.val (R.loadL (v := Value.bool p0.is) lf4 rfl (hs116.at (i := 0) (off := 0) (n := 1) (cs := [Value.bool p0.is]) rfl rfl rfl)) rfl ?_
  refine WL.val (R.move (v := Value.bool p0.is) rfl) rfl ?_
  by_cases hc117 : p0.is = true
  · have h118 := ifT hc117 h
    refine WL.guardY (e := 5) (Eq.trans (show _ = Value.bool p0.is from rfl) (congrArg Value.bool hc117)) rfl rfl ?_
    refine WL.val (R.fieldAddr (o := 0) (o' := 1) fa49_1 rfl rfl) rfl ?_
    refine WL.guardY (e := 5) (Eq.trans (show _ = Value.bool p0.is from rfl) (congrArg Value.bool hc117)) rfl rfl ?_
    refine WL.val (R.loadL (v := Value.int .i64 p0.at_) lf2 rfl (hs116.at (i := 0) (off := 1) (n := 1) (cs := [Value.int .i64 p0.at_]) rfl rfl rfl)) rfl ?_
    refine WL.guardY (e := 5) (Eq.trans (show _ = Value.bool p0.is from rfl) (congrArg Value.bool hc117)) rfl rfl ?_
    by_cases hc119 : 0 ≤ p0.at_
    · have h120 := ifT hc119 h118
      refine WL.val (R.geqT (k := .i64) (a := p0.at_) (b := 0) un2 rfl rfl hc119) rfl ?_
      refine WL.val (R.pickT (v := Value.bool true) (Eq.trans (show _ = Value.bool p0.is from rfl) (congrArg Value.bool hc117)) rfl) rfl ?_
      refine WL.val (R.move (v := Value.bool true) rfl) rfl ?_
      refine WL.guardY (e := 10) rfl rfl rfl ?_
      refine WL.val (R.fieldAddr (o := 0) (o' := 1) fa49_1 rfl rfl) rfl ?_
      refine WL.guardY (e := 10) rfl rfl rfl ?_
      refine WL.val (R.loadL (v := Value.int .i64 p0.at_) lf2 rfl (hs116.at (i := 0) (off := 1) (n := 1) (cs := [Value.int .i64 p0.at_]) rfl rfl rfl)) rfl ?_
      refine WL.guardY (e := 10) rfl rfl rfl ?_
      by_cases hc121 : p0.at_ ≤ 1099511627776
      · have h122 := ifT hc121 h120
        refine WL.val (R.leqT (k := .i64) (a := p0.at_) (b := 1099511627776) un2 rfl rfl hc121) rfl ?_
        refine WL.val (R.pickT (v := Value.bool true) rfl rfl) rfl ?_
        refine WL.val (R.move (v := Value.bool true) rfl) rfl ?_
        refine WL.guardY (e := 15) rfl rfl rfl ?_
        refine WL.val (R.fieldAddr (o := 0) (o' := 2) fa49_2 rfl rfl) rfl ?_
        refine WL.guardY (e := 15) rfl rfl rfl ?_
        refine WL.val (R.fieldAddr (o := 2) (o' := 2) fa47_0 rfl rfl) rfl ?_
        refine WL.guardY (e := 15) rfl rfl rfl ?_
        refine WL.val (R.loadL (v := Value.int .u8 p0.kind) lf44 rfl (hs116.at (i := 0) (off := 2) (n := 1) (cs := [Value.int .u8 p0.kind]) rfl rfl rfl)) rfl ?_
        refine WL.guardY (e := 15) rfl rfl rfl ?_
        by_cases hc123 : p0.kind = 1
        · have h124 := ifT hc123 h122
          refine WL.val (R.eqlT (k := .u8) (a := p0.kind) (b := 1) un44 rfl rfl hc123) rfl ?_
          refine WL.guardY (e := 15) rfl rfl rfl ?_
          refine WL.val (R.move (v := Value.bool true) rfl) rfl ?_
          refine WL.guardN (e := 20) (v := .bool true) rfl rfl rfl rfl ?_
          refine WL.guardN (e := 20) (v := .bool true) rfl rfl rfl rfl ?_
          refine WL.guardN (e := 20) (v := .bool true) rfl rfl rfl rfl ?_
          refine WL.guardN (e := 20) (v := .bool true) rfl rfl rfl rfl ?_
          refine WL.guardY (e := 15) rfl rfl rfl ?_
          refine WL.val (R.pickT (v := Value.bool true) rfl rfl) rfl ?_
          refine WL.val (R.pickT (v := Value.bool true) rfl rfl) rfl ?_
          refine WL.nil ?_
          refine thenN ?_
          refine WC.condT rfl rfl ?_
          refine WC.seq ?_
          refine WC.region ?_
          refine WL.val (R.loadA (cs := encS p0) (n := 6) ag49 rfl (hs116.at (i := 0) (off := 0) (n := 6) (cs := encS p0) rfl rfl rfl) rfl) rfl ?_
          refine WL.sto (L' := [blk b101 49 (encS p0), blk b109 49 (encS p0)]) (X.store (i := 1) (n := 6) (b := b109) (off := 0) (c := encS Sd.none) (U := 49) (vs := encS p0) (v := Value.agg (List.toArray (encS p0))) (c' := encS p0) (hs116.here) rfl ag49.size rfl rfl rfl rfl rfl rfl rfl rfl) rfl rfl ?_
          intro w125 ht126
          have hs127 := hs116.trans ht126
          refine WL.nil ?_
          refine thenN ?_
          refine WC.ret ?_
          have hl128 := run_loadA (P := Try.prog) (n := 6) ag49 (hs127.at (i := 1) (off := 0) (n := 6) (cs := encS p0) rfl rfl rfl) rfl
          have ht129 := (hs127.here).perm (L' := []) (G := [blk b101 49 (encS p0), blk b109 49 (encS p0)]) ((List.Perm.refl _))
          have hs130 := hs127.trans ht129
          obtain rfl := Option.some.inj (show some p0 = some r from h124)
          exact retCell (P := Try.prog) (n := 29) (fn := Try.f121) (R := fun v w' => v = Value.agg (List.toArray (encS p0)) ∧ St [] w w' []) (t := 2) (v := Value.agg (List.toArray (encS p0))) rfl rfl rfl hl128 ⟨rfl, hs130⟩
        · have h131 := ifF hc123 h122
          refine WL.val (R.eqlF (k := .u8) (a := p0.kind) (b := 1) un44 rfl rfl hc123) rfl ?_
          refine WL.guardY (e := 15) rfl rfl rfl ?_
          refine WL.val (R.move (v := Value.bool false) rfl) rfl ?_
          refine WL.guardY (e := 20) rfl rfl rfl ?_
          refine WL.val (R.fieldAddr (o := 0) (o' := 2) fa49_2 rfl rfl) rfl ?_
          refine WL.guardY (e := 20) rfl rfl rfl ?_
          refine WL.val (R.fieldAddr (o := 2) (o' := 2) fa47_0 rfl rfl) rfl ?_
          refine WL.guardY (e := 20) rfl rfl rfl ?_
          refine WL.val (R.loadL (v := Value.int .u8 p0.kind) lf44 rfl (hs116.at (i := 0) (off := 2) (n := 1) (cs := [Value.int .u8 p0.kind]) rfl rfl rfl)) rfl ?_
          refine WL.guardY (e := 20) rfl rfl rfl ?_
          by_cases hc132 : p0.kind = 2
          · have h133 := ifT hc132 h131
            refine WL.val (R.eqlT (k := .u8) (a := p0.kind) (b := 2) un44 rfl rfl hc132) rfl ?_
            refine WL.guardY (e := 15) rfl rfl rfl ?_
            refine WL.val (R.pickF (v := Value.bool true) rfl rfl) rfl ?_
            refine WL.val (R.pickT (v := Value.bool true) rfl rfl) rfl ?_
            refine WL.nil ?_
            refine thenN ?_
            refine WC.condT rfl rfl ?_
            refine WC.seq ?_
            refine WC.region ?_
            refine WL.val (R.loadA (cs := encS p0) (n := 6) ag49 rfl (hs116.at (i := 0) (off := 0) (n := 6) (cs := encS p0) rfl rfl rfl) rfl) rfl ?_
            refine WL.sto (L' := [blk b101 49 (encS p0), blk b109 49 (encS p0)]) (X.store (i := 1) (n := 6) (b := b109) (off := 0) (c := encS Sd.none) (U := 49) (vs := encS p0) (v := Value.agg (List.toArray (encS p0))) (c' := encS p0) (hs116.here) rfl ag49.size rfl rfl rfl rfl rfl rfl rfl rfl) rfl rfl ?_
            intro w134 ht135
            have hs136 := hs116.trans ht135
            refine WL.nil ?_
            refine thenN ?_
            refine WC.ret ?_
            have hl137 := run_loadA (P := Try.prog) (n := 6) ag49 (hs136.at (i := 1) (off := 0) (n := 6) (cs := encS p0) rfl rfl rfl) rfl
            have ht138 := (hs136.here).perm (L' := []) (G := [blk b101 49 (encS p0), blk b109 49 (encS p0)]) ((List.Perm.refl _))
            have hs139 := hs136.trans ht138
            obtain rfl := Option.some.inj (show some p0 = some r from h133)
            exact retCell (P := Try.prog) (n := 29) (fn := Try.f121) (R := fun v w' => v = Value.agg (List.toArray (encS p0)) ∧ St [] w w' []) (t := 2) (v := Value.agg (List.toArray (encS p0))) rfl rfl rfl hl137 ⟨rfl, hs139⟩
          · have h140 := ifF hc132 h131
            refine WL.val (R.eqlF (k := .u8) (a := p0.kind) (b := 2) un44 rfl rfl hc132) rfl ?_
            refine WL.guardY (e := 15) rfl rfl rfl ?_
            refine WL.val (R.pickF (v := Value.bool false) rfl rfl) rfl ?_
            refine WL.val (R.pickT (v := Value.bool false) rfl rfl) rfl ?_
            refine WL.nil ?_
            refine thenN ?_
            refine WC.condF rfl rfl ?_
            refine WC.skip ?_
            refine thenN ?_
            refine WC.seq ?_
            refine WC.region ?_
            have hd141 : ∀ w, (Instr.build 49 #[]).run Try.prog w = .ok (Value.agg (List.toArray (encS Sd.none))) w := fun _ => by kernel_rfl
            refine WL.val (R.build (vs := []) rfl hd141) rfl ?_
            refine WL.sto (L' := [blk b101 49 (encS p0), blk b109 49 (encS Sd.none)]) (X.store (i := 1) (n := 6) (b := b109) (off := 0) (c := encS Sd.none) (U := 49) (vs := encS Sd.none) (v := Value.agg (List.toArray (encS Sd.none))) (c' := encS Sd.none) (hs116.here) rfl ag49.size rfl rfl rfl rfl rfl rfl rfl rfl) rfl rfl ?_
            intro w142 ht143
            have hs144 := hs116.trans ht143
            refine WL.nil ?_
            refine thenN ?_
            refine WC.ret ?_
            have hl145 := run_loadA (P := Try.prog) (n := 6) ag49 (hs144.at (i := 1) (off := 0) (n := 6) (cs := encS Sd.none) rfl rfl rfl) rfl
            have ht146 := (hs144.here).perm (L' := []) (G := [blk b101 49 (encS p0), blk b109 49 (encS Sd.none)]) ((List.Perm.refl _))
            have hs147 := hs144.trans ht146
            obtain rfl := Option.some.inj (show some Sd.none = some r from h140)
            exact retCell (P := Try.prog) (n := 29) (fn := Try.f121) (R := fun v w' => v = Value.agg (List.toArray (encS Sd.none)) ∧ St [] w w' []) (t := 2) (v := Value.agg (List.toArray (encS Sd.none))) rfl rfl rfl hl145 ⟨rfl, hs147⟩
      · have h148 := ifF hc121 h120
        refine WL.val (R.leqF (k := .i64) (a := p0.at_) (b := 1099511627776) un2 rfl rfl hc121) rfl ?_
        refine WL.val (R.pickT (v := Value.bool false) rfl rfl) rfl ?_
        refine WL.val (R.move (v := Value.bool false) rfl) rfl ?_
        refine WL.guardN (e := 15) (v := .bool false) rfl rfl rfl rfl ?_
        refine WL.guardN (e := 15) (v := .bool false) rfl rfl rfl rfl ?_
        refine WL.guardN (e := 15) (v := .bool false) rfl rfl rfl rfl ?_
        refine WL.guardN (e := 15) (v := .bool false) rfl rfl rfl rfl ?_
        refine WL.guardN (e := 15) (v := .bool false) rfl rfl rfl rfl ?_
        refine WL.guardN (e := 20) (v := undef) rfl rfl rfl rfl ?_
        refine WL.guardN (e := 20) (v := undef) rfl rfl rfl rfl ?_
        refine WL.guardN (e := 20) (v := undef) rfl rfl rfl rfl ?_
        refine WL.guardN (e := 20) (v := undef) rfl rfl rfl rfl ?_
        refine WL.guardN (e := 15) (v := .bool false) rfl rfl rfl rfl ?_
        refine WL.val (R.pickF (v := Value.bool false) rfl rfl) rfl ?_
        refine WL.nil ?_
        refine thenN ?_
        refine WC.condF rfl rfl ?_
        refine WC.skip ?_
        refine thenN ?_
        refine WC.seq ?_
        refine WC.region ?_
        have hd149 : ∀ w, (Instr.build 49 #[]).run Try.prog w = .ok (Value.agg (List.toArray (encS Sd.none))) w := fun _ => by kernel_rfl
        refine WL.val (R.build (vs := []) rfl hd149) rfl ?_
        refine WL.sto (L' := [blk b101 49 (encS p0), blk b109 49 (encS Sd.none)]) (X.store (i := 1) (n := 6) (b := b109) (off := 0) (c := encS Sd.none) (U := 49) (vs := encS Sd.none) (v := Value.agg (List.toArray (encS Sd.none))) (c' := encS Sd.none) (hs116.here) rfl ag49.size rfl rfl rfl rfl rfl rfl rfl rfl) rfl rfl ?_
        intro w150 ht151
        have hs152 := hs116.trans ht151
        refine WL.nil ?_
        refine thenN ?_
        refine WC.ret ?_
        have hl153 := run_loadA (P := Try.prog) (n := 6) ag49 (hs152.at (i := 1) (off := 0) (n := 6) (cs := encS Sd.none) rfl rfl rfl) rfl
        have ht154 := (hs152.here).perm (L' := []) (G := [blk b101 49 (encS p0), blk b109 49 (encS Sd.none)]) ((List.Perm.refl _))
        have hs155 := hs152.trans ht154
        obtain rfl := Option.some.inj (show some Sd.none = some r from h148)
        exact retCell (P := Try.prog) (n := 29) (fn := Try.f121) (R := fun v w' => v = Value.agg (List.toArray (encS Sd.none)) ∧ St [] w w' []) (t := 2) (v := Value.agg (List.toArray (encS Sd.none))) rfl rfl rfl hl153 ⟨rfl, hs155⟩
    · have h156 := ifF hc119 h118
      refine WL.val (R.geqF (k := .i64) (a := p0.at_) (b := 0) un2 rfl rfl hc119) rfl ?_
      refine WL.val (R.pickT (v := Value.bool false) (Eq.trans (show _ = Value.bool p0.is from rfl) (congrArg Value.bool hc117)) rfl) rfl ?_
      refine WL.val (R.move (v := Value.bool false) rfl) rfl ?_
      refine WL.guardN (e := 10) (v := .bool false) rfl rfl rfl rfl ?_
      refine WL.guardN (e := 10) (v := .bool false) rfl rfl rfl rfl ?_
      refine WL.guardN (e := 10) (v := .bool false) rfl rfl rfl rfl ?_
      refine WL.val (R.pickF (v := Value.bool false) rfl rfl) rfl ?_
      refine WL.val (R.move (v := Value.bool false) rfl) rfl ?_
      refine WL.guardN (e := 15) (v := .bool false) rfl rfl rfl rfl ?_
      refine WL.guardN (e := 15) (v := .bool false) rfl rfl rfl rfl ?_
      refine WL.guardN (e := 15) (v := .bool false) rfl rfl rfl rfl ?_
      refine WL.guardN (e := 15) (v := .bool false) rfl rfl rfl rfl ?_
      refine WL.guardN (e := 15) (v := .bool false) rfl rfl rfl rfl ?_
      refine WL.guardN (e := 20) (v := undef) rfl rfl rfl rfl ?_
      refine WL.guardN (e := 20) (v := undef) rfl rfl rfl rfl ?_
      refine WL.guardN (e := 20) (v := undef) rfl rfl rfl rfl ?_
      refine WL.guardN (e := 20) (v := undef) rfl rfl rfl rfl ?_
      refine WL.guardN (e := 15) (v := .bool false) rfl rfl rfl rfl ?_
      refine WL.val (R.pickF (v := Value.bool false) rfl rfl) rfl ?_
      refine WL.nil ?_
      refine thenN ?_
      refine WC.condF rfl rfl ?_
      refine WC.skip ?_
      refine thenN ?_
      refine WC.seq ?_
      refine WC.region ?_
      have hd157 : ∀ w, (Instr.build 49 #[]).run Try.prog w = .ok (Value.agg (List.toArray (encS Sd.none))) w := fun _ => by kernel_rfl
      refine WL.val (R.build (vs := []) rfl hd157) rfl ?_
      refine WL.sto (L' := [blk b101 49 (encS p0), blk b109 49 (encS Sd.none)]) (X.store (i := 1) (n := 6) (b := b109) (off := 0) (c := encS Sd.none) (U := 49) (vs := encS Sd.none) (v := Value.agg (List.toArray (encS Sd.none))) (c' := encS Sd.none) (hs116.here) rfl ag49.size rfl rfl rfl rfl rfl rfl rfl rfl) rfl rfl ?_
      intro w158 ht159
      have hs160 := hs116.trans ht159
      refine WL.nil ?_
      refine thenN ?_
      refine WC.ret ?_
      have hl161 := run_loadA (P := Try.prog) (n := 6) ag49 (hs160.at (i := 1) (off := 0) (n := 6) (cs := encS Sd.none) rfl rfl rfl) rfl
      have ht162 := (hs160.here).perm (L' := []) (G := [blk b101 49 (encS p0), blk b109 49 (encS Sd.none)]) ((List.Perm.refl _))
      have hs163 := hs160.trans ht162
      obtain rfl := Option.some.inj (show some Sd.none = some r from h156)
      exact retCell (P := Try.prog) (n := 29) (fn := Try.f121) (R := fun v w' => v = Value.agg (List.toArray (encS Sd.none)) ∧ St [] w w' []) (t := 2) (v := Value.agg (List.toArray (encS Sd.none))) rfl rfl rfl hl161 ⟨rfl, hs163⟩
  · have h164 := ifF hc117 h
    refine WL.guardN (e := 5) (v := .bool false) (Eq.trans (show _ = Value.bool p0.is from rfl) (congrArg Value.bool (Bool.eq_false_iff.2 hc117))) rfl rfl rfl ?_
    refine WL.guardN (e := 5) (v := .bool false) (Eq.trans (show _ = Value.bool p0.is from rfl) (congrArg Value.bool (Bool.eq_false_iff.2 hc117))) rfl rfl rfl ?_
    refine WL.guardN (e := 5) (v := .bool false) (Eq.trans (show _ = Value.bool p0.is from rfl) (congrArg Value.bool (Bool.eq_false_iff.2 hc117))) rfl rfl rfl ?_
    refine WL.val (R.pickF (v := Value.bool false) (Eq.trans (show _ = Value.bool p0.is from rfl) (congrArg Value.bool (Bool.eq_false_iff.2 hc117))) rfl) rfl ?_
    refine WL.val (R.move (v := Value.bool false) rfl) rfl ?_
    refine WL.guardN (e := 10) (v := .bool false) rfl rfl rfl rfl ?_
    refine WL.guardN (e := 10) (v := .bool false) rfl rfl rfl rfl ?_
    refine WL.guardN (e := 10) (v := .bool false) rfl rfl rfl rfl ?_
    refine WL.val (R.pickF (v := Value.bool false) rfl rfl) rfl ?_
    refine WL.val (R.move (v := Value.bool false) rfl) rfl ?_
    refine WL.guardN (e := 15) (v := .bool false) rfl rfl rfl rfl ?_
    refine WL.guardN (e := 15) (v := .bool false) rfl rfl rfl rfl ?_
    refine WL.guardN (e := 15) (v := .bool false) rfl rfl rfl rfl ?_
    refine WL.guardN (e := 15) (v := .bool false) rfl rfl rfl rfl ?_
    refine WL.guardN (e := 15) (v := .bool false) rfl rfl rfl rfl ?_
    refine WL.guardN (e := 20) (v := undef) rfl rfl rfl rfl ?_
    refine WL.guardN (e := 20) (v := undef) rfl rfl rfl rfl ?_
    refine WL.guardN (e := 20) (v := undef) rfl rfl rfl rfl ?_
    refine WL.guardN (e := 20) (v := undef) rfl rfl rfl rfl ?_
    refine WL.guardN (e := 15) (v := .bool false) rfl rfl rfl rfl ?_
    refine WL.val (R.pickF (v := Value.bool false) rfl rfl) rfl ?_
    refine WL.nil ?_
    refine thenN ?_
    refine WC.condF rfl rfl ?_
    refine WC.skip ?_
    refine thenN ?_
    refine WC.seq ?_
    refine WC.region ?_
    have hd165 : ∀ w, (Instr.build 49 #[]).run Try.prog w = .ok (Value.agg (List.toArray (encS Sd.none))) w := fun _ => by kernel_rfl
    refine WL.val (R.build (vs := []) rfl hd165) rfl ?_
    refine WL.sto (L' := [blk b101 49 (encS p0), blk b109 49 (encS Sd.none)]) (X.store (i := 1) (n := 6) (b := b109) (off := 0) (c := encS Sd.none) (U := 49) (vs := encS Sd.none) (v := Value.agg (List.toArray (encS Sd.none))) (c' := encS Sd.none) (hs116.here) rfl ag49.size rfl rfl rfl rfl rfl rfl rfl rfl) rfl rfl ?_
    intro w166 ht167
    have hs168 := hs116.trans ht167
    refine WL.nil ?_
    refine thenN ?_
    refine WC.ret ?_
    have hl169 := run_loadA (P := Try.prog) (n := 6) ag49 (hs168.at (i := 1) (off := 0) (n := 6) (cs := encS Sd.none) rfl rfl rfl) rfl
    have ht170 := (hs168.here).perm (L' := []) (G := [blk b101 49 (encS p0), blk b109 49 (encS Sd.none)]) ((List.Perm.refl _))
    have hs171 := hs168.trans ht170
    obtain rfl := Option.some.inj (show some Sd.none = some r from h164)
    exact retCell (P := Try.prog) (n := 29) (fn := Try.f121) (R := fun v w' => v = Value.agg (List.toArray (encS Sd.none)) ∧ St [] w w' []) (t := 2) (v := Value.agg (List.toArray (encS Sd.none))) rfl rfl rfl hl169 ⟨rfl, hs171⟩

theorem rcell13_ok (w : World) (ok : Nat → Prop) (p0 : Cl) {r : Cl} (h : rcell13 p0 = some r) :
    Ret Try.prog 74 [Value.agg (List.toArray (encC p0))] w (fun v w' => v = Value.agg (List.toArray (encC r)) ∧ St [] w w' []) := by
  rw [rcell13] at h
  have hs100 : St [] w w [] := St.start w
  refine enter (n := 39) Try.func74 rfl rfl rfl ?_
  refine WC.seq ?_
  refine WC.region ?_
  refine WL.new (L' := fun b101 => [blk b101 58 (encC p0)]) (f := fun b101 => Value.pointer (some ⟨b101, 0, none⟩)) (X.box (v := Value.agg (List.toArray (encC p0))) (c := encC p0) (hs100.here) rfl rfl (fun _ => rfl)) rfl ?_
  intro b101 w102 ht107 he104 hz105
  have hs108 := hs100.trans ht107
  refine WL.new (L' := fun b109 => [blk b101 58 (encC p0), blk b109 58 (encC Cl.zero)]) (f := fun b109 => Value.pointer (some ⟨b109, 0, none⟩)) (X.alloc (c := encC Cl.zero) (hs108.here) zr58 rfl (fun _ => rfl)) rfl ?_
  intro b109 w110 ht115 he112 hz113
  have hs116 := hs108.trans ht115
  refine WL.nil ?_
  refine thenN ?_
  obtain ⟨J130, hJ131, h132⟩ := jnE h
  refine WC.seq ?_
  refine WC.join (fun σ134 w133 => ∃ i129 : Int, σ134 1 = (Value.pointer (some ⟨b101, 0, none⟩)) ∧ σ134 2 = (Value.pointer (some ⟨b109, 0, none⟩)) ∧ J130 i129 = some r ∧ St [] w w133 [blk b101 58 ((Value.int .i64 i129) :: ((encS p0.offer) ++ ((encS p0.report) ++ (encV p0.view)))), blk b109 58 (encC Cl.zero)]) ?_ ?_
  · refine WC.seq ?_
    refine WC.region ?_
    refine WL.val (R.fieldAddr (o := 0) (o' := 0) fa58_0 rfl rfl) rfl ?_
    refine WL.val (R.loadL (v := Value.int .i64 p0.age) lf2 rfl (hs116.at (i := 0) (off := 0) (n := 1) (cs := [Value.int .i64 p0.age]) rfl rfl rfl)) rfl ?_
    by_cases hc136 : p0.age < 0
    · have h137 := ifT hc136 h132
      refine WL.val (R.lssT (k := .i64) (a := p0.age) (b := 0) un2 rfl rfl hc136) rfl ?_
      refine WL.val (R.move (v := Value.bool true) rfl) rfl ?_
      refine WL.guardN (e := 6) (v := .bool true) rfl rfl rfl rfl ?_
      refine WL.guardN (e := 6) (v := .bool true) rfl rfl rfl rfl ?_
      refine WL.guardN (e := 6) (v := .bool true) rfl rfl rfl rfl ?_
      refine WL.val (R.pickT (v := Value.bool true) rfl rfl) rfl ?_
      refine WL.nil ?_
      refine thenN ?_
      refine WC.condT rfl rfl ?_
      refine WC.region ?_
      refine WL.val (R.fieldAddr (o := 0) (o' := 0) fa58_0 rfl rfl) rfl ?_
      refine WL.sto (L' := [blk b101 58 ((Value.int .i64 (-1)) :: ((encS p0.offer) ++ ((encS p0.report) ++ (encV p0.view)))), blk b109 58 (encC Cl.zero)]) (X.store (i := 0) (n := 1) (b := b101) (off := 0) (c := encC p0) (U := 58) (vs := [Value.int .i64 (-1)]) (v := Value.int .i64 (-1)) (c' := (Value.int .i64 (-1)) :: ((encS p0.offer) ++ ((encS p0.report) ++ (encV p0.view)))) (hs116.here) rfl lf2.size rfl rfl rfl rfl rfl rfl rfl rfl) rfl rfl ?_
      intro w138 ht139
      have hs140 := hs116.trans ht139
      refine WL.nil ?_
      exact joinI ⟨-1, rfl, rfl, h137, hs140⟩
    · have h141 := ifF hc136 h132
      refine WL.val (R.lssF (k := .i64) (a := p0.age) (b := 0) un2 rfl rfl hc136) rfl ?_
      refine WL.val (R.move (v := Value.bool false) rfl) rfl ?_
      refine WL.guardY (e := 6) rfl rfl rfl ?_
      refine WL.val (R.fieldAddr (o := 0) (o' := 0) fa58_0 rfl rfl) rfl ?_
      refine WL.guardY (e := 6) rfl rfl rfl ?_
      refine WL.val (R.loadL (v := Value.int .i64 p0.age) lf2 rfl (hs116.at (i := 0) (off := 0) (n := 1) (cs := [Value.int .i64 p0.age]) rfl rfl rfl)) rfl ?_
      refine WL.guardY (e := 6) rfl rfl rfl ?_
      by_cases hc142 : 1099511627776 < p0.age
      · have h143 := ifT hc142 h141
        refine WL.val (R.gtrT (k := .i64) (a := p0.age) (b := 1099511627776) un2 rfl rfl hc142) rfl ?_
        refine WL.val (R.pickF (v := Value.bool true) rfl rfl) rfl ?_
        refine WL.nil ?_
        refine thenN ?_
        refine WC.condT rfl rfl ?_
        refine WC.region ?_
        refine WL.val (R.fieldAddr (o := 0) (o' := 0) fa58_0 rfl rfl) rfl ?_
        refine WL.sto (L' := [blk b101 58 ((Value.int .i64 (-1)) :: ((encS p0.offer) ++ ((encS p0.report) ++ (encV p0.view)))), blk b109 58 (encC Cl.zero)]) (X.store (i := 0) (n := 1) (b := b101) (off := 0) (c := encC p0) (U := 58) (vs := [Value.int .i64 (-1)]) (v := Value.int .i64 (-1)) (c' := (Value.int .i64 (-1)) :: ((encS p0.offer) ++ ((encS p0.report) ++ (encV p0.view)))) (hs116.here) rfl lf2.size rfl rfl rfl rfl rfl rfl rfl rfl) rfl rfl ?_
        intro w144 ht145
        have hs146 := hs116.trans ht145
        refine WL.nil ?_
        exact joinI ⟨-1, rfl, rfl, h143, hs146⟩
      · have h147 := ifF hc142 h141
        refine WL.val (R.gtrF (k := .i64) (a := p0.age) (b := 1099511627776) un2 rfl rfl hc142) rfl ?_
        refine WL.val (R.pickF (v := Value.bool false) rfl rfl) rfl ?_
        refine WL.nil ?_
        refine thenN ?_
        refine WC.condF rfl rfl ?_
        refine WC.skip ?_
        exact joinI ⟨p0.age, rfl, rfl, h147, hs116⟩
  · rintro σ134 w133 ⟨i129, s149, s150, h148, hs135⟩
    subst hJ131
    refine thenN ?_
    refine WC.seq ?_
    refine WC.region ?_
    refine WL.val (R.fieldAddr (o := 0) (o' := 1) fa58_1 (by exact s149) rfl) rfl ?_
    refine WL.val (R.loadA (cs := encS p0.offer) (n := 6) ag49 rfl (hs135.at (i := 0) (off := 1) (n := 6) (cs := encS p0.offer) rfl rfl rfl) rfl) rfl ?_
    obtain ⟨y151, hx152, h153⟩ := ob (o := rsaid13 p0.offer) h148
    refine WL.call (rsaid13_ok _ (In ok w [] [blk b101 58 ((Value.int .i64 i129) :: ((encS p0.offer) ++ ((encS p0.report) ++ (encV p0.view)))), blk b109 58 (encC Cl.zero)]) p0.offer  hx152) (R.call (vs := [Value.agg (List.toArray (encS p0.offer))]) (caps := []) bo121 rfl rfl) rfl ?_
    rintro v156 w157 ⟨rfl, ht154⟩
    have ht155 := hs135.call (N := [blk b101 58 ((Value.int .i64 i129) :: ((encS p0.offer) ++ ((encS p0.report) ++ (encV p0.view)))), blk b109 58 (encC Cl.zero)]) (M := []) (List.Perm.refl _) ht154
    have hs158 := hs135.trans ht155
    refine WL.val (R.fieldAddr (o := 0) (o' := 1) fa58_1 (by exact s149) rfl) rfl ?_
    refine WL.sto (L' := [blk b101 58 ((Value.int .i64 i129) :: ((encS y151) ++ ((encS p0.report) ++ (encV p0.view)))), blk b109 58 (encC Cl.zero)]) (X.store (i := 0) (n := 6) (b := b101) (off := 1) (c := (Value.int .i64 i129) :: ((encS p0.offer) ++ ((encS p0.report) ++ (encV p0.view)))) (U := 58) (vs := encS y151) (v := Value.agg (List.toArray (encS y151))) (c' := (Value.int .i64 i129) :: ((encS y151) ++ ((encS p0.report) ++ (encV p0.view)))) (hs158.here) rfl ag49.size rfl rfl rfl rfl rfl rfl rfl rfl) rfl rfl ?_
    intro w159 ht160
    have hs161 := hs158.trans ht160
    refine WL.nil ?_
    refine thenN ?_
    refine WC.seq ?_
    refine WC.region ?_
    refine WL.val (R.fieldAddr (o := 0) (o' := 7) fa58_2 (by exact s149) rfl) rfl ?_
    refine WL.val (R.loadA (cs := encS p0.report) (n := 6) ag49 rfl (hs161.at (i := 0) (off := 7) (n := 6) (cs := encS p0.report) rfl rfl rfl) rfl) rfl ?_
    obtain ⟨y162, hx163, h164⟩ := ob (o := rsaid13 p0.report) h153
    refine WL.call (rsaid13_ok _ (In ok w [] [blk b101 58 ((Value.int .i64 i129) :: ((encS y151) ++ ((encS p0.report) ++ (encV p0.view)))), blk b109 58 (encC Cl.zero)]) p0.report  hx163) (R.call (vs := [Value.agg (List.toArray (encS p0.report))]) (caps := []) bo121 rfl rfl) rfl ?_
    rintro v167 w168 ⟨rfl, ht165⟩
    have ht166 := hs161.call (N := [blk b101 58 ((Value.int .i64 i129) :: ((encS y151) ++ ((encS p0.report) ++ (encV p0.view)))), blk b109 58 (encC Cl.zero)]) (M := []) (List.Perm.refl _) ht165
    have hs169 := hs161.trans ht166
    refine WL.val (R.fieldAddr (o := 0) (o' := 7) fa58_2 (by exact s149) rfl) rfl ?_
    refine WL.sto (L' := [blk b101 58 ((Value.int .i64 i129) :: ((encS y151) ++ ((encS y162) ++ (encV p0.view)))), blk b109 58 (encC Cl.zero)]) (X.store (i := 0) (n := 6) (b := b101) (off := 7) (c := (Value.int .i64 i129) :: ((encS y151) ++ ((encS p0.report) ++ (encV p0.view)))) (U := 58) (vs := encS y162) (v := Value.agg (List.toArray (encS y162))) (c' := (Value.int .i64 i129) :: ((encS y151) ++ ((encS y162) ++ (encV p0.view)))) (hs169.here) rfl ag49.size rfl rfl rfl rfl rfl rfl rfl rfl) rfl rfl ?_
    intro w170 ht171
    have hs172 := hs169.trans ht171
    refine WL.nil ?_
    refine thenN ?_
    refine WC.seq ?_
    refine WC.seq ?_
    refine WC.region ?_
    refine WL.val (R.fieldAddr (o := 0) (o' := 13) fa58_3 (by exact s149) rfl) rfl ?_
    refine WL.val (R.fieldAddr (o := 13) (o' := 53) fa56_5 rfl rfl) rfl ?_
    refine WL.val (R.loadL (v := Value.int .i8 p0.view.command) lf54 rfl (hs172.at (i := 0) (off := 53) (n := 1) (cs := [Value.int .i8 p0.view.command]) rfl rfl rfl)) rfl ?_
    by_cases hc173 : p0.view.command < 0
    · have h174 := ifT hc173 h164
      refine WL.val (R.lssT (k := .i8) (a := p0.view.command) (b := 0) un54 rfl rfl hc173) rfl ?_
      refine WL.val (R.move (v := Value.bool true) rfl) rfl ?_
      refine WL.guardN (e := 24) (v := .bool true) rfl rfl rfl rfl ?_
      refine WL.guardN (e := 24) (v := .bool true) rfl rfl rfl rfl ?_
      refine WL.guardN (e := 24) (v := .bool true) rfl rfl rfl rfl ?_
      refine WL.guardN (e := 24) (v := .bool true) rfl rfl rfl rfl ?_
      refine WL.val (R.pickT (v := Value.bool true) rfl rfl) rfl ?_
      refine WL.nil ?_
      refine thenN ?_
      refine WC.condT rfl rfl ?_
      refine WC.region ?_
      refine WL.val (R.fieldAddr (o := 0) (o' := 13) fa58_3 (by exact s149) rfl) rfl ?_
      refine WL.val (R.fieldAddr (o := 13) (o' := 53) fa56_5 rfl rfl) rfl ?_
      refine WL.sto (L' := [blk b101 58 ((Value.int .i64 i129) :: ((encS y151) ++ ((encS y162) ++ ([Value.bool p0.view.i0, Value.bool p0.view.i1, Value.bool p0.view.i2, Value.bool p0.view.i3, Value.bool p0.view.i4, Value.bool p0.view.i5, Value.bool p0.view.i6, Value.bool p0.view.i7] ++ ([Value.int .u8 p0.view.m0, Value.int .u8 p0.view.m1, Value.int .u8 p0.view.m2, Value.int .u8 p0.view.m3, Value.int .u8 p0.view.m4, Value.int .u8 p0.view.m5, Value.int .u8 p0.view.m6, Value.int .u8 p0.view.m7] ++ ([Value.int .u8 p0.view.g0, Value.int .u8 p0.view.g1, Value.int .u8 p0.view.g2, Value.int .u8 p0.view.g3, Value.int .u8 p0.view.g4, Value.int .u8 p0.view.g5, Value.int .u8 p0.view.g6, Value.int .u8 p0.view.g7] ++ ([Value.int .u16 p0.view.s0, Value.int .u16 p0.view.s1, Value.int .u16 p0.view.s2, Value.int .u16 p0.view.s3, Value.int .u16 p0.view.s4, Value.int .u16 p0.view.s5, Value.int .u16 p0.view.s6, Value.int .u16 p0.view.s7] ++ ([Value.bool p0.view.t0, Value.bool p0.view.t1, Value.bool p0.view.t2, Value.bool p0.view.t3, Value.bool p0.view.t4, Value.bool p0.view.t5, Value.bool p0.view.t6, Value.bool p0.view.t7] ++ ((Value.int .i8 (-1)) :: ((Value.int .u8 p0.view.mode) :: [])))))))))), blk b109 58 (encC Cl.zero)]) (X.store (i := 0) (n := 1) (b := b101) (off := 53) (c := (Value.int .i64 i129) :: ((encS y151) ++ ((encS y162) ++ (encV p0.view)))) (U := 58) (vs := [Value.int .i8 (-1)]) (v := Value.int .i8 (-1)) (c' := (Value.int .i64 i129) :: ((encS y151) ++ ((encS y162) ++ ([Value.bool p0.view.i0, Value.bool p0.view.i1, Value.bool p0.view.i2, Value.bool p0.view.i3, Value.bool p0.view.i4, Value.bool p0.view.i5, Value.bool p0.view.i6, Value.bool p0.view.i7] ++ ([Value.int .u8 p0.view.m0, Value.int .u8 p0.view.m1, Value.int .u8 p0.view.m2, Value.int .u8 p0.view.m3, Value.int .u8 p0.view.m4, Value.int .u8 p0.view.m5, Value.int .u8 p0.view.m6, Value.int .u8 p0.view.m7] ++ ([Value.int .u8 p0.view.g0, Value.int .u8 p0.view.g1, Value.int .u8 p0.view.g2, Value.int .u8 p0.view.g3, Value.int .u8 p0.view.g4, Value.int .u8 p0.view.g5, Value.int .u8 p0.view.g6, Value.int .u8 p0.view.g7] ++ ([Value.int .u16 p0.view.s0, Value.int .u16 p0.view.s1, Value.int .u16 p0.view.s2, Value.int .u16 p0.view.s3, Value.int .u16 p0.view.s4, Value.int .u16 p0.view.s5, Value.int .u16 p0.view.s6, Value.int .u16 p0.view.s7] ++ ([Value.bool p0.view.t0, Value.bool p0.view.t1, Value.bool p0.view.t2, Value.bool p0.view.t3, Value.bool p0.view.t4, Value.bool p0.view.t5, Value.bool p0.view.t6, Value.bool p0.view.t7] ++ ((Value.int .i8 (-1)) :: ((Value.int .u8 p0.view.mode) :: [])))))))))) (hs172.here) rfl lf54.size rfl rfl rfl rfl rfl rfl rfl rfl) rfl rfl ?_
      intro w175 ht176
      have hs177 := hs172.trans ht176
      refine WL.nil ?_
      refine thenN ?_
      refine WC.seq ?_
      refine WC.seq ?_
      refine WC.region ?_
      refine WL.val (R.fieldAddr (o := 0) (o' := 13) fa58_3 (by exact s149) rfl) rfl ?_
      refine WL.val (R.fieldAddr (o := 13) (o' := 54) fa56_6 rfl rfl) rfl ?_
      refine WL.val (R.loadL (v := Value.int .u8 p0.view.mode) lf5 rfl (hs177.at (i := 0) (off := 54) (n := 1) (cs := [Value.int .u8 p0.view.mode]) rfl rfl rfl)) rfl ?_
      by_cases hc178 : 7 < p0.view.mode
      · have h179 := ifT hc178 h174
        refine WL.val (R.gtrT (k := .u8) (a := p0.view.mode) (b := 7) un5 rfl rfl hc178) rfl ?_
        refine WL.nil ?_
        refine thenN ?_
        refine WC.condT rfl rfl ?_
        refine WC.region ?_
        refine WL.val (R.fieldAddr (o := 0) (o' := 13) fa58_3 (by exact s149) rfl) rfl ?_
        refine WL.val (R.fieldAddr (o := 13) (o' := 54) fa56_6 rfl rfl) rfl ?_
        refine WL.sto (L' := [blk b101 58 ((Value.int .i64 i129) :: ((encS y151) ++ ((encS y162) ++ ([Value.bool p0.view.i0, Value.bool p0.view.i1, Value.bool p0.view.i2, Value.bool p0.view.i3, Value.bool p0.view.i4, Value.bool p0.view.i5, Value.bool p0.view.i6, Value.bool p0.view.i7] ++ ([Value.int .u8 p0.view.m0, Value.int .u8 p0.view.m1, Value.int .u8 p0.view.m2, Value.int .u8 p0.view.m3, Value.int .u8 p0.view.m4, Value.int .u8 p0.view.m5, Value.int .u8 p0.view.m6, Value.int .u8 p0.view.m7] ++ ([Value.int .u8 p0.view.g0, Value.int .u8 p0.view.g1, Value.int .u8 p0.view.g2, Value.int .u8 p0.view.g3, Value.int .u8 p0.view.g4, Value.int .u8 p0.view.g5, Value.int .u8 p0.view.g6, Value.int .u8 p0.view.g7] ++ ([Value.int .u16 p0.view.s0, Value.int .u16 p0.view.s1, Value.int .u16 p0.view.s2, Value.int .u16 p0.view.s3, Value.int .u16 p0.view.s4, Value.int .u16 p0.view.s5, Value.int .u16 p0.view.s6, Value.int .u16 p0.view.s7] ++ ([Value.bool p0.view.t0, Value.bool p0.view.t1, Value.bool p0.view.t2, Value.bool p0.view.t3, Value.bool p0.view.t4, Value.bool p0.view.t5, Value.bool p0.view.t6, Value.bool p0.view.t7] ++ ((Value.int .i8 (-1)) :: ((Value.int .u8 0) :: [])))))))))), blk b109 58 (encC Cl.zero)]) (X.store (i := 0) (n := 1) (b := b101) (off := 54) (c := (Value.int .i64 i129) :: ((encS y151) ++ ((encS y162) ++ ([Value.bool p0.view.i0, Value.bool p0.view.i1, Value.bool p0.view.i2, Value.bool p0.view.i3, Value.bool p0.view.i4, Value.bool p0.view.i5, Value.bool p0.view.i6, Value.bool p0.view.i7] ++ ([Value.int .u8 p0.view.m0, Value.int .u8 p0.view.m1, Value.int .u8 p0.view.m2, Value.int .u8 p0.view.m3, Value.int .u8 p0.view.m4, Value.int .u8 p0.view.m5, Value.int .u8 p0.view.m6, Value.int .u8 p0.view.m7] ++ ([Value.int .u8 p0.view.g0, Value.int .u8 p0.view.g1, Value.int .u8 p0.view.g2, Value.int .u8 p0.view.g3, Value.int .u8 p0.view.g4, Value.int .u8 p0.view.g5, Value.int .u8 p0.view.g6, Value.int .u8 p0.view.g7] ++ ([Value.int .u16 p0.view.s0, Value.int .u16 p0.view.s1, Value.int .u16 p0.view.s2, Value.int .u16 p0.view.s3, Value.int .u16 p0.view.s4, Value.int .u16 p0.view.s5, Value.int .u16 p0.view.s6, Value.int .u16 p0.view.s7] ++ ([Value.bool p0.view.t0, Value.bool p0.view.t1, Value.bool p0.view.t2, Value.bool p0.view.t3, Value.bool p0.view.t4, Value.bool p0.view.t5, Value.bool p0.view.t6, Value.bool p0.view.t7] ++ ((Value.int .i8 (-1)) :: ((Value.int .u8 p0.view.mode) :: [])))))))))) (U := 58) (vs := [Value.int .u8 0]) (v := Value.int .u8 0) (c' := (Value.int .i64 i129) :: ((encS y151) ++ ((encS y162) ++ ([Value.bool p0.view.i0, Value.bool p0.view.i1, Value.bool p0.view.i2, Value.bool p0.view.i3, Value.bool p0.view.i4, Value.bool p0.view.i5, Value.bool p0.view.i6, Value.bool p0.view.i7] ++ ([Value.int .u8 p0.view.m0, Value.int .u8 p0.view.m1, Value.int .u8 p0.view.m2, Value.int .u8 p0.view.m3, Value.int .u8 p0.view.m4, Value.int .u8 p0.view.m5, Value.int .u8 p0.view.m6, Value.int .u8 p0.view.m7] ++ ([Value.int .u8 p0.view.g0, Value.int .u8 p0.view.g1, Value.int .u8 p0.view.g2, Value.int .u8 p0.view.g3, Value.int .u8 p0.view.g4, Value.int .u8 p0.view.g5, Value.int .u8 p0.view.g6, Value.int .u8 p0.view.g7] ++ ([Value.int .u16 p0.view.s0, Value.int .u16 p0.view.s1, Value.int .u16 p0.view.s2, Value.int .u16 p0.view.s3, Value.int .u16 p0.view.s4, Value.int .u16 p0.view.s5, Value.int .u16 p0.view.s6, Value.int .u16 p0.view.s7] ++ ([Value.bool p0.view.t0, Value.bool p0.view.t1, Value.bool p0.view.t2, Value.bool p0.view.t3, Value.bool p0.view.t4, Value.bool p0.view.t5, Value.bool p0.view.t6, Value.bool p0.view.t7] ++ ((Value.int .i8 (-1)) :: ((Value.int .u8 0) :: [])))))))))) (hs177.here) rfl lf5.size rfl rfl rfl rfl rfl rfl rfl rfl) rfl rfl ?_
        intro w180 ht181
        have hs182 := hs177.trans ht181
        refine WL.nil ?_
        refine thenN ?_
        refine WC.seq ?_
        refine WC.region ?_
        refine WL.val (R.loadA (cs := (Value.int .i64 i129) :: ((encS y151) ++ ((encS y162) ++ ([Value.bool p0.view.i0, Value.bool p0.view.i1, Value.bool p0.view.i2, Value.bool p0.view.i3, Value.bool p0.view.i4, Value.bool p0.view.i5, Value.bool p0.view.i6, Value.bool p0.view.i7] ++ ([Value.int .u8 p0.view.m0, Value.int .u8 p0.view.m1, Value.int .u8 p0.view.m2, Value.int .u8 p0.view.m3, Value.int .u8 p0.view.m4, Value.int .u8 p0.view.m5, Value.int .u8 p0.view.m6, Value.int .u8 p0.view.m7] ++ ([Value.int .u8 p0.view.g0, Value.int .u8 p0.view.g1, Value.int .u8 p0.view.g2, Value.int .u8 p0.view.g3, Value.int .u8 p0.view.g4, Value.int .u8 p0.view.g5, Value.int .u8 p0.view.g6, Value.int .u8 p0.view.g7] ++ ([Value.int .u16 p0.view.s0, Value.int .u16 p0.view.s1, Value.int .u16 p0.view.s2, Value.int .u16 p0.view.s3, Value.int .u16 p0.view.s4, Value.int .u16 p0.view.s5, Value.int .u16 p0.view.s6, Value.int .u16 p0.view.s7] ++ ([Value.bool p0.view.t0, Value.bool p0.view.t1, Value.bool p0.view.t2, Value.bool p0.view.t3, Value.bool p0.view.t4, Value.bool p0.view.t5, Value.bool p0.view.t6, Value.bool p0.view.t7] ++ ((Value.int .i8 (-1)) :: ((Value.int .u8 0) :: [])))))))))) (n := 55) ag58 (by exact s149) (hs182.at (i := 0) (off := 0) (n := 55) (cs := (Value.int .i64 i129) :: ((encS y151) ++ ((encS y162) ++ ([Value.bool p0.view.i0, Value.bool p0.view.i1, Value.bool p0.view.i2, Value.bool p0.view.i3, Value.bool p0.view.i4, Value.bool p0.view.i5, Value.bool p0.view.i6, Value.bool p0.view.i7] ++ ([Value.int .u8 p0.view.m0, Value.int .u8 p0.view.m1, Value.int .u8 p0.view.m2, Value.int .u8 p0.view.m3, Value.int .u8 p0.view.m4, Value.int .u8 p0.view.m5, Value.int .u8 p0.view.m6, Value.int .u8 p0.view.m7] ++ ([Value.int .u8 p0.view.g0, Value.int .u8 p0.view.g1, Value.int .u8 p0.view.g2, Value.int .u8 p0.view.g3, Value.int .u8 p0.view.g4, Value.int .u8 p0.view.g5, Value.int .u8 p0.view.g6, Value.int .u8 p0.view.g7] ++ ([Value.int .u16 p0.view.s0, Value.int .u16 p0.view.s1, Value.int .u16 p0.view.s2, Value.int .u16 p0.view.s3, Value.int .u16 p0.view.s4, Value.int .u16 p0.view.s5, Value.int .u16 p0.view.s6, Value.int .u16 p0.view.s7] ++ ([Value.bool p0.view.t0, Value.bool p0.view.t1, Value.bool p0.view.t2, Value.bool p0.view.t3, Value.bool p0.view.t4, Value.bool p0.view.t5, Value.bool p0.view.t6, Value.bool p0.view.t7] ++ ((Value.int .i8 (-1)) :: ((Value.int .u8 0) :: [])))))))))) rfl rfl rfl) rfl) rfl ?_
        refine WL.sto (L' := [blk b101 58 ((Value.int .i64 i129) :: ((encS y151) ++ ((encS y162) ++ ([Value.bool p0.view.i0, Value.bool p0.view.i1, Value.bool p0.view.i2, Value.bool p0.view.i3, Value.bool p0.view.i4, Value.bool p0.view.i5, Value.bool p0.view.i6, Value.bool p0.view.i7] ++ ([Value.int .u8 p0.view.m0, Value.int .u8 p0.view.m1, Value.int .u8 p0.view.m2, Value.int .u8 p0.view.m3, Value.int .u8 p0.view.m4, Value.int .u8 p0.view.m5, Value.int .u8 p0.view.m6, Value.int .u8 p0.view.m7] ++ ([Value.int .u8 p0.view.g0, Value.int .u8 p0.view.g1, Value.int .u8 p0.view.g2, Value.int .u8 p0.view.g3, Value.int .u8 p0.view.g4, Value.int .u8 p0.view.g5, Value.int .u8 p0.view.g6, Value.int .u8 p0.view.g7] ++ ([Value.int .u16 p0.view.s0, Value.int .u16 p0.view.s1, Value.int .u16 p0.view.s2, Value.int .u16 p0.view.s3, Value.int .u16 p0.view.s4, Value.int .u16 p0.view.s5, Value.int .u16 p0.view.s6, Value.int .u16 p0.view.s7] ++ ([Value.bool p0.view.t0, Value.bool p0.view.t1, Value.bool p0.view.t2, Value.bool p0.view.t3, Value.bool p0.view.t4, Value.bool p0.view.t5, Value.bool p0.view.t6, Value.bool p0.view.t7] ++ ((Value.int .i8 (-1)) :: ((Value.int .u8 0) :: [])))))))))), blk b109 58 ((Value.int .i64 i129) :: ((encS y151) ++ ((encS y162) ++ ([Value.bool p0.view.i0, Value.bool p0.view.i1, Value.bool p0.view.i2, Value.bool p0.view.i3, Value.bool p0.view.i4, Value.bool p0.view.i5, Value.bool p0.view.i6, Value.bool p0.view.i7] ++ ([Value.int .u8 p0.view.m0, Value.int .u8 p0.view.m1, Value.int .u8 p0.view.m2, Value.int .u8 p0.view.m3, Value.int .u8 p0.view.m4, Value.int .u8 p0.view.m5, Value.int .u8 p0.view.m6, Value.int .u8 p0.view.m7] ++ ([Value.int .u8 p0.view.g0, Value.int .u8 p0.view.g1, Value.int .u8 p0.view.g2, Value.int .u8 p0.view.g3, Value.int .u8 p0.view.g4, Value.int .u8 p0.view.g5, Value.int .u8 p0.view.g6, Value.int .u8 p0.view.g7] ++ ([Value.int .u16 p0.view.s0, Value.int .u16 p0.view.s1, Value.int .u16 p0.view.s2, Value.int .u16 p0.view.s3, Value.int .u16 p0.view.s4, Value.int .u16 p0.view.s5, Value.int .u16 p0.view.s6, Value.int .u16 p0.view.s7] ++ ([Value.bool p0.view.t0, Value.bool p0.view.t1, Value.bool p0.view.t2, Value.bool p0.view.t3, Value.bool p0.view.t4, Value.bool p0.view.t5, Value.bool p0.view.t6, Value.bool p0.view.t7] ++ ((Value.int .i8 (-1)) :: ((Value.int .u8 0) :: []))))))))))]) (X.store (i := 1) (n := 55) (b := b109) (off := 0) (c := encC Cl.zero) (U := 58) (vs := (Value.int .i64 i129) :: ((encS y151) ++ ((encS y162) ++ ([Value.bool p0.view.i0, Value.bool p0.view.i1, Value.bool p0.view.i2, Value.bool p0.view.i3, Value.bool p0.view.i4, Value.bool p0.view.i5, Value.bool p0.view.i6, Value.bool p0.view.i7] ++ ([Value.int .u8 p0.view.m0, Value.int .u8 p0.view.m1, Value.int .u8 p0.view.m2, Value.int .u8 p0.view.m3, Value.int .u8 p0.view.m4, Value.int .u8 p0.view.m5, Value.int .u8 p0.view.m6, Value.int .u8 p0.view.m7] ++ ([Value.int .u8 p0.view.g0, Value.int .u8 p0.view.g1, Value.int .u8 p0.view.g2, Value.int .u8 p0.view.g3, Value.int .u8 p0.view.g4, Value.int .u8 p0.view.g5, Value.int .u8 p0.view.g6, Value.int .u8 p0.view.g7] ++ ([Value.int .u16 p0.view.s0, Value.int .u16 p0.view.s1, Value.int .u16 p0.view.s2, Value.int .u16 p0.view.s3, Value.int .u16 p0.view.s4, Value.int .u16 p0.view.s5, Value.int .u16 p0.view.s6, Value.int .u16 p0.view.s7] ++ ([Value.bool p0.view.t0, Value.bool p0.view.t1, Value.bool p0.view.t2, Value.bool p0.view.t3, Value.bool p0.view.t4, Value.bool p0.view.t5, Value.bool p0.view.t6, Value.bool p0.view.t7] ++ ((Value.int .i8 (-1)) :: ((Value.int .u8 0) :: [])))))))))) (v := Value.agg (List.toArray ((Value.int .i64 i129) :: ((encS y151) ++ ((encS y162) ++ ([Value.bool p0.view.i0, Value.bool p0.view.i1, Value.bool p0.view.i2, Value.bool p0.view.i3, Value.bool p0.view.i4, Value.bool p0.view.i5, Value.bool p0.view.i6, Value.bool p0.view.i7] ++ ([Value.int .u8 p0.view.m0, Value.int .u8 p0.view.m1, Value.int .u8 p0.view.m2, Value.int .u8 p0.view.m3, Value.int .u8 p0.view.m4, Value.int .u8 p0.view.m5, Value.int .u8 p0.view.m6, Value.int .u8 p0.view.m7] ++ ([Value.int .u8 p0.view.g0, Value.int .u8 p0.view.g1, Value.int .u8 p0.view.g2, Value.int .u8 p0.view.g3, Value.int .u8 p0.view.g4, Value.int .u8 p0.view.g5, Value.int .u8 p0.view.g6, Value.int .u8 p0.view.g7] ++ ([Value.int .u16 p0.view.s0, Value.int .u16 p0.view.s1, Value.int .u16 p0.view.s2, Value.int .u16 p0.view.s3, Value.int .u16 p0.view.s4, Value.int .u16 p0.view.s5, Value.int .u16 p0.view.s6, Value.int .u16 p0.view.s7] ++ ([Value.bool p0.view.t0, Value.bool p0.view.t1, Value.bool p0.view.t2, Value.bool p0.view.t3, Value.bool p0.view.t4, Value.bool p0.view.t5, Value.bool p0.view.t6, Value.bool p0.view.t7] ++ ((Value.int .i8 (-1)) :: ((Value.int .u8 0) :: [])))))))))))) (c' := (Value.int .i64 i129) :: ((encS y151) ++ ((encS y162) ++ ([Value.bool p0.view.i0, Value.bool p0.view.i1, Value.bool p0.view.i2, Value.bool p0.view.i3, Value.bool p0.view.i4, Value.bool p0.view.i5, Value.bool p0.view.i6, Value.bool p0.view.i7] ++ ([Value.int .u8 p0.view.m0, Value.int .u8 p0.view.m1, Value.int .u8 p0.view.m2, Value.int .u8 p0.view.m3, Value.int .u8 p0.view.m4, Value.int .u8 p0.view.m5, Value.int .u8 p0.view.m6, Value.int .u8 p0.view.m7] ++ ([Value.int .u8 p0.view.g0, Value.int .u8 p0.view.g1, Value.int .u8 p0.view.g2, Value.int .u8 p0.view.g3, Value.int .u8 p0.view.g4, Value.int .u8 p0.view.g5, Value.int .u8 p0.view.g6, Value.int .u8 p0.view.g7] ++ ([Value.int .u16 p0.view.s0, Value.int .u16 p0.view.s1, Value.int .u16 p0.view.s2, Value.int .u16 p0.view.s3, Value.int .u16 p0.view.s4, Value.int .u16 p0.view.s5, Value.int .u16 p0.view.s6, Value.int .u16 p0.view.s7] ++ ([Value.bool p0.view.t0, Value.bool p0.view.t1, Value.bool p0.view.t2, Value.bool p0.view.t3, Value.bool p0.view.t4, Value.bool p0.view.t5, Value.bool p0.view.t6, Value.bool p0.view.t7] ++ ((Value.int .i8 (-1)) :: ((Value.int .u8 0) :: [])))))))))) (hs182.here) rfl ag58.size (by exact s150) rfl rfl rfl rfl rfl rfl rfl) rfl rfl ?_
        intro w183 ht184
        have hs185 := hs182.trans ht184
        refine WL.nil ?_
        refine thenN ?_
        refine WC.ret ?_
        have hl186 := run_loadA (P := Try.prog) (n := 55) ag58 (hs185.at (i := 1) (off := 0) (n := 55) (cs := (Value.int .i64 i129) :: ((encS y151) ++ ((encS y162) ++ ([Value.bool p0.view.i0, Value.bool p0.view.i1, Value.bool p0.view.i2, Value.bool p0.view.i3, Value.bool p0.view.i4, Value.bool p0.view.i5, Value.bool p0.view.i6, Value.bool p0.view.i7] ++ ([Value.int .u8 p0.view.m0, Value.int .u8 p0.view.m1, Value.int .u8 p0.view.m2, Value.int .u8 p0.view.m3, Value.int .u8 p0.view.m4, Value.int .u8 p0.view.m5, Value.int .u8 p0.view.m6, Value.int .u8 p0.view.m7] ++ ([Value.int .u8 p0.view.g0, Value.int .u8 p0.view.g1, Value.int .u8 p0.view.g2, Value.int .u8 p0.view.g3, Value.int .u8 p0.view.g4, Value.int .u8 p0.view.g5, Value.int .u8 p0.view.g6, Value.int .u8 p0.view.g7] ++ ([Value.int .u16 p0.view.s0, Value.int .u16 p0.view.s1, Value.int .u16 p0.view.s2, Value.int .u16 p0.view.s3, Value.int .u16 p0.view.s4, Value.int .u16 p0.view.s5, Value.int .u16 p0.view.s6, Value.int .u16 p0.view.s7] ++ ([Value.bool p0.view.t0, Value.bool p0.view.t1, Value.bool p0.view.t2, Value.bool p0.view.t3, Value.bool p0.view.t4, Value.bool p0.view.t5, Value.bool p0.view.t6, Value.bool p0.view.t7] ++ ((Value.int .i8 (-1)) :: ((Value.int .u8 0) :: [])))))))))) rfl rfl rfl) rfl
        have ht187 := (hs185.here).perm (L' := []) (G := [blk b101 58 ((Value.int .i64 i129) :: ((encS y151) ++ ((encS y162) ++ ([Value.bool p0.view.i0, Value.bool p0.view.i1, Value.bool p0.view.i2, Value.bool p0.view.i3, Value.bool p0.view.i4, Value.bool p0.view.i5, Value.bool p0.view.i6, Value.bool p0.view.i7] ++ ([Value.int .u8 p0.view.m0, Value.int .u8 p0.view.m1, Value.int .u8 p0.view.m2, Value.int .u8 p0.view.m3, Value.int .u8 p0.view.m4, Value.int .u8 p0.view.m5, Value.int .u8 p0.view.m6, Value.int .u8 p0.view.m7] ++ ([Value.int .u8 p0.view.g0, Value.int .u8 p0.view.g1, Value.int .u8 p0.view.g2, Value.int .u8 p0.view.g3, Value.int .u8 p0.view.g4, Value.int .u8 p0.view.g5, Value.int .u8 p0.view.g6, Value.int .u8 p0.view.g7] ++ ([Value.int .u16 p0.view.s0, Value.int .u16 p0.view.s1, Value.int .u16 p0.view.s2, Value.int .u16 p0.view.s3, Value.int .u16 p0.view.s4, Value.int .u16 p0.view.s5, Value.int .u16 p0.view.s6, Value.int .u16 p0.view.s7] ++ ([Value.bool p0.view.t0, Value.bool p0.view.t1, Value.bool p0.view.t2, Value.bool p0.view.t3, Value.bool p0.view.t4, Value.bool p0.view.t5, Value.bool p0.view.t6, Value.bool p0.view.t7] ++ ((Value.int .i8 (-1)) :: ((Value.int .u8 0) :: [])))))))))), blk b109 58 ((Value.int .i64 i129) :: ((encS y151) ++ ((encS y162) ++ ([Value.bool p0.view.i0, Value.bool p0.view.i1, Value.bool p0.view.i2, Value.bool p0.view.i3, Value.bool p0.view.i4, Value.bool p0.view.i5, Value.bool p0.view.i6, Value.bool p0.view.i7] ++ ([Value.int .u8 p0.view.m0, Value.int .u8 p0.view.m1, Value.int .u8 p0.view.m2, Value.int .u8 p0.view.m3, Value.int .u8 p0.view.m4, Value.int .u8 p0.view.m5, Value.int .u8 p0.view.m6, Value.int .u8 p0.view.m7] ++ ([Value.int .u8 p0.view.g0, Value.int .u8 p0.view.g1, Value.int .u8 p0.view.g2, Value.int .u8 p0.view.g3, Value.int .u8 p0.view.g4, Value.int .u8 p0.view.g5, Value.int .u8 p0.view.g6, Value.int .u8 p0.view.g7] ++ ([Value.int .u16 p0.view.s0, Value.int .u16 p0.view.s1, Value.int .u16 p0.view.s2, Value.int .u16 p0.view.s3, Value.int .u16 p0.view.s4, Value.int .u16 p0.view.s5, Value.int .u16 p0.view.s6, Value.int .u16 p0.view.s7] ++ ([Value.bool p0.view.t0, Value.bool p0.view.t1, Value.bool p0.view.t2, Value.bool p0.view.t3, Value.bool p0.view.t4, Value.bool p0.view.t5, Value.bool p0.view.t6, Value.bool p0.view.t7] ++ ((Value.int .i8 (-1)) :: ((Value.int .u8 0) :: []))))))))))]) ((List.Perm.refl _))
        have hs188 := hs185.trans ht187
        obtain rfl := Option.some.inj (show some (⟨i129, y151, y162, (⟨p0.view.i0, p0.view.i1, p0.view.i2, p0.view.i3, p0.view.i4, p0.view.i5, p0.view.i6, p0.view.i7, p0.view.m0, p0.view.m1, p0.view.m2, p0.view.m3, p0.view.m4, p0.view.m5, p0.view.m6, p0.view.m7, p0.view.g0, p0.view.g1, p0.view.g2, p0.view.g3, p0.view.g4, p0.view.g5, p0.view.g6, p0.view.g7, p0.view.s0, p0.view.s1, p0.view.s2, p0.view.s3, p0.view.s4, p0.view.s5, p0.view.s6, p0.view.s7, p0.view.t0, p0.view.t1, p0.view.t2, p0.view.t3, p0.view.t4, p0.view.t5, p0.view.t6, p0.view.t7, -1, 0⟩ : Vw)⟩ : Cl) = some r from h179)
        exact retCell (P := Try.prog) (n := 39) (fn := Try.f74) (R := fun v w' => v = Value.agg (List.toArray (encC (⟨i129, y151, y162, (⟨p0.view.i0, p0.view.i1, p0.view.i2, p0.view.i3, p0.view.i4, p0.view.i5, p0.view.i6, p0.view.i7, p0.view.m0, p0.view.m1, p0.view.m2, p0.view.m3, p0.view.m4, p0.view.m5, p0.view.m6, p0.view.m7, p0.view.g0, p0.view.g1, p0.view.g2, p0.view.g3, p0.view.g4, p0.view.g5, p0.view.g6, p0.view.g7, p0.view.s0, p0.view.s1, p0.view.s2, p0.view.s3, p0.view.s4, p0.view.s5, p0.view.s6, p0.view.s7, p0.view.t0, p0.view.t1, p0.view.t2, p0.view.t3, p0.view.t4, p0.view.t5, p0.view.t6, p0.view.t7, -1, 0⟩ : Vw)⟩ : Cl))) ∧ St [] w w' []) (t := 2) (v := Value.agg (List.toArray ((Value.int .i64 i129) :: ((encS y151) ++ ((encS y162) ++ ([Value.bool p0.view.i0, Value.bool p0.view.i1, Value.bool p0.view.i2, Value.bool p0.view.i3, Value.bool p0.view.i4, Value.bool p0.view.i5, Value.bool p0.view.i6, Value.bool p0.view.i7] ++ ([Value.int .u8 p0.view.m0, Value.int .u8 p0.view.m1, Value.int .u8 p0.view.m2, Value.int .u8 p0.view.m3, Value.int .u8 p0.view.m4, Value.int .u8 p0.view.m5, Value.int .u8 p0.view.m6, Value.int .u8 p0.view.m7] ++ ([Value.int .u8 p0.view.g0, Value.int .u8 p0.view.g1, Value.int .u8 p0.view.g2, Value.int .u8 p0.view.g3, Value.int .u8 p0.view.g4, Value.int .u8 p0.view.g5, Value.int .u8 p0.view.g6, Value.int .u8 p0.view.g7] ++ ([Value.int .u16 p0.view.s0, Value.int .u16 p0.view.s1, Value.int .u16 p0.view.s2, Value.int .u16 p0.view.s3, Value.int .u16 p0.view.s4, Value.int .u16 p0.view.s5, Value.int .u16 p0.view.s6, Value.int .u16 p0.view.s7] ++ ([Value.bool p0.view.t0, Value.bool p0.view.t1, Value.bool p0.view.t2, Value.bool p0.view.t3, Value.bool p0.view.t4, Value.bool p0.view.t5, Value.bool p0.view.t6, Value.bool p0.view.t7] ++ ((Value.int .i8 (-1)) :: ((Value.int .u8 0) :: [])))))))))))) rfl s150 rfl hl186 ⟨rfl, hs188⟩
      · have h189 := ifF hc178 h174
        refine WL.val (R.gtrF (k := .u8) (a := p0.view.mode) (b := 7) un5 rfl rfl hc178) rfl ?_
        refine WL.nil ?_
        refine thenN ?_
        refine WC.condF rfl rfl ?_
        refine WC.skip ?_
        refine thenN ?_
        refine WC.seq ?_
        refine WC.region ?_
        refine WL.val (R.loadA (cs := (Value.int .i64 i129) :: ((encS y151) ++ ((encS y162) ++ ([Value.bool p0.view.i0, Value.bool p0.view.i1, Value.bool p0.view.i2, Value.bool p0.view.i3, Value.bool p0.view.i4, Value.bool p0.view.i5, Value.bool p0.view.i6, Value.bool p0.view.i7] ++ ([Value.int .u8 p0.view.m0, Value.int .u8 p0.view.m1, Value.int .u8 p0.view.m2, Value.int .u8 p0.view.m3, Value.int .u8 p0.view.m4, Value.int .u8 p0.view.m5, Value.int .u8 p0.view.m6, Value.int .u8 p0.view.m7] ++ ([Value.int .u8 p0.view.g0, Value.int .u8 p0.view.g1, Value.int .u8 p0.view.g2, Value.int .u8 p0.view.g3, Value.int .u8 p0.view.g4, Value.int .u8 p0.view.g5, Value.int .u8 p0.view.g6, Value.int .u8 p0.view.g7] ++ ([Value.int .u16 p0.view.s0, Value.int .u16 p0.view.s1, Value.int .u16 p0.view.s2, Value.int .u16 p0.view.s3, Value.int .u16 p0.view.s4, Value.int .u16 p0.view.s5, Value.int .u16 p0.view.s6, Value.int .u16 p0.view.s7] ++ ([Value.bool p0.view.t0, Value.bool p0.view.t1, Value.bool p0.view.t2, Value.bool p0.view.t3, Value.bool p0.view.t4, Value.bool p0.view.t5, Value.bool p0.view.t6, Value.bool p0.view.t7] ++ ((Value.int .i8 (-1)) :: ((Value.int .u8 p0.view.mode) :: [])))))))))) (n := 55) ag58 (by exact s149) (hs177.at (i := 0) (off := 0) (n := 55) (cs := (Value.int .i64 i129) :: ((encS y151) ++ ((encS y162) ++ ([Value.bool p0.view.i0, Value.bool p0.view.i1, Value.bool p0.view.i2, Value.bool p0.view.i3, Value.bool p0.view.i4, Value.bool p0.view.i5, Value.bool p0.view.i6, Value.bool p0.view.i7] ++ ([Value.int .u8 p0.view.m0, Value.int .u8 p0.view.m1, Value.int .u8 p0.view.m2, Value.int .u8 p0.view.m3, Value.int .u8 p0.view.m4, Value.int .u8 p0.view.m5, Value.int .u8 p0.view.m6, Value.int .u8 p0.view.m7] ++ ([Value.int .u8 p0.view.g0, Value.int .u8 p0.view.g1, Value.int .u8 p0.view.g2, Value.int .u8 p0.view.g3, Value.int .u8 p0.view.g4, Value.int .u8 p0.view.g5, Value.int .u8 p0.view.g6, Value.int .u8 p0.view.g7] ++ ([Value.int .u16 p0.view.s0, Value.int .u16 p0.view.s1, Value.int .u16 p0.view.s2, Value.int .u16 p0.view.s3, Value.int .u16 p0.view.s4, Value.int .u16 p0.view.s5, Value.int .u16 p0.view.s6, Value.int .u16 p0.view.s7] ++ ([Value.bool p0.view.t0, Value.bool p0.view.t1, Value.bool p0.view.t2, Value.bool p0.view.t3, Value.bool p0.view.t4, Value.bool p0.view.t5, Value.bool p0.view.t6, Value.bool p0.view.t7] ++ ((Value.int .i8 (-1)) :: ((Value.int .u8 p0.view.mode) :: [])))))))))) rfl rfl rfl) rfl) rfl ?_
        refine WL.sto (L' := [blk b101 58 ((Value.int .i64 i129) :: ((encS y151) ++ ((encS y162) ++ ([Value.bool p0.view.i0, Value.bool p0.view.i1, Value.bool p0.view.i2, Value.bool p0.view.i3, Value.bool p0.view.i4, Value.bool p0.view.i5, Value.bool p0.view.i6, Value.bool p0.view.i7] ++ ([Value.int .u8 p0.view.m0, Value.int .u8 p0.view.m1, Value.int .u8 p0.view.m2, Value.int .u8 p0.view.m3, Value.int .u8 p0.view.m4, Value.int .u8 p0.view.m5, Value.int .u8 p0.view.m6, Value.int .u8 p0.view.m7] ++ ([Value.int .u8 p0.view.g0, Value.int .u8 p0.view.g1, Value.int .u8 p0.view.g2, Value.int .u8 p0.view.g3, Value.int .u8 p0.view.g4, Value.int .u8 p0.view.g5, Value.int .u8 p0.view.g6, Value.int .u8 p0.view.g7] ++ ([Value.int .u16 p0.view.s0, Value.int .u16 p0.view.s1, Value.int .u16 p0.view.s2, Value.int .u16 p0.view.s3, Value.int .u16 p0.view.s4, Value.int .u16 p0.view.s5, Value.int .u16 p0.view.s6, Value.int .u16 p0.view.s7] ++ ([Value.bool p0.view.t0, Value.bool p0.view.t1, Value.bool p0.view.t2, Value.bool p0.view.t3, Value.bool p0.view.t4, Value.bool p0.view.t5, Value.bool p0.view.t6, Value.bool p0.view.t7] ++ ((Value.int .i8 (-1)) :: ((Value.int .u8 p0.view.mode) :: [])))))))))), blk b109 58 ((Value.int .i64 i129) :: ((encS y151) ++ ((encS y162) ++ ([Value.bool p0.view.i0, Value.bool p0.view.i1, Value.bool p0.view.i2, Value.bool p0.view.i3, Value.bool p0.view.i4, Value.bool p0.view.i5, Value.bool p0.view.i6, Value.bool p0.view.i7] ++ ([Value.int .u8 p0.view.m0, Value.int .u8 p0.view.m1, Value.int .u8 p0.view.m2, Value.int .u8 p0.view.m3, Value.int .u8 p0.view.m4, Value.int .u8 p0.view.m5, Value.int .u8 p0.view.m6, Value.int .u8 p0.view.m7] ++ ([Value.int .u8 p0.view.g0, Value.int .u8 p0.view.g1, Value.int .u8 p0.view.g2, Value.int .u8 p0.view.g3, Value.int .u8 p0.view.g4, Value.int .u8 p0.view.g5, Value.int .u8 p0.view.g6, Value.int .u8 p0.view.g7] ++ ([Value.int .u16 p0.view.s0, Value.int .u16 p0.view.s1, Value.int .u16 p0.view.s2, Value.int .u16 p0.view.s3, Value.int .u16 p0.view.s4, Value.int .u16 p0.view.s5, Value.int .u16 p0.view.s6, Value.int .u16 p0.view.s7] ++ ([Value.bool p0.view.t0, Value.bool p0.view.t1, Value.bool p0.view.t2, Value.bool p0.view.t3, Value.bool p0.view.t4, Value.bool p0.view.t5, Value.bool p0.view.t6, Value.bool p0.view.t7] ++ ((Value.int .i8 (-1)) :: ((Value.int .u8 p0.view.mode) :: []))))))))))]) (X.store (i := 1) (n := 55) (b := b109) (off := 0) (c := encC Cl.zero) (U := 58) (vs := (Value.int .i64 i129) :: ((encS y151) ++ ((encS y162) ++ ([Value.bool p0.view.i0, Value.bool p0.view.i1, Value.bool p0.view.i2, Value.bool p0.view.i3, Value.bool p0.view.i4, Value.bool p0.view.i5, Value.bool p0.view.i6, Value.bool p0.view.i7] ++ ([Value.int .u8 p0.view.m0, Value.int .u8 p0.view.m1, Value.int .u8 p0.view.m2, Value.int .u8 p0.view.m3, Value.int .u8 p0.view.m4, Value.int .u8 p0.view.m5, Value.int .u8 p0.view.m6, Value.int .u8 p0.view.m7] ++ ([Value.int .u8 p0.view.g0, Value.int .u8 p0.view.g1, Value.int .u8 p0.view.g2, Value.int .u8 p0.view.g3, Value.int .u8 p0.view.g4, Value.int .u8 p0.view.g5, Value.int .u8 p0.view.g6, Value.int .u8 p0.view.g7] ++ ([Value.int .u16 p0.view.s0, Value.int .u16 p0.view.s1, Value.int .u16 p0.view.s2, Value.int .u16 p0.view.s3, Value.int .u16 p0.view.s4, Value.int .u16 p0.view.s5, Value.int .u16 p0.view.s6, Value.int .u16 p0.view.s7] ++ ([Value.bool p0.view.t0, Value.bool p0.view.t1, Value.bool p0.view.t2, Value.bool p0.view.t3, Value.bool p0.view.t4, Value.bool p0.view.t5, Value.bool p0.view.t6, Value.bool p0.view.t7] ++ ((Value.int .i8 (-1)) :: ((Value.int .u8 p0.view.mode) :: [])))))))))) (v := Value.agg (List.toArray ((Value.int .i64 i129) :: ((encS y151) ++ ((encS y162) ++ ([Value.bool p0.view.i0, Value.bool p0.view.i1, Value.bool p0.view.i2, Value.bool p0.view.i3, Value.bool p0.view.i4, Value.bool p0.view.i5, Value.bool p0.view.i6, Value.bool p0.view.i7] ++ ([Value.int .u8 p0.view.m0, Value.int .u8 p0.view.m1, Value.int .u8 p0.view.m2, Value.int .u8 p0.view.m3, Value.int .u8 p0.view.m4, Value.int .u8 p0.view.m5, Value.int .u8 p0.view.m6, Value.int .u8 p0.view.m7] ++ ([Value.int .u8 p0.view.g0, Value.int .u8 p0.view.g1, Value.int .u8 p0.view.g2, Value.int .u8 p0.view.g3, Value.int .u8 p0.view.g4, Value.int .u8 p0.view.g5, Value.int .u8 p0.view.g6, Value.int .u8 p0.view.g7] ++ ([Value.int .u16 p0.view.s0, Value.int .u16 p0.view.s1, Value.int .u16 p0.view.s2, Value.int .u16 p0.view.s3, Value.int .u16 p0.view.s4, Value.int .u16 p0.view.s5, Value.int .u16 p0.view.s6, Value.int .u16 p0.view.s7] ++ ([Value.bool p0.view.t0, Value.bool p0.view.t1, Value.bool p0.view.t2, Value.bool p0.view.t3, Value.bool p0.view.t4, Value.bool p0.view.t5, Value.bool p0.view.t6, Value.bool p0.view.t7] ++ ((Value.int .i8 (-1)) :: ((Value.int .u8 p0.view.mode) :: [])))))))))))) (c' := (Value.int .i64 i129) :: ((encS y151) ++ ((encS y162) ++ ([Value.bool p0.view.i0, Value.bool p0.view.i1, Value.bool p0.view.i2, Value.bool p0.view.i3, Value.bool p0.view.i4, Value.bool p0.view.i5, Value.bool p0.view.i6, Value.bool p0.view.i7] ++ ([Value.int .u8 p0.view.m0, Value.int .u8 p0.view.m1, Value.int .u8 p0.view.m2, Value.int .u8 p0.view.m3, Value.int .u8 p0.view.m4, Value.int .u8 p0.view.m5, Value.int .u8 p0.view.m6, Value.int .u8 p0.view.m7] ++ ([Value.int .u8 p0.view.g0, Value.int .u8 p0.view.g1, Value.int .u8 p0.view.g2, Value.int .u8 p0.view.g3, Value.int .u8 p0.view.g4, Value.int .u8 p0.view.g5, Value.int .u8 p0.view.g6, Value.int .u8 p0.view.g7] ++ ([Value.int .u16 p0.view.s0, Value.int .u16 p0.view.s1, Value.int .u16 p0.view.s2, Value.int .u16 p0.view.s3, Value.int .u16 p0.view.s4, Value.int .u16 p0.view.s5, Value.int .u16 p0.view.s6, Value.int .u16 p0.view.s7] ++ ([Value.bool p0.view.t0, Value.bool p0.view.t1, Value.bool p0.view.t2, Value.bool p0.view.t3, Value.bool p0.view.t4, Value.bool p0.view.t5, Value.bool p0.view.t6, Value.bool p0.view.t7] ++ ((Value.int .i8 (-1)) :: ((Value.int .u8 p0.view.mode) :: [])))))))))) (hs177.here) rfl ag58.size (by exact s150) rfl rfl rfl rfl rfl rfl rfl) rfl rfl ?_
        intro w190 ht191
        have hs192 := hs177.trans ht191
        refine WL.nil ?_
        refine thenN ?_
        refine WC.ret ?_
        have hl193 := run_loadA (P := Try.prog) (n := 55) ag58 (hs192.at (i := 1) (off := 0) (n := 55) (cs := (Value.int .i64 i129) :: ((encS y151) ++ ((encS y162) ++ ([Value.bool p0.view.i0, Value.bool p0.view.i1, Value.bool p0.view.i2, Value.bool p0.view.i3, Value.bool p0.view.i4, Value.bool p0.view.i5, Value.bool p0.view.i6, Value.bool p0.view.i7] ++ ([Value.int .u8 p0.view.m0, Value.int .u8 p0.view.m1, Value.int .u8 p0.view.m2, Value.int .u8 p0.view.m3, Value.int .u8 p0.view.m4, Value.int .u8 p0.view.m5, Value.int .u8 p0.view.m6, Value.int .u8 p0.view.m7] ++ ([Value.int .u8 p0.view.g0, Value.int .u8 p0.view.g1, Value.int .u8 p0.view.g2, Value.int .u8 p0.view.g3, Value.int .u8 p0.view.g4, Value.int .u8 p0.view.g5, Value.int .u8 p0.view.g6, Value.int .u8 p0.view.g7] ++ ([Value.int .u16 p0.view.s0, Value.int .u16 p0.view.s1, Value.int .u16 p0.view.s2, Value.int .u16 p0.view.s3, Value.int .u16 p0.view.s4, Value.int .u16 p0.view.s5, Value.int .u16 p0.view.s6, Value.int .u16 p0.view.s7] ++ ([Value.bool p0.view.t0, Value.bool p0.view.t1, Value.bool p0.view.t2, Value.bool p0.view.t3, Value.bool p0.view.t4, Value.bool p0.view.t5, Value.bool p0.view.t6, Value.bool p0.view.t7] ++ ((Value.int .i8 (-1)) :: ((Value.int .u8 p0.view.mode) :: [])))))))))) rfl rfl rfl) rfl
        have ht194 := (hs192.here).perm (L' := []) (G := [blk b101 58 ((Value.int .i64 i129) :: ((encS y151) ++ ((encS y162) ++ ([Value.bool p0.view.i0, Value.bool p0.view.i1, Value.bool p0.view.i2, Value.bool p0.view.i3, Value.bool p0.view.i4, Value.bool p0.view.i5, Value.bool p0.view.i6, Value.bool p0.view.i7] ++ ([Value.int .u8 p0.view.m0, Value.int .u8 p0.view.m1, Value.int .u8 p0.view.m2, Value.int .u8 p0.view.m3, Value.int .u8 p0.view.m4, Value.int .u8 p0.view.m5, Value.int .u8 p0.view.m6, Value.int .u8 p0.view.m7] ++ ([Value.int .u8 p0.view.g0, Value.int .u8 p0.view.g1, Value.int .u8 p0.view.g2, Value.int .u8 p0.view.g3, Value.int .u8 p0.view.g4, Value.int .u8 p0.view.g5, Value.int .u8 p0.view.g6, Value.int .u8 p0.view.g7] ++ ([Value.int .u16 p0.view.s0, Value.int .u16 p0.view.s1, Value.int .u16 p0.view.s2, Value.int .u16 p0.view.s3, Value.int .u16 p0.view.s4, Value.int .u16 p0.view.s5, Value.int .u16 p0.view.s6, Value.int .u16 p0.view.s7] ++ ([Value.bool p0.view.t0, Value.bool p0.view.t1, Value.bool p0.view.t2, Value.bool p0.view.t3, Value.bool p0.view.t4, Value.bool p0.view.t5, Value.bool p0.view.t6, Value.bool p0.view.t7] ++ ((Value.int .i8 (-1)) :: ((Value.int .u8 p0.view.mode) :: [])))))))))), blk b109 58 ((Value.int .i64 i129) :: ((encS y151) ++ ((encS y162) ++ ([Value.bool p0.view.i0, Value.bool p0.view.i1, Value.bool p0.view.i2, Value.bool p0.view.i3, Value.bool p0.view.i4, Value.bool p0.view.i5, Value.bool p0.view.i6, Value.bool p0.view.i7] ++ ([Value.int .u8 p0.view.m0, Value.int .u8 p0.view.m1, Value.int .u8 p0.view.m2, Value.int .u8 p0.view.m3, Value.int .u8 p0.view.m4, Value.int .u8 p0.view.m5, Value.int .u8 p0.view.m6, Value.int .u8 p0.view.m7] ++ ([Value.int .u8 p0.view.g0, Value.int .u8 p0.view.g1, Value.int .u8 p0.view.g2, Value.int .u8 p0.view.g3, Value.int .u8 p0.view.g4, Value.int .u8 p0.view.g5, Value.int .u8 p0.view.g6, Value.int .u8 p0.view.g7] ++ ([Value.int .u16 p0.view.s0, Value.int .u16 p0.view.s1, Value.int .u16 p0.view.s2, Value.int .u16 p0.view.s3, Value.int .u16 p0.view.s4, Value.int .u16 p0.view.s5, Value.int .u16 p0.view.s6, Value.int .u16 p0.view.s7] ++ ([Value.bool p0.view.t0, Value.bool p0.view.t1, Value.bool p0.view.t2, Value.bool p0.view.t3, Value.bool p0.view.t4, Value.bool p0.view.t5, Value.bool p0.view.t6, Value.bool p0.view.t7] ++ ((Value.int .i8 (-1)) :: ((Value.int .u8 p0.view.mode) :: []))))))))))]) ((List.Perm.refl _))
        have hs195 := hs192.trans ht194
        obtain rfl := Option.some.inj (show some (⟨i129, y151, y162, (⟨p0.view.i0, p0.view.i1, p0.view.i2, p0.view.i3, p0.view.i4, p0.view.i5, p0.view.i6, p0.view.i7, p0.view.m0, p0.view.m1, p0.view.m2, p0.view.m3, p0.view.m4, p0.view.m5, p0.view.m6, p0.view.m7, p0.view.g0, p0.view.g1, p0.view.g2, p0.view.g3, p0.view.g4, p0.view.g5, p0.view.g6, p0.view.g7, p0.view.s0, p0.view.s1, p0.view.s2, p0.view.s3, p0.view.s4, p0.view.s5, p0.view.s6, p0.view.s7, p0.view.t0, p0.view.t1, p0.view.t2, p0.view.t3, p0.view.t4, p0.view.t5, p0.view.t6, p0.view.t7, -1, p0.view.mode⟩ : Vw)⟩ : Cl) = some r from h189)
        exact retCell (P := Try.prog) (n := 39) (fn := Try.f74) (R := fun v w' => v = Value.agg (List.toArray (encC (⟨i129, y151, y162, (⟨p0.view.i0, p0.view.i1, p0.view.i2, p0.view.i3, p0.view.i4, p0.view.i5, p0.view.i6, p0.view.i7, p0.view.m0, p0.view.m1, p0.view.m2, p0.view.m3, p0.view.m4, p0.view.m5, p0.view.m6, p0.view.m7, p0.view.g0, p0.view.g1, p0.view.g2, p0.view.g3, p0.view.g4, p0.view.g5, p0.view.g6, p0.view.g7, p0.view.s0, p0.view.s1, p0.view.s2, p0.view.s3, p0.view.s4, p0.view.s5, p0.view.s6, p0.view.s7, p0.view.t0, p0.view.t1, p0.view.t2, p0.view.t3, p0.view.t4, p0.view.t5, p0.view.t6, p0.view.t7, -1, p0.view.mode⟩ : Vw)⟩ : Cl))) ∧ St [] w w' []) (t := 2) (v := Value.agg (List.toArray ((Value.int .i64 i129) :: ((encS y151) ++ ((encS y162) ++ ([Value.bool p0.view.i0, Value.bool p0.view.i1, Value.bool p0.view.i2, Value.bool p0.view.i3, Value.bool p0.view.i4, Value.bool p0.view.i5, Value.bool p0.view.i6, Value.bool p0.view.i7] ++ ([Value.int .u8 p0.view.m0, Value.int .u8 p0.view.m1, Value.int .u8 p0.view.m2, Value.int .u8 p0.view.m3, Value.int .u8 p0.view.m4, Value.int .u8 p0.view.m5, Value.int .u8 p0.view.m6, Value.int .u8 p0.view.m7] ++ ([Value.int .u8 p0.view.g0, Value.int .u8 p0.view.g1, Value.int .u8 p0.view.g2, Value.int .u8 p0.view.g3, Value.int .u8 p0.view.g4, Value.int .u8 p0.view.g5, Value.int .u8 p0.view.g6, Value.int .u8 p0.view.g7] ++ ([Value.int .u16 p0.view.s0, Value.int .u16 p0.view.s1, Value.int .u16 p0.view.s2, Value.int .u16 p0.view.s3, Value.int .u16 p0.view.s4, Value.int .u16 p0.view.s5, Value.int .u16 p0.view.s6, Value.int .u16 p0.view.s7] ++ ([Value.bool p0.view.t0, Value.bool p0.view.t1, Value.bool p0.view.t2, Value.bool p0.view.t3, Value.bool p0.view.t4, Value.bool p0.view.t5, Value.bool p0.view.t6, Value.bool p0.view.t7] ++ ((Value.int .i8 (-1)) :: ((Value.int .u8 p0.view.mode) :: [])))))))))))) rfl s150 rfl hl193 ⟨rfl, hs195⟩
    · have h196 := ifF hc173 h164
      refine WL.val (R.lssF (k := .i8) (a := p0.view.command) (b := 0) un54 rfl rfl hc173) rfl ?_
      refine WL.val (R.move (v := Value.bool false) rfl) rfl ?_
      refine WL.guardY (e := 24) rfl rfl rfl ?_
      refine WL.val (R.fieldAddr (o := 0) (o' := 13) fa58_3 (by exact s149) rfl) rfl ?_
      refine WL.guardY (e := 24) rfl rfl rfl ?_
      refine WL.val (R.fieldAddr (o := 13) (o' := 53) fa56_5 rfl rfl) rfl ?_
      refine WL.guardY (e := 24) rfl rfl rfl ?_
      refine WL.val (R.loadL (v := Value.int .i8 p0.view.command) lf54 rfl (hs172.at (i := 0) (off := 53) (n := 1) (cs := [Value.int .i8 p0.view.command]) rfl rfl rfl)) rfl ?_
      refine WL.guardY (e := 24) rfl rfl rfl ?_
      by_cases hc197 : 7 < p0.view.command
      · have h198 := ifT hc197 h196
        refine WL.val (R.gtrT (k := .i8) (a := p0.view.command) (b := 7) un54 rfl rfl hc197) rfl ?_
        refine WL.val (R.pickF (v := Value.bool true) rfl rfl) rfl ?_
        refine WL.nil ?_
        refine thenN ?_
        refine WC.condT rfl rfl ?_
        refine WC.region ?_
        refine WL.val (R.fieldAddr (o := 0) (o' := 13) fa58_3 (by exact s149) rfl) rfl ?_
        refine WL.val (R.fieldAddr (o := 13) (o' := 53) fa56_5 rfl rfl) rfl ?_
        refine WL.sto (L' := [blk b101 58 ((Value.int .i64 i129) :: ((encS y151) ++ ((encS y162) ++ ([Value.bool p0.view.i0, Value.bool p0.view.i1, Value.bool p0.view.i2, Value.bool p0.view.i3, Value.bool p0.view.i4, Value.bool p0.view.i5, Value.bool p0.view.i6, Value.bool p0.view.i7] ++ ([Value.int .u8 p0.view.m0, Value.int .u8 p0.view.m1, Value.int .u8 p0.view.m2, Value.int .u8 p0.view.m3, Value.int .u8 p0.view.m4, Value.int .u8 p0.view.m5, Value.int .u8 p0.view.m6, Value.int .u8 p0.view.m7] ++ ([Value.int .u8 p0.view.g0, Value.int .u8 p0.view.g1, Value.int .u8 p0.view.g2, Value.int .u8 p0.view.g3, Value.int .u8 p0.view.g4, Value.int .u8 p0.view.g5, Value.int .u8 p0.view.g6, Value.int .u8 p0.view.g7] ++ ([Value.int .u16 p0.view.s0, Value.int .u16 p0.view.s1, Value.int .u16 p0.view.s2, Value.int .u16 p0.view.s3, Value.int .u16 p0.view.s4, Value.int .u16 p0.view.s5, Value.int .u16 p0.view.s6, Value.int .u16 p0.view.s7] ++ ([Value.bool p0.view.t0, Value.bool p0.view.t1, Value.bool p0.view.t2, Value.bool p0.view.t3, Value.bool p0.view.t4, Value.bool p0.view.t5, Value.bool p0.view.t6, Value.bool p0.view.t7] ++ ((Value.int .i8 (-1)) :: ((Value.int .u8 p0.view.mode) :: [])))))))))), blk b109 58 (encC Cl.zero)]) (X.store (i := 0) (n := 1) (b := b101) (off := 53) (c := (Value.int .i64 i129) :: ((encS y151) ++ ((encS y162) ++ (encV p0.view)))) (U := 58) (vs := [Value.int .i8 (-1)]) (v := Value.int .i8 (-1)) (c' := (Value.int .i64 i129) :: ((encS y151) ++ ((encS y162) ++ ([Value.bool p0.view.i0, Value.bool p0.view.i1, Value.bool p0.view.i2, Value.bool p0.view.i3, Value.bool p0.view.i4, Value.bool p0.view.i5, Value.bool p0.view.i6, Value.bool p0.view.i7] ++ ([Value.int .u8 p0.view.m0, Value.int .u8 p0.view.m1, Value.int .u8 p0.view.m2, Value.int .u8 p0.view.m3, Value.int .u8 p0.view.m4, Value.int .u8 p0.view.m5, Value.int .u8 p0.view.m6, Value.int .u8 p0.view.m7] ++ ([Value.int .u8 p0.view.g0, Value.int .u8 p0.view.g1, Value.int .u8 p0.view.g2, Value.int .u8 p0.view.g3, Value.int .u8 p0.view.g4, Value.int .u8 p0.view.g5, Value.int .u8 p0.view.g6, Value.int .u8 p0.view.g7] ++ ([Value.int .u16 p0.view.s0, Value.int .u16 p0.view.s1, Value.int .u16 p0.view.s2, Value.int .u16 p0.view.s3, Value.int .u16 p0.view.s4, Value.int .u16 p0.view.s5, Value.int .u16 p0.view.s6, Value.int .u16 p0.view.s7] ++ ([Value.bool p0.view.t0, Value.bool p0.view.t1, Value.bool p0.view.t2, Value.bool p0.view.t3, Value.bool p0.view.t4, Value.bool p0.view.t5, Value.bool p0.view.t6, Value.bool p0.view.t7] ++ ((Value.int .i8 (-1)) :: ((Value.int .u8 p0.view.mode) :: [])))))))))) (hs172.here) rfl lf54.size rfl rfl rfl rfl rfl rfl rfl rfl) rfl rfl ?_
        intro w199 ht200
        have hs201 := hs172.trans ht200
        refine WL.nil ?_
        refine thenN ?_
        refine WC.seq ?_
        refine WC.seq ?_
        refine WC.region ?_
        refine WL.val (R.fieldAddr (o := 0) (o' := 13) fa58_3 (by exact s149) rfl) rfl ?_
        refine WL.val (R.fieldAddr (o := 13) (o' := 54) fa56_6 rfl rfl) rfl ?_
        refine WL.val (R.loadL (v := Value.int .u8 p0.view.mode) lf5 rfl (hs201.at (i := 0) (off := 54) (n := 1) (cs := [Value.int .u8 p0.view.mode]) rfl rfl rfl)) rfl ?_
        by_cases hc202 : 7 < p0.view.mode
        · have h203 := ifT hc202 h198
          refine WL.val (R.gtrT (k := .u8) (a := p0.view.mode) (b := 7) un5 rfl rfl hc202) rfl ?_
          refine WL.nil ?_
          refine thenN ?_
          refine WC.condT rfl rfl ?_
          refine WC.region ?_
          refine WL.val (R.fieldAddr (o := 0) (o' := 13) fa58_3 (by exact s149) rfl) rfl ?_
          refine WL.val (R.fieldAddr (o := 13) (o' := 54) fa56_6 rfl rfl) rfl ?_
          refine WL.sto (L' := [blk b101 58 ((Value.int .i64 i129) :: ((encS y151) ++ ((encS y162) ++ ([Value.bool p0.view.i0, Value.bool p0.view.i1, Value.bool p0.view.i2, Value.bool p0.view.i3, Value.bool p0.view.i4, Value.bool p0.view.i5, Value.bool p0.view.i6, Value.bool p0.view.i7] ++ ([Value.int .u8 p0.view.m0, Value.int .u8 p0.view.m1, Value.int .u8 p0.view.m2, Value.int .u8 p0.view.m3, Value.int .u8 p0.view.m4, Value.int .u8 p0.view.m5, Value.int .u8 p0.view.m6, Value.int .u8 p0.view.m7] ++ ([Value.int .u8 p0.view.g0, Value.int .u8 p0.view.g1, Value.int .u8 p0.view.g2, Value.int .u8 p0.view.g3, Value.int .u8 p0.view.g4, Value.int .u8 p0.view.g5, Value.int .u8 p0.view.g6, Value.int .u8 p0.view.g7] ++ ([Value.int .u16 p0.view.s0, Value.int .u16 p0.view.s1, Value.int .u16 p0.view.s2, Value.int .u16 p0.view.s3, Value.int .u16 p0.view.s4, Value.int .u16 p0.view.s5, Value.int .u16 p0.view.s6, Value.int .u16 p0.view.s7] ++ ([Value.bool p0.view.t0, Value.bool p0.view.t1, Value.bool p0.view.t2, Value.bool p0.view.t3, Value.bool p0.view.t4, Value.bool p0.view.t5, Value.bool p0.view.t6, Value.bool p0.view.t7] ++ ((Value.int .i8 (-1)) :: ((Value.int .u8 0) :: [])))))))))), blk b109 58 (encC Cl.zero)]) (X.store (i := 0) (n := 1) (b := b101) (off := 54) (c := (Value.int .i64 i129) :: ((encS y151) ++ ((encS y162) ++ ([Value.bool p0.view.i0, Value.bool p0.view.i1, Value.bool p0.view.i2, Value.bool p0.view.i3, Value.bool p0.view.i4, Value.bool p0.view.i5, Value.bool p0.view.i6, Value.bool p0.view.i7] ++ ([Value.int .u8 p0.view.m0, Value.int .u8 p0.view.m1, Value.int .u8 p0.view.m2, Value.int .u8 p0.view.m3, Value.int .u8 p0.view.m4, Value.int .u8 p0.view.m5, Value.int .u8 p0.view.m6, Value.int .u8 p0.view.m7] ++ ([Value.int .u8 p0.view.g0, Value.int .u8 p0.view.g1, Value.int .u8 p0.view.g2, Value.int .u8 p0.view.g3, Value.int .u8 p0.view.g4, Value.int .u8 p0.view.g5, Value.int .u8 p0.view.g6, Value.int .u8 p0.view.g7] ++ ([Value.int .u16 p0.view.s0, Value.int .u16 p0.view.s1, Value.int .u16 p0.view.s2, Value.int .u16 p0.view.s3, Value.int .u16 p0.view.s4, Value.int .u16 p0.view.s5, Value.int .u16 p0.view.s6, Value.int .u16 p0.view.s7] ++ ([Value.bool p0.view.t0, Value.bool p0.view.t1, Value.bool p0.view.t2, Value.bool p0.view.t3, Value.bool p0.view.t4, Value.bool p0.view.t5, Value.bool p0.view.t6, Value.bool p0.view.t7] ++ ((Value.int .i8 (-1)) :: ((Value.int .u8 p0.view.mode) :: [])))))))))) (U := 58) (vs := [Value.int .u8 0]) (v := Value.int .u8 0) (c' := (Value.int .i64 i129) :: ((encS y151) ++ ((encS y162) ++ ([Value.bool p0.view.i0, Value.bool p0.view.i1, Value.bool p0.view.i2, Value.bool p0.view.i3, Value.bool p0.view.i4, Value.bool p0.view.i5, Value.bool p0.view.i6, Value.bool p0.view.i7] ++ ([Value.int .u8 p0.view.m0, Value.int .u8 p0.view.m1, Value.int .u8 p0.view.m2, Value.int .u8 p0.view.m3, Value.int .u8 p0.view.m4, Value.int .u8 p0.view.m5, Value.int .u8 p0.view.m6, Value.int .u8 p0.view.m7] ++ ([Value.int .u8 p0.view.g0, Value.int .u8 p0.view.g1, Value.int .u8 p0.view.g2, Value.int .u8 p0.view.g3, Value.int .u8 p0.view.g4, Value.int .u8 p0.view.g5, Value.int .u8 p0.view.g6, Value.int .u8 p0.view.g7] ++ ([Value.int .u16 p0.view.s0, Value.int .u16 p0.view.s1, Value.int .u16 p0.view.s2, Value.int .u16 p0.view.s3, Value.int .u16 p0.view.s4, Value.int .u16 p0.view.s5, Value.int .u16 p0.view.s6, Value.int .u16 p0.view.s7] ++ ([Value.bool p0.view.t0, Value.bool p0.view.t1, Value.bool p0.view.t2, Value.bool p0.view.t3, Value.bool p0.view.t4, Value.bool p0.view.t5, Value.bool p0.view.t6, Value.bool p0.view.t7] ++ ((Value.int .i8 (-1)) :: ((Value.int .u8 0) :: [])))))))))) (hs201.here) rfl lf5.size rfl rfl rfl rfl rfl rfl rfl rfl) rfl rfl ?_
          intro w204 ht205
          have hs206 := hs201.trans ht205
          refine WL.nil ?_
          refine thenN ?_
          refine WC.seq ?_
          refine WC.region ?_
          refine WL.val (R.loadA (cs := (Value.int .i64 i129) :: ((encS y151) ++ ((encS y162) ++ ([Value.bool p0.view.i0, Value.bool p0.view.i1, Value.bool p0.view.i2, Value.bool p0.view.i3, Value.bool p0.view.i4, Value.bool p0.view.i5, Value.bool p0.view.i6, Value.bool p0.view.i7] ++ ([Value.int .u8 p0.view.m0, Value.int .u8 p0.view.m1, Value.int .u8 p0.view.m2, Value.int .u8 p0.view.m3, Value.int .u8 p0.view.m4, Value.int .u8 p0.view.m5, Value.int .u8 p0.view.m6, Value.int .u8 p0.view.m7] ++ ([Value.int .u8 p0.view.g0, Value.int .u8 p0.view.g1, Value.int .u8 p0.view.g2, Value.int .u8 p0.view.g3, Value.int .u8 p0.view.g4, Value.int .u8 p0.view.g5, Value.int .u8 p0.view.g6, Value.int .u8 p0.view.g7] ++ ([Value.int .u16 p0.view.s0, Value.int .u16 p0.view.s1, Value.int .u16 p0.view.s2, Value.int .u16 p0.view.s3, Value.int .u16 p0.view.s4, Value.int .u16 p0.view.s5, Value.int .u16 p0.view.s6, Value.int .u16 p0.view.s7] ++ ([Value.bool p0.view.t0, Value.bool p0.view.t1, Value.bool p0.view.t2, Value.bool p0.view.t3, Value.bool p0.view.t4, Value.bool p0.view.t5, Value.bool p0.view.t6, Value.bool p0.view.t7] ++ ((Value.int .i8 (-1)) :: ((Value.int .u8 0) :: [])))))))))) (n := 55) ag58 (by exact s149) (hs206.at (i := 0) (off := 0) (n := 55) (cs := (Value.int .i64 i129) :: ((encS y151) ++ ((encS y162) ++ ([Value.bool p0.view.i0, Value.bool p0.view.i1, Value.bool p0.view.i2, Value.bool p0.view.i3, Value.bool p0.view.i4, Value.bool p0.view.i5, Value.bool p0.view.i6, Value.bool p0.view.i7] ++ ([Value.int .u8 p0.view.m0, Value.int .u8 p0.view.m1, Value.int .u8 p0.view.m2, Value.int .u8 p0.view.m3, Value.int .u8 p0.view.m4, Value.int .u8 p0.view.m5, Value.int .u8 p0.view.m6, Value.int .u8 p0.view.m7] ++ ([Value.int .u8 p0.view.g0, Value.int .u8 p0.view.g1, Value.int .u8 p0.view.g2, Value.int .u8 p0.view.g3, Value.int .u8 p0.view.g4, Value.int .u8 p0.view.g5, Value.int .u8 p0.view.g6, Value.int .u8 p0.view.g7] ++ ([Value.int .u16 p0.view.s0, Value.int .u16 p0.view.s1, Value.int .u16 p0.view.s2, Value.int .u16 p0.view.s3, Value.int .u16 p0.view.s4, Value.int .u16 p0.view.s5, Value.int .u16 p0.view.s6, Value.int .u16 p0.view.s7] ++ ([Value.bool p0.view.t0, Value.bool p0.view.t1, Value.bool p0.view.t2, Value.bool p0.view.t3, Value.bool p0.view.t4, Value.bool p0.view.t5, Value.bool p0.view.t6, Value.bool p0.view.t7] ++ ((Value.int .i8 (-1)) :: ((Value.int .u8 0) :: [])))))))))) rfl rfl rfl) rfl) rfl ?_
          refine WL.sto (L' := [blk b101 58 ((Value.int .i64 i129) :: ((encS y151) ++ ((encS y162) ++ ([Value.bool p0.view.i0, Value.bool p0.view.i1, Value.bool p0.view.i2, Value.bool p0.view.i3, Value.bool p0.view.i4, Value.bool p0.view.i5, Value.bool p0.view.i6, Value.bool p0.view.i7] ++ ([Value.int .u8 p0.view.m0, Value.int .u8 p0.view.m1, Value.int .u8 p0.view.m2, Value.int .u8 p0.view.m3, Value.int .u8 p0.view.m4, Value.int .u8 p0.view.m5, Value.int .u8 p0.view.m6, Value.int .u8 p0.view.m7] ++ ([Value.int .u8 p0.view.g0, Value.int .u8 p0.view.g1, Value.int .u8 p0.view.g2, Value.int .u8 p0.view.g3, Value.int .u8 p0.view.g4, Value.int .u8 p0.view.g5, Value.int .u8 p0.view.g6, Value.int .u8 p0.view.g7] ++ ([Value.int .u16 p0.view.s0, Value.int .u16 p0.view.s1, Value.int .u16 p0.view.s2, Value.int .u16 p0.view.s3, Value.int .u16 p0.view.s4, Value.int .u16 p0.view.s5, Value.int .u16 p0.view.s6, Value.int .u16 p0.view.s7] ++ ([Value.bool p0.view.t0, Value.bool p0.view.t1, Value.bool p0.view.t2, Value.bool p0.view.t3, Value.bool p0.view.t4, Value.bool p0.view.t5, Value.bool p0.view.t6, Value.bool p0.view.t7] ++ ((Value.int .i8 (-1)) :: ((Value.int .u8 0) :: [])))))))))), blk b109 58 ((Value.int .i64 i129) :: ((encS y151) ++ ((encS y162) ++ ([Value.bool p0.view.i0, Value.bool p0.view.i1, Value.bool p0.view.i2, Value.bool p0.view.i3, Value.bool p0.view.i4, Value.bool p0.view.i5, Value.bool p0.view.i6, Value.bool p0.view.i7] ++ ([Value.int .u8 p0.view.m0, Value.int .u8 p0.view.m1, Value.int .u8 p0.view.m2, Value.int .u8 p0.view.m3, Value.int .u8 p0.view.m4, Value.int .u8 p0.view.m5, Value.int .u8 p0.view.m6, Value.int .u8 p0.view.m7] ++ ([Value.int .u8 p0.view.g0, Value.int .u8 p0.view.g1, Value.int .u8 p0.view.g2, Value.int .u8 p0.view.g3, Value.int .u8 p0.view.g4, Value.int .u8 p0.view.g5, Value.int .u8 p0.view.g6, Value.int .u8 p0.view.g7] ++ ([Value.int .u16 p0.view.s0, Value.int .u16 p0.view.s1, Value.int .u16 p0.view.s2, Value.int .u16 p0.view.s3, Value.int .u16 p0.view.s4, Value.int .u16 p0.view.s5, Value.int .u16 p0.view.s6, Value.int .u16 p0.view.s7] ++ ([Value.bool p0.view.t0, Value.bool p0.view.t1, Value.bool p0.view.t2, Value.bool p0.view.t3, Value.bool p0.view.t4, Value.bool p0.view.t5, Value.bool p0.view.t6, Value.bool p0.view.t7] ++ ((Value.int .i8 (-1)) :: ((Value.int .u8 0) :: []))))))))))]) (X.store (i := 1) (n := 55) (b := b109) (off := 0) (c := encC Cl.zero) (U := 58) (vs := (Value.int .i64 i129) :: ((encS y151) ++ ((encS y162) ++ ([Value.bool p0.view.i0, Value.bool p0.view.i1, Value.bool p0.view.i2, Value.bool p0.view.i3, Value.bool p0.view.i4, Value.bool p0.view.i5, Value.bool p0.view.i6, Value.bool p0.view.i7] ++ ([Value.int .u8 p0.view.m0, Value.int .u8 p0.view.m1, Value.int .u8 p0.view.m2, Value.int .u8 p0.view.m3, Value.int .u8 p0.view.m4, Value.int .u8 p0.view.m5, Value.int .u8 p0.view.m6, Value.int .u8 p0.view.m7] ++ ([Value.int .u8 p0.view.g0, Value.int .u8 p0.view.g1, Value.int .u8 p0.view.g2, Value.int .u8 p0.view.g3, Value.int .u8 p0.view.g4, Value.int .u8 p0.view.g5, Value.int .u8 p0.view.g6, Value.int .u8 p0.view.g7] ++ ([Value.int .u16 p0.view.s0, Value.int .u16 p0.view.s1, Value.int .u16 p0.view.s2, Value.int .u16 p0.view.s3, Value.int .u16 p0.view.s4, Value.int .u16 p0.view.s5, Value.int .u16 p0.view.s6, Value.int .u16 p0.view.s7] ++ ([Value.bool p0.view.t0, Value.bool p0.view.t1, Value.bool p0.view.t2, Value.bool p0.view.t3, Value.bool p0.view.t4, Value.bool p0.view.t5, Value.bool p0.view.t6, Value.bool p0.view.t7] ++ ((Value.int .i8 (-1)) :: ((Value.int .u8 0) :: [])))))))))) (v := Value.agg (List.toArray ((Value.int .i64 i129) :: ((encS y151) ++ ((encS y162) ++ ([Value.bool p0.view.i0, Value.bool p0.view.i1, Value.bool p0.view.i2, Value.bool p0.view.i3, Value.bool p0.view.i4, Value.bool p0.view.i5, Value.bool p0.view.i6, Value.bool p0.view.i7] ++ ([Value.int .u8 p0.view.m0, Value.int .u8 p0.view.m1, Value.int .u8 p0.view.m2, Value.int .u8 p0.view.m3, Value.int .u8 p0.view.m4, Value.int .u8 p0.view.m5, Value.int .u8 p0.view.m6, Value.int .u8 p0.view.m7] ++ ([Value.int .u8 p0.view.g0, Value.int .u8 p0.view.g1, Value.int .u8 p0.view.g2, Value.int .u8 p0.view.g3, Value.int .u8 p0.view.g4, Value.int .u8 p0.view.g5, Value.int .u8 p0.view.g6, Value.int .u8 p0.view.g7] ++ ([Value.int .u16 p0.view.s0, Value.int .u16 p0.view.s1, Value.int .u16 p0.view.s2, Value.int .u16 p0.view.s3, Value.int .u16 p0.view.s4, Value.int .u16 p0.view.s5, Value.int .u16 p0.view.s6, Value.int .u16 p0.view.s7] ++ ([Value.bool p0.view.t0, Value.bool p0.view.t1, Value.bool p0.view.t2, Value.bool p0.view.t3, Value.bool p0.view.t4, Value.bool p0.view.t5, Value.bool p0.view.t6, Value.bool p0.view.t7] ++ ((Value.int .i8 (-1)) :: ((Value.int .u8 0) :: [])))))))))))) (c' := (Value.int .i64 i129) :: ((encS y151) ++ ((encS y162) ++ ([Value.bool p0.view.i0, Value.bool p0.view.i1, Value.bool p0.view.i2, Value.bool p0.view.i3, Value.bool p0.view.i4, Value.bool p0.view.i5, Value.bool p0.view.i6, Value.bool p0.view.i7] ++ ([Value.int .u8 p0.view.m0, Value.int .u8 p0.view.m1, Value.int .u8 p0.view.m2, Value.int .u8 p0.view.m3, Value.int .u8 p0.view.m4, Value.int .u8 p0.view.m5, Value.int .u8 p0.view.m6, Value.int .u8 p0.view.m7] ++ ([Value.int .u8 p0.view.g0, Value.int .u8 p0.view.g1, Value.int .u8 p0.view.g2, Value.int .u8 p0.view.g3, Value.int .u8 p0.view.g4, Value.int .u8 p0.view.g5, Value.int .u8 p0.view.g6, Value.int .u8 p0.view.g7] ++ ([Value.int .u16 p0.view.s0, Value.int .u16 p0.view.s1, Value.int .u16 p0.view.s2, Value.int .u16 p0.view.s3, Value.int .u16 p0.view.s4, Value.int .u16 p0.view.s5, Value.int .u16 p0.view.s6, Value.int .u16 p0.view.s7] ++ ([Value.bool p0.view.t0, Value.bool p0.view.t1, Value.bool p0.view.t2, Value.bool p0.view.t3, Value.bool p0.view.t4, Value.bool p0.view.t5, Value.bool p0.view.t6, Value.bool p0.view.t7] ++ ((Value.int .i8 (-1)) :: ((Value.int .u8 0) :: [])))))))))) (hs206.here) rfl ag58.size (by exact s150) rfl rfl rfl rfl rfl rfl rfl) rfl rfl ?_
          intro w207 ht208
          have hs209 := hs206.trans ht208
          refine WL.nil ?_
          refine thenN ?_
          refine WC.ret ?_
          have hl210 := run_loadA (P := Try.prog) (n := 55) ag58 (hs209.at (i := 1) (off := 0) (n := 55) (cs := (Value.int .i64 i129) :: ((encS y151) ++ ((encS y162) ++ ([Value.bool p0.view.i0, Value.bool p0.view.i1, Value.bool p0.view.i2, Value.bool p0.view.i3, Value.bool p0.view.i4, Value.bool p0.view.i5, Value.bool p0.view.i6, Value.bool p0.view.i7] ++ ([Value.int .u8 p0.view.m0, Value.int .u8 p0.view.m1, Value.int .u8 p0.view.m2, Value.int .u8 p0.view.m3, Value.int .u8 p0.view.m4, Value.int .u8 p0.view.m5, Value.int .u8 p0.view.m6, Value.int .u8 p0.view.m7] ++ ([Value.int .u8 p0.view.g0, Value.int .u8 p0.view.g1, Value.int .u8 p0.view.g2, Value.int .u8 p0.view.g3, Value.int .u8 p0.view.g4, Value.int .u8 p0.view.g5, Value.int .u8 p0.view.g6, Value.int .u8 p0.view.g7] ++ ([Value.int .u16 p0.view.s0, Value.int .u16 p0.view.s1, Value.int .u16 p0.view.s2, Value.int .u16 p0.view.s3, Value.int .u16 p0.view.s4, Value.int .u16 p0.view.s5, Value.int .u16 p0.view.s6, Value.int .u16 p0.view.s7] ++ ([Value.bool p0.view.t0, Value.bool p0.view.t1, Value.bool p0.view.t2, Value.bool p0.view.t3, Value.bool p0.view.t4, Value.bool p0.view.t5, Value.bool p0.view.t6, Value.bool p0.view.t7] ++ ((Value.int .i8 (-1)) :: ((Value.int .u8 0) :: [])))))))))) rfl rfl rfl) rfl
          have ht211 := (hs209.here).perm (L' := []) (G := [blk b101 58 ((Value.int .i64 i129) :: ((encS y151) ++ ((encS y162) ++ ([Value.bool p0.view.i0, Value.bool p0.view.i1, Value.bool p0.view.i2, Value.bool p0.view.i3, Value.bool p0.view.i4, Value.bool p0.view.i5, Value.bool p0.view.i6, Value.bool p0.view.i7] ++ ([Value.int .u8 p0.view.m0, Value.int .u8 p0.view.m1, Value.int .u8 p0.view.m2, Value.int .u8 p0.view.m3, Value.int .u8 p0.view.m4, Value.int .u8 p0.view.m5, Value.int .u8 p0.view.m6, Value.int .u8 p0.view.m7] ++ ([Value.int .u8 p0.view.g0, Value.int .u8 p0.view.g1, Value.int .u8 p0.view.g2, Value.int .u8 p0.view.g3, Value.int .u8 p0.view.g4, Value.int .u8 p0.view.g5, Value.int .u8 p0.view.g6, Value.int .u8 p0.view.g7] ++ ([Value.int .u16 p0.view.s0, Value.int .u16 p0.view.s1, Value.int .u16 p0.view.s2, Value.int .u16 p0.view.s3, Value.int .u16 p0.view.s4, Value.int .u16 p0.view.s5, Value.int .u16 p0.view.s6, Value.int .u16 p0.view.s7] ++ ([Value.bool p0.view.t0, Value.bool p0.view.t1, Value.bool p0.view.t2, Value.bool p0.view.t3, Value.bool p0.view.t4, Value.bool p0.view.t5, Value.bool p0.view.t6, Value.bool p0.view.t7] ++ ((Value.int .i8 (-1)) :: ((Value.int .u8 0) :: [])))))))))), blk b109 58 ((Value.int .i64 i129) :: ((encS y151) ++ ((encS y162) ++ ([Value.bool p0.view.i0, Value.bool p0.view.i1, Value.bool p0.view.i2, Value.bool p0.view.i3, Value.bool p0.view.i4, Value.bool p0.view.i5, Value.bool p0.view.i6, Value.bool p0.view.i7] ++ ([Value.int .u8 p0.view.m0, Value.int .u8 p0.view.m1, Value.int .u8 p0.view.m2, Value.int .u8 p0.view.m3, Value.int .u8 p0.view.m4, Value.int .u8 p0.view.m5, Value.int .u8 p0.view.m6, Value.int .u8 p0.view.m7] ++ ([Value.int .u8 p0.view.g0, Value.int .u8 p0.view.g1, Value.int .u8 p0.view.g2, Value.int .u8 p0.view.g3, Value.int .u8 p0.view.g4, Value.int .u8 p0.view.g5, Value.int .u8 p0.view.g6, Value.int .u8 p0.view.g7] ++ ([Value.int .u16 p0.view.s0, Value.int .u16 p0.view.s1, Value.int .u16 p0.view.s2, Value.int .u16 p0.view.s3, Value.int .u16 p0.view.s4, Value.int .u16 p0.view.s5, Value.int .u16 p0.view.s6, Value.int .u16 p0.view.s7] ++ ([Value.bool p0.view.t0, Value.bool p0.view.t1, Value.bool p0.view.t2, Value.bool p0.view.t3, Value.bool p0.view.t4, Value.bool p0.view.t5, Value.bool p0.view.t6, Value.bool p0.view.t7] ++ ((Value.int .i8 (-1)) :: ((Value.int .u8 0) :: []))))))))))]) ((List.Perm.refl _))
          have hs212 := hs209.trans ht211
          obtain rfl := Option.some.inj (show some (⟨i129, y151, y162, (⟨p0.view.i0, p0.view.i1, p0.view.i2, p0.view.i3, p0.view.i4, p0.view.i5, p0.view.i6, p0.view.i7, p0.view.m0, p0.view.m1, p0.view.m2, p0.view.m3, p0.view.m4, p0.view.m5, p0.view.m6, p0.view.m7, p0.view.g0, p0.view.g1, p0.view.g2, p0.view.g3, p0.view.g4, p0.view.g5, p0.view.g6, p0.view.g7, p0.view.s0, p0.view.s1, p0.view.s2, p0.view.s3, p0.view.s4, p0.view.s5, p0.view.s6, p0.view.s7, p0.view.t0, p0.view.t1, p0.view.t2, p0.view.t3, p0.view.t4, p0.view.t5, p0.view.t6, p0.view.t7, -1, 0⟩ : Vw)⟩ : Cl) = some r from h203)
          exact retCell (P := Try.prog) (n := 39) (fn := Try.f74) (R := fun v w' => v = Value.agg (List.toArray (encC (⟨i129, y151, y162, (⟨p0.view.i0, p0.view.i1, p0.view.i2, p0.view.i3, p0.view.i4, p0.view.i5, p0.view.i6, p0.view.i7, p0.view.m0, p0.view.m1, p0.view.m2, p0.view.m3, p0.view.m4, p0.view.m5, p0.view.m6, p0.view.m7, p0.view.g0, p0.view.g1, p0.view.g2, p0.view.g3, p0.view.g4, p0.view.g5, p0.view.g6, p0.view.g7, p0.view.s0, p0.view.s1, p0.view.s2, p0.view.s3, p0.view.s4, p0.view.s5, p0.view.s6, p0.view.s7, p0.view.t0, p0.view.t1, p0.view.t2, p0.view.t3, p0.view.t4, p0.view.t5, p0.view.t6, p0.view.t7, -1, 0⟩ : Vw)⟩ : Cl))) ∧ St [] w w' []) (t := 2) (v := Value.agg (List.toArray ((Value.int .i64 i129) :: ((encS y151) ++ ((encS y162) ++ ([Value.bool p0.view.i0, Value.bool p0.view.i1, Value.bool p0.view.i2, Value.bool p0.view.i3, Value.bool p0.view.i4, Value.bool p0.view.i5, Value.bool p0.view.i6, Value.bool p0.view.i7] ++ ([Value.int .u8 p0.view.m0, Value.int .u8 p0.view.m1, Value.int .u8 p0.view.m2, Value.int .u8 p0.view.m3, Value.int .u8 p0.view.m4, Value.int .u8 p0.view.m5, Value.int .u8 p0.view.m6, Value.int .u8 p0.view.m7] ++ ([Value.int .u8 p0.view.g0, Value.int .u8 p0.view.g1, Value.int .u8 p0.view.g2, Value.int .u8 p0.view.g3, Value.int .u8 p0.view.g4, Value.int .u8 p0.view.g5, Value.int .u8 p0.view.g6, Value.int .u8 p0.view.g7] ++ ([Value.int .u16 p0.view.s0, Value.int .u16 p0.view.s1, Value.int .u16 p0.view.s2, Value.int .u16 p0.view.s3, Value.int .u16 p0.view.s4, Value.int .u16 p0.view.s5, Value.int .u16 p0.view.s6, Value.int .u16 p0.view.s7] ++ ([Value.bool p0.view.t0, Value.bool p0.view.t1, Value.bool p0.view.t2, Value.bool p0.view.t3, Value.bool p0.view.t4, Value.bool p0.view.t5, Value.bool p0.view.t6, Value.bool p0.view.t7] ++ ((Value.int .i8 (-1)) :: ((Value.int .u8 0) :: [])))))))))))) rfl s150 rfl hl210 ⟨rfl, hs212⟩
        · have h213 := ifF hc202 h198
          refine WL.val (R.gtrF (k := .u8) (a := p0.view.mode) (b := 7) un5 rfl rfl hc202) rfl ?_
          refine WL.nil ?_
          refine thenN ?_
          refine WC.condF rfl rfl ?_
          refine WC.skip ?_
          refine thenN ?_
          refine WC.seq ?_
          refine WC.region ?_
          refine WL.val (R.loadA (cs := (Value.int .i64 i129) :: ((encS y151) ++ ((encS y162) ++ ([Value.bool p0.view.i0, Value.bool p0.view.i1, Value.bool p0.view.i2, Value.bool p0.view.i3, Value.bool p0.view.i4, Value.bool p0.view.i5, Value.bool p0.view.i6, Value.bool p0.view.i7] ++ ([Value.int .u8 p0.view.m0, Value.int .u8 p0.view.m1, Value.int .u8 p0.view.m2, Value.int .u8 p0.view.m3, Value.int .u8 p0.view.m4, Value.int .u8 p0.view.m5, Value.int .u8 p0.view.m6, Value.int .u8 p0.view.m7] ++ ([Value.int .u8 p0.view.g0, Value.int .u8 p0.view.g1, Value.int .u8 p0.view.g2, Value.int .u8 p0.view.g3, Value.int .u8 p0.view.g4, Value.int .u8 p0.view.g5, Value.int .u8 p0.view.g6, Value.int .u8 p0.view.g7] ++ ([Value.int .u16 p0.view.s0, Value.int .u16 p0.view.s1, Value.int .u16 p0.view.s2, Value.int .u16 p0.view.s3, Value.int .u16 p0.view.s4, Value.int .u16 p0.view.s5, Value.int .u16 p0.view.s6, Value.int .u16 p0.view.s7] ++ ([Value.bool p0.view.t0, Value.bool p0.view.t1, Value.bool p0.view.t2, Value.bool p0.view.t3, Value.bool p0.view.t4, Value.bool p0.view.t5, Value.bool p0.view.t6, Value.bool p0.view.t7] ++ ((Value.int .i8 (-1)) :: ((Value.int .u8 p0.view.mode) :: [])))))))))) (n := 55) ag58 (by exact s149) (hs201.at (i := 0) (off := 0) (n := 55) (cs := (Value.int .i64 i129) :: ((encS y151) ++ ((encS y162) ++ ([Value.bool p0.view.i0, Value.bool p0.view.i1, Value.bool p0.view.i2, Value.bool p0.view.i3, Value.bool p0.view.i4, Value.bool p0.view.i5, Value.bool p0.view.i6, Value.bool p0.view.i7] ++ ([Value.int .u8 p0.view.m0, Value.int .u8 p0.view.m1, Value.int .u8 p0.view.m2, Value.int .u8 p0.view.m3, Value.int .u8 p0.view.m4, Value.int .u8 p0.view.m5, Value.int .u8 p0.view.m6, Value.int .u8 p0.view.m7] ++ ([Value.int .u8 p0.view.g0, Value.int .u8 p0.view.g1, Value.int .u8 p0.view.g2, Value.int .u8 p0.view.g3, Value.int .u8 p0.view.g4, Value.int .u8 p0.view.g5, Value.int .u8 p0.view.g6, Value.int .u8 p0.view.g7] ++ ([Value.int .u16 p0.view.s0, Value.int .u16 p0.view.s1, Value.int .u16 p0.view.s2, Value.int .u16 p0.view.s3, Value.int .u16 p0.view.s4, Value.int .u16 p0.view.s5, Value.int .u16 p0.view.s6, Value.int .u16 p0.view.s7] ++ ([Value.bool p0.view.t0, Value.bool p0.view.t1, Value.bool p0.view.t2, Value.bool p0.view.t3, Value.bool p0.view.t4, Value.bool p0.view.t5, Value.bool p0.view.t6, Value.bool p0.view.t7] ++ ((Value.int .i8 (-1)) :: ((Value.int .u8 p0.view.mode) :: [])))))))))) rfl rfl rfl) rfl) rfl ?_
          refine WL.sto (L' := [blk b101 58 ((Value.int .i64 i129) :: ((encS y151) ++ ((encS y162) ++ ([Value.bool p0.view.i0, Value.bool p0.view.i1, Value.bool p0.view.i2, Value.bool p0.view.i3, Value.bool p0.view.i4, Value.bool p0.view.i5, Value.bool p0.view.i6, Value.bool p0.view.i7] ++ ([Value.int .u8 p0.view.m0, Value.int .u8 p0.view.m1, Value.int .u8 p0.view.m2, Value.int .u8 p0.view.m3, Value.int .u8 p0.view.m4, Value.int .u8 p0.view.m5, Value.int .u8 p0.view.m6, Value.int .u8 p0.view.m7] ++ ([Value.int .u8 p0.view.g0, Value.int .u8 p0.view.g1, Value.int .u8 p0.view.g2, Value.int .u8 p0.view.g3, Value.int .u8 p0.view.g4, Value.int .u8 p0.view.g5, Value.int .u8 p0.view.g6, Value.int .u8 p0.view.g7] ++ ([Value.int .u16 p0.view.s0, Value.int .u16 p0.view.s1, Value.int .u16 p0.view.s2, Value.int .u16 p0.view.s3, Value.int .u16 p0.view.s4, Value.int .u16 p0.view.s5, Value.int .u16 p0.view.s6, Value.int .u16 p0.view.s7] ++ ([Value.bool p0.view.t0, Value.bool p0.view.t1, Value.bool p0.view.t2, Value.bool p0.view.t3, Value.bool p0.view.t4, Value.bool p0.view.t5, Value.bool p0.view.t6, Value.bool p0.view.t7] ++ ((Value.int .i8 (-1)) :: ((Value.int .u8 p0.view.mode) :: [])))))))))), blk b109 58 ((Value.int .i64 i129) :: ((encS y151) ++ ((encS y162) ++ ([Value.bool p0.view.i0, Value.bool p0.view.i1, Value.bool p0.view.i2, Value.bool p0.view.i3, Value.bool p0.view.i4, Value.bool p0.view.i5, Value.bool p0.view.i6, Value.bool p0.view.i7] ++ ([Value.int .u8 p0.view.m0, Value.int .u8 p0.view.m1, Value.int .u8 p0.view.m2, Value.int .u8 p0.view.m3, Value.int .u8 p0.view.m4, Value.int .u8 p0.view.m5, Value.int .u8 p0.view.m6, Value.int .u8 p0.view.m7] ++ ([Value.int .u8 p0.view.g0, Value.int .u8 p0.view.g1, Value.int .u8 p0.view.g2, Value.int .u8 p0.view.g3, Value.int .u8 p0.view.g4, Value.int .u8 p0.view.g5, Value.int .u8 p0.view.g6, Value.int .u8 p0.view.g7] ++ ([Value.int .u16 p0.view.s0, Value.int .u16 p0.view.s1, Value.int .u16 p0.view.s2, Value.int .u16 p0.view.s3, Value.int .u16 p0.view.s4, Value.int .u16 p0.view.s5, Value.int .u16 p0.view.s6, Value.int .u16 p0.view.s7] ++ ([Value.bool p0.view.t0, Value.bool p0.view.t1, Value.bool p0.view.t2, Value.bool p0.view.t3, Value.bool p0.view.t4, Value.bool p0.view.t5, Value.bool p0.view.t6, Value.bool p0.view.t7] ++ ((Value.int .i8 (-1)) :: ((Value.int .u8 p0.view.mode) :: []))))))))))]) (X.store (i := 1) (n := 55) (b := b109) (off := 0) (c := encC Cl.zero) (U := 58) (vs := (Value.int .i64 i129) :: ((encS y151) ++ ((encS y162) ++ ([Value.bool p0.view.i0, Value.bool p0.view.i1, Value.bool p0.view.i2, Value.bool p0.view.i3, Value.bool p0.view.i4, Value.bool p0.view.i5, Value.bool p0.view.i6, Value.bool p0.view.i7] ++ ([Value.int .u8 p0.view.m0, Value.int .u8 p0.view.m1, Value.int .u8 p0.view.m2, Value.int .u8 p0.view.m3, Value.int .u8 p0.view.m4, Value.int .u8 p0.view.m5, Value.int .u8 p0.view.m6, Value.int .u8 p0.view.m7] ++ ([Value.int .u8 p0.view.g0, Value.int .u8 p0.view.g1, Value.int .u8 p0.view.g2, Value.int .u8 p0.view.g3, Value.int .u8 p0.view.g4, Value.int .u8 p0.view.g5, Value.int .u8 p0.view.g6, Value.int .u8 p0.view.g7] ++ ([Value.int .u16 p0.view.s0, Value.int .u16 p0.view.s1, Value.int .u16 p0.view.s2, Value.int .u16 p0.view.s3, Value.int .u16 p0.view.s4, Value.int .u16 p0.view.s5, Value.int .u16 p0.view.s6, Value.int .u16 p0.view.s7] ++ ([Value.bool p0.view.t0, Value.bool p0.view.t1, Value.bool p0.view.t2, Value.bool p0.view.t3, Value.bool p0.view.t4, Value.bool p0.view.t5, Value.bool p0.view.t6, Value.bool p0.view.t7] ++ ((Value.int .i8 (-1)) :: ((Value.int .u8 p0.view.mode) :: [])))))))))) (v := Value.agg (List.toArray ((Value.int .i64 i129) :: ((encS y151) ++ ((encS y162) ++ ([Value.bool p0.view.i0, Value.bool p0.view.i1, Value.bool p0.view.i2, Value.bool p0.view.i3, Value.bool p0.view.i4, Value.bool p0.view.i5, Value.bool p0.view.i6, Value.bool p0.view.i7] ++ ([Value.int .u8 p0.view.m0, Value.int .u8 p0.view.m1, Value.int .u8 p0.view.m2, Value.int .u8 p0.view.m3, Value.int .u8 p0.view.m4, Value.int .u8 p0.view.m5, Value.int .u8 p0.view.m6, Value.int .u8 p0.view.m7] ++ ([Value.int .u8 p0.view.g0, Value.int .u8 p0.view.g1, Value.int .u8 p0.view.g2, Value.int .u8 p0.view.g3, Value.int .u8 p0.view.g4, Value.int .u8 p0.view.g5, Value.int .u8 p0.view.g6, Value.int .u8 p0.view.g7] ++ ([Value.int .u16 p0.view.s0, Value.int .u16 p0.view.s1, Value.int .u16 p0.view.s2, Value.int .u16 p0.view.s3, Value.int .u16 p0.view.s4, Value.int .u16 p0.view.s5, Value.int .u16 p0.view.s6, Value.int .u16 p0.view.s7] ++ ([Value.bool p0.view.t0, Value.bool p0.view.t1, Value.bool p0.view.t2, Value.bool p0.view.t3, Value.bool p0.view.t4, Value.bool p0.view.t5, Value.bool p0.view.t6, Value.bool p0.view.t7] ++ ((Value.int .i8 (-1)) :: ((Value.int .u8 p0.view.mode) :: [])))))))))))) (c' := (Value.int .i64 i129) :: ((encS y151) ++ ((encS y162) ++ ([Value.bool p0.view.i0, Value.bool p0.view.i1, Value.bool p0.view.i2, Value.bool p0.view.i3, Value.bool p0.view.i4, Value.bool p0.view.i5, Value.bool p0.view.i6, Value.bool p0.view.i7] ++ ([Value.int .u8 p0.view.m0, Value.int .u8 p0.view.m1, Value.int .u8 p0.view.m2, Value.int .u8 p0.view.m3, Value.int .u8 p0.view.m4, Value.int .u8 p0.view.m5, Value.int .u8 p0.view.m6, Value.int .u8 p0.view.m7] ++ ([Value.int .u8 p0.view.g0, Value.int .u8 p0.view.g1, Value.int .u8 p0.view.g2, Value.int .u8 p0.view.g3, Value.int .u8 p0.view.g4, Value.int .u8 p0.view.g5, Value.int .u8 p0.view.g6, Value.int .u8 p0.view.g7] ++ ([Value.int .u16 p0.view.s0, Value.int .u16 p0.view.s1, Value.int .u16 p0.view.s2, Value.int .u16 p0.view.s3, Value.int .u16 p0.view.s4, Value.int .u16 p0.view.s5, Value.int .u16 p0.view.s6, Value.int .u16 p0.view.s7] ++ ([Value.bool p0.view.t0, Value.bool p0.view.t1, Value.bool p0.view.t2, Value.bool p0.view.t3, Value.bool p0.view.t4, Value.bool p0.view.t5, Value.bool p0.view.t6, Value.bool p0.view.t7] ++ ((Value.int .i8 (-1)) :: ((Value.int .u8 p0.view.mode) :: [])))))))))) (hs201.here) rfl ag58.size (by exact s150) rfl rfl rfl rfl rfl rfl rfl) rfl rfl ?_
          intro w214 ht215
          have hs216 := hs201.trans ht215
          refine WL.nil ?_
          refine thenN ?_
          refine WC.ret ?_
          have hl217 := run_loadA (P := Try.prog) (n := 55) ag58 (hs216.at (i := 1) (off := 0) (n := 55) (cs := (Value.int .i64 i129) :: ((encS y151) ++ ((encS y162) ++ ([Value.bool p0.view.i0, Value.bool p0.view.i1, Value.bool p0.view.i2, Value.bool p0.view.i3, Value.bool p0.view.i4, Value.bool p0.view.i5, Value.bool p0.view.i6, Value.bool p0.view.i7] ++ ([Value.int .u8 p0.view.m0, Value.int .u8 p0.view.m1, Value.int .u8 p0.view.m2, Value.int .u8 p0.view.m3, Value.int .u8 p0.view.m4, Value.int .u8 p0.view.m5, Value.int .u8 p0.view.m6, Value.int .u8 p0.view.m7] ++ ([Value.int .u8 p0.view.g0, Value.int .u8 p0.view.g1, Value.int .u8 p0.view.g2, Value.int .u8 p0.view.g3, Value.int .u8 p0.view.g4, Value.int .u8 p0.view.g5, Value.int .u8 p0.view.g6, Value.int .u8 p0.view.g7] ++ ([Value.int .u16 p0.view.s0, Value.int .u16 p0.view.s1, Value.int .u16 p0.view.s2, Value.int .u16 p0.view.s3, Value.int .u16 p0.view.s4, Value.int .u16 p0.view.s5, Value.int .u16 p0.view.s6, Value.int .u16 p0.view.s7] ++ ([Value.bool p0.view.t0, Value.bool p0.view.t1, Value.bool p0.view.t2, Value.bool p0.view.t3, Value.bool p0.view.t4, Value.bool p0.view.t5, Value.bool p0.view.t6, Value.bool p0.view.t7] ++ ((Value.int .i8 (-1)) :: ((Value.int .u8 p0.view.mode) :: [])))))))))) rfl rfl rfl) rfl
          have ht218 := (hs216.here).perm (L' := []) (G := [blk b101 58 ((Value.int .i64 i129) :: ((encS y151) ++ ((encS y162) ++ ([Value.bool p0.view.i0, Value.bool p0.view.i1, Value.bool p0.view.i2, Value.bool p0.view.i3, Value.bool p0.view.i4, Value.bool p0.view.i5, Value.bool p0.view.i6, Value.bool p0.view.i7] ++ ([Value.int .u8 p0.view.m0, Value.int .u8 p0.view.m1, Value.int .u8 p0.view.m2, Value.int .u8 p0.view.m3, Value.int .u8 p0.view.m4, Value.int .u8 p0.view.m5, Value.int .u8 p0.view.m6, Value.int .u8 p0.view.m7] ++ ([Value.int .u8 p0.view.g0, Value.int .u8 p0.view.g1, Value.int .u8 p0.view.g2, Value.int .u8 p0.view.g3, Value.int .u8 p0.view.g4, Value.int .u8 p0.view.g5, Value.int .u8 p0.view.g6, Value.int .u8 p0.view.g7] ++ ([Value.int .u16 p0.view.s0, Value.int .u16 p0.view.s1, Value.int .u16 p0.view.s2, Value.int .u16 p0.view.s3, Value.int .u16 p0.view.s4, Value.int .u16 p0.view.s5, Value.int .u16 p0.view.s6, Value.int .u16 p0.view.s7] ++ ([Value.bool p0.view.t0, Value.bool p0.view.t1, Value.bool p0.view.t2, Value.bool p0.view.t3, Value.bool p0.view.t4, Value.bool p0.view.t5, Value.bool p0.view.t6, Value.bool p0.view.t7] ++ ((Value.int .i8 (-1)) :: ((Value.int .u8 p0.view.mode) :: [])))))))))), blk b109 58 ((Value.int .i64 i129) :: ((encS y151) ++ ((encS y162) ++ ([Value.bool p0.view.i0, Value.bool p0.view.i1, Value.bool p0.view.i2, Value.bool p0.view.i3, Value.bool p0.view.i4, Value.bool p0.view.i5, Value.bool p0.view.i6, Value.bool p0.view.i7] ++ ([Value.int .u8 p0.view.m0, Value.int .u8 p0.view.m1, Value.int .u8 p0.view.m2, Value.int .u8 p0.view.m3, Value.int .u8 p0.view.m4, Value.int .u8 p0.view.m5, Value.int .u8 p0.view.m6, Value.int .u8 p0.view.m7] ++ ([Value.int .u8 p0.view.g0, Value.int .u8 p0.view.g1, Value.int .u8 p0.view.g2, Value.int .u8 p0.view.g3, Value.int .u8 p0.view.g4, Value.int .u8 p0.view.g5, Value.int .u8 p0.view.g6, Value.int .u8 p0.view.g7] ++ ([Value.int .u16 p0.view.s0, Value.int .u16 p0.view.s1, Value.int .u16 p0.view.s2, Value.int .u16 p0.view.s3, Value.int .u16 p0.view.s4, Value.int .u16 p0.view.s5, Value.int .u16 p0.view.s6, Value.int .u16 p0.view.s7] ++ ([Value.bool p0.view.t0, Value.bool p0.view.t1, Value.bool p0.view.t2, Value.bool p0.view.t3, Value.bool p0.view.t4, Value.bool p0.view.t5, Value.bool p0.view.t6, Value.bool p0.view.t7] ++ ((Value.int .i8 (-1)) :: ((Value.int .u8 p0.view.mode) :: []))))))))))]) ((List.Perm.refl _))
          have hs219 := hs216.trans ht218
          obtain rfl := Option.some.inj (show some (⟨i129, y151, y162, (⟨p0.view.i0, p0.view.i1, p0.view.i2, p0.view.i3, p0.view.i4, p0.view.i5, p0.view.i6, p0.view.i7, p0.view.m0, p0.view.m1, p0.view.m2, p0.view.m3, p0.view.m4, p0.view.m5, p0.view.m6, p0.view.m7, p0.view.g0, p0.view.g1, p0.view.g2, p0.view.g3, p0.view.g4, p0.view.g5, p0.view.g6, p0.view.g7, p0.view.s0, p0.view.s1, p0.view.s2, p0.view.s3, p0.view.s4, p0.view.s5, p0.view.s6, p0.view.s7, p0.view.t0, p0.view.t1, p0.view.t2, p0.view.t3, p0.view.t4, p0.view.t5, p0.view.t6, p0.view.t7, -1, p0.view.mode⟩ : Vw)⟩ : Cl) = some r from h213)
          exact retCell (P := Try.prog) (n := 39) (fn := Try.f74) (R := fun v w' => v = Value.agg (List.toArray (encC (⟨i129, y151, y162, (⟨p0.view.i0, p0.view.i1, p0.view.i2, p0.view.i3, p0.view.i4, p0.view.i5, p0.view.i6, p0.view.i7, p0.view.m0, p0.view.m1, p0.view.m2, p0.view.m3, p0.view.m4, p0.view.m5, p0.view.m6, p0.view.m7, p0.view.g0, p0.view.g1, p0.view.g2, p0.view.g3, p0.view.g4, p0.view.g5, p0.view.g6, p0.view.g7, p0.view.s0, p0.view.s1, p0.view.s2, p0.view.s3, p0.view.s4, p0.view.s5, p0.view.s6, p0.view.s7, p0.view.t0, p0.view.t1, p0.view.t2, p0.view.t3, p0.view.t4, p0.view.t5, p0.view.t6, p0.view.t7, -1, p0.view.mode⟩ : Vw)⟩ : Cl))) ∧ St [] w w' []) (t := 2) (v := Value.agg (List.toArray ((Value.int .i64 i129) :: ((encS y151) ++ ((encS y162) ++ ([Value.bool p0.view.i0, Value.bool p0.view.i1, Value.bool p0.view.i2, Value.bool p0.view.i3, Value.bool p0.view.i4, Value.bool p0.view.i5, Value.bool p0.view.i6, Value.bool p0.view.i7] ++ ([Value.int .u8 p0.view.m0, Value.int .u8 p0.view.m1, Value.int .u8 p0.view.m2, Value.int .u8 p0.view.m3, Value.int .u8 p0.view.m4, Value.int .u8 p0.view.m5, Value.int .u8 p0.view.m6, Value.int .u8 p0.view.m7] ++ ([Value.int .u8 p0.view.g0, Value.int .u8 p0.view.g1, Value.int .u8 p0.view.g2, Value.int .u8 p0.view.g3, Value.int .u8 p0.view.g4, Value.int .u8 p0.view.g5, Value.int .u8 p0.view.g6, Value.int .u8 p0.view.g7] ++ ([Value.int .u16 p0.view.s0, Value.int .u16 p0.view.s1, Value.int .u16 p0.view.s2, Value.int .u16 p0.view.s3, Value.int .u16 p0.view.s4, Value.int .u16 p0.view.s5, Value.int .u16 p0.view.s6, Value.int .u16 p0.view.s7] ++ ([Value.bool p0.view.t0, Value.bool p0.view.t1, Value.bool p0.view.t2, Value.bool p0.view.t3, Value.bool p0.view.t4, Value.bool p0.view.t5, Value.bool p0.view.t6, Value.bool p0.view.t7] ++ ((Value.int .i8 (-1)) :: ((Value.int .u8 p0.view.mode) :: [])))))))))))) rfl s150 rfl hl217 ⟨rfl, hs219⟩
      · have h220 := ifF hc197 h196
        refine WL.val (R.gtrF (k := .i8) (a := p0.view.command) (b := 7) un54 rfl rfl hc197) rfl ?_
        refine WL.val (R.pickF (v := Value.bool false) rfl rfl) rfl ?_
        refine WL.nil ?_
        refine thenN ?_
        refine WC.condF rfl rfl ?_
        refine WC.skip ?_
        refine thenN ?_
        refine WC.seq ?_
        refine WC.seq ?_
        refine WC.region ?_
        refine WL.val (R.fieldAddr (o := 0) (o' := 13) fa58_3 (by exact s149) rfl) rfl ?_
        refine WL.val (R.fieldAddr (o := 13) (o' := 54) fa56_6 rfl rfl) rfl ?_
        refine WL.val (R.loadL (v := Value.int .u8 p0.view.mode) lf5 rfl (hs172.at (i := 0) (off := 54) (n := 1) (cs := [Value.int .u8 p0.view.mode]) rfl rfl rfl)) rfl ?_
        by_cases hc221 : 7 < p0.view.mode
        · have h222 := ifT hc221 h220
          refine WL.val (R.gtrT (k := .u8) (a := p0.view.mode) (b := 7) un5 rfl rfl hc221) rfl ?_
          refine WL.nil ?_
          refine thenN ?_
          refine WC.condT rfl rfl ?_
          refine WC.region ?_
          refine WL.val (R.fieldAddr (o := 0) (o' := 13) fa58_3 (by exact s149) rfl) rfl ?_
          refine WL.val (R.fieldAddr (o := 13) (o' := 54) fa56_6 rfl rfl) rfl ?_
          refine WL.sto (L' := [blk b101 58 ((Value.int .i64 i129) :: ((encS y151) ++ ((encS y162) ++ ([Value.bool p0.view.i0, Value.bool p0.view.i1, Value.bool p0.view.i2, Value.bool p0.view.i3, Value.bool p0.view.i4, Value.bool p0.view.i5, Value.bool p0.view.i6, Value.bool p0.view.i7] ++ ([Value.int .u8 p0.view.m0, Value.int .u8 p0.view.m1, Value.int .u8 p0.view.m2, Value.int .u8 p0.view.m3, Value.int .u8 p0.view.m4, Value.int .u8 p0.view.m5, Value.int .u8 p0.view.m6, Value.int .u8 p0.view.m7] ++ ([Value.int .u8 p0.view.g0, Value.int .u8 p0.view.g1, Value.int .u8 p0.view.g2, Value.int .u8 p0.view.g3, Value.int .u8 p0.view.g4, Value.int .u8 p0.view.g5, Value.int .u8 p0.view.g6, Value.int .u8 p0.view.g7] ++ ([Value.int .u16 p0.view.s0, Value.int .u16 p0.view.s1, Value.int .u16 p0.view.s2, Value.int .u16 p0.view.s3, Value.int .u16 p0.view.s4, Value.int .u16 p0.view.s5, Value.int .u16 p0.view.s6, Value.int .u16 p0.view.s7] ++ ([Value.bool p0.view.t0, Value.bool p0.view.t1, Value.bool p0.view.t2, Value.bool p0.view.t3, Value.bool p0.view.t4, Value.bool p0.view.t5, Value.bool p0.view.t6, Value.bool p0.view.t7] ++ ((Value.int .i8 p0.view.command) :: ((Value.int .u8 0) :: [])))))))))), blk b109 58 (encC Cl.zero)]) (X.store (i := 0) (n := 1) (b := b101) (off := 54) (c := (Value.int .i64 i129) :: ((encS y151) ++ ((encS y162) ++ (encV p0.view)))) (U := 58) (vs := [Value.int .u8 0]) (v := Value.int .u8 0) (c' := (Value.int .i64 i129) :: ((encS y151) ++ ((encS y162) ++ ([Value.bool p0.view.i0, Value.bool p0.view.i1, Value.bool p0.view.i2, Value.bool p0.view.i3, Value.bool p0.view.i4, Value.bool p0.view.i5, Value.bool p0.view.i6, Value.bool p0.view.i7] ++ ([Value.int .u8 p0.view.m0, Value.int .u8 p0.view.m1, Value.int .u8 p0.view.m2, Value.int .u8 p0.view.m3, Value.int .u8 p0.view.m4, Value.int .u8 p0.view.m5, Value.int .u8 p0.view.m6, Value.int .u8 p0.view.m7] ++ ([Value.int .u8 p0.view.g0, Value.int .u8 p0.view.g1, Value.int .u8 p0.view.g2, Value.int .u8 p0.view.g3, Value.int .u8 p0.view.g4, Value.int .u8 p0.view.g5, Value.int .u8 p0.view.g6, Value.int .u8 p0.view.g7] ++ ([Value.int .u16 p0.view.s0, Value.int .u16 p0.view.s1, Value.int .u16 p0.view.s2, Value.int .u16 p0.view.s3, Value.int .u16 p0.view.s4, Value.int .u16 p0.view.s5, Value.int .u16 p0.view.s6, Value.int .u16 p0.view.s7] ++ ([Value.bool p0.view.t0, Value.bool p0.view.t1, Value.bool p0.view.t2, Value.bool p0.view.t3, Value.bool p0.view.t4, Value.bool p0.view.t5, Value.bool p0.view.t6, Value.bool p0.view.t7] ++ ((Value.int .i8 p0.view.command) :: ((Value.int .u8 0) :: [])))))))))) (hs172.here) rfl lf5.size rfl rfl rfl rfl rfl rfl rfl rfl) rfl rfl ?_
          intro w223 ht224
          have hs225 := hs172.trans ht224
          refine WL.nil ?_
          refine thenN ?_
          refine WC.seq ?_
          refine WC.region ?_
          refine WL.val (R.loadA (cs := (Value.int .i64 i129) :: ((encS y151) ++ ((encS y162) ++ ([Value.bool p0.view.i0, Value.bool p0.view.i1, Value.bool p0.view.i2, Value.bool p0.view.i3, Value.bool p0.view.i4, Value.bool p0.view.i5, Value.bool p0.view.i6, Value.bool p0.view.i7] ++ ([Value.int .u8 p0.view.m0, Value.int .u8 p0.view.m1, Value.int .u8 p0.view.m2, Value.int .u8 p0.view.m3, Value.int .u8 p0.view.m4, Value.int .u8 p0.view.m5, Value.int .u8 p0.view.m6, Value.int .u8 p0.view.m7] ++ ([Value.int .u8 p0.view.g0, Value.int .u8 p0.view.g1, Value.int .u8 p0.view.g2, Value.int .u8 p0.view.g3, Value.int .u8 p0.view.g4, Value.int .u8 p0.view.g5, Value.int .u8 p0.view.g6, Value.int .u8 p0.view.g7] ++ ([Value.int .u16 p0.view.s0, Value.int .u16 p0.view.s1, Value.int .u16 p0.view.s2, Value.int .u16 p0.view.s3, Value.int .u16 p0.view.s4, Value.int .u16 p0.view.s5, Value.int .u16 p0.view.s6, Value.int .u16 p0.view.s7] ++ ([Value.bool p0.view.t0, Value.bool p0.view.t1, Value.bool p0.view.t2, Value.bool p0.view.t3, Value.bool p0.view.t4, Value.bool p0.view.t5, Value.bool p0.view.t6, Value.bool p0.view.t7] ++ ((Value.int .i8 p0.view.command) :: ((Value.int .u8 0) :: [])))))))))) (n := 55) ag58 (by exact s149) (hs225.at (i := 0) (off := 0) (n := 55) (cs := (Value.int .i64 i129) :: ((encS y151) ++ ((encS y162) ++ ([Value.bool p0.view.i0, Value.bool p0.view.i1, Value.bool p0.view.i2, Value.bool p0.view.i3, Value.bool p0.view.i4, Value.bool p0.view.i5, Value.bool p0.view.i6, Value.bool p0.view.i7] ++ ([Value.int .u8 p0.view.m0, Value.int .u8 p0.view.m1, Value.int .u8 p0.view.m2, Value.int .u8 p0.view.m3, Value.int .u8 p0.view.m4, Value.int .u8 p0.view.m5, Value.int .u8 p0.view.m6, Value.int .u8 p0.view.m7] ++ ([Value.int .u8 p0.view.g0, Value.int .u8 p0.view.g1, Value.int .u8 p0.view.g2, Value.int .u8 p0.view.g3, Value.int .u8 p0.view.g4, Value.int .u8 p0.view.g5, Value.int .u8 p0.view.g6, Value.int .u8 p0.view.g7] ++ ([Value.int .u16 p0.view.s0, Value.int .u16 p0.view.s1, Value.int .u16 p0.view.s2, Value.int .u16 p0.view.s3, Value.int .u16 p0.view.s4, Value.int .u16 p0.view.s5, Value.int .u16 p0.view.s6, Value.int .u16 p0.view.s7] ++ ([Value.bool p0.view.t0, Value.bool p0.view.t1, Value.bool p0.view.t2, Value.bool p0.view.t3, Value.bool p0.view.t4, Value.bool p0.view.t5, Value.bool p0.view.t6, Value.bool p0.view.t7] ++ ((Value.int .i8 p0.view.command) :: ((Value.int .u8 0) :: [])))))))))) rfl rfl rfl) rfl) rfl ?_
          refine WL.sto (L' := [blk b101 58 ((Value.int .i64 i129) :: ((encS y151) ++ ((encS y162) ++ ([Value.bool p0.view.i0, Value.bool p0.view.i1, Value.bool p0.view.i2, Value.bool p0.view.i3, Value.bool p0.view.i4, Value.bool p0.view.i5, Value.bool p0.view.i6, Value.bool p0.view.i7] ++ ([Value.int .u8 p0.view.m0, Value.int .u8 p0.view.m1, Value.int .u8 p0.view.m2, Value.int .u8 p0.view.m3, Value.int .u8 p0.view.m4, Value.int .u8 p0.view.m5, Value.int .u8 p0.view.m6, Value.int .u8 p0.view.m7] ++ ([Value.int .u8 p0.view.g0, Value.int .u8 p0.view.g1, Value.int .u8 p0.view.g2, Value.int .u8 p0.view.g3, Value.int .u8 p0.view.g4, Value.int .u8 p0.view.g5, Value.int .u8 p0.view.g6, Value.int .u8 p0.view.g7] ++ ([Value.int .u16 p0.view.s0, Value.int .u16 p0.view.s1, Value.int .u16 p0.view.s2, Value.int .u16 p0.view.s3, Value.int .u16 p0.view.s4, Value.int .u16 p0.view.s5, Value.int .u16 p0.view.s6, Value.int .u16 p0.view.s7] ++ ([Value.bool p0.view.t0, Value.bool p0.view.t1, Value.bool p0.view.t2, Value.bool p0.view.t3, Value.bool p0.view.t4, Value.bool p0.view.t5, Value.bool p0.view.t6, Value.bool p0.view.t7] ++ ((Value.int .i8 p0.view.command) :: ((Value.int .u8 0) :: [])))))))))), blk b109 58 ((Value.int .i64 i129) :: ((encS y151) ++ ((encS y162) ++ ([Value.bool p0.view.i0, Value.bool p0.view.i1, Value.bool p0.view.i2, Value.bool p0.view.i3, Value.bool p0.view.i4, Value.bool p0.view.i5, Value.bool p0.view.i6, Value.bool p0.view.i7] ++ ([Value.int .u8 p0.view.m0, Value.int .u8 p0.view.m1, Value.int .u8 p0.view.m2, Value.int .u8 p0.view.m3, Value.int .u8 p0.view.m4, Value.int .u8 p0.view.m5, Value.int .u8 p0.view.m6, Value.int .u8 p0.view.m7] ++ ([Value.int .u8 p0.view.g0, Value.int .u8 p0.view.g1, Value.int .u8 p0.view.g2, Value.int .u8 p0.view.g3, Value.int .u8 p0.view.g4, Value.int .u8 p0.view.g5, Value.int .u8 p0.view.g6, Value.int .u8 p0.view.g7] ++ ([Value.int .u16 p0.view.s0, Value.int .u16 p0.view.s1, Value.int .u16 p0.view.s2, Value.int .u16 p0.view.s3, Value.int .u16 p0.view.s4, Value.int .u16 p0.view.s5, Value.int .u16 p0.view.s6, Value.int .u16 p0.view.s7] ++ ([Value.bool p0.view.t0, Value.bool p0.view.t1, Value.bool p0.view.t2, Value.bool p0.view.t3, Value.bool p0.view.t4, Value.bool p0.view.t5, Value.bool p0.view.t6, Value.bool p0.view.t7] ++ ((Value.int .i8 p0.view.command) :: ((Value.int .u8 0) :: []))))))))))]) (X.store (i := 1) (n := 55) (b := b109) (off := 0) (c := encC Cl.zero) (U := 58) (vs := (Value.int .i64 i129) :: ((encS y151) ++ ((encS y162) ++ ([Value.bool p0.view.i0, Value.bool p0.view.i1, Value.bool p0.view.i2, Value.bool p0.view.i3, Value.bool p0.view.i4, Value.bool p0.view.i5, Value.bool p0.view.i6, Value.bool p0.view.i7] ++ ([Value.int .u8 p0.view.m0, Value.int .u8 p0.view.m1, Value.int .u8 p0.view.m2, Value.int .u8 p0.view.m3, Value.int .u8 p0.view.m4, Value.int .u8 p0.view.m5, Value.int .u8 p0.view.m6, Value.int .u8 p0.view.m7] ++ ([Value.int .u8 p0.view.g0, Value.int .u8 p0.view.g1, Value.int .u8 p0.view.g2, Value.int .u8 p0.view.g3, Value.int .u8 p0.view.g4, Value.int .u8 p0.view.g5, Value.int .u8 p0.view.g6, Value.int .u8 p0.view.g7] ++ ([Value.int .u16 p0.view.s0, Value.int .u16 p0.view.s1, Value.int .u16 p0.view.s2, Value.int .u16 p0.view.s3, Value.int .u16 p0.view.s4, Value.int .u16 p0.view.s5, Value.int .u16 p0.view.s6, Value.int .u16 p0.view.s7] ++ ([Value.bool p0.view.t0, Value.bool p0.view.t1, Value.bool p0.view.t2, Value.bool p0.view.t3, Value.bool p0.view.t4, Value.bool p0.view.t5, Value.bool p0.view.t6, Value.bool p0.view.t7] ++ ((Value.int .i8 p0.view.command) :: ((Value.int .u8 0) :: [])))))))))) (v := Value.agg (List.toArray ((Value.int .i64 i129) :: ((encS y151) ++ ((encS y162) ++ ([Value.bool p0.view.i0, Value.bool p0.view.i1, Value.bool p0.view.i2, Value.bool p0.view.i3, Value.bool p0.view.i4, Value.bool p0.view.i5, Value.bool p0.view.i6, Value.bool p0.view.i7] ++ ([Value.int .u8 p0.view.m0, Value.int .u8 p0.view.m1, Value.int .u8 p0.view.m2, Value.int .u8 p0.view.m3, Value.int .u8 p0.view.m4, Value.int .u8 p0.view.m5, Value.int .u8 p0.view.m6, Value.int .u8 p0.view.m7] ++ ([Value.int .u8 p0.view.g0, Value.int .u8 p0.view.g1, Value.int .u8 p0.view.g2, Value.int .u8 p0.view.g3, Value.int .u8 p0.view.g4, Value.int .u8 p0.view.g5, Value.int .u8 p0.view.g6, Value.int .u8 p0.view.g7] ++ ([Value.int .u16 p0.view.s0, Value.int .u16 p0.view.s1, Value.int .u16 p0.view.s2, Value.int .u16 p0.view.s3, Value.int .u16 p0.view.s4, Value.int .u16 p0.view.s5, Value.int .u16 p0.view.s6, Value.int .u16 p0.view.s7] ++ ([Value.bool p0.view.t0, Value.bool p0.view.t1, Value.bool p0.view.t2, Value.bool p0.view.t3, Value.bool p0.view.t4, Value.bool p0.view.t5, Value.bool p0.view.t6, Value.bool p0.view.t7] ++ ((Value.int .i8 p0.view.command) :: ((Value.int .u8 0) :: [])))))))))))) (c' := (Value.int .i64 i129) :: ((encS y151) ++ ((encS y162) ++ ([Value.bool p0.view.i0, Value.bool p0.view.i1, Value.bool p0.view.i2, Value.bool p0.view.i3, Value.bool p0.view.i4, Value.bool p0.view.i5, Value.bool p0.view.i6, Value.bool p0.view.i7] ++ ([Value.int .u8 p0.view.m0, Value.int .u8 p0.view.m1, Value.int .u8 p0.view.m2, Value.int .u8 p0.view.m3, Value.int .u8 p0.view.m4, Value.int .u8 p0.view.m5, Value.int .u8 p0.view.m6, Value.int .u8 p0.view.m7] ++ ([Value.int .u8 p0.view.g0, Value.int .u8 p0.view.g1, Value.int .u8 p0.view.g2, Value.int .u8 p0.view.g3, Value.int .u8 p0.view.g4, Value.int .u8 p0.view.g5, Value.int .u8 p0.view.g6, Value.int .u8 p0.view.g7] ++ ([Value.int .u16 p0.view.s0, Value.int .u16 p0.view.s1, Value.int .u16 p0.view.s2, Value.int .u16 p0.view.s3, Value.int .u16 p0.view.s4, Value.int .u16 p0.view.s5, Value.int .u16 p0.view.s6, Value.int .u16 p0.view.s7] ++ ([Value.bool p0.view.t0, Value.bool p0.view.t1, Value.bool p0.view.t2, Value.bool p0.view.t3, Value.bool p0.view.t4, Value.bool p0.view.t5, Value.bool p0.view.t6, Value.bool p0.view.t7] ++ ((Value.int .i8 p0.view.command) :: ((Value.int .u8 0) :: [])))))))))) (hs225.here) rfl ag58.size (by exact s150) rfl rfl rfl rfl rfl rfl rfl) rfl rfl ?_
          intro w226 ht227
          have hs228 := hs225.trans ht227
          refine WL.nil ?_
          refine thenN ?_
          refine WC.ret ?_
          have hl229 := run_loadA (P := Try.prog) (n := 55) ag58 (hs228.at (i := 1) (off := 0) (n := 55) (cs := (Value.int .i64 i129) :: ((encS y151) ++ ((encS y162) ++ ([Value.bool p0.view.i0, Value.bool p0.view.i1, Value.bool p0.view.i2, Value.bool p0.view.i3, Value.bool p0.view.i4, Value.bool p0.view.i5, Value.bool p0.view.i6, Value.bool p0.view.i7] ++ ([Value.int .u8 p0.view.m0, Value.int .u8 p0.view.m1, Value.int .u8 p0.view.m2, Value.int .u8 p0.view.m3, Value.int .u8 p0.view.m4, Value.int .u8 p0.view.m5, Value.int .u8 p0.view.m6, Value.int .u8 p0.view.m7] ++ ([Value.int .u8 p0.view.g0, Value.int .u8 p0.view.g1, Value.int .u8 p0.view.g2, Value.int .u8 p0.view.g3, Value.int .u8 p0.view.g4, Value.int .u8 p0.view.g5, Value.int .u8 p0.view.g6, Value.int .u8 p0.view.g7] ++ ([Value.int .u16 p0.view.s0, Value.int .u16 p0.view.s1, Value.int .u16 p0.view.s2, Value.int .u16 p0.view.s3, Value.int .u16 p0.view.s4, Value.int .u16 p0.view.s5, Value.int .u16 p0.view.s6, Value.int .u16 p0.view.s7] ++ ([Value.bool p0.view.t0, Value.bool p0.view.t1, Value.bool p0.view.t2, Value.bool p0.view.t3, Value.bool p0.view.t4, Value.bool p0.view.t5, Value.bool p0.view.t6, Value.bool p0.view.t7] ++ ((Value.int .i8 p0.view.command) :: ((Value.int .u8 0) :: [])))))))))) rfl rfl rfl) rfl
          have ht230 := (hs228.here).perm (L' := []) (G := [blk b101 58 ((Value.int .i64 i129) :: ((encS y151) ++ ((encS y162) ++ ([Value.bool p0.view.i0, Value.bool p0.view.i1, Value.bool p0.view.i2, Value.bool p0.view.i3, Value.bool p0.view.i4, Value.bool p0.view.i5, Value.bool p0.view.i6, Value.bool p0.view.i7] ++ ([Value.int .u8 p0.view.m0, Value.int .u8 p0.view.m1, Value.int .u8 p0.view.m2, Value.int .u8 p0.view.m3, Value.int .u8 p0.view.m4, Value.int .u8 p0.view.m5, Value.int .u8 p0.view.m6, Value.int .u8 p0.view.m7] ++ ([Value.int .u8 p0.view.g0, Value.int .u8 p0.view.g1, Value.int .u8 p0.view.g2, Value.int .u8 p0.view.g3, Value.int .u8 p0.view.g4, Value.int .u8 p0.view.g5, Value.int .u8 p0.view.g6, Value.int .u8 p0.view.g7] ++ ([Value.int .u16 p0.view.s0, Value.int .u16 p0.view.s1, Value.int .u16 p0.view.s2, Value.int .u16 p0.view.s3, Value.int .u16 p0.view.s4, Value.int .u16 p0.view.s5, Value.int .u16 p0.view.s6, Value.int .u16 p0.view.s7] ++ ([Value.bool p0.view.t0, Value.bool p0.view.t1, Value.bool p0.view.t2, Value.bool p0.view.t3, Value.bool p0.view.t4, Value.bool p0.view.t5, Value.bool p0.view.t6, Value.bool p0.view.t7] ++ ((Value.int .i8 p0.view.command) :: ((Value.int .u8 0) :: [])))))))))), blk b109 58 ((Value.int .i64 i129) :: ((encS y151) ++ ((encS y162) ++ ([Value.bool p0.view.i0, Value.bool p0.view.i1, Value.bool p0.view.i2, Value.bool p0.view.i3, Value.bool p0.view.i4, Value.bool p0.view.i5, Value.bool p0.view.i6, Value.bool p0.view.i7] ++ ([Value.int .u8 p0.view.m0, Value.int .u8 p0.view.m1, Value.int .u8 p0.view.m2, Value.int .u8 p0.view.m3, Value.int .u8 p0.view.m4, Value.int .u8 p0.view.m5, Value.int .u8 p0.view.m6, Value.int .u8 p0.view.m7] ++ ([Value.int .u8 p0.view.g0, Value.int .u8 p0.view.g1, Value.int .u8 p0.view.g2, Value.int .u8 p0.view.g3, Value.int .u8 p0.view.g4, Value.int .u8 p0.view.g5, Value.int .u8 p0.view.g6, Value.int .u8 p0.view.g7] ++ ([Value.int .u16 p0.view.s0, Value.int .u16 p0.view.s1, Value.int .u16 p0.view.s2, Value.int .u16 p0.view.s3, Value.int .u16 p0.view.s4, Value.int .u16 p0.view.s5, Value.int .u16 p0.view.s6, Value.int .u16 p0.view.s7] ++ ([Value.bool p0.view.t0, Value.bool p0.view.t1, Value.bool p0.view.t2, Value.bool p0.view.t3, Value.bool p0.view.t4, Value.bool p0.view.t5, Value.bool p0.view.t6, Value.bool p0.view.t7] ++ ((Value.int .i8 p0.view.command) :: ((Value.int .u8 0) :: []))))))))))]) ((List.Perm.refl _))
          have hs231 := hs228.trans ht230
          obtain rfl := Option.some.inj (show some (⟨i129, y151, y162, (⟨p0.view.i0, p0.view.i1, p0.view.i2, p0.view.i3, p0.view.i4, p0.view.i5, p0.view.i6, p0.view.i7, p0.view.m0, p0.view.m1, p0.view.m2, p0.view.m3, p0.view.m4, p0.view.m5, p0.view.m6, p0.view.m7, p0.view.g0, p0.view.g1, p0.view.g2, p0.view.g3, p0.view.g4, p0.view.g5, p0.view.g6, p0.view.g7, p0.view.s0, p0.view.s1, p0.view.s2, p0.view.s3, p0.view.s4, p0.view.s5, p0.view.s6, p0.view.s7, p0.view.t0, p0.view.t1, p0.view.t2, p0.view.t3, p0.view.t4, p0.view.t5, p0.view.t6, p0.view.t7, p0.view.command, 0⟩ : Vw)⟩ : Cl) = some r from h222)
          exact retCell (P := Try.prog) (n := 39) (fn := Try.f74) (R := fun v w' => v = Value.agg (List.toArray (encC (⟨i129, y151, y162, (⟨p0.view.i0, p0.view.i1, p0.view.i2, p0.view.i3, p0.view.i4, p0.view.i5, p0.view.i6, p0.view.i7, p0.view.m0, p0.view.m1, p0.view.m2, p0.view.m3, p0.view.m4, p0.view.m5, p0.view.m6, p0.view.m7, p0.view.g0, p0.view.g1, p0.view.g2, p0.view.g3, p0.view.g4, p0.view.g5, p0.view.g6, p0.view.g7, p0.view.s0, p0.view.s1, p0.view.s2, p0.view.s3, p0.view.s4, p0.view.s5, p0.view.s6, p0.view.s7, p0.view.t0, p0.view.t1, p0.view.t2, p0.view.t3, p0.view.t4, p0.view.t5, p0.view.t6, p0.view.t7, p0.view.command, 0⟩ : Vw)⟩ : Cl))) ∧ St [] w w' []) (t := 2) (v := Value.agg (List.toArray ((Value.int .i64 i129) :: ((encS y151) ++ ((encS y162) ++ ([Value.bool p0.view.i0, Value.bool p0.view.i1, Value.bool p0.view.i2, Value.bool p0.view.i3, Value.bool p0.view.i4, Value.bool p0.view.i5, Value.bool p0.view.i6, Value.bool p0.view.i7] ++ ([Value.int .u8 p0.view.m0, Value.int .u8 p0.view.m1, Value.int .u8 p0.view.m2, Value.int .u8 p0.view.m3, Value.int .u8 p0.view.m4, Value.int .u8 p0.view.m5, Value.int .u8 p0.view.m6, Value.int .u8 p0.view.m7] ++ ([Value.int .u8 p0.view.g0, Value.int .u8 p0.view.g1, Value.int .u8 p0.view.g2, Value.int .u8 p0.view.g3, Value.int .u8 p0.view.g4, Value.int .u8 p0.view.g5, Value.int .u8 p0.view.g6, Value.int .u8 p0.view.g7] ++ ([Value.int .u16 p0.view.s0, Value.int .u16 p0.view.s1, Value.int .u16 p0.view.s2, Value.int .u16 p0.view.s3, Value.int .u16 p0.view.s4, Value.int .u16 p0.view.s5, Value.int .u16 p0.view.s6, Value.int .u16 p0.view.s7] ++ ([Value.bool p0.view.t0, Value.bool p0.view.t1, Value.bool p0.view.t2, Value.bool p0.view.t3, Value.bool p0.view.t4, Value.bool p0.view.t5, Value.bool p0.view.t6, Value.bool p0.view.t7] ++ ((Value.int .i8 p0.view.command) :: ((Value.int .u8 0) :: [])))))))))))) rfl s150 rfl hl229 ⟨rfl, hs231⟩
        · have h232 := ifF hc221 h220
          refine WL.val (R.gtrF (k := .u8) (a := p0.view.mode) (b := 7) un5 rfl rfl hc221) rfl ?_
          refine WL.nil ?_
          refine thenN ?_
          refine WC.condF rfl rfl ?_
          refine WC.skip ?_
          refine thenN ?_
          refine WC.seq ?_
          refine WC.region ?_
          refine WL.val (R.loadA (cs := (Value.int .i64 i129) :: ((encS y151) ++ ((encS y162) ++ (encV p0.view)))) (n := 55) ag58 (by exact s149) (hs172.at (i := 0) (off := 0) (n := 55) (cs := (Value.int .i64 i129) :: ((encS y151) ++ ((encS y162) ++ (encV p0.view)))) rfl rfl rfl) rfl) rfl ?_
          refine WL.sto (L' := [blk b101 58 ((Value.int .i64 i129) :: ((encS y151) ++ ((encS y162) ++ (encV p0.view)))), blk b109 58 ((Value.int .i64 i129) :: ((encS y151) ++ ((encS y162) ++ (encV p0.view))))]) (X.store (i := 1) (n := 55) (b := b109) (off := 0) (c := encC Cl.zero) (U := 58) (vs := (Value.int .i64 i129) :: ((encS y151) ++ ((encS y162) ++ (encV p0.view)))) (v := Value.agg (List.toArray ((Value.int .i64 i129) :: ((encS y151) ++ ((encS y162) ++ (encV p0.view)))))) (c' := (Value.int .i64 i129) :: ((encS y151) ++ ((encS y162) ++ (encV p0.view)))) (hs172.here) rfl ag58.size (by exact s150) rfl rfl rfl rfl rfl rfl rfl) rfl rfl ?_
          intro w233 ht234
          have hs235 := hs172.trans ht234
          refine WL.nil ?_
          refine thenN ?_
          refine WC.ret ?_
          have hl236 := run_loadA (P := Try.prog) (n := 55) ag58 (hs235.at (i := 1) (off := 0) (n := 55) (cs := (Value.int .i64 i129) :: ((encS y151) ++ ((encS y162) ++ (encV p0.view)))) rfl rfl rfl) rfl
          have ht237 := (hs235.here).perm (L' := []) (G := [blk b101 58 ((Value.int .i64 i129) :: ((encS y151) ++ ((encS y162) ++ (encV p0.view)))), blk b109 58 ((Value.int .i64 i129) :: ((encS y151) ++ ((encS y162) ++ (encV p0.view))))]) ((List.Perm.refl _))
          have hs238 := hs235.trans ht237
          obtain rfl := Option.some.inj (show some (⟨i129, y151, y162, p0.view⟩ : Cl) = some r from h232)
          exact retCell (P := Try.prog) (n := 39) (fn := Try.f74) (R := fun v w' => v = Value.agg (List.toArray (encC (⟨i129, y151, y162, p0.view⟩ : Cl))) ∧ St [] w w' []) (t := 2) (v := Value.agg (List.toArray ((Value.int .i64 i129) :: ((encS y151) ++ ((encS y162) ++ (encV p0.view)))))) rfl s150 rfl hl236 ⟨rfl, hs238⟩

theorem rplaino13_ok (w : World) (ok : Nat → Prop) (p0 : Int) (p1 : Rw) (a1 : Option Addr) (c1 : Nat) (he1 : elems heldW w ok a1 p1.table) (hc1 : p1.table.length ≤ c1) {r : Rw} (h : rplaino13 p0 p1 = some r) :
    Ret Try.prog 72 [Value.int .i64 p0, Value.agg (List.toArray (encR p1 (Value.slice a1 p1.table.length c1)))] w (fun v w' => ∃ ra0, ∃ rc0, v = Value.agg (List.toArray (encR r (Value.slice ra0 r.table.length rc0))) ∧ St [] w w' [gsl 202 heldE (Value.slice ra0 r.table.length rc0) r.table]) := by
  rw [rplaino13] at h
  have hs100 : St [] w w [] := St.start w
  have he1001 := el0 (L0 := []) (fun b _ => out_nil b) he1
  refine enter (n := 61) Try.func72 rfl rfl rfl ?_
  refine WC.seq ?_
  refine WC.region ?_
  refine WL.new (L' := fun b102 => [blk b102 143 (encR p1 (Value.slice a1 p1.table.length c1))]) (f := fun b102 => Value.pointer (some ⟨b102, 0, none⟩)) (X.box (v := Value.agg (List.toArray (encR p1 (Value.slice a1 p1.table.length c1)))) (c := encR p1 (Value.slice a1 p1.table.length c1)) (hs100.here) rfl rfl (fun _ => rfl)) rfl ?_
  intro b102 w103 ht108 he105 hz106
  have hs109 := hs100.trans ht108
  refine WL.new (L' := fun b110 => [blk b102 143 (encR p1 (Value.slice a1 p1.table.length c1)), blk b110 143 (encR Rw.none (Value.slice none 0 0))]) (f := fun b110 => Value.pointer (some ⟨b110, 0, none⟩)) (X.alloc (c := encR Rw.none (Value.slice none 0 0)) (hs109.here) zr143 rfl (fun _ => rfl)) rfl ?_
  intro b110 w111 ht116 he113 hz114
  have hs117 := hs109.trans ht116
  refine WL.nil ?_
  refine thenN ?_
  refine WC.seq ?_
  refine WC.region ?_
  have hd118 : ∀ w, (Instr.build 143 #[]).run Try.prog w = .ok (Value.agg (List.toArray (encR Rw.none (Value.slice none 0 0)))) w := fun _ => by kernel_rfl
  refine WL.val (R.build (vs := []) rfl hd118) rfl ?_
  refine WL.new (L' := fun b119 => [blk b102 143 (encR p1 (Value.slice a1 p1.table.length c1)), blk b110 143 (encR Rw.none (Value.slice none 0 0)), blk b119 143 (encR Rw.none (Value.slice none 0 0))]) (f := fun b119 => Value.pointer (some ⟨b119, 0, none⟩)) (X.alloc (c := encR Rw.none (Value.slice none 0 0)) (hs117.here) zr143 rfl (fun _ => rfl)) rfl ?_
  intro b119 w120 ht125 he122 hz123
  have hs126 := hs117.trans ht125
  refine WL.sto (L' := [blk b102 143 (encR p1 (Value.slice a1 p1.table.length c1)), blk b110 143 (encR Rw.none (Value.slice none 0 0)), blk b119 143 (encR Rw.none (Value.slice none 0 0))]) (X.store (i := 2) (n := 57) (b := b119) (off := 0) (c := encR Rw.none (Value.slice none 0 0)) (U := 143) (vs := encR Rw.none (Value.slice none 0 0)) (v := Value.agg (List.toArray (encR Rw.none (Value.slice none 0 0)))) (c' := encR Rw.none (Value.slice none 0 0)) (hs126.here) rfl ag143.size rfl rfl rfl rfl rfl rfl rfl rfl) rfl rfl ?_
  intro w127 ht128
  have hs129 := hs126.trans ht128
  refine WL.nil ?_
  refine thenN ?_
  refine WC.seq ?_
  refine WC.seq ?_
  refine WC.region ?_
  refine WL.val (R.move (v := Value.int .i64 p0) rfl) rfl ?_
  by_cases hc130 : p0 < 0
  · have h131 := ifT hc130 h
    refine WL.val (R.lssT (k := .i64) (a := p0) (b := 0) un3 rfl rfl hc130) rfl ?_
    refine WL.val (R.move (v := Value.bool true) rfl) rfl ?_
    refine WL.guardN (e := 11) (v := .bool true) rfl rfl rfl rfl ?_
    refine WL.guardN (e := 11) (v := .bool true) rfl rfl rfl rfl ?_
    refine WL.val (R.pickT (v := Value.bool true) rfl rfl) rfl ?_
    refine WL.val (R.move (v := Value.bool true) rfl) rfl ?_
    refine WL.guardN (e := 15) (v := .bool true) rfl rfl rfl rfl ?_
    refine WL.guardN (e := 15) (v := .bool true) rfl rfl rfl rfl ?_
    refine WL.guardN (e := 15) (v := .bool true) rfl rfl rfl rfl ?_
    refine WL.val (R.pickT (v := Value.bool true) rfl rfl) rfl ?_
    refine WL.nil ?_
    refine thenN ?_
    refine WC.condT rfl rfl ?_
    refine WC.seq ?_
    refine WC.region ?_
    refine WL.val (R.loadA (cs := encR Rw.none (Value.slice none 0 0)) (n := 57) ag143 rfl (hs129.at (i := 2) (off := 0) (n := 57) (cs := encR Rw.none (Value.slice none 0 0)) rfl rfl rfl) rfl) rfl ?_
    refine WL.sto (L' := [blk b102 143 (encR p1 (Value.slice a1 p1.table.length c1)), blk b110 143 (encR Rw.none (Value.slice none 0 0)), blk b119 143 (encR Rw.none (Value.slice none 0 0))]) (X.store (i := 1) (n := 57) (b := b110) (off := 0) (c := encR Rw.none (Value.slice none 0 0)) (U := 143) (vs := encR Rw.none (Value.slice none 0 0)) (v := Value.agg (List.toArray (encR Rw.none (Value.slice none 0 0)))) (c' := encR Rw.none (Value.slice none 0 0)) (hs129.here) rfl ag143.size rfl rfl rfl rfl rfl rfl rfl rfl) rfl rfl ?_
    intro w132 ht133
    have hs134 := hs129.trans ht133
    refine WL.nil ?_
    refine thenN ?_
    refine WC.ret ?_
    have ht135 := (hs134.here).addNil 202 heldE rfl
    have hs137 := hs134.trans ht135
    have hl138 := run_loadA (P := Try.prog) (n := 57) ag143 (hs137.at (i := 1) (off := 0) (n := 57) (cs := (Value.bool Rw.none.is) :: ((encC Rw.none.cell) ++ ((Value.slice none (([] : List Hd).length) 0) :: []))) rfl rfl rfl) rfl
    have ht139 := (hs137.here).perm (L' := [gsl 202 heldE (Value.slice none 0 0) ([] : List Hd)]) (G := [blk b102 143 (encR p1 (Value.slice a1 p1.table.length c1)), blk b110 143 ((Value.bool Rw.none.is) :: ((encC Rw.none.cell) ++ ((Value.slice none (([] : List Hd).length) 0) :: []))), blk b119 143 (encR Rw.none (Value.slice none 0 0))]) (((List.perm_middle (l₁ := [blk b102 143 (encR p1 (Value.slice a1 p1.table.length c1)), blk b110 143 ((Value.bool Rw.none.is) :: ((encC Rw.none.cell) ++ ((Value.slice none (([] : List Hd).length) 0) :: []))), blk b119 143 (encR Rw.none (Value.slice none 0 0))]) (a := gsl 202 heldE (Value.slice none 0 0) ([] : List Hd)) (l₂ := [])).trans (List.Perm.cons _ (List.Perm.refl _))))
    have hs140 := hs137.trans ht139
    obtain rfl := Option.some.inj (show some (⟨Rw.none.is, Rw.none.cell, ([] : List Hd)⟩ : Rw) = some r from h131)
    exact retCell (P := Try.prog) (n := 61) (fn := Try.f72) (R := fun v w' => ∃ ra0, ∃ rc0, v = Value.agg (List.toArray (encR (⟨Rw.none.is, Rw.none.cell, ([] : List Hd)⟩ : Rw) (Value.slice ra0 (⟨Rw.none.is, Rw.none.cell, ([] : List Hd)⟩ : Rw).table.length rc0))) ∧ St [] w w' [gsl 202 heldE (Value.slice ra0 (⟨Rw.none.is, Rw.none.cell, ([] : List Hd)⟩ : Rw).table.length rc0) (⟨Rw.none.is, Rw.none.cell, ([] : List Hd)⟩ : Rw).table]) (t := 4) (v := Value.agg (List.toArray ((Value.bool Rw.none.is) :: ((encC Rw.none.cell) ++ ((Value.slice none (([] : List Hd).length) 0) :: []))))) rfl rfl rfl hl138 ⟨none, 0, rfl, hs140⟩
  · have h141 := ifF hc130 h
    refine WL.val (R.lssF (k := .i64) (a := p0) (b := 0) un3 rfl rfl hc130) rfl ?_
    refine WL.val (R.move (v := Value.bool false) rfl) rfl ?_
    refine WL.guardY (e := 11) rfl rfl rfl ?_
    refine WL.val (R.move (v := Value.int .i64 p0) rfl) rfl ?_
    refine WL.guardY (e := 11) rfl rfl rfl ?_
    by_cases hc142 : 16 < p0
    · have h143 := ifT hc142 h141
      refine WL.val (R.gtrT (k := .i64) (a := p0) (b := 16) un3 rfl rfl hc142) rfl ?_
      refine WL.val (R.pickF (v := Value.bool true) rfl rfl) rfl ?_
      refine WL.val (R.move (v := Value.bool true) rfl) rfl ?_
      refine WL.guardN (e := 15) (v := .bool true) rfl rfl rfl rfl ?_
      refine WL.guardN (e := 15) (v := .bool true) rfl rfl rfl rfl ?_
      refine WL.guardN (e := 15) (v := .bool true) rfl rfl rfl rfl ?_
      refine WL.val (R.pickT (v := Value.bool true) rfl rfl) rfl ?_
      refine WL.nil ?_
      refine thenN ?_
      refine WC.condT rfl rfl ?_
      refine WC.seq ?_
      refine WC.region ?_
      refine WL.val (R.loadA (cs := encR Rw.none (Value.slice none 0 0)) (n := 57) ag143 rfl (hs129.at (i := 2) (off := 0) (n := 57) (cs := encR Rw.none (Value.slice none 0 0)) rfl rfl rfl) rfl) rfl ?_
      refine WL.sto (L' := [blk b102 143 (encR p1 (Value.slice a1 p1.table.length c1)), blk b110 143 (encR Rw.none (Value.slice none 0 0)), blk b119 143 (encR Rw.none (Value.slice none 0 0))]) (X.store (i := 1) (n := 57) (b := b110) (off := 0) (c := encR Rw.none (Value.slice none 0 0)) (U := 143) (vs := encR Rw.none (Value.slice none 0 0)) (v := Value.agg (List.toArray (encR Rw.none (Value.slice none 0 0)))) (c' := encR Rw.none (Value.slice none 0 0)) (hs129.here) rfl ag143.size rfl rfl rfl rfl rfl rfl rfl rfl) rfl rfl ?_
      intro w144 ht145
      have hs146 := hs129.trans ht145
      refine WL.nil ?_
      refine thenN ?_
      refine WC.ret ?_
      have ht147 := (hs146.here).addNil 202 heldE rfl
      have hs149 := hs146.trans ht147
      have hl150 := run_loadA (P := Try.prog) (n := 57) ag143 (hs149.at (i := 1) (off := 0) (n := 57) (cs := (Value.bool Rw.none.is) :: ((encC Rw.none.cell) ++ ((Value.slice none (([] : List Hd).length) 0) :: []))) rfl rfl rfl) rfl
      have ht151 := (hs149.here).perm (L' := [gsl 202 heldE (Value.slice none 0 0) ([] : List Hd)]) (G := [blk b102 143 (encR p1 (Value.slice a1 p1.table.length c1)), blk b110 143 ((Value.bool Rw.none.is) :: ((encC Rw.none.cell) ++ ((Value.slice none (([] : List Hd).length) 0) :: []))), blk b119 143 (encR Rw.none (Value.slice none 0 0))]) (((List.perm_middle (l₁ := [blk b102 143 (encR p1 (Value.slice a1 p1.table.length c1)), blk b110 143 ((Value.bool Rw.none.is) :: ((encC Rw.none.cell) ++ ((Value.slice none (([] : List Hd).length) 0) :: []))), blk b119 143 (encR Rw.none (Value.slice none 0 0))]) (a := gsl 202 heldE (Value.slice none 0 0) ([] : List Hd)) (l₂ := [])).trans (List.Perm.cons _ (List.Perm.refl _))))
      have hs152 := hs149.trans ht151
      obtain rfl := Option.some.inj (show some (⟨Rw.none.is, Rw.none.cell, ([] : List Hd)⟩ : Rw) = some r from h143)
      exact retCell (P := Try.prog) (n := 61) (fn := Try.f72) (R := fun v w' => ∃ ra0, ∃ rc0, v = Value.agg (List.toArray (encR (⟨Rw.none.is, Rw.none.cell, ([] : List Hd)⟩ : Rw) (Value.slice ra0 (⟨Rw.none.is, Rw.none.cell, ([] : List Hd)⟩ : Rw).table.length rc0))) ∧ St [] w w' [gsl 202 heldE (Value.slice ra0 (⟨Rw.none.is, Rw.none.cell, ([] : List Hd)⟩ : Rw).table.length rc0) (⟨Rw.none.is, Rw.none.cell, ([] : List Hd)⟩ : Rw).table]) (t := 4) (v := Value.agg (List.toArray ((Value.bool Rw.none.is) :: ((encC Rw.none.cell) ++ ((Value.slice none (([] : List Hd).length) 0) :: []))))) rfl rfl rfl hl150 ⟨none, 0, rfl, hs152⟩
    · have h153 := ifF hc142 h141
      refine WL.val (R.gtrF (k := .i64) (a := p0) (b := 16) un3 rfl rfl hc142) rfl ?_
      refine WL.val (R.pickF (v := Value.bool false) rfl rfl) rfl ?_
      refine WL.val (R.move (v := Value.bool false) rfl) rfl ?_
      refine WL.guardY (e := 15) rfl rfl rfl ?_
      refine WL.val (R.fieldAddr (o := 0) (o' := 0) fa143_0 rfl rfl) rfl ?_
      refine WL.guardY (e := 15) rfl rfl rfl ?_
      refine WL.val (R.loadL (v := Value.bool p1.is) lf4 rfl (hs129.at (i := 0) (off := 0) (n := 1) (cs := [Value.bool p1.is]) rfl rfl rfl)) rfl ?_
      refine WL.guardY (e := 15) rfl rfl rfl ?_
      refine WL.val (R.not (b := p1.is) rfl) rfl ?_
      refine WL.val (R.pickF (v := Value.bool (!p1.is)) rfl rfl) rfl ?_
      refine WL.nil ?_
      refine thenN ?_
      by_cases hc154 : p1.is = true
      · have h155 := ifT hc154 h153
        have hk156 : (!p1.is) = false := by simp [hc154]
        refine WC.condF (Eq.trans (show _ = Value.bool (!p1.is) from rfl) (congrArg Value.bool hk156)) rfl ?_
        refine WC.skip ?_
        refine thenN ?_
        refine WC.seq ?_
        refine WC.region ?_
        refine WL.val (R.fieldAddr (o := 0) (o' := 0) fa143_0 rfl rfl) rfl ?_
        refine WL.sto (L' := [blk b102 143 (encR p1 (Value.slice a1 p1.table.length c1)), blk b110 143 (encR Rw.none (Value.slice none 0 0)), blk b119 143 ((Value.bool true) :: ((encC Rw.none.cell) ++ ((Value.slice none 0 0) :: [])))]) (X.store (i := 2) (n := 1) (b := b119) (off := 0) (c := encR Rw.none (Value.slice none 0 0)) (U := 143) (vs := [Value.bool true]) (v := Value.bool true) (c' := (Value.bool true) :: ((encC Rw.none.cell) ++ ((Value.slice none 0 0) :: []))) (hs129.here) rfl lf4.size rfl rfl rfl rfl rfl rfl rfl rfl) rfl rfl ?_
        intro w157 ht158
        have hs159 := hs129.trans ht158
        refine WL.nil ?_
        refine thenN ?_
        refine WC.seq ?_
        refine WC.region ?_
        refine WL.val (R.fieldAddr (o := 0) (o' := 1) fa143_1 rfl rfl) rfl ?_
        refine WL.val (R.loadA (cs := encC p1.cell) (n := 55) ag58 rfl (hs159.at (i := 0) (off := 1) (n := 55) (cs := encC p1.cell) rfl rfl rfl) rfl) rfl ?_
        obtain ⟨y160, hx161, h162⟩ := ob (o := rcell13 p1.cell) h155
        refine WL.call (rcell13_ok _ (In ok w [] [blk b102 143 (encR p1 (Value.slice a1 p1.table.length c1)), blk b110 143 (encR Rw.none (Value.slice none 0 0)), blk b119 143 ((Value.bool true) :: ((encC Rw.none.cell) ++ ((Value.slice none 0 0) :: [])))]) p1.cell  hx161) (R.call (vs := [Value.agg (List.toArray (encC p1.cell))]) (caps := []) bo74 rfl rfl) rfl ?_
        rintro v165 w166 ⟨rfl, ht163⟩
        have ht164 := hs159.call (N := [blk b102 143 (encR p1 (Value.slice a1 p1.table.length c1)), blk b110 143 (encR Rw.none (Value.slice none 0 0)), blk b119 143 ((Value.bool true) :: ((encC Rw.none.cell) ++ ((Value.slice none 0 0) :: [])))]) (M := []) (List.Perm.refl _) ht163
        have hs167 := hs159.trans ht164
        refine WL.val (R.fieldAddr (o := 0) (o' := 1) fa143_1 rfl rfl) rfl ?_
        refine WL.sto (L' := [blk b102 143 (encR p1 (Value.slice a1 p1.table.length c1)), blk b110 143 (encR Rw.none (Value.slice none 0 0)), blk b119 143 ((Value.bool true) :: ((encC y160) ++ ((Value.slice none 0 0) :: [])))]) (X.store (i := 2) (n := 55) (b := b119) (off := 1) (c := (Value.bool true) :: ((encC Rw.none.cell) ++ ((Value.slice none 0 0) :: []))) (U := 143) (vs := encC y160) (v := Value.agg (List.toArray (encC y160))) (c' := (Value.bool true) :: ((encC y160) ++ ((Value.slice none 0 0) :: []))) (hs167.here) rfl ag58.size rfl rfl rfl rfl rfl rfl rfl rfl) rfl rfl ?_
        intro w168 ht169
        have hs170 := hs167.trans ht169
        refine WL.nil ?_
        refine thenN ?_
        refine WC.seq ?_
        refine WC.seq ?_
        refine WC.region ?_
        refine WL.val (R.assign (v := Value.int .i64 0) rfl) rfl ?_
        refine WL.nil ?_
        refine thenN ?_
        have ht298 := (hs170.here).addNil 202 heldE rfl
        have hs300 := hs170.trans ht298
        have hr560 := elT (((((((ht108.trans ht116).trans ht125).trans ht128).trans ht158).trans ht164).trans ht169).trans ht298) he1001
        obtain ⟨K552, hK553, h554⟩ := kE (G := fun K552 => rplaino13_l1 p0 p1 K552 1000000 0 ([] : List Hd)) h162
        refine WC.join (fun σ562 w561 => ∃ l549 : List Hd, ∃ a550, ∃ c551, σ562 4 = (Value.pointer (some ⟨b110, 0, none⟩)) ∧ σ562 5 = (Value.pointer (some ⟨b119, 0, none⟩)) ∧ K552 l549 = some r ∧ St [] w w561 [blk b110 143 (encR Rw.none (Value.slice none 0 0)), blk b119 143 ((Value.bool true) :: ((encC y160) ++ ((Value.slice a550 l549.length c551) :: []))), gsl 202 heldE (Value.slice a550 l549.length c551) l549]) ?_ ?_
        · refine WC.block ?_
          refine WC.loop (T := Nat) (fun k558 σ556 w555 => ∃ i545 : Int, ∃ l546 : List Hd, ∃ a547, ∃ c548, σ556 0 = (Value.int .i64 p0) ∧ σ556 3 = (Value.pointer (some ⟨b102, 0, none⟩)) ∧ σ556 4 = (Value.pointer (some ⟨b110, 0, none⟩)) ∧ σ556 5 = (Value.pointer (some ⟨b119, 0, none⟩)) ∧ σ556 6 = (Value.int .i64 i545) ∧ elems heldW w555 (In ok w [] [blk b102 143 (encR p1 (Value.slice a1 p1.table.length c1)), blk b110 143 (encR Rw.none (Value.slice none 0 0)), blk b119 143 ((Value.bool true) :: ((encC y160) ++ ((Value.slice a547 l546.length c548) :: []))), gsl 202 heldE (Value.slice a547 l546.length c548) l546]) a1 p1.table ∧ rplaino13_l1 p0 p1 K552 k558 i545 l546 = some r ∧ St [] w w555 [blk b102 143 (encR p1 (Value.slice a1 p1.table.length c1)), blk b110 143 (encR Rw.none (Value.slice none 0 0)), blk b119 143 ((Value.bool true) :: ((encC y160) ++ ((Value.slice a547 l546.length c548) :: []))), gsl 202 heldE (Value.slice a547 l546.length c548) l546]) (fun k558 => k558) 1000000 ⟨0, ([] : List Hd), none, 0, rfl, rfl, rfl, rfl, rfl, hr560, h554, hs300⟩ ?_
          rintro k558 σ556 w555 ⟨i545, l546, a547, c548, s565, s566, s567, s568, s569, he559, h564, hs557⟩
          rcases k558 with _ | k558
          · rw [rplaino13_l1] at h564; cases h564
          rw [rplaino13_l1] at h564
          refine WC.seq ?_
          refine WC.seq ?_
          refine WC.region ?_
          refine WL.val (R.move (v := Value.int .i64 i545) (by exact s569)) rfl ?_
          refine WL.val (R.move (v := Value.int .i64 p0) (by exact s565)) rfl ?_
          by_cases hc570 : i545 < p0
          · have h571 := ifT hc570 h564
            refine WL.val (R.lssT (k := .i64) (a := i545) (b := p0) un3 rfl rfl hc570) rfl ?_
            refine WL.nil ?_
            refine thenN ?_
            refine WC.condT rfl rfl ?_
            refine WC.skip ?_
            refine thenN ?_
            refine WC.seq ?_
            refine WC.block ?_
            refine WC.seq ?_
            refine WC.region ?_
            have hd572 : ∀ w, (Instr.build 202 #[]).run Try.prog w = .ok (Value.agg (List.toArray (encH Hd.none))) w := fun _ => by kernel_rfl
            refine WL.val (R.build (vs := []) rfl hd572) rfl ?_
            refine WL.new (L' := fun b573 => [blk b102 143 (encR p1 (Value.slice a1 p1.table.length c1)), blk b110 143 (encR Rw.none (Value.slice none 0 0)), blk b119 143 ((Value.bool true) :: ((encC y160) ++ ((Value.slice a547 l546.length c548) :: []))), gsl 202 heldE (Value.slice a547 l546.length c548) l546, blk b573 202 (encH Hd.none)]) (f := fun b573 => Value.pointer (some ⟨b573, 0, none⟩)) (X.alloc (c := encH Hd.none) (hs557.here) zr202 rfl (fun _ => rfl)) rfl ?_
            intro b573 w574 ht579 he576 hz577
            have hs580 := hs557.trans ht579
            refine WL.sto (L' := [blk b102 143 (encR p1 (Value.slice a1 p1.table.length c1)), blk b110 143 (encR Rw.none (Value.slice none 0 0)), blk b119 143 ((Value.bool true) :: ((encC y160) ++ ((Value.slice a547 l546.length c548) :: []))), gsl 202 heldE (Value.slice a547 l546.length c548) l546, blk b573 202 (encH Hd.none)]) (X.store (i := 4) (n := 56) (b := b573) (off := 0) (c := encH Hd.none) (U := 202) (vs := encH Hd.none) (v := Value.agg (List.toArray (encH Hd.none))) (c' := encH Hd.none) (hs580.here) rfl ag202.size rfl rfl rfl rfl rfl rfl rfl rfl) rfl rfl ?_
            intro w581 ht582
            have hs583 := hs580.trans ht582
            refine WL.nil ?_
            refine thenN ?_
            refine WC.seq ?_
            refine WC.seq ?_
            refine WC.region ?_
            refine WL.val (R.move (v := Value.int .i64 i545) (by exact s569)) rfl ?_
            refine WL.val (R.fieldAddr (o := 0) (o' := 56) fa143_2 (by exact s566) rfl) rfl ?_
            refine WL.val (R.loadL (v := Value.slice a1 p1.table.length c1) lf31 rfl (hs583.at (i := 0) (off := 56) (n := 1) (cs := [Value.slice a1 p1.table.length c1]) rfl rfl rfl)) rfl ?_
            refine WL.val (R.len (a := a1) (n := p1.table.length) (c := c1) un31 rfl) rfl ?_
            by_cases hc584 : i545 < ((p1.table.length : Nat) : Int)
            · have h585 := ifT hc584 h571
              refine WL.val (R.lssT (k := .i64) (a := i545) (b := ((p1.table.length : Nat) : Int)) un3 rfl rfl hc584) rfl ?_
              refine WL.val (R.move (v := Value.bool true) rfl) rfl ?_
              refine WL.guardY (e := 37) rfl rfl rfl ?_
              refine WL.val (R.fieldAddr (o := 0) (o' := 56) fa143_2 (by exact s566) rfl) rfl ?_
              refine WL.guardY (e := 37) rfl rfl rfl ?_
              refine WL.val (R.loadL (v := Value.slice a1 p1.table.length c1) lf31 rfl (hs583.at (i := 0) (off := 56) (n := 1) (cs := [Value.slice a1 p1.table.length c1]) rfl rfl rfl)) rfl ?_
              refine WL.guardY (e := 37) rfl rfl rfl ?_
              refine WL.val (R.move (v := Value.int .i64 i545) (by exact s569)) rfl ?_
              refine WL.guardY (e := 37) rfl rfl rfl ?_
              obtain ⟨x586, hx587, h588⟩ := ob (o := rd p1.table i545) h585
              obtain ⟨h0589, hx590, hl591, hm592⟩ := rdE hx587
              have hr593 := elT (ht579.trans ht582) he559
              obtain ⟨ad594, e599, ha595, hp596, hat597, hrd598⟩ := hr593 _ _ hx590
              obtain ⟨-, rfl⟩ := hrd598
              refine WL.val (R.indexS (n := 56) (m := (i545).toNat) (a := a1) (ad := ad594) (len := p1.table.length) (cap := c1) (z := i545) un31 ag202.size rfl ha595 rfl hm592 hl591 hp596) rfl ?_
              refine WL.guardY (e := 37) rfl rfl rfl ?_
              refine WL.val (R.fieldAddr (o := ad594.off + (i545).toNat * 56) (o' := ad594.off + (i545).toNat * 56) fa202_0 rfl rfl) rfl ?_
              refine WL.guardY (e := 37) rfl rfl rfl ?_
              refine WL.val (R.loadL (v := Value.bool x586.is) lf4 rfl (At.sub (a := ⟨ad594.block, ad594.off + (i545).toNat * 56, none⟩) (off := 0) (n := 1) (cs := encH x586) (ds := [Value.bool x586.is]) hat597 rfl rfl)) rfl ?_
              refine WL.val (R.pickT (v := Value.bool x586.is) rfl rfl) rfl ?_
              refine WL.nil ?_
              refine thenN ?_
              by_cases hc601 : x586.is = true
              · have h602 := ifT hc601 h588
                refine WC.condT (Eq.trans (show _ = Value.bool x586.is from rfl) (congrArg Value.bool hc601)) rfl ?_
                refine WC.seq ?_
                refine WC.region ?_
                refine WL.val (R.fieldAddr (o := 0) (o' := 0) fa202_0 rfl rfl) rfl ?_
                refine WL.sto (L' := [blk b102 143 (encR p1 (Value.slice a1 p1.table.length c1)), blk b110 143 (encR Rw.none (Value.slice none 0 0)), blk b119 143 ((Value.bool true) :: ((encC y160) ++ ((Value.slice a547 l546.length c548) :: []))), gsl 202 heldE (Value.slice a547 l546.length c548) l546, blk b573 202 ((Value.bool true) :: (encC Hd.none.cell))]) (X.store (i := 4) (n := 1) (b := b573) (off := 0) (c := encH Hd.none) (U := 202) (vs := [Value.bool true]) (v := Value.bool true) (c' := (Value.bool true) :: (encC Hd.none.cell)) (hs583.here) rfl lf4.size rfl rfl rfl rfl rfl rfl rfl rfl) rfl rfl ?_
                intro w603 ht604
                have hs605 := hs583.trans ht604
                refine WL.nil ?_
                refine thenN ?_
                refine WC.region ?_
                refine WL.val (R.fieldAddr (o := 0) (o' := 56) fa143_2 (by exact s566) rfl) rfl ?_
                refine WL.val (R.loadL (v := Value.slice a1 p1.table.length c1) lf31 rfl (hs605.at (i := 0) (off := 56) (n := 1) (cs := [Value.slice a1 p1.table.length c1]) rfl rfl rfl)) rfl ?_
                refine WL.val (R.move (v := Value.int .i64 i545) (by exact s569)) rfl ?_
                refine WL.val (R.indexS (n := 56) (m := (i545).toNat) (a := a1) (ad := ad594) (len := p1.table.length) (cap := c1) (z := i545) un31 ag202.size rfl ha595 rfl hm592 hl591 hp596) rfl ?_
                refine WL.val (R.fieldAddr (o := ad594.off + (i545).toNat * 56) (o' := ad594.off + (i545).toNat * 56 + 1) fa202_1 rfl rfl) rfl ?_
                have hr606 := At.trT ht604 hat597
                refine WL.val (R.loadA (cs := encC x586.cell) (n := 55) ag58 rfl (At.sub (a := ⟨ad594.block, ad594.off + (i545).toNat * 56, none⟩) (off := 1) (n := 55) (cs := encH x586) (ds := encC x586.cell) hr606 rfl rfl) rfl) rfl ?_
                obtain ⟨y607, hx608, h609⟩ := ob (o := rcell13 x586.cell) h602
                refine WL.call (rcell13_ok _ (In ok w [] [blk b102 143 (encR p1 (Value.slice a1 p1.table.length c1)), blk b110 143 (encR Rw.none (Value.slice none 0 0)), blk b119 143 ((Value.bool true) :: ((encC y160) ++ ((Value.slice a547 l546.length c548) :: []))), gsl 202 heldE (Value.slice a547 l546.length c548) l546, blk b573 202 ((Value.bool true) :: (encC Hd.none.cell))]) x586.cell  hx608) (R.call (vs := [Value.agg (List.toArray (encC x586.cell))]) (caps := []) bo74 rfl rfl) rfl ?_
                rintro v612 w613 ⟨rfl, ht610⟩
                have ht611 := hs605.call (N := [blk b102 143 (encR p1 (Value.slice a1 p1.table.length c1)), blk b110 143 (encR Rw.none (Value.slice none 0 0)), blk b119 143 ((Value.bool true) :: ((encC y160) ++ ((Value.slice a547 l546.length c548) :: []))), gsl 202 heldE (Value.slice a547 l546.length c548) l546, blk b573 202 ((Value.bool true) :: (encC Hd.none.cell))]) (M := []) (List.Perm.refl _) ht610
                have hs614 := hs605.trans ht611
                refine WL.val (R.fieldAddr (o := 0) (o' := 1) fa202_1 rfl rfl) rfl ?_
                refine WL.sto (L' := [blk b102 143 (encR p1 (Value.slice a1 p1.table.length c1)), blk b110 143 (encR Rw.none (Value.slice none 0 0)), blk b119 143 ((Value.bool true) :: ((encC y160) ++ ((Value.slice a547 l546.length c548) :: []))), gsl 202 heldE (Value.slice a547 l546.length c548) l546, blk b573 202 ((Value.bool true) :: (encC y607))]) (X.store (i := 4) (n := 55) (b := b573) (off := 1) (c := (Value.bool true) :: (encC Hd.none.cell)) (U := 202) (vs := encC y607) (v := Value.agg (List.toArray (encC y607))) (c' := (Value.bool true) :: (encC y607)) (hs614.here) rfl ag58.size rfl rfl rfl rfl rfl rfl rfl rfl) rfl rfl ?_
                intro w615 ht616
                have hs617 := hs614.trans ht616
                refine WL.nil ?_
                refine thenN ?_
                refine WC.region ?_
                refine WL.val (R.fieldAddr (o := 0) (o' := 56) fa143_2 (by exact s568) rfl) rfl ?_
                refine WL.val (R.loadL (v := Value.slice a547 l546.length c548) lf31 rfl (hs617.at (i := 2) (off := 56) (n := 1) (cs := [Value.slice a547 l546.length c548]) rfl rfl rfl)) rfl ?_
                refine WL.val (R.loadA (cs := (Value.bool true) :: (encC y607)) (n := 56) ag202 rfl (hs617.at (i := 4) (off := 0) (n := 56) (cs := (Value.bool true) :: (encC y607)) rfl rfl rfl) rfl) rfl ?_
                have hd623 : ∀ w : World, (Instr.buildSlice 31 1 #[(0, Value.agg (List.toArray ((Value.bool true) :: (encC y607))))]).run Try.prog w = .ok (.slice (some ⟨w.heap.size, 0, none⟩) 1 1) { w with heap := w.heap.push (.cells (List.toArray ((Value.bool true) :: (encC y607))) 202) } := fun _ => by kernel_rfl
                refine WL.new (L' := fun b618 => [blk b102 143 (encR p1 (Value.slice a1 p1.table.length c1)), blk b110 143 (encR Rw.none (Value.slice none 0 0)), blk b119 143 ((Value.bool true) :: ((encC y160) ++ ((Value.slice a547 l546.length c548) :: []))), gsl 202 heldE (Value.slice a547 l546.length c548) l546, blk b573 202 ((Value.bool true) :: (encC y607)), blk b618 202 ((Value.bool true) :: (encC y607))]) (f := fun b618 => Value.slice (some ⟨b618, 0, none⟩) 1 1) (X.buildSlice (c := ((Value.bool true) :: (encC y607))) (vs := [(0, Value.agg (List.toArray ((Value.bool true) :: (encC y607))))]) (hs617.here) rfl hd623 (fun _ => rfl)) rfl ?_
                intro b618 w619 ht625 he621 hz622
                have hs626 := hs617.trans ht625
                obtain ⟨hg627, h628⟩ := ckE (c := l546.length < 1000000) h609
                refine WL.grow (L' := fun v629 => [blk b102 143 (encR p1 (Value.slice a1 p1.table.length c1)), blk b110 143 (encR Rw.none (Value.slice none 0 0)), blk b119 143 ((Value.bool true) :: ((encC y160) ++ ((Value.slice a547 l546.length c548) :: []))), gsl 202 heldE v629 (l546 ++ [(⟨true, y607⟩ : Hd)]), blk b573 202 ((Value.bool true) :: (encC y607)), blk b618 202 ((Value.bool true) :: (encC y607))]) (X.append (i := 3) (e := heldE) (xs := l546) (ys := [(⟨true, y607⟩ : Hd)]) (ad := ⟨b618, 0, none⟩) (m := 1) (c := 1) (hs626.here) sl31 rfl rfl rfl rfl ((hs626.here).at (i := 5) (off := 0) (n := 56) (cs := flat heldE [(⟨true, y607⟩ : Hd)]) rfl rfl rfl) rfl rfl (room (n := 1) hg627 rfl (by decide)) (room63 (n := 1) hg627 rfl (by decide)) (fun _ => rfl)) rfl ?_
                intro v629 w630 ht631
                obtain ⟨a632, c633, hv634⟩ := gsl_sl (ht631.get (i := 3) rfl)
                subst hv634
                have hs635 := hs626.trans ht631
                refine WL.val (R.fieldAddr (o := 0) (o' := 56) fa143_2 (by exact s568) rfl) rfl ?_
                refine WL.sto (L' := [blk b102 143 (encR p1 (Value.slice a1 p1.table.length c1)), blk b110 143 (encR Rw.none (Value.slice none 0 0)), blk b119 143 ((Value.bool true) :: ((encC y160) ++ ((Value.slice a632 ((l546 ++ [(⟨true, y607⟩ : Hd)]).length) c633) :: []))), gsl 202 heldE (Value.slice a632 ((l546 ++ [(⟨true, y607⟩ : Hd)]).length) c633) (l546 ++ [(⟨true, y607⟩ : Hd)]), blk b573 202 ((Value.bool true) :: (encC y607)), blk b618 202 ((Value.bool true) :: (encC y607))]) (X.store (i := 2) (n := 1) (b := b119) (off := 56) (c := (Value.bool true) :: ((encC y160) ++ ((Value.slice a547 l546.length c548) :: []))) (U := 143) (vs := [Value.slice a632 ((l546 ++ [(⟨true, y607⟩ : Hd)]).length) c633]) (v := Value.slice a632 ((l546 ++ [(⟨true, y607⟩ : Hd)]).length) c633) (c' := (Value.bool true) :: ((encC y160) ++ ((Value.slice a632 ((l546 ++ [(⟨true, y607⟩ : Hd)]).length) c633) :: []))) (hs635.here) rfl lf31.size rfl rfl rfl rfl rfl rfl rfl rfl) rfl rfl ?_
                intro w636 ht637
                have hs638 := hs635.trans ht637
                refine WL.nil ?_
                refine blockN ?_
                refine thenN ?_
                refine WC.region ?_
                refine WL.val (R.move (v := Value.int .i64 i545) (by exact s569)) rfl ?_
                obtain ⟨hg639, h640⟩ := ckE (c := -9223372036854775808 ≤ i545 + 1 ∧ i545 + 1 ≤ 9223372036854775807) h628
                refine WL.val (R.add (a := i545) (b := 1) (z := i545 + 1) rfl rfl (w64e rfl hg639.1 hg639.2)) rfl ?_
                refine WL.val (R.assign (v := Value.int .i64 (i545 + 1)) rfl) rfl ?_
                refine WL.nil ?_
                have ht641 := (hs638.here).perm (L' := [blk b102 143 (encR p1 (Value.slice a1 p1.table.length c1)), blk b110 143 (encR Rw.none (Value.slice none 0 0)), blk b119 143 ((Value.bool true) :: ((encC y160) ++ ((Value.slice a632 ((l546 ++ [(⟨true, y607⟩ : Hd)]).length) c633) :: []))), gsl 202 heldE (Value.slice a632 ((l546 ++ [(⟨true, y607⟩ : Hd)]).length) c633) (l546 ++ [(⟨true, y607⟩ : Hd)])]) (G := [blk b573 202 ((Value.bool true) :: (encC y607)), blk b618 202 ((Value.bool true) :: (encC y607))]) ((List.Perm.refl _))
                have hs642 := hs638.trans ht641
                have hr643 := elT ((((((ht604.trans ht611).trans ht616).trans ht625).trans ht631).trans ht637).trans ht641) hr593
                exact roundEnd (s := k558) ⟨i545 + 1, l546 ++ [(⟨true, y607⟩ : Hd)], a632, c633, s565, s566, s567, s568, rfl, hr643, h640, hs642⟩ (Nat.lt_succ_self _)
              · have h644 := ifF hc601 h588
                refine WC.condF (Eq.trans (show _ = Value.bool x586.is from rfl) (congrArg Value.bool (Bool.eq_false_iff.2 hc601))) rfl ?_
                refine WC.skip ?_
                refine thenN ?_
                refine WC.region ?_
                refine WL.val (R.fieldAddr (o := 0) (o' := 56) fa143_2 (by exact s568) rfl) rfl ?_
                refine WL.val (R.loadL (v := Value.slice a547 l546.length c548) lf31 rfl (hs583.at (i := 2) (off := 56) (n := 1) (cs := [Value.slice a547 l546.length c548]) rfl rfl rfl)) rfl ?_
                refine WL.val (R.loadA (cs := encH Hd.none) (n := 56) ag202 rfl (hs583.at (i := 4) (off := 0) (n := 56) (cs := encH Hd.none) rfl rfl rfl) rfl) rfl ?_
                have hd650 : ∀ w : World, (Instr.buildSlice 31 1 #[(0, Value.agg (List.toArray (encH Hd.none)))]).run Try.prog w = .ok (.slice (some ⟨w.heap.size, 0, none⟩) 1 1) { w with heap := w.heap.push (.cells (List.toArray (encH Hd.none)) 202) } := fun _ => by kernel_rfl
                refine WL.new (L' := fun b645 => [blk b102 143 (encR p1 (Value.slice a1 p1.table.length c1)), blk b110 143 (encR Rw.none (Value.slice none 0 0)), blk b119 143 ((Value.bool true) :: ((encC y160) ++ ((Value.slice a547 l546.length c548) :: []))), gsl 202 heldE (Value.slice a547 l546.length c548) l546, blk b573 202 (encH Hd.none), blk b645 202 (encH Hd.none)]) (f := fun b645 => Value.slice (some ⟨b645, 0, none⟩) 1 1) (X.buildSlice (c := (encH Hd.none)) (vs := [(0, Value.agg (List.toArray (encH Hd.none)))]) (hs583.here) rfl hd650 (fun _ => rfl)) rfl ?_
                intro b645 w646 ht652 he648 hz649
                have hs653 := hs583.trans ht652
                obtain ⟨hg654, h655⟩ := ckE (c := l546.length < 1000000) h644
                refine WL.grow (L' := fun v656 => [blk b102 143 (encR p1 (Value.slice a1 p1.table.length c1)), blk b110 143 (encR Rw.none (Value.slice none 0 0)), blk b119 143 ((Value.bool true) :: ((encC y160) ++ ((Value.slice a547 l546.length c548) :: []))), gsl 202 heldE v656 (l546 ++ [Hd.none]), blk b573 202 (encH Hd.none), blk b645 202 (encH Hd.none)]) (X.append (i := 3) (e := heldE) (xs := l546) (ys := [Hd.none]) (ad := ⟨b645, 0, none⟩) (m := 1) (c := 1) (hs653.here) sl31 rfl rfl rfl rfl ((hs653.here).at (i := 5) (off := 0) (n := 56) (cs := flat heldE [Hd.none]) rfl rfl rfl) rfl rfl (room (n := 1) hg654 rfl (by decide)) (room63 (n := 1) hg654 rfl (by decide)) (fun _ => rfl)) rfl ?_
                intro v656 w657 ht658
                obtain ⟨a659, c660, hv661⟩ := gsl_sl (ht658.get (i := 3) rfl)
                subst hv661
                have hs662 := hs653.trans ht658
                refine WL.val (R.fieldAddr (o := 0) (o' := 56) fa143_2 (by exact s568) rfl) rfl ?_
                refine WL.sto (L' := [blk b102 143 (encR p1 (Value.slice a1 p1.table.length c1)), blk b110 143 (encR Rw.none (Value.slice none 0 0)), blk b119 143 ((Value.bool true) :: ((encC y160) ++ ((Value.slice a659 ((l546 ++ [Hd.none]).length) c660) :: []))), gsl 202 heldE (Value.slice a659 ((l546 ++ [Hd.none]).length) c660) (l546 ++ [Hd.none]), blk b573 202 (encH Hd.none), blk b645 202 (encH Hd.none)]) (X.store (i := 2) (n := 1) (b := b119) (off := 56) (c := (Value.bool true) :: ((encC y160) ++ ((Value.slice a547 l546.length c548) :: []))) (U := 143) (vs := [Value.slice a659 ((l546 ++ [Hd.none]).length) c660]) (v := Value.slice a659 ((l546 ++ [Hd.none]).length) c660) (c' := (Value.bool true) :: ((encC y160) ++ ((Value.slice a659 ((l546 ++ [Hd.none]).length) c660) :: []))) (hs662.here) rfl lf31.size rfl rfl rfl rfl rfl rfl rfl rfl) rfl rfl ?_
                intro w663 ht664
                have hs665 := hs662.trans ht664
                refine WL.nil ?_
                refine blockN ?_
                refine thenN ?_
                refine WC.region ?_
                refine WL.val (R.move (v := Value.int .i64 i545) (by exact s569)) rfl ?_
                obtain ⟨hg666, h667⟩ := ckE (c := -9223372036854775808 ≤ i545 + 1 ∧ i545 + 1 ≤ 9223372036854775807) h655
                refine WL.val (R.add (a := i545) (b := 1) (z := i545 + 1) rfl rfl (w64e rfl hg666.1 hg666.2)) rfl ?_
                refine WL.val (R.assign (v := Value.int .i64 (i545 + 1)) rfl) rfl ?_
                refine WL.nil ?_
                have ht668 := (hs665.here).perm (L' := [blk b102 143 (encR p1 (Value.slice a1 p1.table.length c1)), blk b110 143 (encR Rw.none (Value.slice none 0 0)), blk b119 143 ((Value.bool true) :: ((encC y160) ++ ((Value.slice a659 ((l546 ++ [Hd.none]).length) c660) :: []))), gsl 202 heldE (Value.slice a659 ((l546 ++ [Hd.none]).length) c660) (l546 ++ [Hd.none])]) (G := [blk b573 202 (encH Hd.none), blk b645 202 (encH Hd.none)]) ((List.Perm.refl _))
                have hs669 := hs665.trans ht668
                have hr670 := elT (((ht652.trans ht658).trans ht664).trans ht668) hr593
                exact roundEnd (s := k558) ⟨i545 + 1, l546 ++ [Hd.none], a659, c660, s565, s566, s567, s568, rfl, hr670, h667, hs669⟩ (Nat.lt_succ_self _)
            · have h671 := ifF hc584 h571
              refine WL.val (R.lssF (k := .i64) (a := i545) (b := ((p1.table.length : Nat) : Int)) un3 rfl rfl hc584) rfl ?_
              refine WL.val (R.move (v := Value.bool false) rfl) rfl ?_
              refine WL.guardN (e := 37) (v := .bool false) rfl rfl rfl rfl ?_
              refine WL.guardN (e := 37) (v := .bool false) rfl rfl rfl rfl ?_
              refine WL.guardN (e := 37) (v := .bool false) rfl rfl rfl rfl ?_
              refine WL.guardN (e := 37) (v := .bool false) rfl rfl rfl rfl ?_
              refine WL.guardN (e := 37) (v := .bool false) rfl rfl rfl rfl ?_
              refine WL.guardN (e := 37) (v := .bool false) rfl rfl rfl rfl ?_
              refine WL.val (R.pickF (v := Value.bool false) rfl rfl) rfl ?_
              refine WL.nil ?_
              refine thenN ?_
              refine WC.condF rfl rfl ?_
              refine WC.skip ?_
              refine thenN ?_
              refine WC.region ?_
              refine WL.val (R.fieldAddr (o := 0) (o' := 56) fa143_2 (by exact s568) rfl) rfl ?_
              refine WL.val (R.loadL (v := Value.slice a547 l546.length c548) lf31 rfl (hs583.at (i := 2) (off := 56) (n := 1) (cs := [Value.slice a547 l546.length c548]) rfl rfl rfl)) rfl ?_
              refine WL.val (R.loadA (cs := encH Hd.none) (n := 56) ag202 rfl (hs583.at (i := 4) (off := 0) (n := 56) (cs := encH Hd.none) rfl rfl rfl) rfl) rfl ?_
              have hd677 : ∀ w : World, (Instr.buildSlice 31 1 #[(0, Value.agg (List.toArray (encH Hd.none)))]).run Try.prog w = .ok (.slice (some ⟨w.heap.size, 0, none⟩) 1 1) { w with heap := w.heap.push (.cells (List.toArray (encH Hd.none)) 202) } := fun _ => by kernel_rfl
              refine WL.new (L' := fun b672 => [blk b102 143 (encR p1 (Value.slice a1 p1.table.length c1)), blk b110 143 (encR Rw.none (Value.slice none 0 0)), blk b119 143 ((Value.bool true) :: ((encC y160) ++ ((Value.slice a547 l546.length c548) :: []))), gsl 202 heldE (Value.slice a547 l546.length c548) l546, blk b573 202 (encH Hd.none), blk b672 202 (encH Hd.none)]) (f := fun b672 => Value.slice (some ⟨b672, 0, none⟩) 1 1) (X.buildSlice (c := (encH Hd.none)) (vs := [(0, Value.agg (List.toArray (encH Hd.none)))]) (hs583.here) rfl hd677 (fun _ => rfl)) rfl ?_
              intro b672 w673 ht679 he675 hz676
              have hs680 := hs583.trans ht679
              obtain ⟨hg681, h682⟩ := ckE (c := l546.length < 1000000) h671
              refine WL.grow (L' := fun v683 => [blk b102 143 (encR p1 (Value.slice a1 p1.table.length c1)), blk b110 143 (encR Rw.none (Value.slice none 0 0)), blk b119 143 ((Value.bool true) :: ((encC y160) ++ ((Value.slice a547 l546.length c548) :: []))), gsl 202 heldE v683 (l546 ++ [Hd.none]), blk b573 202 (encH Hd.none), blk b672 202 (encH Hd.none)]) (X.append (i := 3) (e := heldE) (xs := l546) (ys := [Hd.none]) (ad := ⟨b672, 0, none⟩) (m := 1) (c := 1) (hs680.here) sl31 rfl rfl rfl rfl ((hs680.here).at (i := 5) (off := 0) (n := 56) (cs := flat heldE [Hd.none]) rfl rfl rfl) rfl rfl (room (n := 1) hg681 rfl (by decide)) (room63 (n := 1) hg681 rfl (by decide)) (fun _ => rfl)) rfl ?_
              intro v683 w684 ht685
              obtain ⟨a686, c687, hv688⟩ := gsl_sl (ht685.get (i := 3) rfl)
              subst hv688
              have hs689 := hs680.trans ht685
              refine WL.val (R.fieldAddr (o := 0) (o' := 56) fa143_2 (by exact s568) rfl) rfl ?_
              refine WL.sto (L' := [blk b102 143 (encR p1 (Value.slice a1 p1.table.length c1)), blk b110 143 (encR Rw.none (Value.slice none 0 0)), blk b119 143 ((Value.bool true) :: ((encC y160) ++ ((Value.slice a686 ((l546 ++ [Hd.none]).length) c687) :: []))), gsl 202 heldE (Value.slice a686 ((l546 ++ [Hd.none]).length) c687) (l546 ++ [Hd.none]), blk b573 202 (encH Hd.none), blk b672 202 (encH Hd.none)]) (X.store (i := 2) (n := 1) (b := b119) (off := 56) (c := (Value.bool true) :: ((encC y160) ++ ((Value.slice a547 l546.length c548) :: []))) (U := 143) (vs := [Value.slice a686 ((l546 ++ [Hd.none]).length) c687]) (v := Value.slice a686 ((l546 ++ [Hd.none]).length) c687) (c' := (Value.bool true) :: ((encC y160) ++ ((Value.slice a686 ((l546 ++ [Hd.none]).length) c687) :: []))) (hs689.here) rfl lf31.size rfl rfl rfl rfl rfl rfl rfl rfl) rfl rfl ?_
              intro w690 ht691
              have hs692 := hs689.trans ht691
              refine WL.nil ?_
              refine blockN ?_
              refine thenN ?_
              refine WC.region ?_
              refine WL.val (R.move (v := Value.int .i64 i545) (by exact s569)) rfl ?_
              obtain ⟨hg693, h694⟩ := ckE (c := -9223372036854775808 ≤ i545 + 1 ∧ i545 + 1 ≤ 9223372036854775807) h682
              refine WL.val (R.add (a := i545) (b := 1) (z := i545 + 1) rfl rfl (w64e rfl hg693.1 hg693.2)) rfl ?_
              refine WL.val (R.assign (v := Value.int .i64 (i545 + 1)) rfl) rfl ?_
              refine WL.nil ?_
              have ht695 := (hs692.here).perm (L' := [blk b102 143 (encR p1 (Value.slice a1 p1.table.length c1)), blk b110 143 (encR Rw.none (Value.slice none 0 0)), blk b119 143 ((Value.bool true) :: ((encC y160) ++ ((Value.slice a686 ((l546 ++ [Hd.none]).length) c687) :: []))), gsl 202 heldE (Value.slice a686 ((l546 ++ [Hd.none]).length) c687) (l546 ++ [Hd.none])]) (G := [blk b573 202 (encH Hd.none), blk b672 202 (encH Hd.none)]) ((List.Perm.refl _))
              have hs696 := hs692.trans ht695
              have hr697 := elT (((((ht579.trans ht582).trans ht679).trans ht685).trans ht691).trans ht695) he559
              exact roundEnd (s := k558) ⟨i545 + 1, l546 ++ [Hd.none], a686, c687, s565, s566, s567, s568, rfl, hr697, h694, hs696⟩ (Nat.lt_succ_self _)
          · have h698 := ifF hc570 h564
            refine WL.val (R.lssF (k := .i64) (a := i545) (b := p0) un3 rfl rfl hc570) rfl ?_
            refine WL.nil ?_
            refine thenN ?_
            refine WC.condF rfl rfl ?_
            refine WC.exit ?_
            refine thenE ?_
            refine thenE ?_
            refine blockHit ?_
            have ht699 := (hs557.here).perm (L' := [blk b110 143 (encR Rw.none (Value.slice none 0 0)), blk b119 143 ((Value.bool true) :: ((encC y160) ++ ((Value.slice a547 l546.length c548) :: []))), gsl 202 heldE (Value.slice a547 l546.length c548) l546]) (G := [blk b102 143 (encR p1 (Value.slice a1 p1.table.length c1))]) (((List.perm_middle (l₁ := [blk b102 143 (encR p1 (Value.slice a1 p1.table.length c1))]) (a := blk b110 143 (encR Rw.none (Value.slice none 0 0))) (l₂ := [blk b119 143 ((Value.bool true) :: ((encC y160) ++ ((Value.slice a547 l546.length c548) :: []))), gsl 202 heldE (Value.slice a547 l546.length c548) l546])).trans (List.Perm.cons _ ((List.perm_middle (l₁ := [blk b102 143 (encR p1 (Value.slice a1 p1.table.length c1))]) (a := blk b119 143 ((Value.bool true) :: ((encC y160) ++ ((Value.slice a547 l546.length c548) :: [])))) (l₂ := [gsl 202 heldE (Value.slice a547 l546.length c548) l546])).trans (List.Perm.cons _ ((List.perm_middle (l₁ := [blk b102 143 (encR p1 (Value.slice a1 p1.table.length c1))]) (a := gsl 202 heldE (Value.slice a547 l546.length c548) l546) (l₂ := [])).trans (List.Perm.cons _ (List.Perm.refl _))))))))
            have hs700 := hs557.trans ht699
            exact joinI ⟨l546, a547, c548, s567, s568, h698, hs700⟩
        · rintro σ562 w561 ⟨l549, a550, c551, s702, s703, h701, hs563⟩
          subst hK553
          refine thenN ?_
          refine WC.seq ?_
          refine WC.region ?_
          refine WL.val (R.loadA (cs := (Value.bool true) :: ((encC y160) ++ ((Value.slice a550 l549.length c551) :: []))) (n := 57) ag143 (by exact s703) (hs563.at (i := 1) (off := 0) (n := 57) (cs := (Value.bool true) :: ((encC y160) ++ ((Value.slice a550 l549.length c551) :: []))) rfl rfl rfl) rfl) rfl ?_
          refine WL.sto (L' := [blk b110 143 ((Value.bool true) :: ((encC y160) ++ ((Value.slice a550 l549.length c551) :: []))), blk b119 143 ((Value.bool true) :: ((encC y160) ++ ((Value.slice a550 l549.length c551) :: []))), gsl 202 heldE (Value.slice a550 l549.length c551) l549]) (X.store (i := 0) (n := 57) (b := b110) (off := 0) (c := encR Rw.none (Value.slice none 0 0)) (U := 143) (vs := (Value.bool true) :: ((encC y160) ++ ((Value.slice a550 l549.length c551) :: []))) (v := Value.agg (List.toArray ((Value.bool true) :: ((encC y160) ++ ((Value.slice a550 l549.length c551) :: []))))) (c' := (Value.bool true) :: ((encC y160) ++ ((Value.slice a550 l549.length c551) :: []))) (hs563.here) rfl ag143.size (by exact s702) rfl rfl rfl rfl rfl rfl rfl) rfl rfl ?_
          intro w704 ht705
          have hs706 := hs563.trans ht705
          refine WL.nil ?_
          refine thenN ?_
          refine WC.ret ?_
          have hl707 := run_loadA (P := Try.prog) (n := 57) ag143 (hs706.at (i := 0) (off := 0) (n := 57) (cs := (Value.bool true) :: ((encC y160) ++ ((Value.slice a550 l549.length c551) :: []))) rfl rfl rfl) rfl
          have ht708 := (hs706.here).perm (L' := [gsl 202 heldE (Value.slice a550 l549.length c551) l549]) (G := [blk b110 143 ((Value.bool true) :: ((encC y160) ++ ((Value.slice a550 l549.length c551) :: []))), blk b119 143 ((Value.bool true) :: ((encC y160) ++ ((Value.slice a550 l549.length c551) :: [])))]) (((List.perm_middle (l₁ := [blk b110 143 ((Value.bool true) :: ((encC y160) ++ ((Value.slice a550 l549.length c551) :: []))), blk b119 143 ((Value.bool true) :: ((encC y160) ++ ((Value.slice a550 l549.length c551) :: [])))]) (a := gsl 202 heldE (Value.slice a550 l549.length c551) l549) (l₂ := [])).trans (List.Perm.cons _ (List.Perm.refl _))))
          have hs709 := hs706.trans ht708
          obtain rfl := Option.some.inj (show some (⟨true, y160, l549⟩ : Rw) = some r from h701)
          exact retCell (P := Try.prog) (n := 61) (fn := Try.f72) (R := fun v w' => ∃ ra0, ∃ rc0, v = Value.agg (List.toArray (encR (⟨true, y160, l549⟩ : Rw) (Value.slice ra0 (⟨true, y160, l549⟩ : Rw).table.length rc0))) ∧ St [] w w' [gsl 202 heldE (Value.slice ra0 (⟨true, y160, l549⟩ : Rw).table.length rc0) (⟨true, y160, l549⟩ : Rw).table]) (t := 4) (v := Value.agg (List.toArray ((Value.bool true) :: ((encC y160) ++ ((Value.slice a550 l549.length c551) :: []))))) rfl s702 rfl hl707 ⟨a550, c551, rfl, hs709⟩
      · have h710 := ifF hc154 h153
        have hk711 : (!p1.is) = true := by simp [hc154]
        refine WC.condT (Eq.trans (show _ = Value.bool (!p1.is) from rfl) (congrArg Value.bool hk711)) rfl ?_
        refine WC.seq ?_
        refine WC.region ?_
        refine WL.val (R.loadA (cs := encR Rw.none (Value.slice none 0 0)) (n := 57) ag143 rfl (hs129.at (i := 2) (off := 0) (n := 57) (cs := encR Rw.none (Value.slice none 0 0)) rfl rfl rfl) rfl) rfl ?_
        refine WL.sto (L' := [blk b102 143 (encR p1 (Value.slice a1 p1.table.length c1)), blk b110 143 (encR Rw.none (Value.slice none 0 0)), blk b119 143 (encR Rw.none (Value.slice none 0 0))]) (X.store (i := 1) (n := 57) (b := b110) (off := 0) (c := encR Rw.none (Value.slice none 0 0)) (U := 143) (vs := encR Rw.none (Value.slice none 0 0)) (v := Value.agg (List.toArray (encR Rw.none (Value.slice none 0 0)))) (c' := encR Rw.none (Value.slice none 0 0)) (hs129.here) rfl ag143.size rfl rfl rfl rfl rfl rfl rfl rfl) rfl rfl ?_
        intro w712 ht713
        have hs714 := hs129.trans ht713
        refine WL.nil ?_
        refine thenN ?_
        refine WC.ret ?_
        have ht715 := (hs714.here).addNil 202 heldE rfl
        have hs717 := hs714.trans ht715
        have hl718 := run_loadA (P := Try.prog) (n := 57) ag143 (hs717.at (i := 1) (off := 0) (n := 57) (cs := (Value.bool Rw.none.is) :: ((encC Rw.none.cell) ++ ((Value.slice none (([] : List Hd).length) 0) :: []))) rfl rfl rfl) rfl
        have ht719 := (hs717.here).perm (L' := [gsl 202 heldE (Value.slice none 0 0) ([] : List Hd)]) (G := [blk b102 143 (encR p1 (Value.slice a1 p1.table.length c1)), blk b110 143 ((Value.bool Rw.none.is) :: ((encC Rw.none.cell) ++ ((Value.slice none (([] : List Hd).length) 0) :: []))), blk b119 143 (encR Rw.none (Value.slice none 0 0))]) (((List.perm_middle (l₁ := [blk b102 143 (encR p1 (Value.slice a1 p1.table.length c1)), blk b110 143 ((Value.bool Rw.none.is) :: ((encC Rw.none.cell) ++ ((Value.slice none (([] : List Hd).length) 0) :: []))), blk b119 143 (encR Rw.none (Value.slice none 0 0))]) (a := gsl 202 heldE (Value.slice none 0 0) ([] : List Hd)) (l₂ := [])).trans (List.Perm.cons _ (List.Perm.refl _))))
        have hs720 := hs717.trans ht719
        obtain rfl := Option.some.inj (show some (⟨Rw.none.is, Rw.none.cell, ([] : List Hd)⟩ : Rw) = some r from h710)
        exact retCell (P := Try.prog) (n := 61) (fn := Try.f72) (R := fun v w' => ∃ ra0, ∃ rc0, v = Value.agg (List.toArray (encR (⟨Rw.none.is, Rw.none.cell, ([] : List Hd)⟩ : Rw) (Value.slice ra0 (⟨Rw.none.is, Rw.none.cell, ([] : List Hd)⟩ : Rw).table.length rc0))) ∧ St [] w w' [gsl 202 heldE (Value.slice ra0 (⟨Rw.none.is, Rw.none.cell, ([] : List Hd)⟩ : Rw).table.length rc0) (⟨Rw.none.is, Rw.none.cell, ([] : List Hd)⟩ : Rw).table]) (t := 4) (v := Value.agg (List.toArray ((Value.bool Rw.none.is) :: ((encC Rw.none.cell) ++ ((Value.slice none (([] : List Hd).length) 0) :: []))))) rfl rfl rfl hl718 ⟨none, 0, rfl, hs720⟩

theorem othero13_ok (w : World) (ok : Nat → Prop) (p0 : Rw) (a0 : Option Addr) (c0 : Nat) (he0 : elems heldW w ok a0 p0.table) (hc0 : p0.table.length ≤ c0) {r : Rw} (h : othero13 p0 = some r) :
    Ret Try.prog 71 [Value.agg (List.toArray (encR p0 (Value.slice a0 p0.table.length c0)))] w (fun v w' => ∃ ra0, ∃ rc0, v = Value.agg (List.toArray (encR r (Value.slice ra0 r.table.length rc0))) ∧ St [] w w' [gsl 202 heldE (Value.slice ra0 r.table.length rc0) r.table]) := by
  rw [othero13] at h
  have hs100 : St [] w w [] := St.start w
  have he1000 := el0 (L0 := []) (fun b _ => out_nil b) he0
  refine enter (n := 36) Try.func71 rfl rfl rfl ?_
  refine WC.seq ?_
  refine WC.region ?_
  refine WL.new (L' := fun b102 => [blk b102 62 (encR p0 (Value.slice a0 p0.table.length c0))]) (f := fun b102 => Value.pointer (some ⟨b102, 0, none⟩)) (X.box (v := Value.agg (List.toArray (encR p0 (Value.slice a0 p0.table.length c0)))) (c := encR p0 (Value.slice a0 p0.table.length c0)) (hs100.here) rfl rfl (fun _ => rfl)) rfl ?_
  intro b102 w103 ht108 he105 hz106
  have hs109 := hs100.trans ht108
  refine WL.new (L' := fun b110 => [blk b102 62 (encR p0 (Value.slice a0 p0.table.length c0)), blk b110 143 (encR Rw.none (Value.slice none 0 0))]) (f := fun b110 => Value.pointer (some ⟨b110, 0, none⟩)) (X.alloc (c := encR Rw.none (Value.slice none 0 0)) (hs109.here) zr143 rfl (fun _ => rfl)) rfl ?_
  intro b110 w111 ht116 he113 hz114
  have hs117 := hs109.trans ht116
  refine WL.nil ?_
  refine thenN ?_
  refine WC.seq ?_
  refine WC.region ?_
  refine WL.val (R.fieldAddr (o := 0) (o' := 0) fa62_0 rfl rfl) rfl ?_
  refine WL.val (R.loadL (v := Value.bool p0.is) lf4 rfl (hs117.at (i := 0) (off := 0) (n := 1) (cs := [Value.bool p0.is]) rfl rfl rfl)) rfl ?_
  refine WL.val (R.fieldAddr (o := 0) (o' := 1) fa62_1 rfl rfl) rfl ?_
  refine WL.val (R.loadA (cs := encC p0.cell) (n := 55) ag58 rfl (hs117.at (i := 0) (off := 1) (n := 55) (cs := encC p0.cell) rfl rfl rfl) rfl) rfl ?_
  have hd118 : ∀ w, (Instr.build 143 #[(0, Value.bool p0.is), (1, Value.agg (List.toArray (encC p0.cell)))]).run Try.prog w = .ok (Value.agg (List.toArray ((Value.bool p0.is) :: ((encC p0.cell) ++ ((Value.slice none 0 0) :: []))))) w := fun _ => by kernel_rfl
  refine WL.val (R.build (vs := [(0, Value.bool p0.is), (1, Value.agg (List.toArray (encC p0.cell)))]) rfl hd118) rfl ?_
  refine WL.new (L' := fun b119 => [blk b102 62 (encR p0 (Value.slice a0 p0.table.length c0)), blk b110 143 (encR Rw.none (Value.slice none 0 0)), blk b119 143 (encR Rw.none (Value.slice none 0 0))]) (f := fun b119 => Value.pointer (some ⟨b119, 0, none⟩)) (X.alloc (c := encR Rw.none (Value.slice none 0 0)) (hs117.here) zr143 rfl (fun _ => rfl)) rfl ?_
  intro b119 w120 ht125 he122 hz123
  have hs126 := hs117.trans ht125
  refine WL.sto (L' := [blk b102 62 (encR p0 (Value.slice a0 p0.table.length c0)), blk b110 143 (encR Rw.none (Value.slice none 0 0)), blk b119 143 ((Value.bool p0.is) :: ((encC p0.cell) ++ ((Value.slice none 0 0) :: [])))]) (X.store (i := 2) (n := 57) (b := b119) (off := 0) (c := encR Rw.none (Value.slice none 0 0)) (U := 143) (vs := (Value.bool p0.is) :: ((encC p0.cell) ++ ((Value.slice none 0 0) :: []))) (v := Value.agg (List.toArray ((Value.bool p0.is) :: ((encC p0.cell) ++ ((Value.slice none 0 0) :: []))))) (c' := (Value.bool p0.is) :: ((encC p0.cell) ++ ((Value.slice none 0 0) :: []))) (hs126.here) rfl ag143.size rfl rfl rfl rfl rfl rfl rfl rfl) rfl rfl ?_
  intro w127 ht128
  have hs129 := hs126.trans ht128
  refine WL.nil ?_
  refine thenN ?_
  refine WC.seq ?_
  refine WC.seq ?_
  refine WC.region ?_
  refine WL.val (R.assign (v := Value.int .i64 0) rfl) rfl ?_
  refine WL.nil ?_
  refine thenN ?_
  have ht179 := (hs129.here).addNil 202 heldE rfl
  have hs181 := hs129.trans ht179
  have hr293 := elT ((((ht108.trans ht116).trans ht125).trans ht128).trans ht179) he1000
  obtain ⟨K285, hK286, h287⟩ := kE (G := fun K285 => othero13_l1 p0 K285 1000000 0 ([] : List Hd)) h
  refine WC.join (fun σ295 w294 => ∃ l282 : List Hd, ∃ a283, ∃ c284, σ295 2 = (Value.pointer (some ⟨b110, 0, none⟩)) ∧ σ295 3 = (Value.pointer (some ⟨b119, 0, none⟩)) ∧ K285 l282 = some r ∧ St [] w w294 [blk b110 143 (encR Rw.none (Value.slice none 0 0)), blk b119 143 ((Value.bool p0.is) :: ((encC p0.cell) ++ ((Value.slice a283 l282.length c284) :: []))), gsl 202 heldE (Value.slice a283 l282.length c284) l282]) ?_ ?_
  · refine WC.block ?_
    refine WC.loop (T := Nat) (fun k291 σ289 w288 => ∃ i278 : Int, ∃ l279 : List Hd, ∃ a280, ∃ c281, σ289 1 = (Value.pointer (some ⟨b102, 0, none⟩)) ∧ σ289 2 = (Value.pointer (some ⟨b110, 0, none⟩)) ∧ σ289 3 = (Value.pointer (some ⟨b119, 0, none⟩)) ∧ σ289 4 = (Value.int .i64 i278) ∧ elems heldW w288 (In ok w [] [blk b102 62 (encR p0 (Value.slice a0 p0.table.length c0)), blk b110 143 (encR Rw.none (Value.slice none 0 0)), blk b119 143 ((Value.bool p0.is) :: ((encC p0.cell) ++ ((Value.slice a280 l279.length c281) :: []))), gsl 202 heldE (Value.slice a280 l279.length c281) l279]) a0 p0.table ∧ othero13_l1 p0 K285 k291 i278 l279 = some r ∧ St [] w w288 [blk b102 62 (encR p0 (Value.slice a0 p0.table.length c0)), blk b110 143 (encR Rw.none (Value.slice none 0 0)), blk b119 143 ((Value.bool p0.is) :: ((encC p0.cell) ++ ((Value.slice a280 l279.length c281) :: []))), gsl 202 heldE (Value.slice a280 l279.length c281) l279]) (fun k291 => k291) 1000000 ⟨0, ([] : List Hd), none, 0, rfl, rfl, rfl, rfl, hr293, h287, hs181⟩ ?_
    rintro k291 σ289 w288 ⟨i278, l279, a280, c281, s298, s299, s300, s301, he292, h297, hs290⟩
    rcases k291 with _ | k291
    · rw [othero13_l1] at h297; cases h297
    rw [othero13_l1] at h297
    refine WC.seq ?_
    refine WC.seq ?_
    refine WC.region ?_
    refine WL.val (R.move (v := Value.int .i64 i278) (by exact s301)) rfl ?_
    refine WL.val (R.fieldAddr (o := 0) (o' := 56) fa62_2 (by exact s298) rfl) rfl ?_
    refine WL.val (R.loadL (v := Value.slice a0 p0.table.length c0) lf28 rfl (hs290.at (i := 0) (off := 56) (n := 1) (cs := [Value.slice a0 p0.table.length c0]) rfl rfl rfl)) rfl ?_
    refine WL.val (R.len (a := a0) (n := p0.table.length) (c := c0) un28 rfl) rfl ?_
    by_cases hc302 : i278 < ((p0.table.length : Nat) : Int)
    · have h303 := ifT hc302 h297
      refine WL.val (R.lssT (k := .i64) (a := i278) (b := ((p0.table.length : Nat) : Int)) un3 rfl rfl hc302) rfl ?_
      refine WL.nil ?_
      refine thenN ?_
      refine WC.condT rfl rfl ?_
      refine WC.skip ?_
      refine thenN ?_
      refine WC.seq ?_
      refine WC.block ?_
      refine WC.drawE mixed (NP.block (NP.then (NP.then (NP.block (NP.join (NP.then NP.rq)))))) ?_
      have ht304 := (hs290.here).ext (Ext.drew _)
      have hs305 := hs290.trans ht304
      refine WE.take 0 rfl (by decide +kernel) (by decide +kernel) (by decide +kernel) (by decide +kernel) rfl rfl (fun wq hq => R.fieldAddr (o := 0) (o' := 56) fa143_2 (by exact s300) rfl) ?_
      refine WE.take 1 rfl (by decide +kernel) (by decide +kernel) (by decide +kernel) (by decide +kernel) rfl rfl (fun wq hq => R.loadL (v := Value.slice a280 l279.length c281) lf31 rfl ((hs305.ext hq).at (i := 2) (off := 56) (n := 1) (cs := [Value.slice a280 l279.length c281]) rfl rfl rfl)) ?_
      refine WE.take 2 rfl (by decide +kernel) (by decide +kernel) (by decide +kernel) (by decide +kernel) rfl rfl (fun wq hq => R.fieldAddr (o := 0) (o' := 56) fa62_2 (by exact s298) rfl) ?_
      refine WE.take 3 rfl (by decide +kernel) (by decide +kernel) (by decide +kernel) (by decide +kernel) rfl rfl (fun wq hq => R.loadL (v := Value.slice a0 p0.table.length c0) lf28 rfl ((hs305.ext hq).at (i := 0) (off := 56) (n := 1) (cs := [Value.slice a0 p0.table.length c0]) rfl rfl rfl)) ?_
      refine WE.take 4 rfl (by decide +kernel) (by decide +kernel) (by decide +kernel) (by decide +kernel) rfl rfl (fun wq hq => R.move (v := Value.int .i64 i278) (by exact s301)) ?_
      obtain ⟨x306, hx307, h308⟩ := ob (o := rd p0.table i278) h303
      obtain ⟨h0309, hx310, hl311, hm312⟩ := rdE hx307
      have hr313 := elT ht304 he292
      obtain ⟨ad314, e319, ha315, hp316, hat317, hrd318⟩ := hr313 _ _ hx310
      obtain ⟨-, rfl⟩ := hrd318
      refine WE.take 5 rfl (by decide +kernel) (by decide +kernel) (by decide +kernel) (by decide +kernel) rfl rfl (fun wq hq => R.indexS (n := 56) (m := (i278).toNat) (a := a0) (ad := ad314) (len := p0.table.length) (cap := c0) (z := i278) un28 ag60.size rfl ha315 rfl hm312 hl311 hp316) ?_
      refine WE.take 6 rfl (by decide +kernel) (by decide +kernel) (by decide +kernel) (by decide +kernel) rfl rfl (fun wq hq => R.fieldAddr (o := ad314.off + (i278).toNat * 56) (o' := ad314.off + (i278).toNat * 56) fa60_0 rfl rfl) ?_
      refine WE.take 7 rfl (by decide +kernel) (by decide +kernel) (by decide +kernel) (by decide +kernel) rfl rfl (fun wq hq => R.loadL (v := Value.bool x306.is) lf4 rfl (At.sub (a := ⟨ad314.block, ad314.off + (i278).toNat * 56, none⟩) (off := 0) (n := 1) (cs := encH x306) (ds := [Value.bool x306.is]) (At.exT hq hat317) rfl rfl)) ?_
      refine WE.take 8 rfl (by decide +kernel) (by decide +kernel) (by decide +kernel) (by decide +kernel) rfl rfl (fun wq hq => R.fieldAddr (o := 0) (o' := 56) fa62_2 (by exact s298) rfl) ?_
      refine WE.take 9 rfl (by decide +kernel) (by decide +kernel) (by decide +kernel) (by decide +kernel) rfl rfl (fun wq hq => R.loadL (v := Value.slice a0 p0.table.length c0) lf28 rfl ((hs305.ext hq).at (i := 0) (off := 56) (n := 1) (cs := [Value.slice a0 p0.table.length c0]) rfl rfl rfl)) ?_
      refine WE.take 10 rfl (by decide +kernel) (by decide +kernel) (by decide +kernel) (by decide +kernel) rfl rfl (fun wq hq => R.move (v := Value.int .i64 i278) (by exact s301)) ?_
      refine WE.take 11 rfl (by decide +kernel) (by decide +kernel) (by decide +kernel) (by decide +kernel) rfl rfl (fun wq hq => R.indexS (n := 56) (m := (i278).toNat) (a := a0) (ad := ad314) (len := p0.table.length) (cap := c0) (z := i278) un28 ag60.size rfl ha315 rfl hm312 hl311 hp316) ?_
      refine WE.take 12 rfl (by decide +kernel) (by decide +kernel) (by decide +kernel) (by decide +kernel) rfl rfl (fun wq hq => R.fieldAddr (o := ad314.off + (i278).toNat * 56) (o' := ad314.off + (i278).toNat * 56 + 1) fa60_1 rfl rfl) ?_
      refine WE.take 13 rfl (by decide +kernel) (by decide +kernel) (by decide +kernel) (by decide +kernel) rfl rfl (fun wq hq => R.loadA (cs := encC x306.cell) (n := 55) ag58 rfl (At.sub (a := ⟨ad314.block, ad314.off + (i278).toNat * 56, none⟩) (off := 1) (n := 55) (cs := encH x306) (ds := encC x306.cell) (At.exT hq hat317) rfl rfl) rfl) ?_
      have hd321 : ∀ w, (Instr.build 202 #[(0, Value.bool x306.is), (1, Value.agg (List.toArray (encC x306.cell)))]).run Try.prog w = .ok (Value.agg (List.toArray (encH (⟨x306.is, x306.cell⟩ : Hd)))) w := fun _ => by kernel_rfl
      refine WE.take 14 rfl (by decide +kernel) (by decide +kernel) (by decide +kernel) (by decide +kernel) rfl rfl (fun wq hq => R.build (vs := [(0, Value.bool x306.is), (1, Value.agg (List.toArray (encC x306.cell)))]) rfl hd321) ?_
      have hd327 : ∀ w : World, (Instr.buildSlice 31 1 #[(0, Value.agg (List.toArray (encH (⟨x306.is, x306.cell⟩ : Hd))))]).run Try.prog w = .ok (.slice (some ⟨w.heap.size, 0, none⟩) 1 1) { w with heap := w.heap.push (.cells (List.toArray (encH (⟨x306.is, x306.cell⟩ : Hd))) 202) } := fun _ => by kernel_rfl
      refine WE.new (L' := fun b322 => [blk b102 62 (encR p0 (Value.slice a0 p0.table.length c0)), blk b110 143 (encR Rw.none (Value.slice none 0 0)), blk b119 143 ((Value.bool p0.is) :: ((encC p0.cell) ++ ((Value.slice a280 l279.length c281) :: []))), gsl 202 heldE (Value.slice a280 l279.length c281) l279, blk b322 202 (encH (⟨x306.is, x306.cell⟩ : Hd))]) (f := fun b322 => Value.slice (some ⟨b322, 0, none⟩) 1 1) 15 (by decide +kernel) rfl rfl rfl (X.buildSlice (c := (encH (⟨x306.is, x306.cell⟩ : Hd))) (vs := [(0, Value.agg (List.toArray (encH (⟨x306.is, x306.cell⟩ : Hd))))]) (hs305.here) rfl hd327 (fun _ => rfl)) ?_
      intro b322 w323 ht329 he325 hz326
      have hs330 := hs305.trans ht329
      obtain ⟨hg331, h332⟩ := ckE (c := l279.length < 1000000) h308
      refine WE.grow (L' := fun v333 => [blk b102 62 (encR p0 (Value.slice a0 p0.table.length c0)), blk b110 143 (encR Rw.none (Value.slice none 0 0)), blk b119 143 ((Value.bool p0.is) :: ((encC p0.cell) ++ ((Value.slice a280 l279.length c281) :: []))), gsl 202 heldE v333 (l279 ++ [(⟨x306.is, x306.cell⟩ : Hd)]), blk b322 202 (encH (⟨x306.is, x306.cell⟩ : Hd))]) 16 (by decide +kernel) (by decide +kernel) rfl rfl rfl (X.append (i := 3) (e := heldE) (xs := l279) (ys := [(⟨x306.is, x306.cell⟩ : Hd)]) (ad := ⟨b322, 0, none⟩) (m := 1) (c := 1) (hs330.here) sl31 rfl rfl rfl rfl ((hs330.here).at (i := 4) (off := 0) (n := 56) (cs := flat heldE [(⟨x306.is, x306.cell⟩ : Hd)]) rfl rfl rfl) rfl rfl (room (n := 1) hg331 rfl (by decide)) (room63 (n := 1) hg331 rfl (by decide)) (fun _ => rfl)) ?_
      intro v333 w334 ht335
      obtain ⟨a336, c337, hv338⟩ := gsl_sl (ht335.get (i := 3) rfl)
      subst hv338
      have hs339 := hs330.trans ht335
      refine WE.take 17 rfl (by decide +kernel) (by decide +kernel) (by decide +kernel) (by decide +kernel) rfl rfl (fun wq hq => R.fieldAddr (o := 0) (o' := 56) fa143_2 (by exact s300) rfl) ?_
      refine WE.sto (L' := [blk b102 62 (encR p0 (Value.slice a0 p0.table.length c0)), blk b110 143 (encR Rw.none (Value.slice none 0 0)), blk b119 143 ((Value.bool p0.is) :: ((encC p0.cell) ++ ((Value.slice a336 ((l279 ++ [(⟨x306.is, x306.cell⟩ : Hd)]).length) c337) :: []))), gsl 202 heldE (Value.slice a336 ((l279 ++ [(⟨x306.is, x306.cell⟩ : Hd)]).length) c337) (l279 ++ [(⟨x306.is, x306.cell⟩ : Hd)]), blk b322 202 (encH (⟨x306.is, x306.cell⟩ : Hd))]) 18 (by decide +kernel) (by decide +kernel) rfl rfl rfl rfl (X.store (i := 2) (n := 1) (b := b119) (off := 56) (c := (Value.bool p0.is) :: ((encC p0.cell) ++ ((Value.slice a280 l279.length c281) :: []))) (U := 143) (vs := [Value.slice a336 ((l279 ++ [(⟨x306.is, x306.cell⟩ : Hd)]).length) c337]) (v := Value.slice a336 ((l279 ++ [(⟨x306.is, x306.cell⟩ : Hd)]).length) c337) (c' := (Value.bool p0.is) :: ((encC p0.cell) ++ ((Value.slice a336 ((l279 ++ [(⟨x306.is, x306.cell⟩ : Hd)]).length) c337) :: []))) (hs339.here) rfl lf31.size rfl rfl rfl rfl rfl rfl rfl rfl) ?_
      intro w340 ht341
      have hs342 := hs339.trans ht341
      refine WE.done (by decide +kernel) ?_
      refine blockN ?_
      refine thenN ?_
      refine WC.region ?_
      refine WL.val (R.move (v := Value.int .i64 i278) (by exact s301)) rfl ?_
      obtain ⟨hg343, h344⟩ := ckE (c := -9223372036854775808 ≤ i278 + 1 ∧ i278 + 1 ≤ 9223372036854775807) h332
      refine WL.val (R.add (a := i278) (b := 1) (z := i278 + 1) rfl rfl (w64e rfl hg343.1 hg343.2)) rfl ?_
      refine WL.val (R.assign (v := Value.int .i64 (i278 + 1)) rfl) rfl ?_
      refine WL.nil ?_
      have ht345 := (hs342.here).perm (L' := [blk b102 62 (encR p0 (Value.slice a0 p0.table.length c0)), blk b110 143 (encR Rw.none (Value.slice none 0 0)), blk b119 143 ((Value.bool p0.is) :: ((encC p0.cell) ++ ((Value.slice a336 ((l279 ++ [(⟨x306.is, x306.cell⟩ : Hd)]).length) c337) :: []))), gsl 202 heldE (Value.slice a336 ((l279 ++ [(⟨x306.is, x306.cell⟩ : Hd)]).length) c337) (l279 ++ [(⟨x306.is, x306.cell⟩ : Hd)])]) (G := [blk b322 202 (encH (⟨x306.is, x306.cell⟩ : Hd))]) ((List.Perm.refl _))
      have hs346 := hs342.trans ht345
      have hr347 := elT (((ht329.trans ht335).trans ht341).trans ht345) hr313
      exact roundEnd (s := k291) ⟨i278 + 1, l279 ++ [(⟨x306.is, x306.cell⟩ : Hd)], a336, c337, s298, s299, s300, rfl, hr347, h344, hs346⟩ (Nat.lt_succ_self _)
    · have h348 := ifF hc302 h297
      refine WL.val (R.lssF (k := .i64) (a := i278) (b := ((p0.table.length : Nat) : Int)) un3 rfl rfl hc302) rfl ?_
      refine WL.nil ?_
      refine thenN ?_
      refine WC.condF rfl rfl ?_
      refine WC.exit ?_
      refine thenE ?_
      refine thenE ?_
      refine blockHit ?_
      have ht349 := (hs290.here).perm (L' := [blk b110 143 (encR Rw.none (Value.slice none 0 0)), blk b119 143 ((Value.bool p0.is) :: ((encC p0.cell) ++ ((Value.slice a280 l279.length c281) :: []))), gsl 202 heldE (Value.slice a280 l279.length c281) l279]) (G := [blk b102 62 (encR p0 (Value.slice a0 p0.table.length c0))]) (((List.perm_middle (l₁ := [blk b102 62 (encR p0 (Value.slice a0 p0.table.length c0))]) (a := blk b110 143 (encR Rw.none (Value.slice none 0 0))) (l₂ := [blk b119 143 ((Value.bool p0.is) :: ((encC p0.cell) ++ ((Value.slice a280 l279.length c281) :: []))), gsl 202 heldE (Value.slice a280 l279.length c281) l279])).trans (List.Perm.cons _ ((List.perm_middle (l₁ := [blk b102 62 (encR p0 (Value.slice a0 p0.table.length c0))]) (a := blk b119 143 ((Value.bool p0.is) :: ((encC p0.cell) ++ ((Value.slice a280 l279.length c281) :: [])))) (l₂ := [gsl 202 heldE (Value.slice a280 l279.length c281) l279])).trans (List.Perm.cons _ ((List.perm_middle (l₁ := [blk b102 62 (encR p0 (Value.slice a0 p0.table.length c0))]) (a := gsl 202 heldE (Value.slice a280 l279.length c281) l279) (l₂ := [])).trans (List.Perm.cons _ (List.Perm.refl _))))))))
      have hs350 := hs290.trans ht349
      exact joinI ⟨l279, a280, c281, s299, s300, h348, hs350⟩
  · rintro σ295 w294 ⟨l282, a283, c284, s352, s353, h351, hs296⟩
    subst hK286
    refine thenN ?_
    refine WC.seq ?_
    refine WC.region ?_
    refine WL.val (R.loadA (cs := (Value.bool p0.is) :: ((encC p0.cell) ++ ((Value.slice a283 l282.length c284) :: []))) (n := 57) ag143 (by exact s353) (hs296.at (i := 1) (off := 0) (n := 57) (cs := (Value.bool p0.is) :: ((encC p0.cell) ++ ((Value.slice a283 l282.length c284) :: []))) rfl rfl rfl) rfl) rfl ?_
    refine WL.sto (L' := [blk b110 143 ((Value.bool p0.is) :: ((encC p0.cell) ++ ((Value.slice a283 l282.length c284) :: []))), blk b119 143 ((Value.bool p0.is) :: ((encC p0.cell) ++ ((Value.slice a283 l282.length c284) :: []))), gsl 202 heldE (Value.slice a283 l282.length c284) l282]) (X.store (i := 0) (n := 57) (b := b110) (off := 0) (c := encR Rw.none (Value.slice none 0 0)) (U := 143) (vs := (Value.bool p0.is) :: ((encC p0.cell) ++ ((Value.slice a283 l282.length c284) :: []))) (v := Value.agg (List.toArray ((Value.bool p0.is) :: ((encC p0.cell) ++ ((Value.slice a283 l282.length c284) :: []))))) (c' := (Value.bool p0.is) :: ((encC p0.cell) ++ ((Value.slice a283 l282.length c284) :: []))) (hs296.here) rfl ag143.size (by exact s352) rfl rfl rfl rfl rfl rfl rfl) rfl rfl ?_
    intro w354 ht355
    have hs356 := hs296.trans ht355
    refine WL.nil ?_
    refine thenN ?_
    refine WC.ret ?_
    have hl357 := run_loadA (P := Try.prog) (n := 57) ag143 (hs356.at (i := 0) (off := 0) (n := 57) (cs := (Value.bool p0.is) :: ((encC p0.cell) ++ ((Value.slice a283 l282.length c284) :: []))) rfl rfl rfl) rfl
    have ht358 := (hs356.here).perm (L' := [gsl 202 heldE (Value.slice a283 l282.length c284) l282]) (G := [blk b110 143 ((Value.bool p0.is) :: ((encC p0.cell) ++ ((Value.slice a283 l282.length c284) :: []))), blk b119 143 ((Value.bool p0.is) :: ((encC p0.cell) ++ ((Value.slice a283 l282.length c284) :: [])))]) (((List.perm_middle (l₁ := [blk b110 143 ((Value.bool p0.is) :: ((encC p0.cell) ++ ((Value.slice a283 l282.length c284) :: []))), blk b119 143 ((Value.bool p0.is) :: ((encC p0.cell) ++ ((Value.slice a283 l282.length c284) :: [])))]) (a := gsl 202 heldE (Value.slice a283 l282.length c284) l282) (l₂ := [])).trans (List.Perm.cons _ (List.Perm.refl _))))
    have hs359 := hs356.trans ht358
    obtain rfl := Option.some.inj (show some (⟨p0.is, p0.cell, l282⟩ : Rw) = some r from h351)
    exact retCell (P := Try.prog) (n := 36) (fn := Try.f71) (R := fun v w' => ∃ ra0, ∃ rc0, v = Value.agg (List.toArray (encR (⟨p0.is, p0.cell, l282⟩ : Rw) (Value.slice ra0 (⟨p0.is, p0.cell, l282⟩ : Rw).table.length rc0))) ∧ St [] w w' [gsl 202 heldE (Value.slice ra0 (⟨p0.is, p0.cell, l282⟩ : Rw).table.length rc0) (⟨p0.is, p0.cell, l282⟩ : Rw).table]) (t := 2) (v := Value.agg (List.toArray ((Value.bool p0.is) :: ((encC p0.cell) ++ ((Value.slice a283 l282.length c284) :: []))))) rfl s352 rfl hl357 ⟨a283, c284, rfl, hs359⟩

end Go.Proofs.Ytckcldimnelklaa
