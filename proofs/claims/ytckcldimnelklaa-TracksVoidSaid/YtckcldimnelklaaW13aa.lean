/- The functions come to what their twins answer: group 13a. -/
import Derived.Test.YtckcldimnelklaaTS
import Derived.Test.YtckcldimnelklaaTU
import Derived.Test.YtckcldimnelklaaLG
import Derived.Test.YtckcldimnelklaaD13a
namespace Go.Proofs.Ytckcldimnelklaa
open Go
set_option linter.unusedVariables false
set_option linter.unusedSimpArgs false
set_option maxRecDepth 100000
set_option maxHeartbeats 4000000

theorem said13_ok (w : World) (ok : Nat → Prop) (p0 : Sd) {r : Sd} (h : said13 p0 = some r) :
    Ret Try.prog 118 [Value.agg (List.toArray (encS p0))] w (fun v w' => v = Value.agg (List.toArray (encS r)) ∧ St [] w w' []) := by
  rw [said13] at h
  have hs100 : St [] w w [] := St.start w
  refine enter (n := 30) Try.func118 rfl rfl rfl ?_
  refine WC.seq ?_
  refine WC.region ?_
  refine WL.new (L' := fun b101 => [blk b101 49 (encS p0)]) (f := fun b101 => Value.pointer (some ⟨b101, 0, none⟩)) (X.box (v := Value.agg (List.toArray (encS p0))) (c := encS p0) (hs100.here) rfl rfl (fun _ => rfl)) rfl ?_
  intro b101 w102 ht107 he104 hz105
  have hs108 := hs100.trans ht107
  refine WL.new (L' := fun b109 => [blk b101 49 (encS p0), blk b109 49 (encS Sd.none)]) (f := fun b109 => Value.pointer (some ⟨b109, 0, none⟩)) (X.alloc (c := encS Sd.none) (hs108.here) zr49 rfl (fun _ => rfl)) rfl ?_
  intro b109 w110 ht115 he112 hz113
  have hs116 := hs108.trans ht115
  refine WL.nil ?_
  refine thenN ?_
  refine WC.seq ?_
  refine WC.seq ?_
  refine WC.region ?_
  refine WL.val (R.fieldAddr (o := 0) (o' := 0) fa49_0 rfl rfl) rfl ?_
  refine WL.val (R.loadL (v := Value.bool p0.is) lf4 rfl (hs116.at (i := 0) (off := 0) (n := 1) (cs := [Value.bool p0.is]) rfl rfl rfl)) rfl ?_
  refine WL.val (R.not (b := p0.is) rfl) rfl ?_
  refine WL.val (R.move (v := Value.bool (!p0.is)) rfl) rfl ?_
  by_cases hc117 : p0.is = true
  · have h118 := ifT hc117 h
    have hk119 : (!p0.is) = false := by simp [hc117]
    refine WL.guardY (e := 6) (Eq.trans (show _ = Value.bool (!p0.is) from rfl) (congrArg Value.bool hk119)) rfl rfl ?_
    refine WL.val (R.fieldAddr (o := 0) (o' := 1) fa49_1 rfl rfl) rfl ?_
    refine WL.guardY (e := 6) (Eq.trans (show _ = Value.bool (!p0.is) from rfl) (congrArg Value.bool hk119)) rfl rfl ?_
    refine WL.val (R.loadL (v := Value.int .i64 p0.at_) lf2 rfl (hs116.at (i := 0) (off := 1) (n := 1) (cs := [Value.int .i64 p0.at_]) rfl rfl rfl)) rfl ?_
    refine WL.guardY (e := 6) (Eq.trans (show _ = Value.bool (!p0.is) from rfl) (congrArg Value.bool hk119)) rfl rfl ?_
    by_cases hc120 : p0.at_ < 0
    · have h121 := ifT hc120 h118
      refine WL.val (R.lssT (k := .i64) (a := p0.at_) (b := 0) un2 rfl rfl hc120) rfl ?_
      refine WL.val (R.pickF (v := Value.bool true) (Eq.trans (show _ = Value.bool (!p0.is) from rfl) (congrArg Value.bool hk119)) rfl) rfl ?_
      refine WL.val (R.move (v := Value.bool true) rfl) rfl ?_
      refine WL.guardN (e := 11) (v := .bool true) rfl rfl rfl rfl ?_
      refine WL.guardN (e := 11) (v := .bool true) rfl rfl rfl rfl ?_
      refine WL.guardN (e := 11) (v := .bool true) rfl rfl rfl rfl ?_
      refine WL.val (R.pickT (v := Value.bool true) rfl rfl) rfl ?_
      refine WL.val (R.move (v := Value.bool true) rfl) rfl ?_
      refine WL.guardN (e := 16) (v := .bool true) rfl rfl rfl rfl ?_
      refine WL.guardN (e := 16) (v := .bool true) rfl rfl rfl rfl ?_
      refine WL.guardN (e := 16) (v := .bool true) rfl rfl rfl rfl ?_
      refine WL.guardN (e := 16) (v := .bool true) rfl rfl rfl rfl ?_
      refine WL.guardN (e := 16) (v := .bool true) rfl rfl rfl rfl ?_
      refine WL.guardN (e := 21) (v := undef) rfl rfl rfl rfl ?_
      refine WL.guardN (e := 21) (v := undef) rfl rfl rfl rfl ?_
      refine WL.guardN (e := 21) (v := undef) rfl rfl rfl rfl ?_
      refine WL.guardN (e := 21) (v := undef) rfl rfl rfl rfl ?_
      refine WL.guardN (e := 16) (v := .bool true) rfl rfl rfl rfl ?_
      refine WL.val (R.pickT (v := Value.bool true) rfl rfl) rfl ?_
      refine WL.nil ?_
      refine thenN ?_
      refine WC.condT rfl rfl ?_
      refine WC.seq ?_
      refine WC.region ?_
      have hd122 : ∀ w, (Instr.build 49 #[]).run Try.prog w = .ok (Value.agg (List.toArray (encS Sd.none))) w := fun _ => by kernel_rfl
      refine WL.val (R.build (vs := []) rfl hd122) rfl ?_
      refine WL.sto (L' := [blk b101 49 (encS p0), blk b109 49 (encS Sd.none)]) (X.store (i := 1) (n := 6) (b := b109) (off := 0) (c := encS Sd.none) (U := 49) (vs := encS Sd.none) (v := Value.agg (List.toArray (encS Sd.none))) (c' := encS Sd.none) (hs116.here) rfl ag49.size rfl rfl rfl rfl rfl rfl rfl rfl) rfl rfl ?_
      intro w123 ht124
      have hs125 := hs116.trans ht124
      refine WL.nil ?_
      refine thenN ?_
      refine WC.ret ?_
      have hl126 := run_loadA (P := Try.prog) (n := 6) ag49 (hs125.at (i := 1) (off := 0) (n := 6) (cs := encS Sd.none) rfl rfl rfl) rfl
      have ht127 := (hs125.here).perm (L' := []) (G := [blk b101 49 (encS p0), blk b109 49 (encS Sd.none)]) ((List.Perm.refl _))
      have hs128 := hs125.trans ht127
      obtain rfl := Option.some.inj (show some Sd.none = some r from h121)
      exact retCell (P := Try.prog) (n := 30) (fn := Try.f118) (R := fun v w' => v = Value.agg (List.toArray (encS Sd.none)) ∧ St [] w w' []) (t := 2) (v := Value.agg (List.toArray (encS Sd.none))) rfl rfl rfl hl126 ⟨rfl, hs128⟩
    · have h129 := ifF hc120 h118
      refine WL.val (R.lssF (k := .i64) (a := p0.at_) (b := 0) un2 rfl rfl hc120) rfl ?_
      refine WL.val (R.pickF (v := Value.bool false) (Eq.trans (show _ = Value.bool (!p0.is) from rfl) (congrArg Value.bool hk119)) rfl) rfl ?_
      refine WL.val (R.move (v := Value.bool false) rfl) rfl ?_
      refine WL.guardY (e := 11) rfl rfl rfl ?_
      refine WL.val (R.fieldAddr (o := 0) (o' := 1) fa49_1 rfl rfl) rfl ?_
      refine WL.guardY (e := 11) rfl rfl rfl ?_
      refine WL.val (R.loadL (v := Value.int .i64 p0.at_) lf2 rfl (hs116.at (i := 0) (off := 1) (n := 1) (cs := [Value.int .i64 p0.at_]) rfl rfl rfl)) rfl ?_
      refine WL.guardY (e := 11) rfl rfl rfl ?_
      by_cases hc130 : 1099511627776 < p0.at_
      · have h131 := ifT hc130 h129
        refine WL.val (R.gtrT (k := .i64) (a := p0.at_) (b := 1099511627776) un2 rfl rfl hc130) rfl ?_
        refine WL.val (R.pickF (v := Value.bool true) rfl rfl) rfl ?_
        refine WL.val (R.move (v := Value.bool true) rfl) rfl ?_
        refine WL.guardN (e := 16) (v := .bool true) rfl rfl rfl rfl ?_
        refine WL.guardN (e := 16) (v := .bool true) rfl rfl rfl rfl ?_
        refine WL.guardN (e := 16) (v := .bool true) rfl rfl rfl rfl ?_
        refine WL.guardN (e := 16) (v := .bool true) rfl rfl rfl rfl ?_
        refine WL.guardN (e := 16) (v := .bool true) rfl rfl rfl rfl ?_
        refine WL.guardN (e := 21) (v := undef) rfl rfl rfl rfl ?_
        refine WL.guardN (e := 21) (v := undef) rfl rfl rfl rfl ?_
        refine WL.guardN (e := 21) (v := undef) rfl rfl rfl rfl ?_
        refine WL.guardN (e := 21) (v := undef) rfl rfl rfl rfl ?_
        refine WL.guardN (e := 16) (v := .bool true) rfl rfl rfl rfl ?_
        refine WL.val (R.pickT (v := Value.bool true) rfl rfl) rfl ?_
        refine WL.nil ?_
        refine thenN ?_
        refine WC.condT rfl rfl ?_
        refine WC.seq ?_
        refine WC.region ?_
        have hd132 : ∀ w, (Instr.build 49 #[]).run Try.prog w = .ok (Value.agg (List.toArray (encS Sd.none))) w := fun _ => by kernel_rfl
        refine WL.val (R.build (vs := []) rfl hd132) rfl ?_
        refine WL.sto (L' := [blk b101 49 (encS p0), blk b109 49 (encS Sd.none)]) (X.store (i := 1) (n := 6) (b := b109) (off := 0) (c := encS Sd.none) (U := 49) (vs := encS Sd.none) (v := Value.agg (List.toArray (encS Sd.none))) (c' := encS Sd.none) (hs116.here) rfl ag49.size rfl rfl rfl rfl rfl rfl rfl rfl) rfl rfl ?_
        intro w133 ht134
        have hs135 := hs116.trans ht134
        refine WL.nil ?_
        refine thenN ?_
        refine WC.ret ?_
        have hl136 := run_loadA (P := Try.prog) (n := 6) ag49 (hs135.at (i := 1) (off := 0) (n := 6) (cs := encS Sd.none) rfl rfl rfl) rfl
        have ht137 := (hs135.here).perm (L' := []) (G := [blk b101 49 (encS p0), blk b109 49 (encS Sd.none)]) ((List.Perm.refl _))
        have hs138 := hs135.trans ht137
        obtain rfl := Option.some.inj (show some Sd.none = some r from h131)
        exact retCell (P := Try.prog) (n := 30) (fn := Try.f118) (R := fun v w' => v = Value.agg (List.toArray (encS Sd.none)) ∧ St [] w w' []) (t := 2) (v := Value.agg (List.toArray (encS Sd.none))) rfl rfl rfl hl136 ⟨rfl, hs138⟩
      · have h139 := ifF hc130 h129
        refine WL.val (R.gtrF (k := .i64) (a := p0.at_) (b := 1099511627776) un2 rfl rfl hc130) rfl ?_
        refine WL.val (R.pickF (v := Value.bool false) rfl rfl) rfl ?_
        refine WL.val (R.move (v := Value.bool false) rfl) rfl ?_
        refine WL.guardY (e := 16) rfl rfl rfl ?_
        refine WL.val (R.fieldAddr (o := 0) (o' := 2) fa49_2 rfl rfl) rfl ?_
        refine WL.guardY (e := 16) rfl rfl rfl ?_
        refine WL.val (R.fieldAddr (o := 2) (o' := 2) fa47_0 rfl rfl) rfl ?_
        refine WL.guardY (e := 16) rfl rfl rfl ?_
        refine WL.val (R.loadL (v := Value.int .u8 p0.kind) lf44 rfl (hs116.at (i := 0) (off := 2) (n := 1) (cs := [Value.int .u8 p0.kind]) rfl rfl rfl)) rfl ?_
        refine WL.guardY (e := 16) rfl rfl rfl ?_
        by_cases hc140 : p0.kind = 1
        · have h141 := ifT hc140 h139
          refine WL.val (R.neqF (k := .u8) (a := p0.kind) (b := 1) un44 rfl rfl (not_not_intro hc140)) rfl ?_
          refine WL.guardY (e := 16) rfl rfl rfl ?_
          refine WL.val (R.move (v := Value.bool false) rfl) rfl ?_
          refine WL.guardN (e := 21) (v := .bool false) rfl rfl rfl rfl ?_
          refine WL.guardN (e := 21) (v := .bool false) rfl rfl rfl rfl ?_
          refine WL.guardN (e := 21) (v := .bool false) rfl rfl rfl rfl ?_
          refine WL.guardN (e := 21) (v := .bool false) rfl rfl rfl rfl ?_
          refine WL.guardY (e := 16) rfl rfl rfl ?_
          refine WL.val (R.pickF (v := Value.bool false) rfl rfl) rfl ?_
          refine WL.val (R.pickF (v := Value.bool false) rfl rfl) rfl ?_
          refine WL.nil ?_
          refine thenN ?_
          refine WC.condF rfl rfl ?_
          refine WC.skip ?_
          refine thenN ?_
          refine WC.seq ?_
          refine WC.region ?_
          refine WL.val (R.loadA (cs := encS p0) (n := 6) ag49 rfl (hs116.at (i := 0) (off := 0) (n := 6) (cs := encS p0) rfl rfl rfl) rfl) rfl ?_
          refine WL.sto (L' := [blk b101 49 (encS p0), blk b109 49 (encS p0)]) (X.store (i := 1) (n := 6) (b := b109) (off := 0) (c := encS Sd.none) (U := 49) (vs := encS p0) (v := Value.agg (List.toArray (encS p0))) (c' := encS p0) (hs116.here) rfl ag49.size rfl rfl rfl rfl rfl rfl rfl rfl) rfl rfl ?_
          intro w142 ht143
          have hs144 := hs116.trans ht143
          refine WL.nil ?_
          refine thenN ?_
          refine WC.ret ?_
          have hl145 := run_loadA (P := Try.prog) (n := 6) ag49 (hs144.at (i := 1) (off := 0) (n := 6) (cs := encS p0) rfl rfl rfl) rfl
          have ht146 := (hs144.here).perm (L' := []) (G := [blk b101 49 (encS p0), blk b109 49 (encS p0)]) ((List.Perm.refl _))
          have hs147 := hs144.trans ht146
          obtain rfl := Option.some.inj (show some p0 = some r from h141)
          exact retCell (P := Try.prog) (n := 30) (fn := Try.f118) (R := fun v w' => v = Value.agg (List.toArray (encS p0)) ∧ St [] w w' []) (t := 2) (v := Value.agg (List.toArray (encS p0))) rfl rfl rfl hl145 ⟨rfl, hs147⟩
        · have h148 := ifF hc140 h139
          refine WL.val (R.neqT (k := .u8) (a := p0.kind) (b := 1) un44 rfl rfl hc140) rfl ?_
          refine WL.guardY (e := 16) rfl rfl rfl ?_
          refine WL.val (R.move (v := Value.bool true) rfl) rfl ?_
          refine WL.guardY (e := 21) rfl rfl rfl ?_
          refine WL.val (R.fieldAddr (o := 0) (o' := 2) fa49_2 rfl rfl) rfl ?_
          refine WL.guardY (e := 21) rfl rfl rfl ?_
          refine WL.val (R.fieldAddr (o := 2) (o' := 2) fa47_0 rfl rfl) rfl ?_
          refine WL.guardY (e := 21) rfl rfl rfl ?_
          refine WL.val (R.loadL (v := Value.int .u8 p0.kind) lf44 rfl (hs116.at (i := 0) (off := 2) (n := 1) (cs := [Value.int .u8 p0.kind]) rfl rfl rfl)) rfl ?_
          refine WL.guardY (e := 21) rfl rfl rfl ?_
          by_cases hc149 : p0.kind = 2
          · have h150 := ifT hc149 h148
            refine WL.val (R.neqF (k := .u8) (a := p0.kind) (b := 2) un44 rfl rfl (not_not_intro hc149)) rfl ?_
            refine WL.guardY (e := 16) rfl rfl rfl ?_
            refine WL.val (R.pickT (v := Value.bool false) rfl rfl) rfl ?_
            refine WL.val (R.pickF (v := Value.bool false) rfl rfl) rfl ?_
            refine WL.nil ?_
            refine thenN ?_
            refine WC.condF rfl rfl ?_
            refine WC.skip ?_
            refine thenN ?_
            refine WC.seq ?_
            refine WC.region ?_
            refine WL.val (R.loadA (cs := encS p0) (n := 6) ag49 rfl (hs116.at (i := 0) (off := 0) (n := 6) (cs := encS p0) rfl rfl rfl) rfl) rfl ?_
            refine WL.sto (L' := [blk b101 49 (encS p0), blk b109 49 (encS p0)]) (X.store (i := 1) (n := 6) (b := b109) (off := 0) (c := encS Sd.none) (U := 49) (vs := encS p0) (v := Value.agg (List.toArray (encS p0))) (c' := encS p0) (hs116.here) rfl ag49.size rfl rfl rfl rfl rfl rfl rfl rfl) rfl rfl ?_
            intro w151 ht152
            have hs153 := hs116.trans ht152
            refine WL.nil ?_
            refine thenN ?_
            refine WC.ret ?_
            have hl154 := run_loadA (P := Try.prog) (n := 6) ag49 (hs153.at (i := 1) (off := 0) (n := 6) (cs := encS p0) rfl rfl rfl) rfl
            have ht155 := (hs153.here).perm (L' := []) (G := [blk b101 49 (encS p0), blk b109 49 (encS p0)]) ((List.Perm.refl _))
            have hs156 := hs153.trans ht155
            obtain rfl := Option.some.inj (show some p0 = some r from h150)
            exact retCell (P := Try.prog) (n := 30) (fn := Try.f118) (R := fun v w' => v = Value.agg (List.toArray (encS p0)) ∧ St [] w w' []) (t := 2) (v := Value.agg (List.toArray (encS p0))) rfl rfl rfl hl154 ⟨rfl, hs156⟩
          · have h157 := ifF hc149 h148
            refine WL.val (R.neqT (k := .u8) (a := p0.kind) (b := 2) un44 rfl rfl hc149) rfl ?_
            refine WL.guardY (e := 16) rfl rfl rfl ?_
            refine WL.val (R.pickT (v := Value.bool true) rfl rfl) rfl ?_
            refine WL.val (R.pickF (v := Value.bool true) rfl rfl) rfl ?_
            refine WL.nil ?_
            refine thenN ?_
            refine WC.condT rfl rfl ?_
            refine WC.seq ?_
            refine WC.region ?_
            have hd158 : ∀ w, (Instr.build 49 #[]).run Try.prog w = .ok (Value.agg (List.toArray (encS Sd.none))) w := fun _ => by kernel_rfl
            refine WL.val (R.build (vs := []) rfl hd158) rfl ?_
            refine WL.sto (L' := [blk b101 49 (encS p0), blk b109 49 (encS Sd.none)]) (X.store (i := 1) (n := 6) (b := b109) (off := 0) (c := encS Sd.none) (U := 49) (vs := encS Sd.none) (v := Value.agg (List.toArray (encS Sd.none))) (c' := encS Sd.none) (hs116.here) rfl ag49.size rfl rfl rfl rfl rfl rfl rfl rfl) rfl rfl ?_
            intro w159 ht160
            have hs161 := hs116.trans ht160
            refine WL.nil ?_
            refine thenN ?_
            refine WC.ret ?_
            have hl162 := run_loadA (P := Try.prog) (n := 6) ag49 (hs161.at (i := 1) (off := 0) (n := 6) (cs := encS Sd.none) rfl rfl rfl) rfl
            have ht163 := (hs161.here).perm (L' := []) (G := [blk b101 49 (encS p0), blk b109 49 (encS Sd.none)]) ((List.Perm.refl _))
            have hs164 := hs161.trans ht163
            obtain rfl := Option.some.inj (show some Sd.none = some r from h157)
            exact retCell (P := Try.prog) (n := 30) (fn := Try.f118) (R := fun v w' => v = Value.agg (List.toArray (encS Sd.none)) ∧ St [] w w' []) (t := 2) (v := Value.agg (List.toArray (encS Sd.none))) rfl rfl rfl hl162 ⟨rfl, hs164⟩
  · have h165 := ifF hc117 h
    have hk166 : (!p0.is) = true := by simp [hc117]
    refine WL.guardN (e := 6) (v := .bool true) (Eq.trans (show _ = Value.bool (!p0.is) from rfl) (congrArg Value.bool hk166)) rfl rfl rfl ?_
    refine WL.guardN (e := 6) (v := .bool true) (Eq.trans (show _ = Value.bool (!p0.is) from rfl) (congrArg Value.bool hk166)) rfl rfl rfl ?_
    refine WL.guardN (e := 6) (v := .bool true) (Eq.trans (show _ = Value.bool (!p0.is) from rfl) (congrArg Value.bool hk166)) rfl rfl rfl ?_
    refine WL.val (R.pickT (v := Value.bool true) (Eq.trans (show _ = Value.bool (!p0.is) from rfl) (congrArg Value.bool hk166)) rfl) rfl ?_
    refine WL.val (R.move (v := Value.bool true) rfl) rfl ?_
    refine WL.guardN (e := 11) (v := .bool true) rfl rfl rfl rfl ?_
    refine WL.guardN (e := 11) (v := .bool true) rfl rfl rfl rfl ?_
    refine WL.guardN (e := 11) (v := .bool true) rfl rfl rfl rfl ?_
    refine WL.val (R.pickT (v := Value.bool true) rfl rfl) rfl ?_
    refine WL.val (R.move (v := Value.bool true) rfl) rfl ?_
    refine WL.guardN (e := 16) (v := .bool true) rfl rfl rfl rfl ?_
    refine WL.guardN (e := 16) (v := .bool true) rfl rfl rfl rfl ?_
    refine WL.guardN (e := 16) (v := .bool true) rfl rfl rfl rfl ?_
    refine WL.guardN (e := 16) (v := .bool true) rfl rfl rfl rfl ?_
    refine WL.guardN (e := 16) (v := .bool true) rfl rfl rfl rfl ?_
    refine WL.guardN (e := 21) (v := undef) rfl rfl rfl rfl ?_
    refine WL.guardN (e := 21) (v := undef) rfl rfl rfl rfl ?_
    refine WL.guardN (e := 21) (v := undef) rfl rfl rfl rfl ?_
    refine WL.guardN (e := 21) (v := undef) rfl rfl rfl rfl ?_
    refine WL.guardN (e := 16) (v := .bool true) rfl rfl rfl rfl ?_
    refine WL.val (R.pickT (v := Value.bool true) rfl rfl) rfl ?_
    refine WL.nil ?_
    refine thenN ?_
    refine WC.condT rfl rfl ?_
    refine WC.seq ?_
    refine WC.region ?_
    have hd167 : ∀ w, (Instr.build 49 #[]).run Try.prog w = .ok (Value.agg (List.toArray (encS Sd.none))) w := fun _ => by kernel_rfl
    refine WL.val (R.build (vs := []) rfl hd167) rfl ?_
    refine WL.sto (L' := [blk b101 49 (encS p0), blk b109 49 (encS Sd.none)]) (X.store (i := 1) (n := 6) (b := b109) (off := 0) (c := encS Sd.none) (U := 49) (vs := encS Sd.none) (v := Value.agg (List.toArray (encS Sd.none))) (c' := encS Sd.none) (hs116.here) rfl ag49.size rfl rfl rfl rfl rfl rfl rfl rfl) rfl rfl ?_
    intro w168 ht169
    have hs170 := hs116.trans ht169
    refine WL.nil ?_
    refine thenN ?_
    refine WC.ret ?_
    have hl171 := run_loadA (P := Try.prog) (n := 6) ag49 (hs170.at (i := 1) (off := 0) (n := 6) (cs := encS Sd.none) rfl rfl rfl) rfl
    have ht172 := (hs170.here).perm (L' := []) (G := [blk b101 49 (encS p0), blk b109 49 (encS Sd.none)]) ((List.Perm.refl _))
    have hs173 := hs170.trans ht172
    obtain rfl := Option.some.inj (show some Sd.none = some r from h165)
    exact retCell (P := Try.prog) (n := 30) (fn := Try.f118) (R := fun v w' => v = Value.agg (List.toArray (encS Sd.none)) ∧ St [] w w' []) (t := 2) (v := Value.agg (List.toArray (encS Sd.none))) rfl rfl rfl hl171 ⟨rfl, hs173⟩

theorem c1_13_ok (w : World) (ok : Nat → Prop) (q0 : Cl) (b0o0 : Nat) (hok : ∀ b, ok b → out [blk b0o0 58 (encC q0)] b) (hL : St [blk b0o0 58 (encC q0)] w w [blk b0o0 58 (encC q0)]) {r : Cl} (h : c1_13 q0 = some r) :
    Ret Try.prog 116 [Value.pointer (some ⟨b0o0, 0, none⟩)] w (fun v w' => v = Value.tuple #[] ∧ St [blk b0o0 58 (encC q0)] w w' [blk b0o0 58 (encC r)]) := by
  rw [c1_13] at h
  have hs100 : St [blk b0o0 58 (encC q0)] w w [blk b0o0 58 (encC q0)] := hL
  refine enter (n := 10) Try.func116 rfl rfl rfl ?_
  refine WC.seq ?_
  refine WC.region ?_
  refine WL.val (R.fieldAddr (o := 0) (o' := 0) fa58_0 rfl rfl) rfl ?_
  refine WL.val (R.loadL (v := Value.int .i64 q0.age) lf2 rfl (hs100.at (i := 0) (off := 0) (n := 1) (cs := [Value.int .i64 q0.age]) rfl rfl rfl)) rfl ?_
  by_cases hc101 : q0.age < 0
  · have h102 := ifT hc101 h
    refine WL.val (R.lssT (k := .i64) (a := q0.age) (b := 0) un2 rfl rfl hc101) rfl ?_
    refine WL.val (R.move (v := Value.bool true) rfl) rfl ?_
    refine WL.guardN (e := 4) (v := .bool true) rfl rfl rfl rfl ?_
    refine WL.guardN (e := 4) (v := .bool true) rfl rfl rfl rfl ?_
    refine WL.guardN (e := 4) (v := .bool true) rfl rfl rfl rfl ?_
    refine WL.val (R.pickT (v := Value.bool true) rfl rfl) rfl ?_
    refine WL.nil ?_
    refine thenN ?_
    refine WC.condT rfl rfl ?_
    refine WC.region ?_
    refine WL.val (R.fieldAddr (o := 0) (o' := 0) fa58_0 rfl rfl) rfl ?_
    refine WL.sto (L' := [blk b0o0 58 ((Value.int .i64 (-1)) :: ((encS q0.offer) ++ ((encS q0.report) ++ (encV q0.view))))]) (X.store (i := 0) (n := 1) (b := b0o0) (off := 0) (c := encC q0) (U := 58) (vs := [Value.int .i64 (-1)]) (v := Value.int .i64 (-1)) (c' := (Value.int .i64 (-1)) :: ((encS q0.offer) ++ ((encS q0.report) ++ (encV q0.view)))) (hs100.here) rfl lf2.size rfl rfl rfl rfl rfl rfl rfl rfl) rfl rfl ?_
    intro w103 ht104
    have hs105 := hs100.trans ht104
    refine WL.nil ?_
    obtain rfl := Option.some.inj (show some (⟨-1, q0.offer, q0.report, q0.view⟩ : Cl) = some r from h102)
    exact end0 (P := Try.prog) (n := 10) (fn := Try.f116) (R := fun v w' => v = Value.tuple #[] ∧ St [blk b0o0 58 (encC q0)] w w' [blk b0o0 58 (encC (⟨-1, q0.offer, q0.report, q0.view⟩ : Cl))]) rfl ⟨rfl, hs105⟩
  · have h106 := ifF hc101 h
    refine WL.val (R.lssF (k := .i64) (a := q0.age) (b := 0) un2 rfl rfl hc101) rfl ?_
    refine WL.val (R.move (v := Value.bool false) rfl) rfl ?_
    refine WL.guardY (e := 4) rfl rfl rfl ?_
    refine WL.val (R.fieldAddr (o := 0) (o' := 0) fa58_0 rfl rfl) rfl ?_
    refine WL.guardY (e := 4) rfl rfl rfl ?_
    refine WL.val (R.loadL (v := Value.int .i64 q0.age) lf2 rfl (hs100.at (i := 0) (off := 0) (n := 1) (cs := [Value.int .i64 q0.age]) rfl rfl rfl)) rfl ?_
    refine WL.guardY (e := 4) rfl rfl rfl ?_
    by_cases hc107 : 1099511627776 < q0.age
    · have h108 := ifT hc107 h106
      refine WL.val (R.gtrT (k := .i64) (a := q0.age) (b := 1099511627776) un2 rfl rfl hc107) rfl ?_
      refine WL.val (R.pickF (v := Value.bool true) rfl rfl) rfl ?_
      refine WL.nil ?_
      refine thenN ?_
      refine WC.condT rfl rfl ?_
      refine WC.region ?_
      refine WL.val (R.fieldAddr (o := 0) (o' := 0) fa58_0 rfl rfl) rfl ?_
      refine WL.sto (L' := [blk b0o0 58 ((Value.int .i64 (-1)) :: ((encS q0.offer) ++ ((encS q0.report) ++ (encV q0.view))))]) (X.store (i := 0) (n := 1) (b := b0o0) (off := 0) (c := encC q0) (U := 58) (vs := [Value.int .i64 (-1)]) (v := Value.int .i64 (-1)) (c' := (Value.int .i64 (-1)) :: ((encS q0.offer) ++ ((encS q0.report) ++ (encV q0.view)))) (hs100.here) rfl lf2.size rfl rfl rfl rfl rfl rfl rfl rfl) rfl rfl ?_
      intro w109 ht110
      have hs111 := hs100.trans ht110
      refine WL.nil ?_
      obtain rfl := Option.some.inj (show some (⟨-1, q0.offer, q0.report, q0.view⟩ : Cl) = some r from h108)
      exact end0 (P := Try.prog) (n := 10) (fn := Try.f116) (R := fun v w' => v = Value.tuple #[] ∧ St [blk b0o0 58 (encC q0)] w w' [blk b0o0 58 (encC (⟨-1, q0.offer, q0.report, q0.view⟩ : Cl))]) rfl ⟨rfl, hs111⟩
    · have h112 := ifF hc107 h106
      refine WL.val (R.gtrF (k := .i64) (a := q0.age) (b := 1099511627776) un2 rfl rfl hc107) rfl ?_
      refine WL.val (R.pickF (v := Value.bool false) rfl rfl) rfl ?_
      refine WL.nil ?_
      refine thenN ?_
      refine WC.condF rfl rfl ?_
      refine WC.skip ?_
      obtain rfl := Option.some.inj (show some q0 = some r from h112)
      exact end0 (P := Try.prog) (n := 10) (fn := Try.f116) (R := fun v w' => v = Value.tuple #[] ∧ St [blk b0o0 58 (encC q0)] w w' [blk b0o0 58 (encC q0)]) rfl ⟨rfl, hs100⟩

theorem c2_13_ok (w : World) (ok : Nat → Prop) (q0 : Cl) (b0o0 : Nat) (hok : ∀ b, ok b → out [blk b0o0 58 (encC q0)] b) (hL : St [blk b0o0 58 (encC q0)] w w [blk b0o0 58 (encC q0)]) {r : Cl} (h : c2_13 q0 = some r) :
    Ret Try.prog 117 [Value.pointer (some ⟨b0o0, 0, none⟩)] w (fun v w' => v = Value.tuple #[] ∧ St [blk b0o0 58 (encC q0)] w w' [blk b0o0 58 (encC r)]) := by
  rw [c2_13] at h
  have hs100 : St [blk b0o0 58 (encC q0)] w w [blk b0o0 58 (encC q0)] := hL
  refine enter (n := 9) Try.func117 rfl rfl rfl ?_
  refine WC.drawE mixed NP.rq ?_
  have ht101 := (hs100.here).ext (Ext.drew _)
  have hs102 := hs100.trans ht101
  refine WE.take 0 rfl (by decide +kernel) (by decide +kernel) (by decide +kernel) (by decide +kernel) rfl rfl (fun wq hq => R.fieldAddr (o := 0) (o' := 1) fa58_1 rfl rfl) ?_
  refine WE.take 1 rfl (by decide +kernel) (by decide +kernel) (by decide +kernel) (by decide +kernel) rfl rfl (fun wq hq => R.loadA (cs := encS q0.offer) (n := 6) ag49 rfl ((hs102.ext hq).at (i := 0) (off := 1) (n := 6) (cs := encS q0.offer) rfl rfl rfl) rfl) ?_
  refine WE.take 3 rfl (by decide +kernel) (by decide +kernel) (by decide +kernel) (by decide +kernel) rfl rfl (fun wq hq => R.fieldAddr (o := 0) (o' := 7) fa58_2 rfl rfl) ?_
  refine WE.take 4 rfl (by decide +kernel) (by decide +kernel) (by decide +kernel) (by decide +kernel) rfl rfl (fun wq hq => R.loadA (cs := encS q0.report) (n := 6) ag49 rfl ((hs102.ext hq).at (i := 0) (off := 7) (n := 6) (cs := encS q0.report) rfl rfl rfl) rfl) ?_
  obtain ⟨y103, hx104, h105⟩ := ob (o := said13 q0.offer) h
  refine WE.call 2 (by decide +kernel) rfl rfl rfl (said13_ok _ (In ok w [blk b0o0 58 (encC q0)] [blk b0o0 58 (encC q0)]) q0.offer  hx104) (R.call (vs := [Value.agg (List.toArray (encS q0.offer))]) (caps := []) bo118 rfl rfl) ?_
  rintro v108 w109 ⟨rfl, ht106⟩
  refine ⟨.inr (show Ext _ _ from ht106.kept), ?_⟩
  have ht107 := hs102.call (N := [blk b0o0 58 (encC q0)]) (M := []) (List.Perm.refl _) ht106
  have hs110 := hs102.trans ht107
  obtain ⟨y111, hx112, h113⟩ := ob (o := said13 q0.report) h105
  refine WE.call 5 (by decide +kernel) rfl rfl rfl (said13_ok _ (In ok w [blk b0o0 58 (encC q0)] [blk b0o0 58 (encC q0)]) q0.report  hx112) (R.call (vs := [Value.agg (List.toArray (encS q0.report))]) (caps := []) bo118 rfl rfl) ?_
  rintro v116 w117 ⟨rfl, ht114⟩
  refine ⟨.inr (show Ext _ _ from ht114.kept), ?_⟩
  have ht115 := hs110.call (N := [blk b0o0 58 (encC q0)]) (M := []) (List.Perm.refl _) ht114
  have hs118 := hs110.trans ht115
  refine WE.take 6 rfl (by decide +kernel) (by decide +kernel) (by decide +kernel) (by decide +kernel) rfl rfl (fun wq hq => R.fieldAddr (o := 0) (o' := 1) fa58_1 rfl rfl) ?_
  refine WE.sto (L' := [blk b0o0 58 ((Value.int .i64 q0.age) :: ((encS y103) ++ ((encS q0.report) ++ (encV q0.view))))]) 7 (by decide +kernel) (by decide +kernel) rfl rfl rfl rfl (X.store (i := 0) (n := 6) (b := b0o0) (off := 1) (c := encC q0) (U := 58) (vs := encS y103) (v := Value.agg (List.toArray (encS y103))) (c' := (Value.int .i64 q0.age) :: ((encS y103) ++ ((encS q0.report) ++ (encV q0.view)))) (hs118.here) rfl ag49.size rfl rfl rfl rfl rfl rfl rfl rfl) ?_
  intro w119 ht120
  have hs121 := hs118.trans ht120
  refine WE.take 8 rfl (by decide +kernel) (by decide +kernel) (by decide +kernel) (by decide +kernel) rfl rfl (fun wq hq => R.fieldAddr (o := 0) (o' := 7) fa58_2 rfl rfl) ?_
  refine WE.sto (L' := [blk b0o0 58 ((Value.int .i64 q0.age) :: ((encS y103) ++ ((encS y111) ++ (encV q0.view))))]) 9 (by decide +kernel) (by decide +kernel) rfl rfl rfl rfl (X.store (i := 0) (n := 6) (b := b0o0) (off := 7) (c := (Value.int .i64 q0.age) :: ((encS y103) ++ ((encS q0.report) ++ (encV q0.view)))) (U := 58) (vs := encS y111) (v := Value.agg (List.toArray (encS y111))) (c' := (Value.int .i64 q0.age) :: ((encS y103) ++ ((encS y111) ++ (encV q0.view)))) (hs121.here) rfl ag49.size rfl rfl rfl rfl rfl rfl rfl rfl) ?_
  intro w122 ht123
  have hs124 := hs121.trans ht123
  refine WE.done (by decide +kernel) ?_
  obtain rfl := Option.some.inj (show some (⟨q0.age, y103, y111, q0.view⟩ : Cl) = some r from h113)
  exact end0 (P := Try.prog) (n := 9) (fn := Try.f117) (R := fun v w' => v = Value.tuple #[] ∧ St [blk b0o0 58 (encC q0)] w w' [blk b0o0 58 (encC (⟨q0.age, y103, y111, q0.view⟩ : Cl))]) rfl ⟨rfl, hs124⟩

theorem c3_13_ok (w : World) (ok : Nat → Prop) (q0 : Cl) (b0o0 : Nat) (hok : ∀ b, ok b → out [blk b0o0 58 (encC q0)] b) (hL : St [blk b0o0 58 (encC q0)] w w [blk b0o0 58 (encC q0)]) {r : Cl} (h : c3_13 q0 = some r) :
    Ret Try.prog 119 [Value.pointer (some ⟨b0o0, 0, none⟩)] w (fun v w' => v = Value.tuple #[] ∧ St [blk b0o0 58 (encC q0)] w w' [blk b0o0 58 (encC r)]) := by
  rw [c3_13] at h
  have hs100 : St [blk b0o0 58 (encC q0)] w w [blk b0o0 58 (encC q0)] := hL
  refine enter (n := 13) Try.func119 rfl rfl rfl ?_
  refine WC.seq ?_
  refine WC.region ?_
  refine WL.val (R.fieldAddr (o := 0) (o' := 13) fa58_3 rfl rfl) rfl ?_
  refine WL.val (R.fieldAddr (o := 13) (o' := 53) fa56_5 rfl rfl) rfl ?_
  refine WL.val (R.loadL (v := Value.int .i8 q0.view.command) lf54 rfl (hs100.at (i := 0) (off := 53) (n := 1) (cs := [Value.int .i8 q0.view.command]) rfl rfl rfl)) rfl ?_
  by_cases hc101 : q0.view.command < 0
  · have h102 := ifT hc101 h
    refine WL.val (R.lssT (k := .i8) (a := q0.view.command) (b := 0) un54 rfl rfl hc101) rfl ?_
    refine WL.val (R.move (v := Value.bool true) rfl) rfl ?_
    refine WL.guardN (e := 5) (v := .bool true) rfl rfl rfl rfl ?_
    refine WL.guardN (e := 5) (v := .bool true) rfl rfl rfl rfl ?_
    refine WL.guardN (e := 5) (v := .bool true) rfl rfl rfl rfl ?_
    refine WL.guardN (e := 5) (v := .bool true) rfl rfl rfl rfl ?_
    refine WL.val (R.pickT (v := Value.bool true) rfl rfl) rfl ?_
    refine WL.nil ?_
    refine thenN ?_
    refine WC.condT rfl rfl ?_
    refine WC.region ?_
    refine WL.val (R.fieldAddr (o := 0) (o' := 13) fa58_3 rfl rfl) rfl ?_
    refine WL.val (R.fieldAddr (o := 13) (o' := 53) fa56_5 rfl rfl) rfl ?_
    refine WL.sto (L' := [blk b0o0 58 ((Value.int .i64 q0.age) :: ((encS q0.offer) ++ ((encS q0.report) ++ ([Value.bool q0.view.i0, Value.bool q0.view.i1, Value.bool q0.view.i2, Value.bool q0.view.i3, Value.bool q0.view.i4, Value.bool q0.view.i5, Value.bool q0.view.i6, Value.bool q0.view.i7] ++ ([Value.int .u8 q0.view.m0, Value.int .u8 q0.view.m1, Value.int .u8 q0.view.m2, Value.int .u8 q0.view.m3, Value.int .u8 q0.view.m4, Value.int .u8 q0.view.m5, Value.int .u8 q0.view.m6, Value.int .u8 q0.view.m7] ++ ([Value.int .u8 q0.view.g0, Value.int .u8 q0.view.g1, Value.int .u8 q0.view.g2, Value.int .u8 q0.view.g3, Value.int .u8 q0.view.g4, Value.int .u8 q0.view.g5, Value.int .u8 q0.view.g6, Value.int .u8 q0.view.g7] ++ ([Value.int .u16 q0.view.s0, Value.int .u16 q0.view.s1, Value.int .u16 q0.view.s2, Value.int .u16 q0.view.s3, Value.int .u16 q0.view.s4, Value.int .u16 q0.view.s5, Value.int .u16 q0.view.s6, Value.int .u16 q0.view.s7] ++ ([Value.bool q0.view.t0, Value.bool q0.view.t1, Value.bool q0.view.t2, Value.bool q0.view.t3, Value.bool q0.view.t4, Value.bool q0.view.t5, Value.bool q0.view.t6, Value.bool q0.view.t7] ++ ((Value.int .i8 (-1)) :: ((Value.int .u8 q0.view.mode) :: []))))))))))]) (X.store (i := 0) (n := 1) (b := b0o0) (off := 53) (c := encC q0) (U := 58) (vs := [Value.int .i8 (-1)]) (v := Value.int .i8 (-1)) (c' := (Value.int .i64 q0.age) :: ((encS q0.offer) ++ ((encS q0.report) ++ ([Value.bool q0.view.i0, Value.bool q0.view.i1, Value.bool q0.view.i2, Value.bool q0.view.i3, Value.bool q0.view.i4, Value.bool q0.view.i5, Value.bool q0.view.i6, Value.bool q0.view.i7] ++ ([Value.int .u8 q0.view.m0, Value.int .u8 q0.view.m1, Value.int .u8 q0.view.m2, Value.int .u8 q0.view.m3, Value.int .u8 q0.view.m4, Value.int .u8 q0.view.m5, Value.int .u8 q0.view.m6, Value.int .u8 q0.view.m7] ++ ([Value.int .u8 q0.view.g0, Value.int .u8 q0.view.g1, Value.int .u8 q0.view.g2, Value.int .u8 q0.view.g3, Value.int .u8 q0.view.g4, Value.int .u8 q0.view.g5, Value.int .u8 q0.view.g6, Value.int .u8 q0.view.g7] ++ ([Value.int .u16 q0.view.s0, Value.int .u16 q0.view.s1, Value.int .u16 q0.view.s2, Value.int .u16 q0.view.s3, Value.int .u16 q0.view.s4, Value.int .u16 q0.view.s5, Value.int .u16 q0.view.s6, Value.int .u16 q0.view.s7] ++ ([Value.bool q0.view.t0, Value.bool q0.view.t1, Value.bool q0.view.t2, Value.bool q0.view.t3, Value.bool q0.view.t4, Value.bool q0.view.t5, Value.bool q0.view.t6, Value.bool q0.view.t7] ++ ((Value.int .i8 (-1)) :: ((Value.int .u8 q0.view.mode) :: [])))))))))) (hs100.here) rfl lf54.size rfl rfl rfl rfl rfl rfl rfl rfl) rfl rfl ?_
    intro w103 ht104
    have hs105 := hs100.trans ht104
    refine WL.nil ?_
    obtain rfl := Option.some.inj (show some (⟨q0.age, q0.offer, q0.report, (⟨q0.view.i0, q0.view.i1, q0.view.i2, q0.view.i3, q0.view.i4, q0.view.i5, q0.view.i6, q0.view.i7, q0.view.m0, q0.view.m1, q0.view.m2, q0.view.m3, q0.view.m4, q0.view.m5, q0.view.m6, q0.view.m7, q0.view.g0, q0.view.g1, q0.view.g2, q0.view.g3, q0.view.g4, q0.view.g5, q0.view.g6, q0.view.g7, q0.view.s0, q0.view.s1, q0.view.s2, q0.view.s3, q0.view.s4, q0.view.s5, q0.view.s6, q0.view.s7, q0.view.t0, q0.view.t1, q0.view.t2, q0.view.t3, q0.view.t4, q0.view.t5, q0.view.t6, q0.view.t7, -1, q0.view.mode⟩ : Vw)⟩ : Cl) = some r from h102)
    exact end0 (P := Try.prog) (n := 13) (fn := Try.f119) (R := fun v w' => v = Value.tuple #[] ∧ St [blk b0o0 58 (encC q0)] w w' [blk b0o0 58 (encC (⟨q0.age, q0.offer, q0.report, (⟨q0.view.i0, q0.view.i1, q0.view.i2, q0.view.i3, q0.view.i4, q0.view.i5, q0.view.i6, q0.view.i7, q0.view.m0, q0.view.m1, q0.view.m2, q0.view.m3, q0.view.m4, q0.view.m5, q0.view.m6, q0.view.m7, q0.view.g0, q0.view.g1, q0.view.g2, q0.view.g3, q0.view.g4, q0.view.g5, q0.view.g6, q0.view.g7, q0.view.s0, q0.view.s1, q0.view.s2, q0.view.s3, q0.view.s4, q0.view.s5, q0.view.s6, q0.view.s7, q0.view.t0, q0.view.t1, q0.view.t2, q0.view.t3, q0.view.t4, q0.view.t5, q0.view.t6, q0.view.t7, -1, q0.view.mode⟩ : Vw)⟩ : Cl))]) rfl ⟨rfl, hs105⟩
  · have h106 := ifF hc101 h
    refine WL.val (R.lssF (k := .i8) (a := q0.view.command) (b := 0) un54 rfl rfl hc101) rfl ?_
    refine WL.val (R.move (v := Value.bool false) rfl) rfl ?_
    refine WL.guardY (e := 5) rfl rfl rfl ?_
    refine WL.val (R.fieldAddr (o := 0) (o' := 13) fa58_3 rfl rfl) rfl ?_
    refine WL.guardY (e := 5) rfl rfl rfl ?_
    refine WL.val (R.fieldAddr (o := 13) (o' := 53) fa56_5 rfl rfl) rfl ?_
    refine WL.guardY (e := 5) rfl rfl rfl ?_
    refine WL.val (R.loadL (v := Value.int .i8 q0.view.command) lf54 rfl (hs100.at (i := 0) (off := 53) (n := 1) (cs := [Value.int .i8 q0.view.command]) rfl rfl rfl)) rfl ?_
    refine WL.guardY (e := 5) rfl rfl rfl ?_
    by_cases hc107 : 8 ≤ q0.view.command
    · have h108 := ifT hc107 h106
      refine WL.val (R.geqT (k := .i8) (a := q0.view.command) (b := 8) un54 rfl rfl hc107) rfl ?_
      refine WL.val (R.pickF (v := Value.bool true) rfl rfl) rfl ?_
      refine WL.nil ?_
      refine thenN ?_
      refine WC.condT rfl rfl ?_
      refine WC.region ?_
      refine WL.val (R.fieldAddr (o := 0) (o' := 13) fa58_3 rfl rfl) rfl ?_
      refine WL.val (R.fieldAddr (o := 13) (o' := 53) fa56_5 rfl rfl) rfl ?_
      refine WL.sto (L' := [blk b0o0 58 ((Value.int .i64 q0.age) :: ((encS q0.offer) ++ ((encS q0.report) ++ ([Value.bool q0.view.i0, Value.bool q0.view.i1, Value.bool q0.view.i2, Value.bool q0.view.i3, Value.bool q0.view.i4, Value.bool q0.view.i5, Value.bool q0.view.i6, Value.bool q0.view.i7] ++ ([Value.int .u8 q0.view.m0, Value.int .u8 q0.view.m1, Value.int .u8 q0.view.m2, Value.int .u8 q0.view.m3, Value.int .u8 q0.view.m4, Value.int .u8 q0.view.m5, Value.int .u8 q0.view.m6, Value.int .u8 q0.view.m7] ++ ([Value.int .u8 q0.view.g0, Value.int .u8 q0.view.g1, Value.int .u8 q0.view.g2, Value.int .u8 q0.view.g3, Value.int .u8 q0.view.g4, Value.int .u8 q0.view.g5, Value.int .u8 q0.view.g6, Value.int .u8 q0.view.g7] ++ ([Value.int .u16 q0.view.s0, Value.int .u16 q0.view.s1, Value.int .u16 q0.view.s2, Value.int .u16 q0.view.s3, Value.int .u16 q0.view.s4, Value.int .u16 q0.view.s5, Value.int .u16 q0.view.s6, Value.int .u16 q0.view.s7] ++ ([Value.bool q0.view.t0, Value.bool q0.view.t1, Value.bool q0.view.t2, Value.bool q0.view.t3, Value.bool q0.view.t4, Value.bool q0.view.t5, Value.bool q0.view.t6, Value.bool q0.view.t7] ++ ((Value.int .i8 (-1)) :: ((Value.int .u8 q0.view.mode) :: []))))))))))]) (X.store (i := 0) (n := 1) (b := b0o0) (off := 53) (c := encC q0) (U := 58) (vs := [Value.int .i8 (-1)]) (v := Value.int .i8 (-1)) (c' := (Value.int .i64 q0.age) :: ((encS q0.offer) ++ ((encS q0.report) ++ ([Value.bool q0.view.i0, Value.bool q0.view.i1, Value.bool q0.view.i2, Value.bool q0.view.i3, Value.bool q0.view.i4, Value.bool q0.view.i5, Value.bool q0.view.i6, Value.bool q0.view.i7] ++ ([Value.int .u8 q0.view.m0, Value.int .u8 q0.view.m1, Value.int .u8 q0.view.m2, Value.int .u8 q0.view.m3, Value.int .u8 q0.view.m4, Value.int .u8 q0.view.m5, Value.int .u8 q0.view.m6, Value.int .u8 q0.view.m7] ++ ([Value.int .u8 q0.view.g0, Value.int .u8 q0.view.g1, Value.int .u8 q0.view.g2, Value.int .u8 q0.view.g3, Value.int .u8 q0.view.g4, Value.int .u8 q0.view.g5, Value.int .u8 q0.view.g6, Value.int .u8 q0.view.g7] ++ ([Value.int .u16 q0.view.s0, Value.int .u16 q0.view.s1, Value.int .u16 q0.view.s2, Value.int .u16 q0.view.s3, Value.int .u16 q0.view.s4, Value.int .u16 q0.view.s5, Value.int .u16 q0.view.s6, Value.int .u16 q0.view.s7] ++ ([Value.bool q0.view.t0, Value.bool q0.view.t1, Value.bool q0.view.t2, Value.bool q0.view.t3, Value.bool q0.view.t4, Value.bool q0.view.t5, Value.bool q0.view.t6, Value.bool q0.view.t7] ++ ((Value.int .i8 (-1)) :: ((Value.int .u8 q0.view.mode) :: [])))))))))) (hs100.here) rfl lf54.size rfl rfl rfl rfl rfl rfl rfl rfl) rfl rfl ?_
      intro w109 ht110
      have hs111 := hs100.trans ht110
      refine WL.nil ?_
      obtain rfl := Option.some.inj (show some (⟨q0.age, q0.offer, q0.report, (⟨q0.view.i0, q0.view.i1, q0.view.i2, q0.view.i3, q0.view.i4, q0.view.i5, q0.view.i6, q0.view.i7, q0.view.m0, q0.view.m1, q0.view.m2, q0.view.m3, q0.view.m4, q0.view.m5, q0.view.m6, q0.view.m7, q0.view.g0, q0.view.g1, q0.view.g2, q0.view.g3, q0.view.g4, q0.view.g5, q0.view.g6, q0.view.g7, q0.view.s0, q0.view.s1, q0.view.s2, q0.view.s3, q0.view.s4, q0.view.s5, q0.view.s6, q0.view.s7, q0.view.t0, q0.view.t1, q0.view.t2, q0.view.t3, q0.view.t4, q0.view.t5, q0.view.t6, q0.view.t7, -1, q0.view.mode⟩ : Vw)⟩ : Cl) = some r from h108)
      exact end0 (P := Try.prog) (n := 13) (fn := Try.f119) (R := fun v w' => v = Value.tuple #[] ∧ St [blk b0o0 58 (encC q0)] w w' [blk b0o0 58 (encC (⟨q0.age, q0.offer, q0.report, (⟨q0.view.i0, q0.view.i1, q0.view.i2, q0.view.i3, q0.view.i4, q0.view.i5, q0.view.i6, q0.view.i7, q0.view.m0, q0.view.m1, q0.view.m2, q0.view.m3, q0.view.m4, q0.view.m5, q0.view.m6, q0.view.m7, q0.view.g0, q0.view.g1, q0.view.g2, q0.view.g3, q0.view.g4, q0.view.g5, q0.view.g6, q0.view.g7, q0.view.s0, q0.view.s1, q0.view.s2, q0.view.s3, q0.view.s4, q0.view.s5, q0.view.s6, q0.view.s7, q0.view.t0, q0.view.t1, q0.view.t2, q0.view.t3, q0.view.t4, q0.view.t5, q0.view.t6, q0.view.t7, -1, q0.view.mode⟩ : Vw)⟩ : Cl))]) rfl ⟨rfl, hs111⟩
    · have h112 := ifF hc107 h106
      refine WL.val (R.geqF (k := .i8) (a := q0.view.command) (b := 8) un54 rfl rfl hc107) rfl ?_
      refine WL.val (R.pickF (v := Value.bool false) rfl rfl) rfl ?_
      refine WL.nil ?_
      refine thenN ?_
      refine WC.condF rfl rfl ?_
      refine WC.skip ?_
      obtain rfl := Option.some.inj (show some q0 = some r from h112)
      exact end0 (P := Try.prog) (n := 13) (fn := Try.f119) (R := fun v w' => v = Value.tuple #[] ∧ St [blk b0o0 58 (encC q0)] w w' [blk b0o0 58 (encC q0)]) rfl ⟨rfl, hs100⟩

theorem c4_13_ok (w : World) (ok : Nat → Prop) (q0 : Cl) (b0o0 : Nat) (hok : ∀ b, ok b → out [blk b0o0 58 (encC q0)] b) (hL : St [blk b0o0 58 (encC q0)] w w [blk b0o0 58 (encC q0)]) {r : Cl} (h : c4_13 q0 = some r) :
    Ret Try.prog 120 [Value.pointer (some ⟨b0o0, 0, none⟩)] w (fun v w' => v = Value.tuple #[] ∧ St [blk b0o0 58 (encC q0)] w w' [blk b0o0 58 (encC r)]) := by
  rw [c4_13] at h
  have hs100 : St [blk b0o0 58 (encC q0)] w w [blk b0o0 58 (encC q0)] := hL
  refine enter (n := 7) Try.func120 rfl rfl rfl ?_
  refine WC.seq ?_
  refine WC.region ?_
  refine WL.val (R.fieldAddr (o := 0) (o' := 13) fa58_3 rfl rfl) rfl ?_
  refine WL.val (R.fieldAddr (o := 13) (o' := 54) fa56_6 rfl rfl) rfl ?_
  refine WL.val (R.loadL (v := Value.int .u8 q0.view.mode) lf5 rfl (hs100.at (i := 0) (off := 54) (n := 1) (cs := [Value.int .u8 q0.view.mode]) rfl rfl rfl)) rfl ?_
  by_cases hc101 : 7 < q0.view.mode
  · have h102 := ifT hc101 h
    refine WL.val (R.gtrT (k := .u8) (a := q0.view.mode) (b := 7) un5 rfl rfl hc101) rfl ?_
    refine WL.nil ?_
    refine thenN ?_
    refine WC.condT rfl rfl ?_
    refine WC.region ?_
    refine WL.val (R.fieldAddr (o := 0) (o' := 13) fa58_3 rfl rfl) rfl ?_
    refine WL.val (R.fieldAddr (o := 13) (o' := 54) fa56_6 rfl rfl) rfl ?_
    refine WL.sto (L' := [blk b0o0 58 ((Value.int .i64 q0.age) :: ((encS q0.offer) ++ ((encS q0.report) ++ ([Value.bool q0.view.i0, Value.bool q0.view.i1, Value.bool q0.view.i2, Value.bool q0.view.i3, Value.bool q0.view.i4, Value.bool q0.view.i5, Value.bool q0.view.i6, Value.bool q0.view.i7] ++ ([Value.int .u8 q0.view.m0, Value.int .u8 q0.view.m1, Value.int .u8 q0.view.m2, Value.int .u8 q0.view.m3, Value.int .u8 q0.view.m4, Value.int .u8 q0.view.m5, Value.int .u8 q0.view.m6, Value.int .u8 q0.view.m7] ++ ([Value.int .u8 q0.view.g0, Value.int .u8 q0.view.g1, Value.int .u8 q0.view.g2, Value.int .u8 q0.view.g3, Value.int .u8 q0.view.g4, Value.int .u8 q0.view.g5, Value.int .u8 q0.view.g6, Value.int .u8 q0.view.g7] ++ ([Value.int .u16 q0.view.s0, Value.int .u16 q0.view.s1, Value.int .u16 q0.view.s2, Value.int .u16 q0.view.s3, Value.int .u16 q0.view.s4, Value.int .u16 q0.view.s5, Value.int .u16 q0.view.s6, Value.int .u16 q0.view.s7] ++ ([Value.bool q0.view.t0, Value.bool q0.view.t1, Value.bool q0.view.t2, Value.bool q0.view.t3, Value.bool q0.view.t4, Value.bool q0.view.t5, Value.bool q0.view.t6, Value.bool q0.view.t7] ++ ((Value.int .i8 q0.view.command) :: ((Value.int .u8 0) :: []))))))))))]) (X.store (i := 0) (n := 1) (b := b0o0) (off := 54) (c := encC q0) (U := 58) (vs := [Value.int .u8 0]) (v := Value.int .u8 0) (c' := (Value.int .i64 q0.age) :: ((encS q0.offer) ++ ((encS q0.report) ++ ([Value.bool q0.view.i0, Value.bool q0.view.i1, Value.bool q0.view.i2, Value.bool q0.view.i3, Value.bool q0.view.i4, Value.bool q0.view.i5, Value.bool q0.view.i6, Value.bool q0.view.i7] ++ ([Value.int .u8 q0.view.m0, Value.int .u8 q0.view.m1, Value.int .u8 q0.view.m2, Value.int .u8 q0.view.m3, Value.int .u8 q0.view.m4, Value.int .u8 q0.view.m5, Value.int .u8 q0.view.m6, Value.int .u8 q0.view.m7] ++ ([Value.int .u8 q0.view.g0, Value.int .u8 q0.view.g1, Value.int .u8 q0.view.g2, Value.int .u8 q0.view.g3, Value.int .u8 q0.view.g4, Value.int .u8 q0.view.g5, Value.int .u8 q0.view.g6, Value.int .u8 q0.view.g7] ++ ([Value.int .u16 q0.view.s0, Value.int .u16 q0.view.s1, Value.int .u16 q0.view.s2, Value.int .u16 q0.view.s3, Value.int .u16 q0.view.s4, Value.int .u16 q0.view.s5, Value.int .u16 q0.view.s6, Value.int .u16 q0.view.s7] ++ ([Value.bool q0.view.t0, Value.bool q0.view.t1, Value.bool q0.view.t2, Value.bool q0.view.t3, Value.bool q0.view.t4, Value.bool q0.view.t5, Value.bool q0.view.t6, Value.bool q0.view.t7] ++ ((Value.int .i8 q0.view.command) :: ((Value.int .u8 0) :: [])))))))))) (hs100.here) rfl lf5.size rfl rfl rfl rfl rfl rfl rfl rfl) rfl rfl ?_
    intro w103 ht104
    have hs105 := hs100.trans ht104
    refine WL.nil ?_
    obtain rfl := Option.some.inj (show some (⟨q0.age, q0.offer, q0.report, (⟨q0.view.i0, q0.view.i1, q0.view.i2, q0.view.i3, q0.view.i4, q0.view.i5, q0.view.i6, q0.view.i7, q0.view.m0, q0.view.m1, q0.view.m2, q0.view.m3, q0.view.m4, q0.view.m5, q0.view.m6, q0.view.m7, q0.view.g0, q0.view.g1, q0.view.g2, q0.view.g3, q0.view.g4, q0.view.g5, q0.view.g6, q0.view.g7, q0.view.s0, q0.view.s1, q0.view.s2, q0.view.s3, q0.view.s4, q0.view.s5, q0.view.s6, q0.view.s7, q0.view.t0, q0.view.t1, q0.view.t2, q0.view.t3, q0.view.t4, q0.view.t5, q0.view.t6, q0.view.t7, q0.view.command, 0⟩ : Vw)⟩ : Cl) = some r from h102)
    exact end0 (P := Try.prog) (n := 7) (fn := Try.f120) (R := fun v w' => v = Value.tuple #[] ∧ St [blk b0o0 58 (encC q0)] w w' [blk b0o0 58 (encC (⟨q0.age, q0.offer, q0.report, (⟨q0.view.i0, q0.view.i1, q0.view.i2, q0.view.i3, q0.view.i4, q0.view.i5, q0.view.i6, q0.view.i7, q0.view.m0, q0.view.m1, q0.view.m2, q0.view.m3, q0.view.m4, q0.view.m5, q0.view.m6, q0.view.m7, q0.view.g0, q0.view.g1, q0.view.g2, q0.view.g3, q0.view.g4, q0.view.g5, q0.view.g6, q0.view.g7, q0.view.s0, q0.view.s1, q0.view.s2, q0.view.s3, q0.view.s4, q0.view.s5, q0.view.s6, q0.view.s7, q0.view.t0, q0.view.t1, q0.view.t2, q0.view.t3, q0.view.t4, q0.view.t5, q0.view.t6, q0.view.t7, q0.view.command, 0⟩ : Vw)⟩ : Cl))]) rfl ⟨rfl, hs105⟩
  · have h106 := ifF hc101 h
    refine WL.val (R.gtrF (k := .u8) (a := q0.view.mode) (b := 7) un5 rfl rfl hc101) rfl ?_
    refine WL.nil ?_
    refine thenN ?_
    refine WC.condF rfl rfl ?_
    refine WC.skip ?_
    obtain rfl := Option.some.inj (show some q0 = some r from h106)
    exact end0 (P := Try.prog) (n := 7) (fn := Try.f120) (R := fun v w' => v = Value.tuple #[] ∧ St [blk b0o0 58 (encC q0)] w w' [blk b0o0 58 (encC q0)]) rfl ⟨rfl, hs100⟩

theorem may13_ok (w : World) (ok : Nat → Prop) (p0 : Int) {r : Bool} (h : may13 p0 = some r) :
    Ret Try.prog 108 [Value.int .i64 p0] w (fun v w' => v = Value.bool r ∧ St [] w w' []) := by
  rw [may13] at h
  have hs100 : St [] w w [] := St.start w
  refine enter (n := 9) Try.func108 rfl rfl rfl ?_
  refine WC.seq ?_
  refine WC.region ?_
  refine WL.val (R.assign (v := Value.bool false) rfl) rfl ?_
  refine WL.nil ?_
  refine thenN ?_
  refine WC.seq ?_
  refine WC.region ?_
  refine WL.val (R.move (v := Value.int .i64 p0) rfl) rfl ?_
  by_cases hc101 : 0 ≤ p0
  · have h102 := ifT hc101 h
    refine WL.val (R.geqT (k := .i64) (a := p0) (b := 0) un3 rfl rfl hc101) rfl ?_
    refine WL.val (R.move (v := Value.bool true) rfl) rfl ?_
    refine WL.guardY (e := 5) rfl rfl rfl ?_
    refine WL.val (R.move (v := Value.int .i64 p0) rfl) rfl ?_
    refine WL.guardY (e := 5) rfl rfl rfl ?_
    by_cases hc103 : p0 ≤ 16
    · have h104 := ifT hc103 h102
      refine WL.val (R.leqT (k := .i64) (a := p0) (b := 16) un3 rfl rfl hc103) rfl ?_
      refine WL.val (R.pickT (v := Value.bool true) rfl rfl) rfl ?_
      refine WL.val (R.assign (v := Value.bool true) rfl) rfl ?_
      refine WL.nil ?_
      refine thenN ?_
      refine WC.ret ?_
      obtain rfl := Option.some.inj (show some true = some r from h104)
      exact ret1 (P := Try.prog) (n := 9) (fn := Try.f108) (R := fun v w' => v = Value.bool true ∧ St [] w w' []) (t := 2) (v := Value.bool true) rfl rfl rfl ⟨rfl, hs100⟩
    · have h105 := ifF hc103 h102
      refine WL.val (R.leqF (k := .i64) (a := p0) (b := 16) un3 rfl rfl hc103) rfl ?_
      refine WL.val (R.pickT (v := Value.bool false) rfl rfl) rfl ?_
      refine WL.val (R.assign (v := Value.bool false) rfl) rfl ?_
      refine WL.nil ?_
      refine thenN ?_
      refine WC.ret ?_
      obtain rfl := Option.some.inj (show some false = some r from h105)
      exact ret1 (P := Try.prog) (n := 9) (fn := Try.f108) (R := fun v w' => v = Value.bool false ∧ St [] w w' []) (t := 2) (v := Value.bool false) rfl rfl rfl ⟨rfl, hs100⟩
  · have h106 := ifF hc101 h
    refine WL.val (R.geqF (k := .i64) (a := p0) (b := 0) un3 rfl rfl hc101) rfl ?_
    refine WL.val (R.move (v := Value.bool false) rfl) rfl ?_
    refine WL.guardN (e := 5) (v := .bool false) rfl rfl rfl rfl ?_
    refine WL.guardN (e := 5) (v := .bool false) rfl rfl rfl rfl ?_
    refine WL.val (R.pickF (v := Value.bool false) rfl rfl) rfl ?_
    refine WL.val (R.assign (v := Value.bool false) rfl) rfl ?_
    refine WL.nil ?_
    refine thenN ?_
    refine WC.ret ?_
    obtain rfl := Option.some.inj (show some false = some r from h106)
    exact ret1 (P := Try.prog) (n := 9) (fn := Try.f108) (R := fun v w' => v = Value.bool false ∧ St [] w w' []) (t := 2) (v := Value.bool false) rfl rfl rfl ⟨rfl, hs100⟩

end Go.Proofs.Ytckcldimnelklaa
