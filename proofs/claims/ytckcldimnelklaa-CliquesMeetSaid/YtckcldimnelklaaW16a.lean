/- The functions come to what their twins answer: group 16. -/
import Derived.Test.YtckcldimnelklaaTS
import Derived.Test.YtckcldimnelklaaTU
import Derived.Test.YtckcldimnelklaaLG
import Derived.Test.YtckcldimnelklaaD16
namespace Go.Proofs.Ytckcldimnelklaa
open Go
set_option linter.unusedVariables false
set_option linter.unusedSimpArgs false
set_option maxRecDepth 100000
set_option maxHeartbeats 4000000

theorem amay16_ok (w : World) (ok : Nat → Prop) (p0 : Int) {r : Bool} (h : amay16 p0 = some r) :
    Ret Try.prog 130 [Value.int .i64 p0] w (fun v w' => v = Value.bool r ∧ St [] w w' []) := by
  rw [amay16] at h
  have hs100 : St [] w w [] := St.start w
  refine enter (n := 9) Try.func130 rfl rfl rfl ?_
  refine WC.seq ?_
  refine WC.region ?_
  refine WL.val (R.assign (v := Value.bool false) rfl) rfl ?_
  refine WL.nil ?_
  refine thenN ?_
  refine WC.seq ?_
  refine WC.region ?_
  refine WL.val (R.move (v := Value.int .i64 p0) rfl) rfl ?_
  by_cases hc101 : 4 ≤ p0
  · have h102 := ifT hc101 h
    refine WL.val (R.geqT (k := .i64) (a := p0) (b := 4) un3 rfl rfl hc101) rfl ?_
    refine WL.val (R.move (v := Value.bool true) rfl) rfl ?_
    refine WL.guardY (e := 5) rfl rfl rfl ?_
    refine WL.val (R.move (v := Value.int .i64 p0) rfl) rfl ?_
    refine WL.guardY (e := 5) rfl rfl rfl ?_
    by_cases hc103 : p0 ≤ 16
    · have h104 := ifT hc103 h102
      refine WL.val (R.leqT (k := .i64) (a := p0) (b := 16) un3 rfl rfl hc103) rfl ?_
      refine WL.val (R.pickT (v := Value.bool true) rfl rfl) rfl ?_
      refine WL.val (R.assign (v := Value.bool true) rfl) rfl ?_
      refine WL.nil ?_
      refine thenN ?_
      refine WC.ret ?_
      obtain rfl := Option.some.inj (show some true = some r from h104)
      exact ret1 (P := Try.prog) (n := 9) (fn := Try.f130) (R := fun v w' => v = Value.bool true ∧ St [] w w' []) (t := 2) (v := Value.bool true) rfl rfl rfl ⟨rfl, hs100⟩
    · have h105 := ifF hc103 h102
      refine WL.val (R.leqF (k := .i64) (a := p0) (b := 16) un3 rfl rfl hc103) rfl ?_
      refine WL.val (R.pickT (v := Value.bool false) rfl rfl) rfl ?_
      refine WL.val (R.assign (v := Value.bool false) rfl) rfl ?_
      refine WL.nil ?_
      refine thenN ?_
      refine WC.ret ?_
      obtain rfl := Option.some.inj (show some false = some r from h105)
      exact ret1 (P := Try.prog) (n := 9) (fn := Try.f130) (R := fun v w' => v = Value.bool false ∧ St [] w w' []) (t := 2) (v := Value.bool false) rfl rfl rfl ⟨rfl, hs100⟩
  · have h106 := ifF hc101 h
    refine WL.val (R.geqF (k := .i64) (a := p0) (b := 4) un3 rfl rfl hc101) rfl ?_
    refine WL.val (R.move (v := Value.bool false) rfl) rfl ?_
    refine WL.guardN (e := 5) (v := .bool false) rfl rfl rfl rfl ?_
    refine WL.guardN (e := 5) (v := .bool false) rfl rfl rfl rfl ?_
    refine WL.val (R.pickF (v := Value.bool false) rfl rfl) rfl ?_
    refine WL.val (R.assign (v := Value.bool false) rfl) rfl ?_
    refine WL.nil ?_
    refine thenN ?_
    refine WC.ret ?_
    obtain rfl := Option.some.inj (show some false = some r from h106)
    exact ret1 (P := Try.prog) (n := 9) (fn := Try.f130) (R := fun v w' => v = Value.bool false ∧ St [] w w' []) (t := 2) (v := Value.bool false) rfl rfl rfl ⟨rfl, hs100⟩

theorem ais16_ok (w : World) (ok : Nat → Prop) (p0 : Int) {r : Bool} (h : ais16 p0 = some r) :
    Ret Try.prog 136 [Value.int .i64 p0] w (fun v w' => v = Value.bool r ∧ St [] w w' []) := by
  rw [ais16] at h
  have hs100 : St [] w w [] := St.start w
  refine enter (n := 9) Try.func136 rfl rfl rfl ?_
  refine WC.seq ?_
  refine WC.region ?_
  refine WL.val (R.assign (v := Value.bool false) rfl) rfl ?_
  refine WL.nil ?_
  refine thenN ?_
  refine WC.seq ?_
  refine WC.region ?_
  refine WL.val (R.move (v := Value.int .i64 p0) rfl) rfl ?_
  by_cases hc101 : 0 ≤ p0
  · have h102 := ifT hc101 h
    refine WL.val (R.geqT (k := .i64) (a := p0) (b := 0) un2 rfl rfl hc101) rfl ?_
    refine WL.val (R.move (v := Value.bool true) rfl) rfl ?_
    refine WL.guardY (e := 5) rfl rfl rfl ?_
    refine WL.val (R.move (v := Value.int .i64 p0) rfl) rfl ?_
    refine WL.guardY (e := 5) rfl rfl rfl ?_
    by_cases hc103 : p0 ≤ 1099511627776
    · have h104 := ifT hc103 h102
      refine WL.val (R.leqT (k := .i64) (a := p0) (b := 1099511627776) un2 rfl rfl hc103) rfl ?_
      refine WL.val (R.pickT (v := Value.bool true) rfl rfl) rfl ?_
      refine WL.val (R.assign (v := Value.bool true) rfl) rfl ?_
      refine WL.nil ?_
      refine thenN ?_
      refine WC.ret ?_
      obtain rfl := Option.some.inj (show some true = some r from h104)
      exact ret1 (P := Try.prog) (n := 9) (fn := Try.f136) (R := fun v w' => v = Value.bool true ∧ St [] w w' []) (t := 2) (v := Value.bool true) rfl rfl rfl ⟨rfl, hs100⟩
    · have h105 := ifF hc103 h102
      refine WL.val (R.leqF (k := .i64) (a := p0) (b := 1099511627776) un2 rfl rfl hc103) rfl ?_
      refine WL.val (R.pickT (v := Value.bool false) rfl rfl) rfl ?_
      refine WL.val (R.assign (v := Value.bool false) rfl) rfl ?_
      refine WL.nil ?_
      refine thenN ?_
      refine WC.ret ?_
      obtain rfl := Option.some.inj (show some false = some r from h105)
      exact ret1 (P := Try.prog) (n := 9) (fn := Try.f136) (R := fun v w' => v = Value.bool false ∧ St [] w w' []) (t := 2) (v := Value.bool false) rfl rfl rfl ⟨rfl, hs100⟩
  · have h106 := ifF hc101 h
    refine WL.val (R.geqF (k := .i64) (a := p0) (b := 0) un2 rfl rfl hc101) rfl ?_
    refine WL.val (R.move (v := Value.bool false) rfl) rfl ?_
    refine WL.guardN (e := 5) (v := .bool false) rfl rfl rfl rfl ?_
    refine WL.guardN (e := 5) (v := .bool false) rfl rfl rfl rfl ?_
    refine WL.val (R.pickF (v := Value.bool false) rfl rfl) rfl ?_
    refine WL.val (R.assign (v := Value.bool false) rfl) rfl ?_
    refine WL.nil ?_
    refine thenN ?_
    refine WC.ret ?_
    obtain rfl := Option.some.inj (show some false = some r from h106)
    exact ret1 (P := Try.prog) (n := 9) (fn := Try.f136) (R := fun v w' => v = Value.bool false ∧ St [] w w' []) (t := 2) (v := Value.bool false) rfl rfl rfl ⟨rfl, hs100⟩

theorem add16_ok (w : World) (ok : Nat → Prop) (q0 : List Int) (p1 : Hd) (b0o0 : Nat) (a0o0 : Option Addr) (c0o0a : Nat) (hok : ∀ b, ok b → out [blk b0o0 258 [Value.slice a0o0 q0.length c0o0a], gsl 2 i64E (Value.slice a0o0 q0.length c0o0a) q0] b) (hL : St [blk b0o0 258 [Value.slice a0o0 q0.length c0o0a], gsl 2 i64E (Value.slice a0o0 q0.length c0o0a) q0] w w [blk b0o0 258 [Value.slice a0o0 q0.length c0o0a], gsl 2 i64E (Value.slice a0o0 q0.length c0o0a) q0]) {r : (List Int)} (h : add16 q0 p1 = some r) :
    Ret Try.prog 132 [Value.pointer (some ⟨b0o0, 0, none⟩), Value.agg (List.toArray (encH p1))] w (fun v w' => ∃ ra1, ∃ rc2, v = Value.tuple #[] ∧ St [blk b0o0 258 [Value.slice a0o0 q0.length c0o0a], gsl 2 i64E (Value.slice a0o0 q0.length c0o0a) q0] w w' [blk b0o0 258 [Value.slice ra1 r.length rc2], gsl 2 i64E (Value.slice ra1 r.length rc2) r]) := by
  rw [add16] at h
  have hs100 : St [blk b0o0 258 [Value.slice a0o0 q0.length c0o0a], gsl 2 i64E (Value.slice a0o0 q0.length c0o0a) q0] w w [blk b0o0 258 [Value.slice a0o0 q0.length c0o0a], gsl 2 i64E (Value.slice a0o0 q0.length c0o0a) q0] := hL
  refine enter (n := 22) Try.func132 rfl rfl rfl ?_
  refine WC.seq ?_
  refine WC.region ?_
  refine WL.new (L' := fun b101 => [blk b0o0 258 [Value.slice a0o0 q0.length c0o0a], gsl 2 i64E (Value.slice a0o0 q0.length c0o0a) q0, blk b101 60 (encH p1)]) (f := fun b101 => Value.pointer (some ⟨b101, 0, none⟩)) (X.box (v := Value.agg (List.toArray (encH p1))) (c := encH p1) (hs100.here) rfl rfl (fun _ => rfl)) rfl ?_
  intro b101 w102 ht107 he104 hz105
  have hs108 := hs100.trans ht107
  refine WL.nil ?_
  refine thenN ?_
  refine WC.seq ?_
  refine WC.region ?_
  refine WL.val (R.fieldAddr (o := 0) (o' := 0) fa60_0 rfl rfl) rfl ?_
  refine WL.val (R.loadL (v := Value.bool p1.is) lf4 rfl (hs108.at (i := 2) (off := 0) (n := 1) (cs := [Value.bool p1.is]) rfl rfl rfl)) rfl ?_
  refine WL.val (R.move (v := Value.bool p1.is) rfl) rfl ?_
  by_cases hc109 : p1.is = true
  · have h110 := ifT hc109 h
    refine WL.guardY (e := 6) (Eq.trans (show _ = Value.bool p1.is from rfl) (congrArg Value.bool hc109)) rfl rfl ?_
    refine WL.val (R.fieldAddr (o := 0) (o' := 1) fa60_1 rfl rfl) rfl ?_
    refine WL.guardY (e := 6) (Eq.trans (show _ = Value.bool p1.is from rfl) (congrArg Value.bool hc109)) rfl rfl ?_
    refine WL.val (R.fieldAddr (o := 1) (o' := 1) fa58_0 rfl rfl) rfl ?_
    refine WL.guardY (e := 6) (Eq.trans (show _ = Value.bool p1.is from rfl) (congrArg Value.bool hc109)) rfl rfl ?_
    refine WL.val (R.loadL (v := Value.int .i64 p1.cell.age) lf2 rfl (hs108.at (i := 2) (off := 1) (n := 1) (cs := [Value.int .i64 p1.cell.age]) rfl rfl rfl)) rfl ?_
    refine WL.guardY (e := 6) (Eq.trans (show _ = Value.bool p1.is from rfl) (congrArg Value.bool hc109)) rfl rfl ?_
    obtain ⟨y111, hx112, h113⟩ := ob (o := ais16 p1.cell.age) h110
    refine WL.call (ais16_ok _ (In ok w [blk b0o0 258 [Value.slice a0o0 q0.length c0o0a], gsl 2 i64E (Value.slice a0o0 q0.length c0o0a) q0] [blk b0o0 258 [Value.slice a0o0 q0.length c0o0a], gsl 2 i64E (Value.slice a0o0 q0.length c0o0a) q0, blk b101 60 (encH p1)]) p1.cell.age  hx112) (R.call (vs := [Value.int .i64 p1.cell.age]) (caps := []) bo136 rfl rfl) rfl ?_
    rintro v116 w117 ⟨rfl, ht114⟩
    have ht115 := hs108.call (N := [blk b0o0 258 [Value.slice a0o0 q0.length c0o0a], gsl 2 i64E (Value.slice a0o0 q0.length c0o0a) q0, blk b101 60 (encH p1)]) (M := []) (List.Perm.refl _) ht114
    have hs118 := hs108.trans ht115
    refine WL.val (R.pickT (v := Value.bool y111) (Eq.trans (show _ = Value.bool p1.is from rfl) (congrArg Value.bool hc109)) rfl) rfl ?_
    refine WL.nil ?_
    refine thenN ?_
    by_cases hc119 : y111 = true
    · have h120 := ifT hc119 h113
      refine WC.condT (Eq.trans (show _ = Value.bool y111 from rfl) (congrArg Value.bool hc119)) rfl ?_
      refine WC.drawE mixed NP.rq ?_
      have ht121 := (hs118.here).ext (Ext.drew _)
      have hs122 := hs118.trans ht121
      refine WE.take 0 rfl (by decide +kernel) (by decide +kernel) (by decide +kernel) (by decide +kernel) rfl rfl (fun wq hq => R.move (v := Value.pointer (some ⟨b0o0, 0, none⟩)) rfl) ?_
      refine WE.take 1 rfl (by decide +kernel) (by decide +kernel) (by decide +kernel) (by decide +kernel) rfl rfl (fun wq hq => R.move (v := Value.pointer (some ⟨b0o0, 0, none⟩)) rfl) ?_
      refine WE.take 2 rfl (by decide +kernel) (by decide +kernel) (by decide +kernel) (by decide +kernel) rfl rfl (fun wq hq => R.nilCheckP (a := ⟨b0o0, 0, none⟩) rfl) ?_
      refine WE.take 3 rfl (by decide +kernel) (by decide +kernel) (by decide +kernel) (by decide +kernel) rfl rfl (fun wq hq => R.loadL (v := Value.slice a0o0 q0.length c0o0a) lf258 rfl ((hs122.ext hq).at (i := 0) (off := 0) (n := 1) (cs := [Value.slice a0o0 q0.length c0o0a]) rfl rfl rfl)) ?_
      refine WE.take 4 rfl (by decide +kernel) (by decide +kernel) (by decide +kernel) (by decide +kernel) rfl rfl (fun wq hq => R.fieldAddr (o := 0) (o' := 1) fa60_1 rfl rfl) ?_
      refine WE.take 5 rfl (by decide +kernel) (by decide +kernel) (by decide +kernel) (by decide +kernel) rfl rfl (fun wq hq => R.fieldAddr (o := 1) (o' := 1) fa58_0 rfl rfl) ?_
      refine WE.take 6 rfl (by decide +kernel) (by decide +kernel) (by decide +kernel) (by decide +kernel) rfl rfl (fun wq hq => R.loadL (v := Value.int .i64 p1.cell.age) lf2 rfl ((hs122.ext hq).at (i := 2) (off := 1) (n := 1) (cs := [Value.int .i64 p1.cell.age]) rfl rfl rfl)) ?_
      have hd128 : ∀ w : World, (Instr.buildSlice 258 1 #[(0, Value.int .i64 p1.cell.age)]).run Try.prog w = .ok (.slice (some ⟨w.heap.size, 0, none⟩) 1 1) { w with heap := w.heap.push (.cells (List.toArray [Value.int .i64 p1.cell.age]) 2) } := fun _ => by kernel_rfl
      refine WE.new (L' := fun b123 => [blk b0o0 258 [Value.slice a0o0 q0.length c0o0a], gsl 2 i64E (Value.slice a0o0 q0.length c0o0a) q0, blk b101 60 (encH p1), blk b123 2 [Value.int .i64 p1.cell.age]]) (f := fun b123 => Value.slice (some ⟨b123, 0, none⟩) 1 1) 7 (by decide +kernel) rfl rfl rfl (X.buildSlice (c := [Value.int .i64 p1.cell.age]) (vs := [(0, Value.int .i64 p1.cell.age)]) (hs122.here) rfl hd128 (fun _ => rfl)) ?_
      intro b123 w124 ht130 he126 hz127
      have hs131 := hs122.trans ht130
      obtain ⟨hg132, h133⟩ := ckE (c := q0.length < 1000000) h120
      refine WE.grow (L' := fun v134 => [blk b0o0 258 [Value.slice a0o0 q0.length c0o0a], gsl 2 i64E v134 (q0 ++ [p1.cell.age]), blk b101 60 (encH p1), blk b123 2 [Value.int .i64 p1.cell.age]]) 8 (by decide +kernel) (by decide +kernel) rfl rfl rfl (X.append (i := 1) (e := i64E) (xs := q0) (ys := [p1.cell.age]) (ad := ⟨b123, 0, none⟩) (m := 1) (c := 1) (hs131.here) sl258 rfl rfl rfl rfl ((hs131.here).at (i := 3) (off := 0) (n := 1) (cs := flat i64E [p1.cell.age]) rfl rfl rfl) rfl rfl (room (n := 1) hg132 rfl (by decide)) (room63 (n := 1) hg132 rfl (by decide)) (fun _ => rfl)) ?_
      intro v134 w135 ht136
      obtain ⟨a137, c138, hv139⟩ := gsl_sl (ht136.get (i := 1) rfl)
      subst hv139
      have hs140 := hs131.trans ht136
      refine WE.take 9 rfl (by decide +kernel) (by decide +kernel) (by decide +kernel) (by decide +kernel) rfl rfl (fun wq hq => R.nilCheckP (a := ⟨b0o0, 0, none⟩) rfl) ?_
      refine WE.sto (L' := [blk b0o0 258 [Value.slice a137 ((q0 ++ [p1.cell.age]).length) c138], gsl 2 i64E (Value.slice a137 ((q0 ++ [p1.cell.age]).length) c138) (q0 ++ [p1.cell.age]), blk b101 60 (encH p1), blk b123 2 [Value.int .i64 p1.cell.age]]) 10 (by decide +kernel) (by decide +kernel) rfl rfl rfl rfl (X.store (i := 0) (n := 1) (b := b0o0) (off := 0) (c := [Value.slice a0o0 q0.length c0o0a]) (U := 258) (vs := [Value.slice a137 ((q0 ++ [p1.cell.age]).length) c138]) (v := Value.slice a137 ((q0 ++ [p1.cell.age]).length) c138) (c' := [Value.slice a137 ((q0 ++ [p1.cell.age]).length) c138]) (hs140.here) rfl lf258.size rfl rfl rfl rfl rfl rfl rfl rfl) ?_
      intro w141 ht142
      have hs143 := hs140.trans ht142
      refine WE.done (by decide +kernel) ?_
      have ht144 := (hs143.here).perm (L' := [blk b0o0 258 [Value.slice a137 ((q0 ++ [p1.cell.age]).length) c138], gsl 2 i64E (Value.slice a137 ((q0 ++ [p1.cell.age]).length) c138) (q0 ++ [p1.cell.age])]) (G := [blk b101 60 (encH p1), blk b123 2 [Value.int .i64 p1.cell.age]]) ((List.Perm.refl _))
      have hs145 := hs143.trans ht144
      obtain rfl := Option.some.inj (show some (q0 ++ [p1.cell.age]) = some r from h133)
      exact end0 (P := Try.prog) (n := 22) (fn := Try.f132) (R := fun v w' => ∃ ra1, ∃ rc2, v = Value.tuple #[] ∧ St [blk b0o0 258 [Value.slice a0o0 q0.length c0o0a], gsl 2 i64E (Value.slice a0o0 q0.length c0o0a) q0] w w' [blk b0o0 258 [Value.slice ra1 (q0 ++ [p1.cell.age]).length rc2], gsl 2 i64E (Value.slice ra1 (q0 ++ [p1.cell.age]).length rc2) (q0 ++ [p1.cell.age])]) rfl ⟨a137, c138, rfl, hs145⟩
    · have h146 := ifF hc119 h113
      refine WC.condF (Eq.trans (show _ = Value.bool y111 from rfl) (congrArg Value.bool (Bool.eq_false_iff.2 hc119))) rfl ?_
      refine WC.skip ?_
      have ht147 := (hs118.here).perm (L' := [blk b0o0 258 [Value.slice a0o0 q0.length c0o0a], gsl 2 i64E (Value.slice a0o0 q0.length c0o0a) q0]) (G := [blk b101 60 (encH p1)]) ((List.Perm.refl _))
      have hs148 := hs118.trans ht147
      obtain rfl := Option.some.inj (show some q0 = some r from h146)
      exact end0 (P := Try.prog) (n := 22) (fn := Try.f132) (R := fun v w' => ∃ ra1, ∃ rc2, v = Value.tuple #[] ∧ St [blk b0o0 258 [Value.slice a0o0 q0.length c0o0a], gsl 2 i64E (Value.slice a0o0 q0.length c0o0a) q0] w w' [blk b0o0 258 [Value.slice ra1 q0.length rc2], gsl 2 i64E (Value.slice ra1 q0.length rc2) q0]) rfl ⟨a0o0, c0o0a, rfl, hs148⟩
  · have h149 := ifF hc109 h
    refine WL.guardN (e := 6) (v := .bool false) (Eq.trans (show _ = Value.bool p1.is from rfl) (congrArg Value.bool (Bool.eq_false_iff.2 hc109))) rfl rfl rfl ?_
    refine WL.guardN (e := 6) (v := .bool false) (Eq.trans (show _ = Value.bool p1.is from rfl) (congrArg Value.bool (Bool.eq_false_iff.2 hc109))) rfl rfl rfl ?_
    refine WL.guardN (e := 6) (v := .bool false) (Eq.trans (show _ = Value.bool p1.is from rfl) (congrArg Value.bool (Bool.eq_false_iff.2 hc109))) rfl rfl rfl ?_
    refine WL.guardN (e := 6) (v := .bool false) (Eq.trans (show _ = Value.bool p1.is from rfl) (congrArg Value.bool (Bool.eq_false_iff.2 hc109))) rfl rfl rfl ?_
    refine WL.val (R.pickF (v := Value.bool false) (Eq.trans (show _ = Value.bool p1.is from rfl) (congrArg Value.bool (Bool.eq_false_iff.2 hc109))) rfl) rfl ?_
    refine WL.nil ?_
    refine thenN ?_
    refine WC.condF rfl rfl ?_
    refine WC.skip ?_
    have ht150 := (hs108.here).perm (L' := [blk b0o0 258 [Value.slice a0o0 q0.length c0o0a], gsl 2 i64E (Value.slice a0o0 q0.length c0o0a) q0]) (G := [blk b101 60 (encH p1)]) ((List.Perm.refl _))
    have hs151 := hs108.trans ht150
    obtain rfl := Option.some.inj (show some q0 = some r from h149)
    exact end0 (P := Try.prog) (n := 22) (fn := Try.f132) (R := fun v w' => ∃ ra1, ∃ rc2, v = Value.tuple #[] ∧ St [blk b0o0 258 [Value.slice a0o0 q0.length c0o0a], gsl 2 i64E (Value.slice a0o0 q0.length c0o0a) q0] w w' [blk b0o0 258 [Value.slice ra1 q0.length rc2], gsl 2 i64E (Value.slice ra1 q0.length rc2) q0]) rfl ⟨a0o0, c0o0a, rfl, hs151⟩

theorem each16_ok (w : World) (ok : Nat → Prop) (p0 : List Hd) (q65 : List Int) (a0 : Option Addr) (c0 : Nat) (he0 : elems heldW w ok a0 p0) (hc0 : p0.length ≤ c0) (b0o65 : Nat) (a0o65 : Option Addr) (c0o65a : Nat) (hok : ∀ b, ok b → out [blk b0o65 258 [Value.slice a0o65 q65.length c0o65a], gsl 2 i64E (Value.slice a0o65 q65.length c0o65a) q65] b) (hL : St [blk b0o65 258 [Value.slice a0o65 q65.length c0o65a], gsl 2 i64E (Value.slice a0o65 q65.length c0o65a) q65] w w [blk b0o65 258 [Value.slice a0o65 q65.length c0o65a], gsl 2 i64E (Value.slice a0o65 q65.length c0o65a) q65]) {r : (List Int)} (h : each16 p0 q65 = some r) :
    Ret Try.prog 131 [Value.slice a0 p0.length c0, Value.func (.func 132) (List.toArray [Value.pointer (some ⟨b0o65, 0, none⟩)]) (List.toArray [])] w (fun v w' => ∃ ra1, ∃ rc2, v = Value.tuple #[] ∧ St [blk b0o65 258 [Value.slice a0o65 q65.length c0o65a], gsl 2 i64E (Value.slice a0o65 q65.length c0o65a) q65] w w' [blk b0o65 258 [Value.slice ra1 r.length rc2], gsl 2 i64E (Value.slice ra1 r.length rc2) r]) := by
  rw [each16] at h
  have hs100 : St [blk b0o65 258 [Value.slice a0o65 q65.length c0o65a], gsl 2 i64E (Value.slice a0o65 q65.length c0o65a) q65] w w [blk b0o65 258 [Value.slice a0o65 q65.length c0o65a], gsl 2 i64E (Value.slice a0o65 q65.length c0o65a) q65] := hL
  have he1000 := el0 (L0 := [blk b0o65 258 [Value.slice a0o65 q65.length c0o65a], gsl 2 i64E (Value.slice a0o65 q65.length c0o65a) q65]) hok he0
  refine enter (n := 16) Try.func131 rfl rfl rfl ?_
  refine WC.seq ?_
  refine WC.region ?_
  refine WL.val (R.move (v := Value.slice a0 p0.length c0) rfl) rfl ?_
  refine WL.val (R.len (a := a0) (n := p0.length) (c := c0) un28 rfl) rfl ?_
  refine WL.val (R.move (v := Value.int .i64 0) rfl) rfl ?_
  refine WL.nil ?_
  refine thenN ?_
  obtain ⟨K197, hK198, h199⟩ := kE (G := fun K197 => each16_l1 p0 K197 1000000 0 q65) h
  refine WC.join (fun σ206 w205 => ∃ l194 : List Int, ∃ a195, ∃ c196, K197 l194 = some r ∧ St [blk b0o65 258 [Value.slice a0o65 q65.length c0o65a], gsl 2 i64E (Value.slice a0o65 q65.length c0o65a) q65] w w205 [blk b0o65 258 [Value.slice a195 l194.length c196], gsl 2 i64E (Value.slice a195 l194.length c196) l194]) ?_ ?_
  · refine WC.block ?_
    refine WC.loop (T := Nat) (fun k203 σ201 w200 => ∃ i190 : Int, ∃ l191 : List Int, ∃ a192, ∃ c193, σ201 1 = (Value.func (.func 132) (List.toArray [Value.pointer (some ⟨b0o65, 0, none⟩)]) (List.toArray [])) ∧ σ201 6 = (Value.slice a0 p0.length c0) ∧ σ201 7 = (Value.int .i64 ((p0.length : Nat) : Int)) ∧ σ201 8 = (Value.int .i64 i190) ∧ elems heldW w200 (In ok w [blk b0o65 258 [Value.slice a0o65 q65.length c0o65a], gsl 2 i64E (Value.slice a0o65 q65.length c0o65a) q65] [blk b0o65 258 [Value.slice a192 l191.length c193], gsl 2 i64E (Value.slice a192 l191.length c193) l191]) a0 p0 ∧ each16_l1 p0 K197 k203 i190 l191 = some r ∧ St [blk b0o65 258 [Value.slice a0o65 q65.length c0o65a], gsl 2 i64E (Value.slice a0o65 q65.length c0o65a) q65] w w200 [blk b0o65 258 [Value.slice a192 l191.length c193], gsl 2 i64E (Value.slice a192 l191.length c193) l191]) (fun k203 => k203) 1000000 ⟨0, q65, a0o65, c0o65a, rfl, rfl, rfl, rfl, he1000, h199, hs100⟩ ?_
    rintro k203 σ201 w200 ⟨i190, l191, a192, c193, s209, s210, s211, s212, he204, h208, hs202⟩
    rcases k203 with _ | k203
    · rw [each16_l1] at h208; cases h208
    rw [each16_l1] at h208
    refine WC.seq ?_
    refine WC.region ?_
    by_cases hc213 : i190 < ((p0.length : Nat) : Int)
    · have h214 := ifT hc213 h208
      refine WL.val (R.lssT (k := .i64) (a := i190) (b := ((p0.length : Nat) : Int)) un3 (by exact s212) (by exact s211) hc213) rfl ?_
      refine WL.nil ?_
      refine thenN ?_
      refine WC.seq ?_
      refine WC.condT rfl rfl ?_
      refine WC.skip ?_
      refine thenN ?_
      refine WC.seq ?_
      refine WC.block ?_
      refine WC.seq ?_
      refine WC.region ?_
      obtain ⟨x215, hx216, h217⟩ := ob (o := rd p0 i190) h214
      obtain ⟨h0218, hx219, hl220, hm221⟩ := rdE hx216
      obtain ⟨ad222, e227, ha223, hp224, hat225, hrd226⟩ := he204 _ _ hx219
      obtain ⟨-, rfl⟩ := hrd226
      refine WL.val (R.indexS (n := 56) (m := (i190).toNat) (a := a0) (ad := ad222) (len := p0.length) (cap := c0) (z := i190) un28 ag60.size (by exact s210) ha223 (by exact s212) hm221 hl220 hp224) rfl ?_
      refine WL.val (R.loadA (cs := encH x215) (n := 56) ag60 rfl hat225 rfl) rfl ?_
      refine WL.new (L' := fun b229 => [blk b0o65 258 [Value.slice a192 l191.length c193], gsl 2 i64E (Value.slice a192 l191.length c193) l191, blk b229 60 (encH Hd.none)]) (f := fun b229 => Value.pointer (some ⟨b229, 0, none⟩)) (X.alloc (c := encH Hd.none) (hs202.here) zr60 rfl (fun _ => rfl)) rfl ?_
      intro b229 w230 ht235 he232 hz233
      have hs236 := hs202.trans ht235
      refine WL.sto (L' := [blk b0o65 258 [Value.slice a192 l191.length c193], gsl 2 i64E (Value.slice a192 l191.length c193) l191, blk b229 60 (encH x215)]) (X.store (i := 2) (n := 56) (b := b229) (off := 0) (c := encH Hd.none) (U := 60) (vs := encH x215) (v := Value.agg (List.toArray (encH x215))) (c' := encH x215) (hs236.here) rfl ag60.size rfl rfl rfl rfl rfl rfl rfl rfl) rfl rfl ?_
      intro w237 ht238
      have hs239 := hs236.trans ht238
      refine WL.nil ?_
      refine thenN ?_
      refine WC.region ?_
      refine WL.val (R.move (v := Value.func (.func 132) (List.toArray [Value.pointer (some ⟨b0o65, 0, none⟩)]) (List.toArray [])) (by exact s209)) rfl ?_
      refine WL.val (R.loadA (cs := encH x215) (n := 56) ag60 rfl (hs239.at (i := 2) (off := 0) (n := 56) (cs := encH x215) rfl rfl rfl) rfl) rfl ?_
      obtain ⟨y240, hx241, h242⟩ := ob (o := add16 l191 x215) h217
      refine WL.call (add16_ok _ (In ok w [blk b0o65 258 [Value.slice a0o65 q65.length c0o65a], gsl 2 i64E (Value.slice a0o65 q65.length c0o65a) q65] [blk b0o65 258 [Value.slice a192 l191.length c193], gsl 2 i64E (Value.slice a192 l191.length c193) l191, blk b229 60 (encH x215)]) l191 x215  b0o65 _ _ (In.outM (M := [blk b0o65 258 [Value.slice a192 l191.length c193], gsl 2 i64E (Value.slice a192 l191.length c193) l191]) (N := [blk b229 60 (encH x215)]) ((List.Perm.refl _))) (show St [blk b0o65 258 [Value.slice a192 l191.length c193], gsl 2 i64E (Value.slice a192 l191.length c193) l191] _ _ [blk b0o65 258 [Value.slice a192 l191.length c193], gsl 2 i64E (Value.slice a192 l191.length c193) l191] from St.ofM (M := [blk b0o65 258 [Value.slice a192 l191.length c193], gsl 2 i64E (Value.slice a192 l191.length c193) l191]) (N := [blk b229 60 (encH x215)]) hs239 ((List.Perm.refl _))) hx241) (R.callF (fs := [Value.pointer (some ⟨b0o65, 0, none⟩)]) (vs := [Value.agg (List.toArray (encH x215))]) (caps := []) bo132 rfl rfl) rfl ?_
      rintro v247 w248 ⟨a245, c246, rfl, ht243⟩
      have ht244 := hs239.call (N := [blk b229 60 (encH x215)]) (M := [blk b0o65 258 [Value.slice a192 l191.length c193], gsl 2 i64E (Value.slice a192 l191.length c193) l191]) ((List.Perm.refl _)) ht243
      have hs249 := hs239.trans ht244
      refine WL.nil ?_
      refine blockN ?_
      refine thenN ?_
      refine WC.region ?_
      obtain ⟨hg250, h251⟩ := ckE (c := -9223372036854775808 ≤ i190 + 1 ∧ i190 + 1 ≤ 9223372036854775807) h242
      refine WL.val (R.add (a := i190) (b := 1) (z := i190 + 1) (by exact s212) rfl (w64e rfl hg250.1 hg250.2)) rfl ?_
      refine WL.val (R.move (v := Value.int .i64 (i190 + 1)) rfl) rfl ?_
      refine WL.nil ?_
      have ht252 := (hs249.here).perm (L' := [blk b0o65 258 [Value.slice a245 y240.length c246], gsl 2 i64E (Value.slice a245 y240.length c246) y240]) (G := [blk b229 60 (encH x215)]) ((List.Perm.refl _))
      have hs253 := hs249.trans ht252
      have hr254 := elT (((ht235.trans ht238).trans ht244).trans ht252) he204
      exact roundEnd (s := k203) ⟨i190 + 1, y240, a245, c246, s209, s210, s211, rfl, hr254, h251, hs253⟩ (Nat.lt_succ_self _)
    · have h255 := ifF hc213 h208
      refine WL.val (R.lssF (k := .i64) (a := i190) (b := ((p0.length : Nat) : Int)) un3 (by exact s212) (by exact s211) hc213) rfl ?_
      refine WL.nil ?_
      refine thenN ?_
      refine WC.seq ?_
      refine WC.condF rfl rfl ?_
      refine WC.exit ?_
      refine thenE ?_
      refine thenE ?_
      refine blockHit ?_
      exact joinI ⟨l191, a192, c193, h255, hs202⟩
  · rintro σ206 w205 ⟨l194, a195, c196, h256, hs207⟩
    subst hK198
    obtain rfl := Option.some.inj (show some l194 = some r from h256)
    exact end0 (P := Try.prog) (n := 16) (fn := Try.f131) (R := fun v w' => ∃ ra1, ∃ rc2, v = Value.tuple #[] ∧ St [blk b0o65 258 [Value.slice a0o65 q65.length c0o65a], gsl 2 i64E (Value.slice a0o65 q65.length c0o65a) q65] w w' [blk b0o65 258 [Value.slice ra1 l194.length rc2], gsl 2 i64E (Value.slice ra1 l194.length rc2) l194]) rfl ⟨a195, c196, rfl, hs207⟩

theorem common16_ok (w : World) (ok : Nat → Prop) (p0 : Int) (p1 : List Hd) (a1 : Option Addr) (c1 : Nat) (he1 : elems heldW w ok a1 p1) (hc1 : p1.length ≤ c1) {r : Int} (h : common16 p0 p1 = some r) :
    Ret Try.prog 94 [Value.int .i64 p0, Value.slice a1 p1.length c1] w (fun v w' => v = Value.int .i64 r ∧ St [] w w' []) := by
  rw [common16] at h
  have hs100 : St [] w w [] := St.start w
  have he1001 := el0 (L0 := []) (fun b _ => out_nil b) he1
  refine enter (n := 31) Try.func94 rfl rfl rfl ?_
  refine WC.seq ?_
  refine WC.region ?_
  refine WL.val (R.assign (v := Value.int .i64 0) rfl) rfl ?_
  refine WL.nil ?_
  refine thenN ?_
  refine WC.seq ?_
  refine WC.seq ?_
  refine WC.region ?_
  refine WL.val (R.move (v := Value.int .i64 p0) rfl) rfl ?_
  obtain ⟨y102, hx103, h104⟩ := ob (o := amay16 p0) h
  refine WL.call (amay16_ok _ (In ok w [] []) p0  hx103) (R.call (vs := [Value.int .i64 p0]) (caps := []) bo130 rfl rfl) rfl ?_
  rintro v107 w108 ⟨rfl, ht105⟩
  have ht106 := hs100.call (N := []) (M := []) (List.Perm.refl _) ht105
  have hs109 := hs100.trans ht106
  refine WL.val (R.not (b := y102) rfl) rfl ?_
  refine WL.nil ?_
  refine thenN ?_
  by_cases hc110 : y102 = true
  · have h111 := ifT hc110 h104
    have hk112 : (!y102) = false := by simp [hc110]
    refine WC.condF (Eq.trans (show _ = Value.bool (!y102) from rfl) (congrArg Value.bool hk112)) rfl ?_
    refine WC.skip ?_
    refine thenN ?_
    refine WC.seq ?_
    refine WC.region ?_
    refine WL.new (L' := fun b113 => [blk b113 258 [Value.slice none 0 0]]) (f := fun b113 => Value.pointer (some ⟨b113, 0, none⟩)) (X.alloc (c := [Value.slice none 0 0]) (hs109.here) zr258 rfl (fun _ => rfl)) rfl ?_
    intro b113 w114 ht119 he116 hz117
    have hs120 := hs109.trans ht119
    refine WL.nil ?_
    refine thenN ?_
    refine WC.seq ?_
    refine WC.region ?_
    refine WL.val (R.move (v := Value.slice a1 p1.length c1) rfl) rfl ?_
    refine WL.val (R.move (v := Value.int .i64 p0) rfl) rfl ?_
    refine WL.val (R.move (v := Value.slice a1 p1.length c1) rfl) rfl ?_
    refine WL.val (R.len (a := a1) (n := p1.length) (c := c1) un28 rfl) rfl ?_
    refine WL.val (R.min (a := p0) (b := ((p1.length : Nat) : Int)) (z := min p0 ((p1.length : Nat) : Int)) rfl rfl rfl) rfl ?_
    obtain ⟨hg121, h122⟩ := ckE (c := 0 ≤ min p0 ((p1.length : Nat) : Int) ∧ min p0 ((p1.length : Nat) : Int) ≤ ((p1.length : Nat) : Int)) h111
    have hr123 := elT (ht106.trans ht119) he1001
    have hn126 : (p1.take (min p0 ((p1.length : Nat) : Int)).toNat).length = (min p0 ((p1.length : Nat) : Int)).toNat := take_len hg121
    have he124 := elems_take (min p0 ((p1.length : Nat) : Int)).toNat hr123
    have hl125 : (p1.take (min p0 ((p1.length : Nat) : Int)).toNat).length ≤ c1 := by rw [hn126]; exact toCap hg121 hc1
    refine WL.val (R.sliceToN (n := 56) (z := min p0 ((p1.length : Nat) : Int)) (N := (p1.take (min p0 ((p1.length : Nat) : Int)).toNat).length) un28 ag60.size rfl rfl hg121 hn126 hc1) rfl ?_
    refine WL.val (R.makeFunc (vs := [Value.pointer (some ⟨b113, 0, none⟩)]) (us := []) rfl rfl) rfl ?_
    have ht128 := (hs120.here).addNil 2 i64E rfl
    have hs130 := hs120.trans ht128
    obtain ⟨y131, hx132, h133⟩ := ob (o := each16 (p1.take (min p0 ((p1.length : Nat) : Int)).toNat) ([] : List Int)) h122
    have hr134 := elT ht128 he124
    refine WL.call (each16_ok _ _ (p1.take (min p0 ((p1.length : Nat) : Int)).toNat) ([] : List Int) _ _ hr134 hl125 b113 _ _ (In.outM (M := [blk b113 258 [Value.slice none (([] : List Int).length) 0], gsl 2 i64E (Value.slice none 0 0) ([] : List Int)]) (N := []) ((List.Perm.refl _))) (show St [blk b113 258 [Value.slice none (([] : List Int).length) 0], gsl 2 i64E (Value.slice none 0 0) ([] : List Int)] _ _ [blk b113 258 [Value.slice none (([] : List Int).length) 0], gsl 2 i64E (Value.slice none 0 0) ([] : List Int)] from St.ofM (M := [blk b113 258 [Value.slice none (([] : List Int).length) 0], gsl 2 i64E (Value.slice none 0 0) ([] : List Int)]) (N := []) hs130 ((List.Perm.refl _))) hx132) (R.call (vs := [Value.slice a1 ((p1.take (min p0 ((p1.length : Nat) : Int)).toNat).length) c1, Value.func (.func 132) (List.toArray [Value.pointer (some ⟨b113, 0, none⟩)]) (List.toArray [])]) (caps := []) bo131 rfl rfl) rfl ?_
    rintro v139 w140 ⟨a137, c138, rfl, ht135⟩
    have ht136 := hs130.call (N := []) (M := [blk b113 258 [Value.slice none (([] : List Int).length) 0], gsl 2 i64E (Value.slice none 0 0) ([] : List Int)]) ((List.Perm.refl _)) ht135
    have hs141 := hs130.trans ht136
    refine WL.nil ?_
    refine thenN ?_
    refine WC.seq ?_
    refine WC.seq ?_
    refine WC.region ?_
    refine WL.val (R.loadL (v := Value.slice a137 y131.length c138) lf258 rfl (hs141.at (i := 0) (off := 0) (n := 1) (cs := [Value.slice a137 y131.length c138]) rfl rfl rfl)) rfl ?_
    refine WL.val (R.len (a := a137) (n := y131.length) (c := c138) un258 rfl) rfl ?_
    refine WL.val (R.move (v := Value.int .i64 p0) rfl) rfl ?_
    obtain ⟨hg142, h143⟩ := ckE (c := -9223372036854775808 ≤ p0 - 1 ∧ p0 - 1 ≤ 9223372036854775807) h133
    refine WL.val (R.sub (a := p0) (b := 1) (z := p0 - 1) rfl rfl (w64e rfl hg142.1 hg142.2)) rfl ?_
    by_cases hc144 : ((y131.length : Nat) : Int) < (p0 - 1)
    · have h145 := ifT hc144 h143
      refine WL.val (R.lssT (k := .i64) (a := ((y131.length : Nat) : Int)) (b := p0 - 1) un3 rfl rfl hc144) rfl ?_
      refine WL.nil ?_
      refine thenN ?_
      refine WC.condT rfl rfl ?_
      refine WC.seq ?_
      refine WC.region ?_
      refine WL.val (R.assign (v := Value.int .i64 (-1)) rfl) rfl ?_
      refine WL.nil ?_
      refine thenN ?_
      refine WC.ret ?_
      have ht146 := (hs141.here).perm (L' := []) (G := [blk b113 258 [Value.slice a137 y131.length c138], gsl 2 i64E (Value.slice a137 y131.length c138) y131]) ((List.Perm.refl _))
      have hs147 := hs141.trans ht146
      obtain rfl := Option.some.inj (show some (-1) = some r from h145)
      exact ret1 (P := Try.prog) (n := 31) (fn := Try.f94) (R := fun v w' => v = Value.int .i64 (-1) ∧ St [] w w' []) (t := 4) (v := Value.int .i64 (-1)) rfl rfl rfl ⟨rfl, hs147⟩
    · have h148 := ifF hc144 h143
      refine WL.val (R.lssF (k := .i64) (a := ((y131.length : Nat) : Int)) (b := p0 - 1) un3 rfl rfl hc144) rfl ?_
      refine WL.nil ?_
      refine thenN ?_
      refine WC.condF rfl rfl ?_
      refine WC.skip ?_
      refine thenN ?_
      refine WC.seq ?_
      refine WC.region ?_
      refine WL.val (R.loadL (v := Value.slice a137 y131.length c138) lf258 rfl (hs141.at (i := 0) (off := 0) (n := 1) (cs := [Value.slice a137 y131.length c138]) rfl rfl rfl)) rfl ?_
      obtain ⟨y149, hx150, h151⟩ := ob (o := sort16 y131) h148
      refine WL.call (sort16_ok _ y131 _ _ (show St [gsl 2 i64E (Value.slice a137 y131.length c138) y131] _ _ [gsl 2 i64E (Value.slice a137 y131.length c138) y131] from St.ofM (M := [gsl 2 i64E (Value.slice a137 y131.length c138) y131]) (N := [blk b113 258 [Value.slice a137 y131.length c138]]) hs141 (((List.perm_middle (l₁ := [blk b113 258 [Value.slice a137 y131.length c138]]) (a := gsl 2 i64E (Value.slice a137 y131.length c138) y131) (l₂ := [])).trans (List.Perm.cons _ (List.Perm.refl _))))) hx150) (R.call (vs := [Value.slice a137 y131.length c138]) (caps := []) bo133 rfl rfl) rfl ?_
      rintro v155 w156 ⟨rfl, hr154, ht152⟩
      have ht153 := hs141.call (M := [gsl 2 i64E (Value.slice a137 y131.length c138) y131]) (N := [blk b113 258 [Value.slice a137 y131.length c138]]) (((List.perm_middle (l₁ := [blk b113 258 [Value.slice a137 y131.length c138]]) (a := gsl 2 i64E (Value.slice a137 y131.length c138) y131) (l₂ := [])).trans (List.Perm.cons _ (List.Perm.refl _)))) ht152
      have hs157 := hs141.trans ht153
      refine WL.nil ?_
      refine thenN ?_
      refine WC.seq ?_
      refine WC.region ?_
      refine WL.val (R.loadL (v := Value.slice a137 y131.length c138) lf258 rfl (hs157.at (i := 1) (off := 0) (n := 1) (cs := [Value.slice a137 y131.length c138]) rfl rfl rfl)) rfl ?_
      refine WL.val (R.loadL (v := Value.slice a137 y131.length c138) lf258 rfl (hs157.at (i := 1) (off := 0) (n := 1) (cs := [Value.slice a137 y131.length c138]) rfl rfl rfl)) rfl ?_
      refine WL.val (R.len (a := a137) (n := y131.length) (c := c138) un258 rfl) rfl ?_
      obtain ⟨hg158, h159⟩ := ckE (c := -9223372036854775808 ≤ ((y131.length : Nat) : Int) - 1 ∧ ((y131.length : Nat) : Int) - 1 ≤ 9223372036854775807) h151
      refine WL.val (R.sub (a := ((y131.length : Nat) : Int)) (b := 1) (z := ((y131.length : Nat) : Int) - 1) rfl rfl (w64e rfl hg158.1 hg158.2)) rfl ?_
      obtain ⟨hg160, h161⟩ := ckE (c := 0 ≤ ((y131.length : Nat) : Int) - 1 ∧ 0 < (2 : Int) ∧ (((y131.length : Nat) : Int) - 1 : Int) ≤ 9223372036854775807) h159
      refine WL.val (R.quoG (a := ((y131.length : Nat) : Int) - 1) (b := 2) rfl rfl hg160 (by decide)) rfl ?_
      obtain ⟨x162, hx163, h164⟩ := ob (o := rd y149 ((((y131.length : Nat) : Int) - 1) / 2)) h161
      obtain ⟨h0165, hx166, hl167, hm168⟩ := rdE hx163
      obtain ⟨b169, c170, hv171, _⟩ := hs157.gslAt (i := 0) rfl hx166
      refine WL.val (R.indexS (n := 1) (m := ((((y131.length : Nat) : Int) - 1) / 2).toNat) (ad := ⟨b169, 0, none⟩) (len := (y149).length) (cap := c170) (z := (((y131.length : Nat) : Int) - 1) / 2) un258 lf2.size (Eq.trans (show _ = Value.slice a137 y131.length c138 from rfl) hv171) rfl rfl hm168 hl167 rfl) rfl ?_
      refine WL.val (R.loadL (v := Value.int .i64 x162) lf2 rfl (hs157.gslAtV (i := 0) rfl hx166 hv171)) rfl ?_
      refine WL.val (R.assign (v := Value.int .i64 x162) rfl) rfl ?_
      refine WL.nil ?_
      refine thenN ?_
      refine WC.ret ?_
      have ht172 := (hs157.here).perm (L' := []) (G := [gsl 2 i64E (Value.slice a137 y131.length c138) y149, blk b113 258 [Value.slice a137 y131.length c138]]) ((List.Perm.refl _))
      have hs173 := hs157.trans ht172
      obtain rfl := Option.some.inj (show some x162 = some r from h164)
      exact ret1 (P := Try.prog) (n := 31) (fn := Try.f94) (R := fun v w' => v = Value.int .i64 x162 ∧ St [] w w' []) (t := 4) (v := Value.int .i64 x162) rfl rfl rfl ⟨rfl, hs173⟩
  · have h174 := ifF hc110 h104
    have hk175 : (!y102) = true := by simp [hc110]
    refine WC.condT (Eq.trans (show _ = Value.bool (!y102) from rfl) (congrArg Value.bool hk175)) rfl ?_
    refine WC.seq ?_
    refine WC.region ?_
    refine WL.val (R.assign (v := Value.int .i64 (-1)) rfl) rfl ?_
    refine WL.nil ?_
    refine thenN ?_
    refine WC.ret ?_
    obtain rfl := Option.some.inj (show some (-1) = some r from h174)
    exact ret1 (P := Try.prog) (n := 31) (fn := Try.f94) (R := fun v w' => v = Value.int .i64 (-1) ∧ St [] w w' []) (t := 4) (v := Value.int .i64 (-1)) rfl rfl rfl ⟨rfl, hs109⟩

theorem anew16_ok (w : World) (ok : Nat → Prop) (p0 : Int) {r : (Option (Int × (List Int))) × Int} (h : anew16 p0 = some r) :
    Ret Try.prog 97 [Value.int .i64 p0] w (fun v w' => ∃ rp0, ∃ rL0, v = Value.tuple #[rp0, Value.int .i64 r.2] ∧ objR (fun (b : Nat) (d : Int × (List Int)) (L : List Ent) => ∃ ra1 : Option Addr, ∃ rc2 : Nat, L = [blk b 216 [Value.int .i64 d.1, Value.slice ra1 d.2.length rc2], gslU 2 i64E (Value.slice ra1 d.2.length rc2) d.2]) r.1 rp0 rL0 ∧ St [] w w' (rL0)) := by
  rw [anew16] at h
  have hs100 : St [] w w [] := St.start w
  refine enter (n := 10) Try.func97 rfl rfl rfl ?_
  refine WC.seq ?_
  refine WC.region ?_
  refine WL.val (R.assign (v := Value.pointer none) rfl) rfl ?_
  refine WL.val (R.assign (v := Value.int .i64 0) rfl) rfl ?_
  refine WL.nil ?_
  refine thenN ?_
  refine WC.seq ?_
  refine WC.seq ?_
  refine WC.region ?_
  refine WL.val (R.move (v := Value.int .i64 p0) rfl) rfl ?_
  obtain ⟨y101, hx102, h103⟩ := ob (o := amay16 p0) h
  refine WL.call (amay16_ok _ (In ok w [] []) p0  hx102) (R.call (vs := [Value.int .i64 p0]) (caps := []) bo130 rfl rfl) rfl ?_
  rintro v106 w107 ⟨rfl, ht104⟩
  have ht105 := hs100.call (N := []) (M := []) (List.Perm.refl _) ht104
  have hs108 := hs100.trans ht105
  refine WL.val (R.not (b := y101) rfl) rfl ?_
  refine WL.nil ?_
  refine thenN ?_
  by_cases hc109 : y101 = true
  · have h110 := ifT hc109 h103
    have hk111 : (!y101) = false := by simp [hc109]
    refine WC.condF (Eq.trans (show _ = Value.bool (!y101) from rfl) (congrArg Value.bool hk111)) rfl ?_
    refine WC.skip ?_
    refine thenN ?_
    refine WC.seq ?_
    refine WC.region ?_
    refine WL.val (R.move (v := Value.int .i64 p0) rfl) rfl ?_
    have hd112 : ∀ w, (Instr.build 216 #[(0, Value.int .i64 p0)]).run Try.prog w = .ok (Value.agg (List.toArray [Value.int .i64 p0, Value.slice none 0 0])) w := fun _ => by kernel_rfl
    refine WL.val (R.build (vs := [(0, Value.int .i64 p0)]) rfl hd112) rfl ?_
    refine WL.new (L' := fun b113 => [blk b113 216 [Value.int .i64 p0, Value.slice none 0 0]]) (f := fun b113 => Value.pointer (some ⟨b113, 0, none⟩)) (X.box (v := Value.agg (List.toArray [Value.int .i64 p0, Value.slice none 0 0])) (c := [Value.int .i64 p0, Value.slice none 0 0]) (hs108.here) rfl rfl (fun _ => rfl)) rfl ?_
    intro b113 w114 ht119 he116 hz117
    have hs120 := hs108.trans ht119
    refine WL.val (R.assign (v := Value.pointer (some ⟨b113, 0, none⟩)) rfl) rfl ?_
    refine WL.val (R.assign (v := Value.int .i64 0) rfl) rfl ?_
    refine WL.nil ?_
    refine thenN ?_
    refine WC.ret ?_
    have ht121 := (hs120.here).addNil 2 i64E rfl
    have hs123 := hs120.trans ht121
    have ht124 : St [blk b113 216 [Value.int .i64 p0, Value.slice none (([] : List Int).length) 0], gsl 2 i64E (Value.slice none 0 0) ([] : List Int)] w114 w114 [blk b113 216 [Value.int .i64 p0, Value.slice none (([] : List Int).length) 0], gslU 2 i64E (Value.slice none 0 0) ([] : List Int)] := (hs123.here).conv (i := 1) rfl (gslU_of (hs123.get (i := 1) rfl)) (fun _ hb => hb) rfl
    have hs125 := hs123.trans ht124
    obtain rfl := Option.some.inj (show some ((some (p0, ([] : List Int))), 0) = some r from h110)
    exact ret2 (P := Try.prog) (n := 10) (fn := Try.f97) (R := fun v w' => ∃ rp0, ∃ rL0, v = Value.tuple #[rp0, Value.int .i64 ((some (p0, ([] : List Int))), 0).2] ∧ objR (fun (b : Nat) (d : Int × (List Int)) (L : List Ent) => ∃ ra1 : Option Addr, ∃ rc2 : Nat, L = [blk b 216 [Value.int .i64 d.1, Value.slice ra1 d.2.length rc2], gslU 2 i64E (Value.slice ra1 d.2.length rc2) d.2]) ((some (p0, ([] : List Int))), 0).1 rp0 rL0 ∧ St [] w w' (rL0)) (t := 2) (u := 3) (v := Value.pointer (some ⟨b113, 0, none⟩)) (v' := Value.int .i64 0) rfl rfl rfl rfl rfl ⟨Value.pointer (some ⟨b113, 0, none⟩), _, rfl, ⟨_, rfl, none, 0, rfl⟩, hs125⟩
  · have h126 := ifF hc109 h103
    have hk127 : (!y101) = true := by simp [hc109]
    refine WC.condT (Eq.trans (show _ = Value.bool (!y101) from rfl) (congrArg Value.bool hk127)) rfl ?_
    refine WC.seq ?_
    refine WC.region ?_
    refine WL.val (R.assign (v := Value.pointer none) rfl) rfl ?_
    refine WL.val (R.assign (v := Value.int .i64 1) rfl) rfl ?_
    refine WL.nil ?_
    refine thenN ?_
    refine WC.ret ?_
    obtain rfl := Option.some.inj (show some (none, 1) = some r from h126)
    exact ret2 (P := Try.prog) (n := 10) (fn := Try.f97) (R := fun v w' => ∃ rp0, ∃ rL0, v = Value.tuple #[rp0, Value.int .i64 (none, 1).2] ∧ objR (fun (b : Nat) (d : Int × (List Int)) (L : List Ent) => ∃ ra1 : Option Addr, ∃ rc2 : Nat, L = [blk b 216 [Value.int .i64 d.1, Value.slice ra1 d.2.length rc2], gslU 2 i64E (Value.slice ra1 d.2.length rc2) d.2]) (none, 1).1 rp0 rL0 ∧ St [] w w' (rL0)) (t := 2) (u := 3) (v := Value.pointer none) (v' := Value.int .i64 1) rfl rfl rfl rfl rfl ⟨(Value.pointer none), [], rfl, ⟨rfl, rfl⟩, hs108⟩

theorem own16_ok (w : World) (ok : Nat → Prop) (q0 : Int × (List Int)) (p1 : Int) (p2 : Int) (b0o0 : Nat) (a0o0 : Option Addr) (c0o0a : Nat) (hok : ∀ b, ok b → out [blk b0o0 216 [Value.int .i64 q0.1, Value.slice a0o0 q0.2.length c0o0a], gslU 2 i64E (Value.slice a0o0 q0.2.length c0o0a) q0.2] b) (hL : St [blk b0o0 216 [Value.int .i64 q0.1, Value.slice a0o0 q0.2.length c0o0a], gslU 2 i64E (Value.slice a0o0 q0.2.length c0o0a) q0.2] w w [blk b0o0 216 [Value.int .i64 q0.1, Value.slice a0o0 q0.2.length c0o0a], gslU 2 i64E (Value.slice a0o0 q0.2.length c0o0a) q0.2]) {r : Int} (h : own16 q0 p1 p2 = some r) :
    Ret Try.prog 135 [Value.pointer (some ⟨b0o0, 0, none⟩), Value.int .i64 p1, Value.int .i64 p2] w (fun v w' => v = Value.int .i64 r ∧ St [blk b0o0 216 [Value.int .i64 q0.1, Value.slice a0o0 q0.2.length c0o0a], gslU 2 i64E (Value.slice a0o0 q0.2.length c0o0a) q0.2] w w' [blk b0o0 216 [Value.int .i64 q0.1, Value.slice a0o0 q0.2.length c0o0a], gslU 2 i64E (Value.slice a0o0 q0.2.length c0o0a) q0.2]) := by
  rw [own16] at h
  have hs100 : St [blk b0o0 216 [Value.int .i64 q0.1, Value.slice a0o0 q0.2.length c0o0a], gslU 2 i64E (Value.slice a0o0 q0.2.length c0o0a) q0.2] w w [blk b0o0 216 [Value.int .i64 q0.1, Value.slice a0o0 q0.2.length c0o0a], gslU 2 i64E (Value.slice a0o0 q0.2.length c0o0a) q0.2] := hL
  refine enter (n := 22) Try.func135 rfl rfl rfl ?_
  refine WC.seq ?_
  refine WC.region ?_
  refine WL.val (R.assign (v := Value.int .i64 0) rfl) rfl ?_
  refine WL.nil ?_
  refine thenN ?_
  refine WC.seq ?_
  refine WC.region ?_
  refine WL.val (R.move (v := Value.int .i64 p2) rfl) rfl ?_
  refine WL.val (R.assign (v := Value.int .i64 p2) rfl) rfl ?_
  refine WL.nil ?_
  refine thenN ?_
  refine WC.seq ?_
  refine WC.seq ?_
  refine WC.region ?_
  refine WL.val (R.move (v := Value.int .i64 p1) rfl) rfl ?_
  obtain ⟨y101, hx102, h103⟩ := ob (o := ais16 p1) h
  refine WL.call (ais16_ok _ (In ok w [blk b0o0 216 [Value.int .i64 q0.1, Value.slice a0o0 q0.2.length c0o0a], gslU 2 i64E (Value.slice a0o0 q0.2.length c0o0a) q0.2] [blk b0o0 216 [Value.int .i64 q0.1, Value.slice a0o0 q0.2.length c0o0a], gslU 2 i64E (Value.slice a0o0 q0.2.length c0o0a) q0.2]) p1  hx102) (R.call (vs := [Value.int .i64 p1]) (caps := []) bo136 rfl rfl) rfl ?_
  rintro v106 w107 ⟨rfl, ht104⟩
  have ht105 := hs100.call (N := [blk b0o0 216 [Value.int .i64 q0.1, Value.slice a0o0 q0.2.length c0o0a], gslU 2 i64E (Value.slice a0o0 q0.2.length c0o0a) q0.2]) (M := []) (List.Perm.refl _) ht104
  have hs108 := hs100.trans ht105
  refine WL.nil ?_
  refine thenN ?_
  by_cases hc109 : y101 = true
  · have h110 := ifT hc109 h103
    refine WC.condT (Eq.trans (show _ = Value.bool y101 from rfl) (congrArg Value.bool hc109)) rfl ?_
    refine WC.region ?_
    refine WL.val (R.move (v := Value.int .i64 p1) rfl) rfl ?_
    refine WL.val (R.move (v := Value.pointer (some ⟨b0o0, 0, none⟩)) rfl) rfl ?_
    refine WL.val (R.nilCheckP (a := ⟨b0o0, 0, none⟩) rfl) rfl ?_
    refine WL.val (R.fieldAddr (o := 0) (o' := 0) fa216_0 rfl rfl) rfl ?_
    refine WL.val (R.loadL (v := Value.int .i64 q0.1) lf3 rfl (hs108.at (i := 0) (off := 0) (n := 1) (cs := [Value.int .i64 q0.1]) rfl rfl rfl)) rfl ?_
    obtain ⟨hg111, h112⟩ := ckE (c := -9223372036854775808 ≤ 2 * q0.1 ∧ 2 * q0.1 ≤ 9223372036854775807) h110
    refine WL.val (R.mul (a := 2) (b := q0.1) (z := 2 * q0.1) rfl rfl (w64e rfl hg111.1 hg111.2)) rfl ?_
    obtain ⟨hg113, h114⟩ := ckE (c := -9223372036854775808 ≤ p1 + (2 * q0.1) ∧ p1 + (2 * q0.1) ≤ 9223372036854775807) h112
    refine WL.val (R.add (a := p1) (b := 2 * q0.1) (z := p1 + (2 * q0.1)) rfl rfl (w64e rfl hg113.1 hg113.2)) rfl ?_
    refine WL.val (R.assign (v := Value.int .i64 (p1 + (2 * q0.1))) rfl) rfl ?_
    refine WL.nil ?_
    refine thenN ?_
    refine WC.seq ?_
    refine WC.seq ?_
    refine WC.region ?_
    refine WL.val (R.move (v := Value.int .i64 (p1 + (2 * q0.1))) rfl) rfl ?_
    obtain ⟨y115, hx116, h117⟩ := ob (o := ais16 (p1 + (2 * q0.1))) h114
    refine WL.call (ais16_ok _ (In ok w [blk b0o0 216 [Value.int .i64 q0.1, Value.slice a0o0 q0.2.length c0o0a], gslU 2 i64E (Value.slice a0o0 q0.2.length c0o0a) q0.2] [blk b0o0 216 [Value.int .i64 q0.1, Value.slice a0o0 q0.2.length c0o0a], gslU 2 i64E (Value.slice a0o0 q0.2.length c0o0a) q0.2]) (p1 + (2 * q0.1))  hx116) (R.call (vs := [Value.int .i64 (p1 + (2 * q0.1))]) (caps := []) bo136 rfl rfl) rfl ?_
    rintro v120 w121 ⟨rfl, ht118⟩
    have ht119 := hs108.call (N := [blk b0o0 216 [Value.int .i64 q0.1, Value.slice a0o0 q0.2.length c0o0a], gslU 2 i64E (Value.slice a0o0 q0.2.length c0o0a) q0.2]) (M := []) (List.Perm.refl _) ht118
    have hs122 := hs108.trans ht119
    refine WL.val (R.not (b := y115) rfl) rfl ?_
    refine WL.nil ?_
    refine thenN ?_
    by_cases hc123 : y115 = true
    · have h124 := ifT hc123 h117
      have hk125 : (!y115) = false := by simp [hc123]
      refine WC.condF (Eq.trans (show _ = Value.bool (!y115) from rfl) (congrArg Value.bool hk125)) rfl ?_
      refine WC.skip ?_
      refine thenN ?_
      refine WC.seq ?_
      refine WC.region ?_
      refine WL.val (R.move (v := Value.int .i64 (p1 + (2 * q0.1))) rfl) rfl ?_
      refine WL.val (R.assign (v := Value.int .i64 (p1 + (2 * q0.1))) rfl) rfl ?_
      refine WL.nil ?_
      refine thenN ?_
      refine WC.ret ?_
      obtain rfl := Option.some.inj (show some (p1 + (2 * q0.1)) = some r from h124)
      exact ret1 (P := Try.prog) (n := 22) (fn := Try.f135) (R := fun v w' => v = Value.int .i64 (p1 + (2 * q0.1)) ∧ St [blk b0o0 216 [Value.int .i64 q0.1, Value.slice a0o0 q0.2.length c0o0a], gslU 2 i64E (Value.slice a0o0 q0.2.length c0o0a) q0.2] w w' [blk b0o0 216 [Value.int .i64 q0.1, Value.slice a0o0 q0.2.length c0o0a], gslU 2 i64E (Value.slice a0o0 q0.2.length c0o0a) q0.2]) (t := 6) (v := Value.int .i64 (p1 + (2 * q0.1))) rfl rfl rfl ⟨rfl, hs122⟩
    · have h126 := ifF hc123 h117
      have hk127 : (!y115) = true := by simp [hc123]
      refine WC.condT (Eq.trans (show _ = Value.bool (!y115) from rfl) (congrArg Value.bool hk127)) rfl ?_
      refine WC.seq ?_
      refine WC.region ?_
      refine WL.val (R.assign (v := Value.int .i64 (-1)) rfl) rfl ?_
      refine WL.nil ?_
      refine thenN ?_
      refine WC.ret ?_
      obtain rfl := Option.some.inj (show some (-1) = some r from h126)
      exact ret1 (P := Try.prog) (n := 22) (fn := Try.f135) (R := fun v w' => v = Value.int .i64 (-1) ∧ St [blk b0o0 216 [Value.int .i64 q0.1, Value.slice a0o0 q0.2.length c0o0a], gslU 2 i64E (Value.slice a0o0 q0.2.length c0o0a) q0.2] w w' [blk b0o0 216 [Value.int .i64 q0.1, Value.slice a0o0 q0.2.length c0o0a], gslU 2 i64E (Value.slice a0o0 q0.2.length c0o0a) q0.2]) (t := 6) (v := Value.int .i64 (-1)) rfl rfl rfl ⟨rfl, hs122⟩
  · have h128 := ifF hc109 h103
    refine WC.condF (Eq.trans (show _ = Value.bool y101 from rfl) (congrArg Value.bool (Bool.eq_false_iff.2 hc109))) rfl ?_
    refine WC.skip ?_
    refine thenN ?_
    refine WC.seq ?_
    refine WC.seq ?_
    refine WC.region ?_
    refine WL.val (R.move (v := Value.int .i64 p2) rfl) rfl ?_
    obtain ⟨y129, hx130, h131⟩ := ob (o := ais16 p2) h128
    refine WL.call (ais16_ok _ (In ok w [blk b0o0 216 [Value.int .i64 q0.1, Value.slice a0o0 q0.2.length c0o0a], gslU 2 i64E (Value.slice a0o0 q0.2.length c0o0a) q0.2] [blk b0o0 216 [Value.int .i64 q0.1, Value.slice a0o0 q0.2.length c0o0a], gslU 2 i64E (Value.slice a0o0 q0.2.length c0o0a) q0.2]) p2  hx130) (R.call (vs := [Value.int .i64 p2]) (caps := []) bo136 rfl rfl) rfl ?_
    rintro v134 w135 ⟨rfl, ht132⟩
    have ht133 := hs108.call (N := [blk b0o0 216 [Value.int .i64 q0.1, Value.slice a0o0 q0.2.length c0o0a], gslU 2 i64E (Value.slice a0o0 q0.2.length c0o0a) q0.2]) (M := []) (List.Perm.refl _) ht132
    have hs136 := hs108.trans ht133
    refine WL.val (R.not (b := y129) rfl) rfl ?_
    refine WL.nil ?_
    refine thenN ?_
    by_cases hc137 : y129 = true
    · have h138 := ifT hc137 h131
      have hk139 : (!y129) = false := by simp [hc137]
      refine WC.condF (Eq.trans (show _ = Value.bool (!y129) from rfl) (congrArg Value.bool hk139)) rfl ?_
      refine WC.skip ?_
      refine thenN ?_
      refine WC.seq ?_
      refine WC.region ?_
      refine WL.val (R.move (v := Value.int .i64 p2) rfl) rfl ?_
      refine WL.val (R.assign (v := Value.int .i64 p2) rfl) rfl ?_
      refine WL.nil ?_
      refine thenN ?_
      refine WC.ret ?_
      obtain rfl := Option.some.inj (show some p2 = some r from h138)
      exact ret1 (P := Try.prog) (n := 22) (fn := Try.f135) (R := fun v w' => v = Value.int .i64 p2 ∧ St [blk b0o0 216 [Value.int .i64 q0.1, Value.slice a0o0 q0.2.length c0o0a], gslU 2 i64E (Value.slice a0o0 q0.2.length c0o0a) q0.2] w w' [blk b0o0 216 [Value.int .i64 q0.1, Value.slice a0o0 q0.2.length c0o0a], gslU 2 i64E (Value.slice a0o0 q0.2.length c0o0a) q0.2]) (t := 6) (v := Value.int .i64 p2) rfl rfl rfl ⟨rfl, hs136⟩
    · have h140 := ifF hc137 h131
      have hk141 : (!y129) = true := by simp [hc137]
      refine WC.condT (Eq.trans (show _ = Value.bool (!y129) from rfl) (congrArg Value.bool hk141)) rfl ?_
      refine WC.seq ?_
      refine WC.region ?_
      refine WL.val (R.assign (v := Value.int .i64 (-1)) rfl) rfl ?_
      refine WL.nil ?_
      refine thenN ?_
      refine WC.ret ?_
      obtain rfl := Option.some.inj (show some (-1) = some r from h140)
      exact ret1 (P := Try.prog) (n := 22) (fn := Try.f135) (R := fun v w' => v = Value.int .i64 (-1) ∧ St [blk b0o0 216 [Value.int .i64 q0.1, Value.slice a0o0 q0.2.length c0o0a], gslU 2 i64E (Value.slice a0o0 q0.2.length c0o0a) q0.2] w w' [blk b0o0 216 [Value.int .i64 q0.1, Value.slice a0o0 q0.2.length c0o0a], gslU 2 i64E (Value.slice a0o0 q0.2.length c0o0a) q0.2]) (t := 6) (v := Value.int .i64 (-1)) rfl rfl rfl ⟨rfl, hs136⟩

theorem astep16_ok (w : World) (ok : Nat → Prop) (q0 : Int × (List Int)) (p1 : Int) (p2 : Int) (b0o0 : Nat) (a0o0 : Option Addr) (c0o0a : Nat) (hok : ∀ b, ok b → out [blk b0o0 216 [Value.int .i64 q0.1, Value.slice a0o0 q0.2.length c0o0a], gslU 2 i64E (Value.slice a0o0 q0.2.length c0o0a) q0.2] b) (hL : St [blk b0o0 216 [Value.int .i64 q0.1, Value.slice a0o0 q0.2.length c0o0a], gslU 2 i64E (Value.slice a0o0 q0.2.length c0o0a) q0.2] w w [blk b0o0 216 [Value.int .i64 q0.1, Value.slice a0o0 q0.2.length c0o0a], gslU 2 i64E (Value.slice a0o0 q0.2.length c0o0a) q0.2]) {r : Int × Int × (Int × (List Int))} (h : astep16 q0 p1 p2 = some r) :
    Ret Try.prog 99 [Value.pointer (some ⟨b0o0, 0, none⟩), Value.int .i64 p1, Value.int .i64 p2] w (fun v w' => ∃ ra1, ∃ rc2, v = Value.tuple #[Value.int .i64 r.1, Value.int .i64 r.2.1] ∧ St [blk b0o0 216 [Value.int .i64 q0.1, Value.slice a0o0 q0.2.length c0o0a], gslU 2 i64E (Value.slice a0o0 q0.2.length c0o0a) q0.2] w w' [blk b0o0 216 [Value.int .i64 r.2.2.1, Value.slice ra1 r.2.2.2.length rc2], gslU 2 i64E (Value.slice ra1 r.2.2.2.length rc2) r.2.2.2]) := by
  rw [astep16] at h
  have hs100 : St [blk b0o0 216 [Value.int .i64 q0.1, Value.slice a0o0 q0.2.length c0o0a], gslU 2 i64E (Value.slice a0o0 q0.2.length c0o0a) q0.2] w w [blk b0o0 216 [Value.int .i64 q0.1, Value.slice a0o0 q0.2.length c0o0a], gslU 2 i64E (Value.slice a0o0 q0.2.length c0o0a) q0.2] := hL
  refine enter (n := 96) Try.func99 rfl rfl rfl ?_
  refine WC.seq ?_
  refine WC.region ?_
  refine WL.val (R.assign (v := Value.int .i64 0) rfl) rfl ?_
  refine WL.val (R.assign (v := Value.int .i64 0) rfl) rfl ?_
  refine WL.nil ?_
  refine thenN ?_
  refine WC.seq ?_
  refine WC.seq ?_
  refine WC.region ?_
  refine WL.val (R.move (v := Value.pointer (some ⟨b0o0, 0, none⟩)) rfl) rfl ?_
  refine WL.val (R.ptrNil (a := ⟨b0o0, 0, none⟩) un117 rfl rfl) rfl ?_
  refine WL.val (R.move (v := Value.bool false) rfl) rfl ?_
  refine WL.guardY (e := 13) rfl rfl rfl ?_
  refine WL.val (R.move (v := Value.pointer (some ⟨b0o0, 0, none⟩)) rfl) rfl ?_
  refine WL.guardY (e := 13) rfl rfl rfl ?_
  refine WL.val (R.nilCheckP (a := ⟨b0o0, 0, none⟩) rfl) rfl ?_
  refine WL.guardY (e := 13) rfl rfl rfl ?_
  refine WL.val (R.fieldAddr (o := 0) (o' := 0) fa216_0 rfl rfl) rfl ?_
  refine WL.guardY (e := 13) rfl rfl rfl ?_
  refine WL.val (R.loadL (v := Value.int .i64 q0.1) lf3 rfl (hs100.at (i := 0) (off := 0) (n := 1) (cs := [Value.int .i64 q0.1]) rfl rfl rfl)) rfl ?_
  refine WL.guardY (e := 13) rfl rfl rfl ?_
  by_cases hc101 : q0.1 = 0
  · have h102 := ifT hc101 h
    refine WL.val (R.eqlT (k := .i64) (a := q0.1) (b := 0) un3 rfl rfl hc101) rfl ?_
    refine WL.val (R.pickF (v := Value.bool true) rfl rfl) rfl ?_
    refine WL.nil ?_
    refine thenN ?_
    refine WC.condT rfl rfl ?_
    refine WC.seq ?_
    refine WC.region ?_
    refine WL.val (R.assign (v := Value.int .i64 (-1)) rfl) rfl ?_
    refine WL.val (R.assign (v := Value.int .i64 (-1)) rfl) rfl ?_
    refine WL.nil ?_
    refine thenN ?_
    refine WC.ret ?_
    obtain rfl := Option.some.inj (show some (-1, -1, (q0.1, q0.2)) = some r from h102)
    exact ret2 (P := Try.prog) (n := 96) (fn := Try.f99) (R := fun v w' => ∃ ra1, ∃ rc2, v = Value.tuple #[Value.int .i64 (-1, -1, (q0.1, q0.2)).1, Value.int .i64 (-1, -1, (q0.1, q0.2)).2.1] ∧ St [blk b0o0 216 [Value.int .i64 q0.1, Value.slice a0o0 q0.2.length c0o0a], gslU 2 i64E (Value.slice a0o0 q0.2.length c0o0a) q0.2] w w' [blk b0o0 216 [Value.int .i64 (-1, -1, (q0.1, q0.2)).2.2.1, Value.slice ra1 (-1, -1, (q0.1, q0.2)).2.2.2.length rc2], gslU 2 i64E (Value.slice ra1 (-1, -1, (q0.1, q0.2)).2.2.2.length rc2) (-1, -1, (q0.1, q0.2)).2.2.2]) (t := 6) (u := 7) (v := Value.int .i64 (-1)) (v' := Value.int .i64 (-1)) rfl rfl rfl rfl rfl ⟨a0o0, c0o0a, rfl, hs100⟩
  · have h103 := ifF hc101 h
    refine WL.val (R.eqlF (k := .i64) (a := q0.1) (b := 0) un3 rfl rfl hc101) rfl ?_
    refine WL.val (R.pickF (v := Value.bool false) rfl rfl) rfl ?_
    refine WL.nil ?_
    refine thenN ?_
    refine WC.condF rfl rfl ?_
    refine WC.skip ?_
    refine thenN ?_
    refine WC.seq ?_
    refine WC.region ?_
    refine WL.val (R.move (v := Value.pointer (some ⟨b0o0, 0, none⟩)) rfl) rfl ?_
    refine WL.val (R.move (v := Value.int .i64 p1) rfl) rfl ?_
    refine WL.val (R.move (v := Value.int .i64 p2) rfl) rfl ?_
    obtain ⟨y104, hx105, h106⟩ := ob (o := own16 (q0.1, q0.2) p1 p2) h103
    refine WL.call (own16_ok _ (In ok w [blk b0o0 216 [Value.int .i64 q0.1, Value.slice a0o0 q0.2.length c0o0a], gslU 2 i64E (Value.slice a0o0 q0.2.length c0o0a) q0.2] [blk b0o0 216 [Value.int .i64 q0.1, Value.slice a0o0 q0.2.length c0o0a], gslU 2 i64E (Value.slice a0o0 q0.2.length c0o0a) q0.2]) (q0.1, q0.2) p1 p2  b0o0 _ _ (In.outM (M := [blk b0o0 216 [Value.int .i64 q0.1, Value.slice a0o0 q0.2.length c0o0a], gslU 2 i64E (Value.slice a0o0 q0.2.length c0o0a) q0.2]) (N := []) ((List.Perm.refl _))) (show St [blk b0o0 216 [Value.int .i64 q0.1, Value.slice a0o0 q0.2.length c0o0a], gslU 2 i64E (Value.slice a0o0 q0.2.length c0o0a) q0.2] _ _ [blk b0o0 216 [Value.int .i64 q0.1, Value.slice a0o0 q0.2.length c0o0a], gslU 2 i64E (Value.slice a0o0 q0.2.length c0o0a) q0.2] from St.ofM (M := [blk b0o0 216 [Value.int .i64 q0.1, Value.slice a0o0 q0.2.length c0o0a], gslU 2 i64E (Value.slice a0o0 q0.2.length c0o0a) q0.2]) (N := []) hs100 ((List.Perm.refl _))) hx105) (R.call (vs := [Value.pointer (some ⟨b0o0, 0, none⟩), Value.int .i64 p1, Value.int .i64 p2]) (caps := []) bo135 rfl rfl) rfl ?_
    rintro v109 w110 ⟨rfl, ht107⟩
    have ht108 := hs100.call (N := []) (M := [blk b0o0 216 [Value.int .i64 q0.1, Value.slice a0o0 q0.2.length c0o0a], gslU 2 i64E (Value.slice a0o0 q0.2.length c0o0a) q0.2]) ((List.Perm.refl _)) ht107
    have hs111 := hs100.trans ht108
    refine WL.val (R.assign (v := Value.int .i64 y104) rfl) rfl ?_
    refine WL.nil ?_
    refine thenN ?_
    refine WC.seq ?_
    refine WC.region ?_
    refine WL.val (R.move (v := Value.pointer (some ⟨b0o0, 0, none⟩)) rfl) rfl ?_
    refine WL.val (R.move (v := Value.pointer (some ⟨b0o0, 0, none⟩)) rfl) rfl ?_
    refine WL.val (R.nilCheckP (a := ⟨b0o0, 0, none⟩) rfl) rfl ?_
    refine WL.val (R.fieldAddr (o := 0) (o' := 1) fa216_1 rfl rfl) rfl ?_
    refine WL.val (R.loadL (v := Value.slice a0o0 q0.2.length c0o0a) lf196 rfl (hs111.at (i := 0) (off := 1) (n := 1) (cs := [Value.slice a0o0 q0.2.length c0o0a]) rfl rfl rfl)) rfl ?_
    refine WL.val (R.move (v := Value.int .i64 y104) rfl) rfl ?_
    have hd117 : ∀ w : World, (Instr.buildSlice 196 1 #[(0, Value.int .i64 y104)]).run Try.prog w = .ok (.slice (some ⟨w.heap.size, 0, none⟩) 1 1) { w with heap := w.heap.push (.cells (List.toArray [Value.int .i64 y104]) 2) } := fun _ => by kernel_rfl
    refine WL.new (L' := fun b112 => [blk b0o0 216 [Value.int .i64 q0.1, Value.slice a0o0 q0.2.length c0o0a], gslU 2 i64E (Value.slice a0o0 q0.2.length c0o0a) q0.2, blk b112 2 [Value.int .i64 y104]]) (f := fun b112 => Value.slice (some ⟨b112, 0, none⟩) 1 1) (X.buildSlice (c := [Value.int .i64 y104]) (vs := [(0, Value.int .i64 y104)]) (hs111.here) rfl hd117 (fun _ => rfl)) rfl ?_
    intro b112 w113 ht119 he115 hz116
    have hs120 := hs111.trans ht119
    obtain ⟨hg121, h122⟩ := ckE (c := q0.2.length < 1000000) h106
    refine WL.grow (L' := fun v123 => [blk b0o0 216 [Value.int .i64 q0.1, Value.slice a0o0 q0.2.length c0o0a], gsl 2 i64E v123 (q0.2 ++ [y104]), blk b112 2 [Value.int .i64 y104]]) (X.appendU (i := 1) (e := i64E) (xs := q0.2) (ys := [y104]) (ad := ⟨b112, 0, none⟩) (m := 1) (c := 1) (hs120.here) sl196 rfl rfl rfl rfl ((hs120.here).at (i := 2) (off := 0) (n := 1) (cs := flat i64E [y104]) rfl rfl rfl) rfl rfl (room (n := 1) hg121 rfl (by decide)) (room63 (n := 1) hg121 rfl (by decide)) (by decide) (fun _ => rfl)) rfl ?_
    intro v123 w124 ht125
    obtain ⟨a126, c127, hv128⟩ := gsl_sl (ht125.get (i := 1) rfl)
    subst hv128
    have hs129 := hs120.trans ht125
    refine WL.val (R.nilCheckP (a := ⟨b0o0, 0, none⟩) rfl) rfl ?_
    refine WL.val (R.fieldAddr (o := 0) (o' := 1) fa216_1 rfl rfl) rfl ?_
    refine WL.sto (L' := [blk b0o0 216 [Value.int .i64 q0.1, Value.slice a126 ((q0.2 ++ [y104]).length) c127], gsl 2 i64E (Value.slice a126 ((q0.2 ++ [y104]).length) c127) (q0.2 ++ [y104]), blk b112 2 [Value.int .i64 y104]]) (X.store (i := 0) (n := 1) (b := b0o0) (off := 1) (c := [Value.int .i64 q0.1, Value.slice a0o0 q0.2.length c0o0a]) (U := 216) (vs := [Value.slice a126 ((q0.2 ++ [y104]).length) c127]) (v := Value.slice a126 ((q0.2 ++ [y104]).length) c127) (c' := [Value.int .i64 q0.1, Value.slice a126 ((q0.2 ++ [y104]).length) c127]) (hs129.here) rfl lf196.size rfl rfl rfl rfl rfl rfl rfl rfl) rfl rfl ?_
    intro w130 ht131
    have hs132 := hs129.trans ht131
    refine WL.nil ?_
    refine thenN ?_
    obtain ⟨J160, hJ161, h162⟩ := jnE h122
    refine WC.seq ?_
    refine WC.join (fun σ164 w163 => ∃ l157 : List Int, ∃ a158, ∃ c159, σ164 0 = (Value.pointer (some ⟨b0o0, 0, none⟩)) ∧ σ164 6 = (Value.int .i64 y104) ∧ J160 l157 = some r ∧ St [blk b0o0 216 [Value.int .i64 q0.1, Value.slice a0o0 q0.2.length c0o0a], gslU 2 i64E (Value.slice a0o0 q0.2.length c0o0a) q0.2] w w163 [blk b0o0 216 [Value.int .i64 q0.1, Value.slice a158 l157.length c159], gslU 2 i64E (Value.slice a158 l157.length c159) l157]) ?_ ?_
    · refine WC.seq ?_
      refine WC.drawE mixed (NP.then (NP.join (NP.then NP.rq))) ?_
      have ht166 := (hs132.here).ext (Ext.drew _)
      have hs167 := hs132.trans ht166
      refine WE.take 0 rfl (by decide +kernel) (by decide +kernel) (by decide +kernel) (by decide +kernel) rfl rfl (fun wq hq => R.move (v := Value.pointer (some ⟨b0o0, 0, none⟩)) rfl) ?_
      refine WE.take 1 rfl (by decide +kernel) (by decide +kernel) (by decide +kernel) (by decide +kernel) rfl rfl (fun wq hq => R.nilCheckP (a := ⟨b0o0, 0, none⟩) rfl) ?_
      refine WE.take 2 rfl (by decide +kernel) (by decide +kernel) (by decide +kernel) (by decide +kernel) rfl rfl (fun wq hq => R.fieldAddr (o := 0) (o' := 1) fa216_1 rfl rfl) ?_
      refine WE.take 3 rfl (by decide +kernel) (by decide +kernel) (by decide +kernel) (by decide +kernel) rfl rfl (fun wq hq => R.loadL (v := Value.slice a126 ((q0.2 ++ [y104]).length) c127) lf196 rfl ((hs167.ext hq).at (i := 0) (off := 1) (n := 1) (cs := [Value.slice a126 ((q0.2 ++ [y104]).length) c127]) rfl rfl rfl)) ?_
      refine WE.take 4 rfl (by decide +kernel) (by decide +kernel) (by decide +kernel) (by decide +kernel) rfl rfl (fun wq hq => R.len (a := a126) (n := ((q0.2 ++ [y104]).length)) (c := c127) un196 rfl) ?_
      refine WE.take 5 rfl (by decide +kernel) (by decide +kernel) (by decide +kernel) (by decide +kernel) rfl rfl (fun wq hq => R.move (v := Value.pointer (some ⟨b0o0, 0, none⟩)) rfl) ?_
      refine WE.take 6 rfl (by decide +kernel) (by decide +kernel) (by decide +kernel) (by decide +kernel) rfl rfl (fun wq hq => R.nilCheckP (a := ⟨b0o0, 0, none⟩) rfl) ?_
      refine WE.take 7 rfl (by decide +kernel) (by decide +kernel) (by decide +kernel) (by decide +kernel) rfl rfl (fun wq hq => R.fieldAddr (o := 0) (o' := 0) fa216_0 rfl rfl) ?_
      refine WE.take 8 rfl (by decide +kernel) (by decide +kernel) (by decide +kernel) (by decide +kernel) rfl rfl (fun wq hq => R.loadL (v := Value.int .i64 q0.1) lf3 rfl ((hs167.ext hq).at (i := 0) (off := 0) (n := 1) (cs := [Value.int .i64 q0.1]) rfl rfl rfl)) ?_
      obtain ⟨hg168, h169⟩ := ckE (c := -9223372036854775808 ≤ 2 * q0.1 ∧ 2 * q0.1 ≤ 9223372036854775807) h162
      refine WE.take 9 rfl (by decide +kernel) (by decide +kernel) (by decide +kernel) (by decide +kernel) rfl rfl (fun wq hq => R.mul (a := 2) (b := q0.1) (z := 2 * q0.1) rfl rfl (w64e rfl hg168.1 hg168.2)) ?_
      obtain ⟨hg170, h171⟩ := ckE (c := -9223372036854775808 ≤ (((q0.2 ++ [y104]).length : Nat) : Int) - (2 * q0.1) ∧ (((q0.2 ++ [y104]).length : Nat) : Int) - (2 * q0.1) ≤ 9223372036854775807) h169
      refine WE.take 10 rfl (by decide +kernel) (by decide +kernel) (by decide +kernel) (by decide +kernel) rfl rfl (fun wq hq => R.sub (a := (((q0.2 ++ [y104]).length : Nat) : Int)) (b := 2 * q0.1) (z := (((q0.2 ++ [y104]).length : Nat) : Int) - (2 * q0.1)) rfl rfl (w64e rfl hg170.1 hg170.2)) ?_
      refine WE.take 11 rfl (by decide +kernel) (by decide +kernel) (by decide +kernel) (by decide +kernel) rfl rfl (fun wq hq => R.assign (v := Value.int .i64 ((((q0.2 ++ [y104]).length : Nat) : Int) - (2 * q0.1))) rfl) ?_
      refine WE.done (by decide +kernel) ?_
      refine thenN ?_
      refine WC.seq ?_
      refine WC.region ?_
      refine WL.val (R.move (v := Value.int .i64 ((((q0.2 ++ [y104]).length : Nat) : Int) - (2 * q0.1))) rfl) rfl ?_
      by_cases hc172 : 0 < ((((q0.2 ++ [y104]).length : Nat) : Int) - (2 * q0.1))
      · have h173 := ifT hc172 h171
        refine WL.val (R.gtrT (k := .i64) (a := (((q0.2 ++ [y104]).length : Nat) : Int) - (2 * q0.1)) (b := 0) un3 rfl rfl hc172) rfl ?_
        refine WL.nil ?_
        refine thenN ?_
        refine WC.condT rfl rfl ?_
        refine WC.drawE mixed (NP.join (NP.then NP.rq)) ?_
        have ht174 := (hs167.here).ext (Ext.drew _)
        have hs175 := hs167.trans ht174
        refine WE.take 0 rfl (by decide +kernel) (by decide +kernel) (by decide +kernel) (by decide +kernel) rfl rfl (fun wq hq => R.move (v := Value.pointer (some ⟨b0o0, 0, none⟩)) rfl) ?_
        refine WE.take 1 rfl (by decide +kernel) (by decide +kernel) (by decide +kernel) (by decide +kernel) rfl rfl (fun wq hq => R.move (v := Value.pointer (some ⟨b0o0, 0, none⟩)) rfl) ?_
        refine WE.take 2 rfl (by decide +kernel) (by decide +kernel) (by decide +kernel) (by decide +kernel) rfl rfl (fun wq hq => R.nilCheckP (a := ⟨b0o0, 0, none⟩) rfl) ?_
        refine WE.take 3 rfl (by decide +kernel) (by decide +kernel) (by decide +kernel) (by decide +kernel) rfl rfl (fun wq hq => R.fieldAddr (o := 0) (o' := 1) fa216_1 rfl rfl) ?_
        refine WE.take 4 rfl (by decide +kernel) (by decide +kernel) (by decide +kernel) (by decide +kernel) rfl rfl (fun wq hq => R.loadL (v := Value.slice a126 ((q0.2 ++ [y104]).length) c127) lf196 rfl ((hs175.ext hq).at (i := 0) (off := 1) (n := 1) (cs := [Value.slice a126 ((q0.2 ++ [y104]).length) c127]) rfl rfl rfl)) ?_
        refine WE.take 5 rfl (by decide +kernel) (by decide +kernel) (by decide +kernel) (by decide +kernel) rfl rfl (fun wq hq => R.move (v := Value.int .i64 ((((q0.2 ++ [y104]).length : Nat) : Int) - (2 * q0.1))) rfl) ?_
        refine WE.take 6 rfl (by decide +kernel) (by decide +kernel) (by decide +kernel) (by decide +kernel) rfl rfl (fun wq hq => R.move (v := Value.pointer (some ⟨b0o0, 0, none⟩)) rfl) ?_
        refine WE.take 7 rfl (by decide +kernel) (by decide +kernel) (by decide +kernel) (by decide +kernel) rfl rfl (fun wq hq => R.nilCheckP (a := ⟨b0o0, 0, none⟩) rfl) ?_
        refine WE.take 8 rfl (by decide +kernel) (by decide +kernel) (by decide +kernel) (by decide +kernel) rfl rfl (fun wq hq => R.fieldAddr (o := 0) (o' := 1) fa216_1 rfl rfl) ?_
        refine WE.take 9 rfl (by decide +kernel) (by decide +kernel) (by decide +kernel) (by decide +kernel) rfl rfl (fun wq hq => R.loadL (v := Value.slice a126 ((q0.2 ++ [y104]).length) c127) lf196 rfl ((hs175.ext hq).at (i := 0) (off := 1) (n := 1) (cs := [Value.slice a126 ((q0.2 ++ [y104]).length) c127]) rfl rfl rfl)) ?_
        refine WE.take 10 rfl (by decide +kernel) (by decide +kernel) (by decide +kernel) (by decide +kernel) rfl rfl (fun wq hq => R.len (a := a126) (n := ((q0.2 ++ [y104]).length)) (c := c127) un196 rfl) ?_
        refine WE.take 11 rfl (by decide +kernel) (by decide +kernel) (by decide +kernel) (by decide +kernel) rfl rfl (fun wq hq => R.move (v := Value.pointer (some ⟨b0o0, 0, none⟩)) rfl) ?_
        refine WE.take 12 rfl (by decide +kernel) (by decide +kernel) (by decide +kernel) (by decide +kernel) rfl rfl (fun wq hq => R.nilCheckP (a := ⟨b0o0, 0, none⟩) rfl) ?_
        refine WE.take 13 rfl (by decide +kernel) (by decide +kernel) (by decide +kernel) (by decide +kernel) rfl rfl (fun wq hq => R.fieldAddr (o := 0) (o' := 1) fa216_1 rfl rfl) ?_
        refine WE.take 14 rfl (by decide +kernel) (by decide +kernel) (by decide +kernel) (by decide +kernel) rfl rfl (fun wq hq => R.loadL (v := Value.slice a126 ((q0.2 ++ [y104]).length) c127) lf196 rfl ((hs175.ext hq).at (i := 0) (off := 1) (n := 1) (cs := [Value.slice a126 ((q0.2 ++ [y104]).length) c127]) rfl rfl rfl)) ?_
        refine WE.take 15 rfl (by decide +kernel) (by decide +kernel) (by decide +kernel) (by decide +kernel) rfl rfl (fun wq hq => R.len (a := a126) (n := ((q0.2 ++ [y104]).length)) (c := c127) un196 rfl) ?_
        obtain ⟨hg176, h177⟩ := ckE (c := 0 ≤ (((q0.2 ++ [y104]).length : Nat) : Int) - (2 * q0.1) ∧ (((q0.2 ++ [y104]).length : Nat) : Int) - (2 * q0.1) ≤ (((q0.2 ++ [y104]).length : Nat) : Int)) h173
        have ht178 : St [blk b0o0 216 [Value.int .i64 q0.1, Value.slice a126 ((q0.2 ++ [y104]).length) c127], gsl 2 i64E (Value.slice a126 ((q0.2 ++ [y104]).length) c127) (q0.2 ++ [y104]), blk b112 2 [Value.int .i64 y104]] (((w130).drew).drew) (((w130).drew).drew) [blk b0o0 216 [Value.int .i64 q0.1, Value.slice a126 ((q0.2 ++ [y104]).length) c127], gslU 2 i64E (Value.slice a126 ((q0.2 ++ [y104]).length) c127) (q0.2 ++ [y104]), blk b112 2 [Value.int .i64 y104]] := (hs175.here).conv (i := 1) rfl (gslU_of (hs175.get (i := 1) rfl)) (fun _ hb => hb) rfl
        have hs179 := hs175.trans ht178
        obtain ⟨a180, hr181, hg182, hF183⟩ := U.slice3 (P := Try.prog) (T := 196) (E := 2) (e := i64E) (xs := q0.2 ++ [y104]) un196 lf2.size rfl hg176 (hs179.get (i := 1) rfl)
        refine WE.take 16 rfl (by decide +kernel) (by decide +kernel) (by decide +kernel) (by decide +kernel) rfl rfl (fun wq hq => hr181 _ _ _ _ _ _ _ _ _ _ _ rfl rfl rfl rfl) ?_
        have ht184 : St [blk b0o0 216 [Value.int .i64 q0.1, Value.slice a126 ((q0.2 ++ [y104]).length) c127], gslU 2 i64E (Value.slice a126 ((q0.2 ++ [y104]).length) c127) (q0.2 ++ [y104]), blk b112 2 [Value.int .i64 y104]] (((w130).drew).drew) (((w130).drew).drew) [blk b0o0 216 [Value.int .i64 q0.1, Value.slice a126 ((q0.2 ++ [y104]).length) c127], gslU 2 i64E (Value.slice a180 (((q0.2 ++ [y104]).drop ((((q0.2 ++ [y104]).length : Nat) : Int) - (2 * q0.1)).toNat).length) (((q0.2 ++ [y104]).drop ((((q0.2 ++ [y104]).length : Nat) : Int) - (2 * q0.1)).toNat).length)) ((q0.2 ++ [y104]).drop ((((q0.2 ++ [y104]).length : Nat) : Int) - (2 * q0.1)).toNat), blk b112 2 [Value.int .i64 y104]] := (hs179.here).conv (i := 1) rfl hg182 hF183 rfl
        have hs185 := hs179.trans ht184
        refine WE.take 17 rfl (by decide +kernel) (by decide +kernel) (by decide +kernel) (by decide +kernel) rfl rfl (fun wq hq => R.nilCheckP (a := ⟨b0o0, 0, none⟩) rfl) ?_
        refine WE.take 18 rfl (by decide +kernel) (by decide +kernel) (by decide +kernel) (by decide +kernel) rfl rfl (fun wq hq => R.fieldAddr (o := 0) (o' := 1) fa216_1 rfl rfl) ?_
        refine WE.sto (L' := [blk b0o0 216 [Value.int .i64 q0.1, Value.slice a180 (((q0.2 ++ [y104]).drop ((((q0.2 ++ [y104]).length : Nat) : Int) - (2 * q0.1)).toNat).length) (((q0.2 ++ [y104]).drop ((((q0.2 ++ [y104]).length : Nat) : Int) - (2 * q0.1)).toNat).length)], gslU 2 i64E (Value.slice a180 (((q0.2 ++ [y104]).drop ((((q0.2 ++ [y104]).length : Nat) : Int) - (2 * q0.1)).toNat).length) (((q0.2 ++ [y104]).drop ((((q0.2 ++ [y104]).length : Nat) : Int) - (2 * q0.1)).toNat).length)) ((q0.2 ++ [y104]).drop ((((q0.2 ++ [y104]).length : Nat) : Int) - (2 * q0.1)).toNat), blk b112 2 [Value.int .i64 y104]]) 19 (by decide +kernel) (by decide +kernel) rfl rfl rfl rfl (X.store (i := 0) (n := 1) (b := b0o0) (off := 1) (c := [Value.int .i64 q0.1, Value.slice a126 ((q0.2 ++ [y104]).length) c127]) (U := 216) (vs := [Value.slice a180 (((q0.2 ++ [y104]).drop ((((q0.2 ++ [y104]).length : Nat) : Int) - (2 * q0.1)).toNat).length) (((q0.2 ++ [y104]).drop ((((q0.2 ++ [y104]).length : Nat) : Int) - (2 * q0.1)).toNat).length)]) (v := Value.slice a180 (((q0.2 ++ [y104]).drop ((((q0.2 ++ [y104]).length : Nat) : Int) - (2 * q0.1)).toNat).length) (((q0.2 ++ [y104]).drop ((((q0.2 ++ [y104]).length : Nat) : Int) - (2 * q0.1)).toNat).length)) (c' := [Value.int .i64 q0.1, Value.slice a180 (((q0.2 ++ [y104]).drop ((((q0.2 ++ [y104]).length : Nat) : Int) - (2 * q0.1)).toNat).length) (((q0.2 ++ [y104]).drop ((((q0.2 ++ [y104]).length : Nat) : Int) - (2 * q0.1)).toNat).length)]) (hs185.here) rfl lf196.size rfl rfl rfl rfl rfl rfl rfl rfl) ?_
        intro w186 ht187
        have hs188 := hs185.trans ht187
        refine WE.done (by decide +kernel) ?_
        have ht189 := (hs188.here).perm (L' := [blk b0o0 216 [Value.int .i64 q0.1, Value.slice a180 (((q0.2 ++ [y104]).drop ((((q0.2 ++ [y104]).length : Nat) : Int) - (2 * q0.1)).toNat).length) (((q0.2 ++ [y104]).drop ((((q0.2 ++ [y104]).length : Nat) : Int) - (2 * q0.1)).toNat).length)], gslU 2 i64E (Value.slice a180 (((q0.2 ++ [y104]).drop ((((q0.2 ++ [y104]).length : Nat) : Int) - (2 * q0.1)).toNat).length) (((q0.2 ++ [y104]).drop ((((q0.2 ++ [y104]).length : Nat) : Int) - (2 * q0.1)).toNat).length)) ((q0.2 ++ [y104]).drop ((((q0.2 ++ [y104]).length : Nat) : Int) - (2 * q0.1)).toNat)]) (G := [blk b112 2 [Value.int .i64 y104]]) ((List.Perm.refl _))
        have hs190 := hs188.trans ht189
        exact joinI ⟨(q0.2 ++ [y104]).drop ((((q0.2 ++ [y104]).length : Nat) : Int) - (2 * q0.1)).toNat, a180, ((q0.2 ++ [y104]).drop ((((q0.2 ++ [y104]).length : Nat) : Int) - (2 * q0.1)).toNat).length, rfl, rfl, h177, hs190⟩
      · have h191 := ifF hc172 h171
        refine WL.val (R.gtrF (k := .i64) (a := (((q0.2 ++ [y104]).length : Nat) : Int) - (2 * q0.1)) (b := 0) un3 rfl rfl hc172) rfl ?_
        refine WL.nil ?_
        refine thenN ?_
        refine WC.condF rfl rfl ?_
        refine WC.skip ?_
        have ht192 : St [blk b0o0 216 [Value.int .i64 q0.1, Value.slice a126 ((q0.2 ++ [y104]).length) c127], gsl 2 i64E (Value.slice a126 ((q0.2 ++ [y104]).length) c127) (q0.2 ++ [y104]), blk b112 2 [Value.int .i64 y104]] ((w130).drew) ((w130).drew) [blk b0o0 216 [Value.int .i64 q0.1, Value.slice a126 ((q0.2 ++ [y104]).length) c127], gslU 2 i64E (Value.slice a126 ((q0.2 ++ [y104]).length) c127) (q0.2 ++ [y104]), blk b112 2 [Value.int .i64 y104]] := (hs167.here).conv (i := 1) rfl (gslU_of (hs167.get (i := 1) rfl)) (fun _ hb => hb) rfl
        have hs193 := hs167.trans ht192
        have ht194 := (hs193.here).perm (L' := [blk b0o0 216 [Value.int .i64 q0.1, Value.slice a126 ((q0.2 ++ [y104]).length) c127], gslU 2 i64E (Value.slice a126 ((q0.2 ++ [y104]).length) c127) (q0.2 ++ [y104])]) (G := [blk b112 2 [Value.int .i64 y104]]) ((List.Perm.refl _))
        have hs195 := hs193.trans ht194
        exact joinI ⟨q0.2 ++ [y104], a126, c127, rfl, rfl, h191, hs195⟩
    · rintro σ164 w163 ⟨l157, a158, c159, s197, s198, h196, hs165⟩
      subst hJ161
      refine thenN ?_
      refine WC.seq ?_
      refine WC.region ?_
      refine WL.val (R.assign (v := Value.int .i64 (-1)) rfl) rfl ?_
      refine WL.nil ?_
      refine thenN ?_
      refine WC.seq ?_
      refine WC.seq ?_
      refine WC.region ?_
      refine WL.val (R.move (v := Value.pointer (some ⟨b0o0, 0, none⟩)) (by exact s197)) rfl ?_
      refine WL.val (R.nilCheckP (a := ⟨b0o0, 0, none⟩) rfl) rfl ?_
      refine WL.val (R.fieldAddr (o := 0) (o' := 1) fa216_1 rfl rfl) rfl ?_
      refine WL.val (R.loadL (v := Value.slice a158 l157.length c159) lf196 rfl (hs165.at (i := 0) (off := 1) (n := 1) (cs := [Value.slice a158 l157.length c159]) rfl rfl rfl)) rfl ?_
      refine WL.val (R.len (a := a158) (n := l157.length) (c := c159) un196 rfl) rfl ?_
      refine WL.val (R.move (v := Value.int .i64 0) rfl) rfl ?_
      refine WL.nil ?_
      refine thenN ?_
      obtain ⟨K264, hK265, h266⟩ := kE (G := fun K264 => astep16_l1 l157 K264 1000000 (-1) 0) h196
      refine WC.join (fun σ272 w271 => ∃ i263 : Int, σ272 6 = (Value.int .i64 y104) ∧ σ272 7 = (Value.int .i64 i263) ∧ K264 i263 = some r ∧ St [blk b0o0 216 [Value.int .i64 q0.1, Value.slice a0o0 q0.2.length c0o0a], gslU 2 i64E (Value.slice a0o0 q0.2.length c0o0a) q0.2] w w271 [blk b0o0 216 [Value.int .i64 q0.1, Value.slice a158 l157.length c159], gslU 2 i64E (Value.slice a158 l157.length c159) l157]) ?_ ?_
      · refine WC.block ?_
        refine WC.loop (T := Nat) (fun k270 σ268 w267 => ∃ i261 : Int, ∃ i262 : Int, σ268 0 = (Value.pointer (some ⟨b0o0, 0, none⟩)) ∧ σ268 6 = (Value.int .i64 y104) ∧ σ268 7 = (Value.int .i64 i261) ∧ σ268 69 = (Value.slice a158 l157.length c159) ∧ σ268 70 = (Value.int .i64 ((l157.length : Nat) : Int)) ∧ σ268 71 = (Value.int .i64 i262) ∧ astep16_l1 l157 K264 k270 i261 i262 = some r ∧ St [blk b0o0 216 [Value.int .i64 q0.1, Value.slice a0o0 q0.2.length c0o0a], gslU 2 i64E (Value.slice a0o0 q0.2.length c0o0a) q0.2] w w267 [blk b0o0 216 [Value.int .i64 q0.1, Value.slice a158 l157.length c159], gslU 2 i64E (Value.slice a158 l157.length c159) l157]) (fun k270 => k270) 1000000 ⟨-1, 0, s197, s198, rfl, rfl, rfl, rfl, h266, hs165⟩ ?_
        rintro k270 σ268 w267 ⟨i261, i262, s275, s276, s277, s278, s279, s280, h274, hs269⟩
        rcases k270 with _ | k270
        · rw [astep16_l1] at h274; cases h274
        rw [astep16_l1] at h274
        refine WC.seq ?_
        refine WC.region ?_
        by_cases hc281 : i262 < ((l157.length : Nat) : Int)
        · have h282 := ifT hc281 h274
          refine WL.val (R.lssT (k := .i64) (a := i262) (b := ((l157.length : Nat) : Int)) un3 (by exact s280) (by exact s279) hc281) rfl ?_
          refine WL.nil ?_
          refine thenN ?_
          refine WC.seq ?_
          refine WC.condT rfl rfl ?_
          refine WC.skip ?_
          refine thenN ?_
          refine WC.seq ?_
          refine WC.block ?_
          refine WC.seq ?_
          refine WC.region ?_
          refine WL.val (R.move (v := Value.int .i64 i262) (by exact s280)) rfl ?_
          obtain ⟨x283, hx284, h285⟩ := ob (o := rd l157 i262) h282
          obtain ⟨h0286, hx287, hl288, hm289⟩ := rdE hx284
          obtain ⟨-, -, he290⟩ := gslU_elems (k := (intW .i64)) (hs269.get (i := 1) rfl) rfl (fun _ _ _ => ⟨trivial, rfl⟩)
          obtain ⟨ad291, e296, ha292, hp293, hat294, hrd295⟩ := he290 _ _ hx287
          obtain ⟨-, rfl⟩ := hrd295
          refine WL.val (R.indexS (n := 1) (m := (i262).toNat) (a := a158) (ad := ad291) (len := l157.length) (cap := c159) (z := i262) un196 lf2.size (by exact s278) ha292 (by exact s280) hm289 hl288 hp293) rfl ?_
          refine WL.val (R.loadL (v := Value.int .i64 x283) lf2 rfl hat294) rfl ?_
          refine WL.val (R.assign (v := Value.int .i64 i262) rfl) rfl ?_
          refine WL.val (R.assign (v := Value.int .i64 x283) rfl) rfl ?_
          refine WL.nil ?_
          refine thenN ?_
          refine WC.seq ?_
          refine WC.region ?_
          refine WL.val (R.move (v := Value.int .i64 x283) rfl) rfl ?_
          by_cases hc297 : x283 = (-1)
          · have h298 := ifT hc297 h285
            refine WL.val (R.neqF (k := .i64) (a := x283) (b := -1) un2 rfl rfl (not_not_intro hc297)) rfl ?_
            refine WL.nil ?_
            refine thenN ?_
            refine WC.condF rfl rfl ?_
            refine WC.skip ?_
            refine blockN ?_
            refine thenN ?_
            refine WC.region ?_
            obtain ⟨hg299, h300⟩ := ckE (c := -9223372036854775808 ≤ i262 + 1 ∧ i262 + 1 ≤ 9223372036854775807) h298
            refine WL.val (R.add (a := i262) (b := 1) (z := i262 + 1) (by exact s280) rfl (w64e rfl hg299.1 hg299.2)) rfl ?_
            refine WL.val (R.move (v := Value.int .i64 (i262 + 1)) rfl) rfl ?_
            refine WL.nil ?_
            exact roundEnd (s := k270) ⟨i261, i262 + 1, s275, s276, s277, s278, s279, rfl, h300, hs269⟩ (Nat.lt_succ_self _)
          · have h301 := ifF hc297 h285
            refine WL.val (R.neqT (k := .i64) (a := x283) (b := -1) un2 rfl rfl hc297) rfl ?_
            refine WL.nil ?_
            refine thenN ?_
            refine WC.condT rfl rfl ?_
            refine WC.region ?_
            refine WL.val (R.move (v := Value.int .i64 i261) (by exact s277)) rfl ?_
            refine WL.val (R.move (v := Value.int .i64 x283) rfl) rfl ?_
            refine WL.val (R.move (v := Value.pointer (some ⟨b0o0, 0, none⟩)) (by exact s275)) rfl ?_
            refine WL.val (R.nilCheckP (a := ⟨b0o0, 0, none⟩) rfl) rfl ?_
            refine WL.val (R.fieldAddr (o := 0) (o' := 1) fa216_1 rfl rfl) rfl ?_
            refine WL.val (R.loadL (v := Value.slice a158 l157.length c159) lf196 rfl (hs269.at (i := 0) (off := 1) (n := 1) (cs := [Value.slice a158 l157.length c159]) rfl rfl rfl)) rfl ?_
            refine WL.val (R.len (a := a158) (n := l157.length) (c := c159) un196 rfl) rfl ?_
            obtain ⟨hg302, h303⟩ := ckE (c := -9223372036854775808 ≤ ((l157.length : Nat) : Int) - 1 ∧ ((l157.length : Nat) : Int) - 1 ≤ 9223372036854775807) h301
            refine WL.val (R.sub (a := ((l157.length : Nat) : Int)) (b := 1) (z := ((l157.length : Nat) : Int) - 1) rfl rfl (w64e rfl hg302.1 hg302.2)) rfl ?_
            refine WL.val (R.move (v := Value.int .i64 i262) rfl) rfl ?_
            obtain ⟨hg304, h305⟩ := ckE (c := -9223372036854775808 ≤ (((l157.length : Nat) : Int) - 1) - i262 ∧ (((l157.length : Nat) : Int) - 1) - i262 ≤ 9223372036854775807) h303
            refine WL.val (R.sub (a := ((l157.length : Nat) : Int) - 1) (b := i262) (z := (((l157.length : Nat) : Int) - 1) - i262) rfl rfl (w64e rfl hg304.1 hg304.2)) rfl ?_
            obtain ⟨hg306, h307⟩ := ckE (c := -9223372036854775808 ≤ x283 + ((((l157.length : Nat) : Int) - 1) - i262) ∧ x283 + ((((l157.length : Nat) : Int) - 1) - i262) ≤ 9223372036854775807) h305
            refine WL.val (R.add (a := x283) (b := (((l157.length : Nat) : Int) - 1) - i262) (z := x283 + ((((l157.length : Nat) : Int) - 1) - i262)) rfl rfl (w64e rfl hg306.1 hg306.2)) rfl ?_
            refine WL.val (R.max (a := i261) (b := x283 + ((((l157.length : Nat) : Int) - 1) - i262)) (z := max i261 (x283 + ((((l157.length : Nat) : Int) - 1) - i262))) rfl rfl rfl) rfl ?_
            refine WL.val (R.assign (v := Value.int .i64 (max i261 (x283 + ((((l157.length : Nat) : Int) - 1) - i262)))) rfl) rfl ?_
            refine WL.nil ?_
            refine blockN ?_
            refine thenN ?_
            refine WC.region ?_
            obtain ⟨hg308, h309⟩ := ckE (c := -9223372036854775808 ≤ i262 + 1 ∧ i262 + 1 ≤ 9223372036854775807) h307
            refine WL.val (R.add (a := i262) (b := 1) (z := i262 + 1) (by exact s280) rfl (w64e rfl hg308.1 hg308.2)) rfl ?_
            refine WL.val (R.move (v := Value.int .i64 (i262 + 1)) rfl) rfl ?_
            refine WL.nil ?_
            exact roundEnd (s := k270) ⟨max i261 (x283 + ((((l157.length : Nat) : Int) - 1) - i262)), i262 + 1, s275, s276, rfl, s278, s279, rfl, h309, hs269⟩ (Nat.lt_succ_self _)
        · have h310 := ifF hc281 h274
          refine WL.val (R.lssF (k := .i64) (a := i262) (b := ((l157.length : Nat) : Int)) un3 (by exact s280) (by exact s279) hc281) rfl ?_
          refine WL.nil ?_
          refine thenN ?_
          refine WC.seq ?_
          refine WC.condF rfl rfl ?_
          refine WC.exit ?_
          refine thenE ?_
          refine thenE ?_
          refine blockHit ?_
          exact joinI ⟨i261, s276, s277, h310, hs269⟩
      · rintro σ272 w271 ⟨i263, s312, s313, h311, hs273⟩
        subst hK265
        refine thenN ?_
        refine WC.seq ?_
        refine WC.seq ?_
        refine WC.region ?_
        refine WL.val (R.move (v := Value.int .i64 i263) (by exact s313)) rfl ?_
        obtain ⟨y314, hx315, h316⟩ := ob (o := ais16 i263) h311
        refine WL.call (ais16_ok _ (In ok w [blk b0o0 216 [Value.int .i64 q0.1, Value.slice a0o0 q0.2.length c0o0a], gslU 2 i64E (Value.slice a0o0 q0.2.length c0o0a) q0.2] [blk b0o0 216 [Value.int .i64 q0.1, Value.slice a158 l157.length c159], gslU 2 i64E (Value.slice a158 l157.length c159) l157]) i263  hx315) (R.call (vs := [Value.int .i64 i263]) (caps := []) bo136 rfl rfl) rfl ?_
        rintro v319 w320 ⟨rfl, ht317⟩
        have ht318 := hs273.call (N := [blk b0o0 216 [Value.int .i64 q0.1, Value.slice a158 l157.length c159], gslU 2 i64E (Value.slice a158 l157.length c159) l157]) (M := []) (List.Perm.refl _) ht317
        have hs321 := hs273.trans ht318
        refine WL.val (R.not (b := y314) rfl) rfl ?_
        refine WL.nil ?_
        refine thenN ?_
        by_cases hc322 : y314 = true
        · have h323 := ifT hc322 h316
          have hk324 : (!y314) = false := by simp [hc322]
          refine WC.condF (Eq.trans (show _ = Value.bool (!y314) from rfl) (congrArg Value.bool hk324)) rfl ?_
          refine WC.skip ?_
          refine thenN ?_
          refine WC.seq ?_
          refine WC.region ?_
          refine WL.val (R.move (v := Value.int .i64 y104) (by exact s312)) rfl ?_
          refine WL.val (R.move (v := Value.int .i64 i263) (by exact s313)) rfl ?_
          refine WL.val (R.assign (v := Value.int .i64 y104) rfl) rfl ?_
          refine WL.val (R.assign (v := Value.int .i64 i263) rfl) rfl ?_
          refine WL.nil ?_
          refine thenN ?_
          refine WC.ret ?_
          obtain rfl := Option.some.inj (show some (y104, i263, (q0.1, l157)) = some r from h323)
          exact ret2 (P := Try.prog) (n := 96) (fn := Try.f99) (R := fun v w' => ∃ ra1, ∃ rc2, v = Value.tuple #[Value.int .i64 (y104, i263, (q0.1, l157)).1, Value.int .i64 (y104, i263, (q0.1, l157)).2.1] ∧ St [blk b0o0 216 [Value.int .i64 q0.1, Value.slice a0o0 q0.2.length c0o0a], gslU 2 i64E (Value.slice a0o0 q0.2.length c0o0a) q0.2] w w' [blk b0o0 216 [Value.int .i64 (y104, i263, (q0.1, l157)).2.2.1, Value.slice ra1 (y104, i263, (q0.1, l157)).2.2.2.length rc2], gslU 2 i64E (Value.slice ra1 (y104, i263, (q0.1, l157)).2.2.2.length rc2) (y104, i263, (q0.1, l157)).2.2.2]) (t := 6) (u := 7) (v := Value.int .i64 y104) (v' := Value.int .i64 i263) rfl rfl rfl rfl rfl ⟨a158, c159, rfl, hs321⟩
        · have h325 := ifF hc322 h316
          have hk326 : (!y314) = true := by simp [hc322]
          refine WC.condT (Eq.trans (show _ = Value.bool (!y314) from rfl) (congrArg Value.bool hk326)) rfl ?_
          refine WC.region ?_
          refine WL.val (R.assign (v := Value.int .i64 (-1)) rfl) rfl ?_
          refine WL.nil ?_
          refine thenN ?_
          refine WC.seq ?_
          refine WC.region ?_
          refine WL.val (R.move (v := Value.int .i64 y104) (by exact s312)) rfl ?_
          refine WL.val (R.move (v := Value.int .i64 (-1)) rfl) rfl ?_
          refine WL.val (R.assign (v := Value.int .i64 y104) rfl) rfl ?_
          refine WL.val (R.assign (v := Value.int .i64 (-1)) rfl) rfl ?_
          refine WL.nil ?_
          refine thenN ?_
          refine WC.ret ?_
          obtain rfl := Option.some.inj (show some (y104, -1, (q0.1, l157)) = some r from h325)
          exact ret2 (P := Try.prog) (n := 96) (fn := Try.f99) (R := fun v w' => ∃ ra1, ∃ rc2, v = Value.tuple #[Value.int .i64 (y104, -1, (q0.1, l157)).1, Value.int .i64 (y104, -1, (q0.1, l157)).2.1] ∧ St [blk b0o0 216 [Value.int .i64 q0.1, Value.slice a0o0 q0.2.length c0o0a], gslU 2 i64E (Value.slice a0o0 q0.2.length c0o0a) q0.2] w w' [blk b0o0 216 [Value.int .i64 (y104, -1, (q0.1, l157)).2.2.1, Value.slice ra1 (y104, -1, (q0.1, l157)).2.2.2.length rc2], gslU 2 i64E (Value.slice ra1 (y104, -1, (q0.1, l157)).2.2.2.length rc2) (y104, -1, (q0.1, l157)).2.2.2]) (t := 6) (u := 7) (v := Value.int .i64 y104) (v' := Value.int .i64 (-1)) rfl rfl rfl rfl rfl ⟨a158, c159, rfl, hs321⟩

theorem astepN16_ok (w : World) (ok : Nat → Prop) (p1 : Int) (p2 : Int) {r : Int × Int} (h : astepN16 p1 p2 = some r) :
    Ret Try.prog 99 [Value.pointer none, Value.int .i64 p1, Value.int .i64 p2] w (fun v w' => v = Value.tuple #[Value.int .i64 r.1, Value.int .i64 r.2] ∧ St [] w w' []) := by
  rw [astepN16] at h
  have hs100 : St [] w w [] := St.start w
  refine enter (n := 96) Try.func99 rfl rfl rfl ?_
  refine WC.seq ?_
  refine WC.region ?_
  refine WL.val (R.assign (v := Value.int .i64 0) rfl) rfl ?_
  refine WL.val (R.assign (v := Value.int .i64 0) rfl) rfl ?_
  refine WL.nil ?_
  refine thenN ?_
  refine WC.seq ?_
  refine WC.seq ?_
  refine WC.region ?_
  refine WL.val (R.move (v := Value.pointer none) rfl) rfl ?_
  refine WL.val (R.nilNil un117 rfl rfl) rfl ?_
  refine WL.val (R.move (v := Value.bool true) rfl) rfl ?_
  refine WL.guardN (e := 13) (v := .bool true) rfl rfl rfl rfl ?_
  refine WL.guardN (e := 13) (v := .bool true) rfl rfl rfl rfl ?_
  refine WL.guardN (e := 13) (v := .bool true) rfl rfl rfl rfl ?_
  refine WL.guardN (e := 13) (v := .bool true) rfl rfl rfl rfl ?_
  refine WL.guardN (e := 13) (v := .bool true) rfl rfl rfl rfl ?_
  refine WL.val (R.pickT (v := Value.bool true) rfl rfl) rfl ?_
  refine WL.nil ?_
  refine thenN ?_
  refine WC.condT rfl rfl ?_
  refine WC.seq ?_
  refine WC.region ?_
  refine WL.val (R.assign (v := Value.int .i64 (-1)) rfl) rfl ?_
  refine WL.val (R.assign (v := Value.int .i64 (-1)) rfl) rfl ?_
  refine WL.nil ?_
  refine thenN ?_
  refine WC.ret ?_
  obtain rfl := Option.some.inj (show some (-1, -1) = some r from h)
  exact ret2 (P := Try.prog) (n := 96) (fn := Try.f99) (R := fun v w' => v = Value.tuple #[Value.int .i64 (-1, -1).1, Value.int .i64 (-1, -1).2] ∧ St [] w w' []) (t := 6) (u := 7) (v := Value.int .i64 (-1)) (v' := Value.int .i64 (-1)) rfl rfl rfl rfl rfl ⟨rfl, hs100⟩

theorem vec16_ok (w : World) (ok : Nat → Prop) (p0 : List Int) (a0 : Option Addr) (c0 : Nat) (he0 : elems (intW .i64) w ok a0 p0) (hc0 : p0.length ≤ c0) {r : (List Hd)} (h : vec16 p0 = some r) :
    Ret Try.prog 134 [Value.slice a0 p0.length c0] w (fun v w' => ∃ ra0, ∃ rc0, v = Value.slice ra0 r.length rc0 ∧ r.length ≤ rc0 ∧ elems heldW w' (In ok w [] []) ra0 r ∧ St [] w w' []) := by
  rw [vec16] at h
  have hs100 : St [] w w [] := St.start w
  have he1000 := el0 (L0 := []) (fun b _ => out_nil b) he0
  refine enter (n := 29) Try.func134 rfl rfl rfl ?_
  refine WC.seq ?_
  refine WC.region ?_
  refine WL.val (R.assign (v := Value.slice none 0 0) rfl) rfl ?_
  refine WL.nil ?_
  refine thenN ?_
  refine WC.seq ?_
  refine WC.region ?_
  refine WL.val (R.assign (v := Value.slice none 0 0) rfl) rfl ?_
  refine WL.nil ?_
  refine thenN ?_
  refine WC.seq ?_
  refine WC.seq ?_
  refine WC.region ?_
  refine WL.val (R.assign (v := Value.int .i64 0) rfl) rfl ?_
  refine WL.nil ?_
  refine thenN ?_
  have ht185 := (hs100.here).addNil 60 heldE rfl
  have hs187 := hs100.trans ht185
  have hr365 := elT ht185 he1000
  obtain ⟨K357, hK358, h359⟩ := kE (G := fun K357 => vec16_l1 p0 K357 1000000 0 ([] : List Hd)) h
  refine WC.join (fun σ367 w366 => ∃ l354 : List Hd, ∃ a355, ∃ c356, σ367 3 = (Value.slice a355 l354.length c356) ∧ K357 l354 = some r ∧ St [] w w366 [gsl 60 heldE (Value.slice a355 l354.length c356) l354]) ?_ ?_
  · refine WC.block ?_
    refine WC.loop (T := Nat) (fun k363 σ361 w360 => ∃ i350 : Int, ∃ l351 : List Hd, ∃ a352, ∃ c353, σ361 0 = (Value.slice a0 p0.length c0) ∧ σ361 3 = (Value.slice a352 l351.length c353) ∧ σ361 4 = (Value.int .i64 i350) ∧ elems (intW .i64) w360 (In ok w [] [gsl 60 heldE (Value.slice a352 l351.length c353) l351]) a0 p0 ∧ vec16_l1 p0 K357 k363 i350 l351 = some r ∧ St [] w w360 [gsl 60 heldE (Value.slice a352 l351.length c353) l351]) (fun k363 => k363) 1000000 ⟨0, ([] : List Hd), none, 0, rfl, rfl, rfl, hr365, h359, hs187⟩ ?_
    rintro k363 σ361 w360 ⟨i350, l351, a352, c353, s370, s371, s372, he364, h369, hs362⟩
    rcases k363 with _ | k363
    · rw [vec16_l1] at h369; cases h369
    rw [vec16_l1] at h369
    refine WC.seq ?_
    refine WC.seq ?_
    refine WC.region ?_
    refine WL.val (R.move (v := Value.int .i64 i350) (by exact s372)) rfl ?_
    refine WL.val (R.move (v := Value.slice a0 p0.length c0) (by exact s370)) rfl ?_
    refine WL.val (R.len (a := a0) (n := p0.length) (c := c0) un196 rfl) rfl ?_
    by_cases hc373 : i350 < ((p0.length : Nat) : Int)
    · have h374 := ifT hc373 h369
      refine WL.val (R.lssT (k := .i64) (a := i350) (b := ((p0.length : Nat) : Int)) un3 rfl rfl hc373) rfl ?_
      refine WL.nil ?_
      refine thenN ?_
      refine WC.condT rfl rfl ?_
      refine WC.skip ?_
      refine thenN ?_
      refine WC.seq ?_
      refine WC.block ?_
      refine WC.seq ?_
      refine WC.region ?_
      have hd375 : ∀ w, (Instr.build 60 #[]).run Try.prog w = .ok (Value.agg (List.toArray (encH Hd.none))) w := fun _ => by kernel_rfl
      refine WL.val (R.build (vs := []) rfl hd375) rfl ?_
      refine WL.new (L' := fun b376 => [gsl 60 heldE (Value.slice a352 l351.length c353) l351, blk b376 60 (encH Hd.none)]) (f := fun b376 => Value.pointer (some ⟨b376, 0, none⟩)) (X.alloc (c := encH Hd.none) (hs362.here) zr60 rfl (fun _ => rfl)) rfl ?_
      intro b376 w377 ht382 he379 hz380
      have hs383 := hs362.trans ht382
      refine WL.sto (L' := [gsl 60 heldE (Value.slice a352 l351.length c353) l351, blk b376 60 (encH Hd.none)]) (X.store (i := 1) (n := 56) (b := b376) (off := 0) (c := encH Hd.none) (U := 60) (vs := encH Hd.none) (v := Value.agg (List.toArray (encH Hd.none))) (c' := encH Hd.none) (hs383.here) rfl ag60.size rfl rfl rfl rfl rfl rfl rfl rfl) rfl rfl ?_
      intro w384 ht385
      have hs386 := hs383.trans ht385
      refine WL.nil ?_
      refine thenN ?_
      refine WC.seq ?_
      refine WC.seq ?_
      refine WC.region ?_
      refine WL.val (R.move (v := Value.slice a0 p0.length c0) (by exact s370)) rfl ?_
      refine WL.val (R.move (v := Value.int .i64 i350) (by exact s372)) rfl ?_
      obtain ⟨x387, hx388, h389⟩ := ob (o := rd p0 i350) h374
      obtain ⟨h0390, hx391, hl392, hm393⟩ := rdE hx388
      have hr394 := elT (ht382.trans ht385) he364
      obtain ⟨ad395, e400, ha396, hp397, hat398, hrd399⟩ := hr394 _ _ hx391
      obtain ⟨-, rfl⟩ := hrd399
      refine WL.val (R.indexS (n := 1) (m := (i350).toNat) (a := a0) (ad := ad395) (len := p0.length) (cap := c0) (z := i350) un196 lf2.size rfl ha396 rfl hm393 hl392 hp397) rfl ?_
      refine WL.val (R.loadL (v := Value.int .i64 x387) lf2 rfl hat398) rfl ?_
      by_cases hc402 : 0 ≤ x387
      · have h403 := ifT hc402 h389
        refine WL.val (R.geqT (k := .i64) (a := x387) (b := 0) un2 rfl rfl hc402) rfl ?_
        refine WL.nil ?_
        refine thenN ?_
        refine WC.condT rfl rfl ?_
        refine WC.region ?_
        refine WL.val (R.move (v := Value.slice a0 p0.length c0) (by exact s370)) rfl ?_
        refine WL.val (R.move (v := Value.int .i64 i350) (by exact s372)) rfl ?_
        refine WL.val (R.indexS (n := 1) (m := (i350).toNat) (a := a0) (ad := ad395) (len := p0.length) (cap := c0) (z := i350) un196 lf2.size rfl ha396 rfl hm393 hl392 hp397) rfl ?_
        refine WL.val (R.loadL (v := Value.int .i64 x387) lf2 rfl hat398) rfl ?_
        have hd404 : ∀ w, (Instr.build 58 #[(0, Value.int .i64 x387)]).run Try.prog w = .ok (Value.agg (List.toArray (encC (⟨x387, Cl.zero.offer, Cl.zero.report, Cl.zero.view⟩ : Cl)))) w := fun _ => by kernel_rfl
        refine WL.val (R.build (vs := [(0, Value.int .i64 x387)]) rfl hd404) rfl ?_
        have hd405 : ∀ w, (Instr.build 60 #[(0, Value.bool true), (1, Value.agg (List.toArray (encC (⟨x387, Cl.zero.offer, Cl.zero.report, Cl.zero.view⟩ : Cl))))]).run Try.prog w = .ok (Value.agg (List.toArray (encH (⟨true, (⟨x387, Cl.zero.offer, Cl.zero.report, Cl.zero.view⟩ : Cl)⟩ : Hd)))) w := fun _ => by kernel_rfl
        refine WL.val (R.build (vs := [(0, Value.bool true), (1, Value.agg (List.toArray (encC (⟨x387, Cl.zero.offer, Cl.zero.report, Cl.zero.view⟩ : Cl))))]) rfl hd405) rfl ?_
        refine WL.sto (L' := [gsl 60 heldE (Value.slice a352 l351.length c353) l351, blk b376 60 (encH (⟨true, (⟨x387, Cl.zero.offer, Cl.zero.report, Cl.zero.view⟩ : Cl)⟩ : Hd))]) (X.store (i := 1) (n := 56) (b := b376) (off := 0) (c := encH Hd.none) (U := 60) (vs := encH (⟨true, (⟨x387, Cl.zero.offer, Cl.zero.report, Cl.zero.view⟩ : Cl)⟩ : Hd)) (v := Value.agg (List.toArray (encH (⟨true, (⟨x387, Cl.zero.offer, Cl.zero.report, Cl.zero.view⟩ : Cl)⟩ : Hd)))) (c' := encH (⟨true, (⟨x387, Cl.zero.offer, Cl.zero.report, Cl.zero.view⟩ : Cl)⟩ : Hd)) (hs386.here) rfl ag60.size rfl rfl rfl rfl rfl rfl rfl rfl) rfl rfl ?_
        intro w406 ht407
        have hs408 := hs386.trans ht407
        refine WL.nil ?_
        refine thenN ?_
        refine WC.region ?_
        refine WL.val (R.move (v := Value.slice a352 l351.length c353) (by exact s371)) rfl ?_
        refine WL.val (R.loadA (cs := encH (⟨true, (⟨x387, Cl.zero.offer, Cl.zero.report, Cl.zero.view⟩ : Cl)⟩ : Hd)) (n := 56) ag60 rfl (hs408.at (i := 1) (off := 0) (n := 56) (cs := encH (⟨true, (⟨x387, Cl.zero.offer, Cl.zero.report, Cl.zero.view⟩ : Cl)⟩ : Hd)) rfl rfl rfl) rfl) rfl ?_
        have hd414 : ∀ w : World, (Instr.buildSlice 28 1 #[(0, Value.agg (List.toArray (encH (⟨true, (⟨x387, Cl.zero.offer, Cl.zero.report, Cl.zero.view⟩ : Cl)⟩ : Hd))))]).run Try.prog w = .ok (.slice (some ⟨w.heap.size, 0, none⟩) 1 1) { w with heap := w.heap.push (.cells (List.toArray (encH (⟨true, (⟨x387, Cl.zero.offer, Cl.zero.report, Cl.zero.view⟩ : Cl)⟩ : Hd))) 60) } := fun _ => by kernel_rfl
        refine WL.new (L' := fun b409 => [gsl 60 heldE (Value.slice a352 l351.length c353) l351, blk b376 60 (encH (⟨true, (⟨x387, Cl.zero.offer, Cl.zero.report, Cl.zero.view⟩ : Cl)⟩ : Hd)), blk b409 60 (encH (⟨true, (⟨x387, Cl.zero.offer, Cl.zero.report, Cl.zero.view⟩ : Cl)⟩ : Hd))]) (f := fun b409 => Value.slice (some ⟨b409, 0, none⟩) 1 1) (X.buildSlice (c := (encH (⟨true, (⟨x387, Cl.zero.offer, Cl.zero.report, Cl.zero.view⟩ : Cl)⟩ : Hd))) (vs := [(0, Value.agg (List.toArray (encH (⟨true, (⟨x387, Cl.zero.offer, Cl.zero.report, Cl.zero.view⟩ : Cl)⟩ : Hd))))]) (hs408.here) rfl hd414 (fun _ => rfl)) rfl ?_
        intro b409 w410 ht416 he412 hz413
        have hs417 := hs408.trans ht416
        obtain ⟨hg418, h419⟩ := ckE (c := l351.length < 1000000) h403
        refine WL.grow (L' := fun v420 => [gsl 60 heldE v420 (l351 ++ [(⟨true, (⟨x387, Cl.zero.offer, Cl.zero.report, Cl.zero.view⟩ : Cl)⟩ : Hd)]), blk b376 60 (encH (⟨true, (⟨x387, Cl.zero.offer, Cl.zero.report, Cl.zero.view⟩ : Cl)⟩ : Hd)), blk b409 60 (encH (⟨true, (⟨x387, Cl.zero.offer, Cl.zero.report, Cl.zero.view⟩ : Cl)⟩ : Hd))]) (X.append (i := 0) (e := heldE) (xs := l351) (ys := [(⟨true, (⟨x387, Cl.zero.offer, Cl.zero.report, Cl.zero.view⟩ : Cl)⟩ : Hd)]) (ad := ⟨b409, 0, none⟩) (m := 1) (c := 1) (hs417.here) sl28 rfl rfl rfl rfl ((hs417.here).at (i := 2) (off := 0) (n := 56) (cs := flat heldE [(⟨true, (⟨x387, Cl.zero.offer, Cl.zero.report, Cl.zero.view⟩ : Cl)⟩ : Hd)]) rfl rfl rfl) rfl rfl (room (n := 1) hg418 rfl (by decide)) (room63 (n := 1) hg418 rfl (by decide)) (fun _ => rfl)) rfl ?_
        intro v420 w421 ht422
        obtain ⟨a423, c424, hv425⟩ := gsl_sl (ht422.get (i := 0) rfl)
        subst hv425
        have hs426 := hs417.trans ht422
        refine WL.val (R.assign (v := Value.slice a423 ((l351 ++ [(⟨true, (⟨x387, Cl.zero.offer, Cl.zero.report, Cl.zero.view⟩ : Cl)⟩ : Hd)]).length) c424) rfl) rfl ?_
        refine WL.nil ?_
        refine blockN ?_
        refine thenN ?_
        refine WC.region ?_
        refine WL.val (R.move (v := Value.int .i64 i350) (by exact s372)) rfl ?_
        obtain ⟨hg427, h428⟩ := ckE (c := -9223372036854775808 ≤ i350 + 1 ∧ i350 + 1 ≤ 9223372036854775807) h419
        refine WL.val (R.add (a := i350) (b := 1) (z := i350 + 1) rfl rfl (w64e rfl hg427.1 hg427.2)) rfl ?_
        refine WL.val (R.assign (v := Value.int .i64 (i350 + 1)) rfl) rfl ?_
        refine WL.nil ?_
        have ht429 := (hs426.here).perm (L' := [gsl 60 heldE (Value.slice a423 ((l351 ++ [(⟨true, (⟨x387, Cl.zero.offer, Cl.zero.report, Cl.zero.view⟩ : Cl)⟩ : Hd)]).length) c424) (l351 ++ [(⟨true, (⟨x387, Cl.zero.offer, Cl.zero.report, Cl.zero.view⟩ : Cl)⟩ : Hd)])]) (G := [blk b376 60 (encH (⟨true, (⟨x387, Cl.zero.offer, Cl.zero.report, Cl.zero.view⟩ : Cl)⟩ : Hd)), blk b409 60 (encH (⟨true, (⟨x387, Cl.zero.offer, Cl.zero.report, Cl.zero.view⟩ : Cl)⟩ : Hd))]) ((List.Perm.refl _))
        have hs430 := hs426.trans ht429
        have hr431 := elT (((ht407.trans ht416).trans ht422).trans ht429) hr394
        exact roundEnd (s := k363) ⟨i350 + 1, l351 ++ [(⟨true, (⟨x387, Cl.zero.offer, Cl.zero.report, Cl.zero.view⟩ : Cl)⟩ : Hd)], a423, c424, s370, rfl, rfl, hr431, h428, hs430⟩ (Nat.lt_succ_self _)
      · have h432 := ifF hc402 h389
        refine WL.val (R.geqF (k := .i64) (a := x387) (b := 0) un2 rfl rfl hc402) rfl ?_
        refine WL.nil ?_
        refine thenN ?_
        refine WC.condF rfl rfl ?_
        refine WC.skip ?_
        refine thenN ?_
        refine WC.region ?_
        refine WL.val (R.move (v := Value.slice a352 l351.length c353) (by exact s371)) rfl ?_
        refine WL.val (R.loadA (cs := encH Hd.none) (n := 56) ag60 rfl (hs386.at (i := 1) (off := 0) (n := 56) (cs := encH Hd.none) rfl rfl rfl) rfl) rfl ?_
        have hd438 : ∀ w : World, (Instr.buildSlice 28 1 #[(0, Value.agg (List.toArray (encH Hd.none)))]).run Try.prog w = .ok (.slice (some ⟨w.heap.size, 0, none⟩) 1 1) { w with heap := w.heap.push (.cells (List.toArray (encH Hd.none)) 60) } := fun _ => by kernel_rfl
        refine WL.new (L' := fun b433 => [gsl 60 heldE (Value.slice a352 l351.length c353) l351, blk b376 60 (encH Hd.none), blk b433 60 (encH Hd.none)]) (f := fun b433 => Value.slice (some ⟨b433, 0, none⟩) 1 1) (X.buildSlice (c := (encH Hd.none)) (vs := [(0, Value.agg (List.toArray (encH Hd.none)))]) (hs386.here) rfl hd438 (fun _ => rfl)) rfl ?_
        intro b433 w434 ht440 he436 hz437
        have hs441 := hs386.trans ht440
        obtain ⟨hg442, h443⟩ := ckE (c := l351.length < 1000000) h432
        refine WL.grow (L' := fun v444 => [gsl 60 heldE v444 (l351 ++ [Hd.none]), blk b376 60 (encH Hd.none), blk b433 60 (encH Hd.none)]) (X.append (i := 0) (e := heldE) (xs := l351) (ys := [Hd.none]) (ad := ⟨b433, 0, none⟩) (m := 1) (c := 1) (hs441.here) sl28 rfl rfl rfl rfl ((hs441.here).at (i := 2) (off := 0) (n := 56) (cs := flat heldE [Hd.none]) rfl rfl rfl) rfl rfl (room (n := 1) hg442 rfl (by decide)) (room63 (n := 1) hg442 rfl (by decide)) (fun _ => rfl)) rfl ?_
        intro v444 w445 ht446
        obtain ⟨a447, c448, hv449⟩ := gsl_sl (ht446.get (i := 0) rfl)
        subst hv449
        have hs450 := hs441.trans ht446
        refine WL.val (R.assign (v := Value.slice a447 ((l351 ++ [Hd.none]).length) c448) rfl) rfl ?_
        refine WL.nil ?_
        refine blockN ?_
        refine thenN ?_
        refine WC.region ?_
        refine WL.val (R.move (v := Value.int .i64 i350) (by exact s372)) rfl ?_
        obtain ⟨hg451, h452⟩ := ckE (c := -9223372036854775808 ≤ i350 + 1 ∧ i350 + 1 ≤ 9223372036854775807) h443
        refine WL.val (R.add (a := i350) (b := 1) (z := i350 + 1) rfl rfl (w64e rfl hg451.1 hg451.2)) rfl ?_
        refine WL.val (R.assign (v := Value.int .i64 (i350 + 1)) rfl) rfl ?_
        refine WL.nil ?_
        have ht453 := (hs450.here).perm (L' := [gsl 60 heldE (Value.slice a447 ((l351 ++ [Hd.none]).length) c448) (l351 ++ [Hd.none])]) (G := [blk b376 60 (encH Hd.none), blk b433 60 (encH Hd.none)]) ((List.Perm.refl _))
        have hs454 := hs450.trans ht453
        have hr455 := elT ((ht440.trans ht446).trans ht453) hr394
        exact roundEnd (s := k363) ⟨i350 + 1, l351 ++ [Hd.none], a447, c448, s370, rfl, rfl, hr455, h452, hs454⟩ (Nat.lt_succ_self _)
    · have h456 := ifF hc373 h369
      refine WL.val (R.lssF (k := .i64) (a := i350) (b := ((p0.length : Nat) : Int)) un3 rfl rfl hc373) rfl ?_
      refine WL.nil ?_
      refine thenN ?_
      refine WC.condF rfl rfl ?_
      refine WC.exit ?_
      refine thenE ?_
      refine thenE ?_
      refine blockHit ?_
      exact joinI ⟨l351, a352, c353, s371, h456, hs362⟩
  · rintro σ367 w366 ⟨l354, a355, c356, s458, h457, hs368⟩
    subst hK358
    refine thenN ?_
    refine WC.seq ?_
    refine WC.region ?_
    refine WL.val (R.move (v := Value.slice a355 l354.length c356) (by exact s458)) rfl ?_
    refine WL.val (R.assign (v := Value.slice a355 l354.length c356) rfl) rfl ?_
    refine WL.nil ?_
    refine thenN ?_
    refine WC.ret ?_
    obtain ⟨a459, c460, hv461, hl462, he463⟩ := el_freeze (k := heldW) (ok := ok) hs368 (List.Perm.refl _) rfl (fun _ _ _ => ⟨trivial, rfl⟩)
    obtain ⟨rfl, rfl⟩ : a355 = a459 ∧ c356 = c460 := ⟨(Value.slice.inj hv461).1, (Value.slice.inj hv461).2.2⟩
    have ht464 := (hs368.here).perm (L' := []) (G := [gsl 60 heldE (Value.slice a355 l354.length c356) l354]) ((List.Perm.refl _))
    have hs465 := hs368.trans ht464
    obtain rfl := Option.some.inj (show some l354 = some r from h457)
    exact ret1 (P := Try.prog) (n := 29) (fn := Try.f134) (R := fun v w' => ∃ ra0, ∃ rc0, v = Value.slice ra0 l354.length rc0 ∧ l354.length ≤ rc0 ∧ elems heldW w' (In ok w [] []) ra0 l354 ∧ St [] w w' []) (t := 2) (v := Value.slice a355 l354.length c356) rfl rfl rfl ⟨a355, c356, rfl, hl462, he463, hs465⟩

theorem lives16_ok (w : World) (ok : Nat → Prop)  {r : Bool} (h : lives16  = some r) :
    Ret Try.prog 95 [] w (fun v w' => v = Value.bool r ∧ St [] w w' []) := by
  rw [lives16] at h
  have hs100 : St [] w w [] := St.start w
  refine enter (n := 70) Try.func95 rfl rfl rfl ?_
  refine WC.seq ?_
  refine WC.region ?_
  refine WL.val (R.assign (v := Value.bool false) rfl) rfl ?_
  refine WL.nil ?_
  refine thenN ?_
  refine WC.seq ?_
  refine WC.region ?_
  obtain ⟨y101, hx102, h103⟩ := ob (o := anew16 4) h
  refine WL.call (anew16_ok _ (In ok w [] []) 4  hx102) (R.call (vs := [Value.int .i64 4]) (caps := []) bo97 rfl rfl) rfl ?_
  rintro v109 w110 ⟨rp106, rL107, rfl, ho108, ht104⟩
  rcases ocE h103 with ⟨ho113, h111⟩ | ⟨q112, ho113, h111⟩
  · rw [ho113] at ho108
    obtain ⟨rfl, rfl⟩ := ho108
    have ht105 := hs100.call (N := []) (M := []) (List.Perm.refl _) ht104
    have hs114 := hs100.trans ht105
    refine WL.val (R.move (v := Value.tuple #[Value.pointer none, Value.int .i64 y101.2]) rfl) rfl ?_
    refine WL.val (R.extract (v := Value.pointer none) rfl rfl) rfl ?_
    refine WL.val (R.extract (v := Value.int .i64 y101.2) rfl rfl) rfl ?_
    refine WL.val (R.assign (v := Value.pointer none) rfl) rfl ?_
    refine WL.val (R.assign (v := Value.int .i64 y101.2) rfl) rfl ?_
    refine WL.nil ?_
    refine thenN ?_
    refine WC.seq ?_
    refine WC.seq ?_
    refine WC.region ?_
    refine WL.val (R.move (v := Value.int .i64 y101.2) rfl) rfl ?_
    by_cases hc115 : y101.2 = 0
    · have h116 := ifT hc115 h111
      refine WL.val (R.neqF (k := .i64) (a := y101.2) (b := 0) un66 rfl rfl (not_not_intro hc115)) rfl ?_
      refine WL.val (R.move (v := Value.bool false) rfl) rfl ?_
      refine WL.guardY (e := 15) rfl rfl rfl ?_
      have hd122 : ∀ w : World, (Instr.buildSlice 196 4 #[(0, Value.int .i64 5), (1, Value.int .i64 9), (2, Value.int .i64 7), (3, Value.int .i64 3)]).run Try.prog w = .ok (.slice (some ⟨w.heap.size, 0, none⟩) 4 4) { w with heap := w.heap.push (.cells (List.toArray [Value.int .i64 5, Value.int .i64 9, Value.int .i64 7, Value.int .i64 3]) 2) } := fun _ => by kernel_rfl
      refine WL.new (L' := fun b117 => [blk b117 2 [Value.int .i64 5, Value.int .i64 9, Value.int .i64 7, Value.int .i64 3]]) (f := fun b117 => Value.slice (some ⟨b117, 0, none⟩) 4 4) (X.buildSlice (c := [Value.int .i64 5, Value.int .i64 9, Value.int .i64 7, Value.int .i64 3]) (vs := [(0, Value.int .i64 5), (1, Value.int .i64 9), (2, Value.int .i64 7), (3, Value.int .i64 3)]) (hs114.here) rfl hd122 (fun _ => rfl)) rfl ?_
      intro b117 w118 ht124 he120 hz121
      have hs125 := hs114.trans ht124
      refine WL.guardY (e := 15) rfl rfl rfl ?_
      have ht126 : St [blk b117 2 [Value.int .i64 5, Value.int .i64 9, Value.int .i64 7, Value.int .i64 3]] w118 w118 [gsl 2 i64E (Value.slice (some ⟨b117, 0, none⟩) (([5, 9, 7, 3]).length) 4) [5, 9, 7, 3]] := (hs125.here).conv (i := 0) rfl (arr_gsl (E := 2) (e := i64E) (xs := [5, 9, 7, 3]) (hs125.heap (i := 0) rfl) (by decide)) (fun b hb => (Option.some.inj hb).symm) rfl
      have hs127 := hs125.trans ht126
      obtain ⟨a128, c129, hv130, hl131, he132⟩ := el_freeze (k := (intW .i64)) (ok := ok) hs127 (List.Perm.refl _) rfl (fun _ _ _ => ⟨trivial, rfl⟩)
      obtain ⟨rfl, rfl⟩ : (some ⟨b117, 0, none⟩) = a128 ∧ 4 = c129 := ⟨(Value.slice.inj hv130).1, (Value.slice.inj hv130).2.2⟩
      have ht133 := (hs127.here).perm (L' := []) (G := [gsl 2 i64E (Value.slice (some ⟨b117, 0, none⟩) (([5, 9, 7, 3]).length) 4) [5, 9, 7, 3]]) ((List.Perm.refl _))
      have hs134 := hs127.trans ht133
      obtain ⟨y136, hx137, h138⟩ := ob (o := vec16 [5, 9, 7, 3]) h116
      refine WL.call (vec16_ok _ _ [5, 9, 7, 3] _ _ he132 hl131 hx137) (R.call (vs := [Value.slice (some ⟨b117, 0, none⟩) 4 4]) (caps := []) bo134 rfl rfl) rfl ?_
      rintro v145 w146 ⟨a141, c142, rfl, hl143, he144, ht139⟩
      have ht140 := hs134.call (N := []) (M := []) (List.Perm.refl _) ht139
      have he147 := elC hs134 (M := []) (List.Perm.refl _) ht139 he144
      have hs148 := hs134.trans ht140
      refine WL.guardY (e := 15) rfl rfl rfl ?_
      obtain ⟨y150, hx151, h152⟩ := ob (o := common16 4 y136) h138
      refine WL.call (common16_ok _ _ 4 y136 _ _ he147 hl143 hx151) (R.call (vs := [Value.int .i64 4, Value.slice a141 y136.length c142]) (caps := []) bo94 rfl rfl) rfl ?_
      rintro v155 w156 ⟨rfl, ht153⟩
      have ht154 := hs148.call (N := []) (M := []) (List.Perm.refl _) ht153
      have hs157 := hs148.trans ht154
      refine WL.guardY (e := 15) rfl rfl rfl ?_
      by_cases hc158 : y150 = 5
      · have h159 := ifT hc158 h152
        refine WL.val (R.neqF (k := .i64) (a := y150) (b := 5) un2 rfl rfl (not_not_intro hc158)) rfl ?_
        refine WL.val (R.pickF (v := Value.bool false) rfl rfl) rfl ?_
        refine WL.val (R.move (v := Value.bool false) rfl) rfl ?_
        refine WL.guardY (e := 21) rfl rfl rfl ?_
        have hd165 : ∀ w : World, (Instr.buildSlice 196 4 #[(0, Value.int .i64 5), (1, Value.int .i64 9), (2, Value.int .i64 7), (3, Value.int .i64 (-1))]).run Try.prog w = .ok (.slice (some ⟨w.heap.size, 0, none⟩) 4 4) { w with heap := w.heap.push (.cells (List.toArray [Value.int .i64 5, Value.int .i64 9, Value.int .i64 7, Value.int .i64 (-1)]) 2) } := fun _ => by kernel_rfl
        refine WL.new (L' := fun b160 => [blk b160 2 [Value.int .i64 5, Value.int .i64 9, Value.int .i64 7, Value.int .i64 (-1)]]) (f := fun b160 => Value.slice (some ⟨b160, 0, none⟩) 4 4) (X.buildSlice (c := [Value.int .i64 5, Value.int .i64 9, Value.int .i64 7, Value.int .i64 (-1)]) (vs := [(0, Value.int .i64 5), (1, Value.int .i64 9), (2, Value.int .i64 7), (3, Value.int .i64 (-1))]) (hs157.here) rfl hd165 (fun _ => rfl)) rfl ?_
        intro b160 w161 ht167 he163 hz164
        have hs168 := hs157.trans ht167
        refine WL.guardY (e := 21) rfl rfl rfl ?_
        have ht169 : St [blk b160 2 [Value.int .i64 5, Value.int .i64 9, Value.int .i64 7, Value.int .i64 (-1)]] w161 w161 [gsl 2 i64E (Value.slice (some ⟨b160, 0, none⟩) (([5, 9, 7, -1]).length) 4) [5, 9, 7, -1]] := (hs168.here).conv (i := 0) rfl (arr_gsl (E := 2) (e := i64E) (xs := [5, 9, 7, -1]) (hs168.heap (i := 0) rfl) (by decide)) (fun b hb => (Option.some.inj hb).symm) rfl
        have hs170 := hs168.trans ht169
        obtain ⟨a171, c172, hv173, hl174, he175⟩ := el_freeze (k := (intW .i64)) (ok := ok) hs170 (List.Perm.refl _) rfl (fun _ _ _ => ⟨trivial, rfl⟩)
        obtain ⟨rfl, rfl⟩ : (some ⟨b160, 0, none⟩) = a171 ∧ 4 = c172 := ⟨(Value.slice.inj hv173).1, (Value.slice.inj hv173).2.2⟩
        have ht176 := (hs170.here).perm (L' := []) (G := [gsl 2 i64E (Value.slice (some ⟨b160, 0, none⟩) (([5, 9, 7, -1]).length) 4) [5, 9, 7, -1]]) ((List.Perm.refl _))
        have hs177 := hs170.trans ht176
        obtain ⟨y179, hx180, h181⟩ := ob (o := vec16 [5, 9, 7, -1]) h159
        refine WL.call (vec16_ok _ _ [5, 9, 7, -1] _ _ he175 hl174 hx180) (R.call (vs := [Value.slice (some ⟨b160, 0, none⟩) 4 4]) (caps := []) bo134 rfl rfl) rfl ?_
        rintro v188 w189 ⟨a184, c185, rfl, hl186, he187, ht182⟩
        have ht183 := hs177.call (N := []) (M := []) (List.Perm.refl _) ht182
        have he190 := elC hs177 (M := []) (List.Perm.refl _) ht182 he187
        have hs191 := hs177.trans ht183
        refine WL.guardY (e := 21) rfl rfl rfl ?_
        obtain ⟨y193, hx194, h195⟩ := ob (o := common16 4 y179) h181
        refine WL.call (common16_ok _ _ 4 y179 _ _ he190 hl186 hx194) (R.call (vs := [Value.int .i64 4, Value.slice a184 y179.length c185]) (caps := []) bo94 rfl rfl) rfl ?_
        rintro v198 w199 ⟨rfl, ht196⟩
        have ht197 := hs191.call (N := []) (M := []) (List.Perm.refl _) ht196
        have hs200 := hs191.trans ht197
        refine WL.guardY (e := 21) rfl rfl rfl ?_
        by_cases hc201 : y193 = 7
        · have h202 := ifT hc201 h195
          refine WL.val (R.neqF (k := .i64) (a := y193) (b := 7) un2 rfl rfl (not_not_intro hc201)) rfl ?_
          refine WL.val (R.pickF (v := Value.bool false) rfl rfl) rfl ?_
          refine WL.val (R.move (v := Value.bool false) rfl) rfl ?_
          refine WL.guardY (e := 27) rfl rfl rfl ?_
          have hd208 : ∀ w : World, (Instr.buildSlice 196 2 #[(0, Value.int .i64 5), (1, Value.int .i64 9)]).run Try.prog w = .ok (.slice (some ⟨w.heap.size, 0, none⟩) 2 2) { w with heap := w.heap.push (.cells (List.toArray [Value.int .i64 5, Value.int .i64 9]) 2) } := fun _ => by kernel_rfl
          refine WL.new (L' := fun b203 => [blk b203 2 [Value.int .i64 5, Value.int .i64 9]]) (f := fun b203 => Value.slice (some ⟨b203, 0, none⟩) 2 2) (X.buildSlice (c := [Value.int .i64 5, Value.int .i64 9]) (vs := [(0, Value.int .i64 5), (1, Value.int .i64 9)]) (hs200.here) rfl hd208 (fun _ => rfl)) rfl ?_
          intro b203 w204 ht210 he206 hz207
          have hs211 := hs200.trans ht210
          refine WL.guardY (e := 27) rfl rfl rfl ?_
          have ht212 : St [blk b203 2 [Value.int .i64 5, Value.int .i64 9]] w204 w204 [gsl 2 i64E (Value.slice (some ⟨b203, 0, none⟩) (([5, 9]).length) 2) [5, 9]] := (hs211.here).conv (i := 0) rfl (arr_gsl (E := 2) (e := i64E) (xs := [5, 9]) (hs211.heap (i := 0) rfl) (by decide)) (fun b hb => (Option.some.inj hb).symm) rfl
          have hs213 := hs211.trans ht212
          obtain ⟨a214, c215, hv216, hl217, he218⟩ := el_freeze (k := (intW .i64)) (ok := ok) hs213 (List.Perm.refl _) rfl (fun _ _ _ => ⟨trivial, rfl⟩)
          obtain ⟨rfl, rfl⟩ : (some ⟨b203, 0, none⟩) = a214 ∧ 2 = c215 := ⟨(Value.slice.inj hv216).1, (Value.slice.inj hv216).2.2⟩
          have ht219 := (hs213.here).perm (L' := []) (G := [gsl 2 i64E (Value.slice (some ⟨b203, 0, none⟩) (([5, 9]).length) 2) [5, 9]]) ((List.Perm.refl _))
          have hs220 := hs213.trans ht219
          obtain ⟨y222, hx223, h224⟩ := ob (o := vec16 [5, 9]) h202
          refine WL.call (vec16_ok _ _ [5, 9] _ _ he218 hl217 hx223) (R.call (vs := [Value.slice (some ⟨b203, 0, none⟩) 2 2]) (caps := []) bo134 rfl rfl) rfl ?_
          rintro v231 w232 ⟨a227, c228, rfl, hl229, he230, ht225⟩
          have ht226 := hs220.call (N := []) (M := []) (List.Perm.refl _) ht225
          have he233 := elC hs220 (M := []) (List.Perm.refl _) ht225 he230
          have hs234 := hs220.trans ht226
          refine WL.guardY (e := 27) rfl rfl rfl ?_
          obtain ⟨y236, hx237, h238⟩ := ob (o := common16 4 y222) h224
          refine WL.call (common16_ok _ _ 4 y222 _ _ he233 hl229 hx237) (R.call (vs := [Value.int .i64 4, Value.slice a227 y222.length c228]) (caps := []) bo94 rfl rfl) rfl ?_
          rintro v241 w242 ⟨rfl, ht239⟩
          have ht240 := hs234.call (N := []) (M := []) (List.Perm.refl _) ht239
          have hs243 := hs234.trans ht240
          refine WL.guardY (e := 27) rfl rfl rfl ?_
          by_cases hc244 : y236 = (-1)
          · have h245 := ifT hc244 h238
            refine WL.val (R.neqF (k := .i64) (a := y236) (b := -1) un2 rfl rfl (not_not_intro hc244)) rfl ?_
            refine WL.val (R.pickF (v := Value.bool false) rfl rfl) rfl ?_
            refine WL.nil ?_
            refine thenN ?_
            refine WC.condF rfl rfl ?_
            refine WC.skip ?_
            refine thenN ?_
            refine WC.seq ?_
            refine WC.region ?_
            refine WL.val (R.move (v := Value.pointer none) rfl) rfl ?_
            obtain ⟨y246, hx247, h248⟩ := ob (o := astepN16 (-1) 3) h245
            refine WL.call (astepN16_ok _ (In ok w [] []) (-1) 3  hx247) (R.call (vs := [Value.pointer none, Value.int .i64 (-1), Value.int .i64 3]) (caps := []) bo99 rfl rfl) rfl ?_
            rintro v251 w252 ⟨rfl, ht249⟩
            have ht250 := hs243.call (N := []) (M := []) (List.Perm.refl _) ht249
            have hs253 := hs243.trans ht250
            refine WL.val (R.move (v := Value.tuple #[Value.int .i64 y246.1, Value.int .i64 y246.2]) rfl) rfl ?_
            refine WL.val (R.extract (v := Value.int .i64 y246.1) rfl rfl) rfl ?_
            refine WL.val (R.extract (v := Value.int .i64 y246.2) rfl rfl) rfl ?_
            refine WL.val (R.assign (v := Value.int .i64 y246.1) rfl) rfl ?_
            refine WL.val (R.assign (v := Value.int .i64 y246.2) rfl) rfl ?_
            refine WL.nil ?_
            refine thenN ?_
            refine WC.seq ?_
            refine WC.region ?_
            refine WL.val (R.move (v := Value.pointer none) rfl) rfl ?_
            obtain ⟨y254, hx255, h256⟩ := ob (o := astepN16 2 4) h248
            refine WL.call (astepN16_ok _ (In ok w [] []) 2 4  hx255) (R.call (vs := [Value.pointer none, Value.int .i64 2, Value.int .i64 4]) (caps := []) bo99 rfl rfl) rfl ?_
            rintro v259 w260 ⟨rfl, ht257⟩
            have ht258 := hs253.call (N := []) (M := []) (List.Perm.refl _) ht257
            have hs261 := hs253.trans ht258
            refine WL.val (R.move (v := Value.tuple #[Value.int .i64 y254.1, Value.int .i64 y254.2]) rfl) rfl ?_
            refine WL.val (R.extract (v := Value.int .i64 y254.1) rfl rfl) rfl ?_
            refine WL.val (R.extract (v := Value.int .i64 y254.2) rfl rfl) rfl ?_
            refine WL.val (R.assign (v := Value.int .i64 y254.1) rfl) rfl ?_
            refine WL.val (R.assign (v := Value.int .i64 y254.2) rfl) rfl ?_
            refine WL.nil ?_
            refine thenN ?_
            refine WC.seq ?_
            refine WC.region ?_
            refine WL.val (R.move (v := Value.pointer none) rfl) rfl ?_
            obtain ⟨y262, hx263, h264⟩ := ob (o := astepN16 (-1) 5) h256
            refine WL.call (astepN16_ok _ (In ok w [] []) (-1) 5  hx263) (R.call (vs := [Value.pointer none, Value.int .i64 (-1), Value.int .i64 5]) (caps := []) bo99 rfl rfl) rfl ?_
            rintro v267 w268 ⟨rfl, ht265⟩
            have ht266 := hs261.call (N := []) (M := []) (List.Perm.refl _) ht265
            have hs269 := hs261.trans ht266
            refine WL.val (R.move (v := Value.tuple #[Value.int .i64 y262.1, Value.int .i64 y262.2]) rfl) rfl ?_
            refine WL.val (R.extract (v := Value.int .i64 y262.1) rfl rfl) rfl ?_
            refine WL.val (R.extract (v := Value.int .i64 y262.2) rfl rfl) rfl ?_
            refine WL.val (R.assign (v := Value.int .i64 y262.1) rfl) rfl ?_
            refine WL.val (R.assign (v := Value.int .i64 y262.2) rfl) rfl ?_
            refine WL.nil ?_
            refine thenN ?_
            refine WC.seq ?_
            refine WC.region ?_
            refine WL.val (R.move (v := Value.int .i64 y246.1) rfl) rfl ?_
            by_cases hc270 : y246.1 = 3
            · have h271 := ifT hc270 h264
              refine WL.val (R.eqlT (k := .i64) (a := y246.1) (b := 3) un2 rfl rfl hc270) rfl ?_
              refine WL.val (R.move (v := Value.bool true) rfl) rfl ?_
              refine WL.guardY (e := 50) rfl rfl rfl ?_
              refine WL.val (R.move (v := Value.int .i64 y246.2) rfl) rfl ?_
              refine WL.guardY (e := 50) rfl rfl rfl ?_
              by_cases hc272 : y246.2 = 3
              · have h273 := ifT hc272 h271
                refine WL.val (R.eqlT (k := .i64) (a := y246.2) (b := 3) un2 rfl rfl hc272) rfl ?_
                refine WL.val (R.pickT (v := Value.bool true) rfl rfl) rfl ?_
                refine WL.val (R.move (v := Value.bool true) rfl) rfl ?_
                refine WL.guardY (e := 54) rfl rfl rfl ?_
                refine WL.val (R.move (v := Value.int .i64 y254.1) rfl) rfl ?_
                refine WL.guardY (e := 54) rfl rfl rfl ?_
                by_cases hc274 : y254.1 = 10
                · have h275 := ifT hc274 h273
                  refine WL.val (R.eqlT (k := .i64) (a := y254.1) (b := 10) un2 rfl rfl hc274) rfl ?_
                  refine WL.val (R.pickT (v := Value.bool true) rfl rfl) rfl ?_
                  refine WL.val (R.move (v := Value.bool true) rfl) rfl ?_
                  refine WL.guardY (e := 58) rfl rfl rfl ?_
                  refine WL.val (R.move (v := Value.int .i64 y254.2) rfl) rfl ?_
                  refine WL.guardY (e := 58) rfl rfl rfl ?_
                  by_cases hc276 : y254.2 = 10
                  · have h277 := ifT hc276 h275
                    refine WL.val (R.eqlT (k := .i64) (a := y254.2) (b := 10) un2 rfl rfl hc276) rfl ?_
                    refine WL.val (R.pickT (v := Value.bool true) rfl rfl) rfl ?_
                    refine WL.val (R.move (v := Value.bool true) rfl) rfl ?_
                    refine WL.guardY (e := 62) rfl rfl rfl ?_
                    refine WL.val (R.move (v := Value.int .i64 y262.1) rfl) rfl ?_
                    refine WL.guardY (e := 62) rfl rfl rfl ?_
                    by_cases hc278 : y262.1 = 5
                    · have h279 := ifT hc278 h277
                      refine WL.val (R.eqlT (k := .i64) (a := y262.1) (b := 5) un2 rfl rfl hc278) rfl ?_
                      refine WL.val (R.pickT (v := Value.bool true) rfl rfl) rfl ?_
                      refine WL.val (R.move (v := Value.bool true) rfl) rfl ?_
                      refine WL.guardY (e := 66) rfl rfl rfl ?_
                      refine WL.val (R.move (v := Value.int .i64 y262.2) rfl) rfl ?_
                      refine WL.guardY (e := 66) rfl rfl rfl ?_
                      by_cases hc280 : y262.2 = 11
                      · have h281 := ifT hc280 h279
                        refine WL.val (R.eqlT (k := .i64) (a := y262.2) (b := 11) un2 rfl rfl hc280) rfl ?_
                        refine WL.val (R.pickT (v := Value.bool true) rfl rfl) rfl ?_
                        refine WL.val (R.assign (v := Value.bool true) rfl) rfl ?_
                        refine WL.nil ?_
                        refine thenN ?_
                        refine WC.ret ?_
                        obtain rfl := Option.some.inj (show some true = some r from h281)
                        exact ret1 (P := Try.prog) (n := 70) (fn := Try.f95) (R := fun v w' => v = Value.bool true ∧ St [] w w' []) (t := 0) (v := Value.bool true) rfl rfl rfl ⟨rfl, hs269⟩
                      · have h282 := ifF hc280 h279
                        refine WL.val (R.eqlF (k := .i64) (a := y262.2) (b := 11) un2 rfl rfl hc280) rfl ?_
                        refine WL.val (R.pickT (v := Value.bool false) rfl rfl) rfl ?_
                        refine WL.val (R.assign (v := Value.bool false) rfl) rfl ?_
                        refine WL.nil ?_
                        refine thenN ?_
                        refine WC.ret ?_
                        obtain rfl := Option.some.inj (show some false = some r from h282)
                        exact ret1 (P := Try.prog) (n := 70) (fn := Try.f95) (R := fun v w' => v = Value.bool false ∧ St [] w w' []) (t := 0) (v := Value.bool false) rfl rfl rfl ⟨rfl, hs269⟩
                    · have h283 := ifF hc278 h277
                      refine WL.val (R.eqlF (k := .i64) (a := y262.1) (b := 5) un2 rfl rfl hc278) rfl ?_
                      refine WL.val (R.pickT (v := Value.bool false) rfl rfl) rfl ?_
                      refine WL.val (R.move (v := Value.bool false) rfl) rfl ?_
                      refine WL.guardN (e := 66) (v := .bool false) rfl rfl rfl rfl ?_
                      refine WL.guardN (e := 66) (v := .bool false) rfl rfl rfl rfl ?_
                      refine WL.val (R.pickF (v := Value.bool false) rfl rfl) rfl ?_
                      refine WL.val (R.assign (v := Value.bool false) rfl) rfl ?_
                      refine WL.nil ?_
                      refine thenN ?_
                      refine WC.ret ?_
                      obtain rfl := Option.some.inj (show some false = some r from h283)
                      exact ret1 (P := Try.prog) (n := 70) (fn := Try.f95) (R := fun v w' => v = Value.bool false ∧ St [] w w' []) (t := 0) (v := Value.bool false) rfl rfl rfl ⟨rfl, hs269⟩
                  · have h284 := ifF hc276 h275
                    refine WL.val (R.eqlF (k := .i64) (a := y254.2) (b := 10) un2 rfl rfl hc276) rfl ?_
                    refine WL.val (R.pickT (v := Value.bool false) rfl rfl) rfl ?_
                    refine WL.val (R.move (v := Value.bool false) rfl) rfl ?_
                    refine WL.guardN (e := 62) (v := .bool false) rfl rfl rfl rfl ?_
                    refine WL.guardN (e := 62) (v := .bool false) rfl rfl rfl rfl ?_
                    refine WL.val (R.pickF (v := Value.bool false) rfl rfl) rfl ?_
                    refine WL.val (R.move (v := Value.bool false) rfl) rfl ?_
                    refine WL.guardN (e := 66) (v := .bool false) rfl rfl rfl rfl ?_
                    refine WL.guardN (e := 66) (v := .bool false) rfl rfl rfl rfl ?_
                    refine WL.val (R.pickF (v := Value.bool false) rfl rfl) rfl ?_
                    refine WL.val (R.assign (v := Value.bool false) rfl) rfl ?_
                    refine WL.nil ?_
                    refine thenN ?_
                    refine WC.ret ?_
                    obtain rfl := Option.some.inj (show some false = some r from h284)
                    exact ret1 (P := Try.prog) (n := 70) (fn := Try.f95) (R := fun v w' => v = Value.bool false ∧ St [] w w' []) (t := 0) (v := Value.bool false) rfl rfl rfl ⟨rfl, hs269⟩
                · have h285 := ifF hc274 h273
                  refine WL.val (R.eqlF (k := .i64) (a := y254.1) (b := 10) un2 rfl rfl hc274) rfl ?_
                  refine WL.val (R.pickT (v := Value.bool false) rfl rfl) rfl ?_
                  refine WL.val (R.move (v := Value.bool false) rfl) rfl ?_
                  refine WL.guardN (e := 58) (v := .bool false) rfl rfl rfl rfl ?_
                  refine WL.guardN (e := 58) (v := .bool false) rfl rfl rfl rfl ?_
                  refine WL.val (R.pickF (v := Value.bool false) rfl rfl) rfl ?_
                  refine WL.val (R.move (v := Value.bool false) rfl) rfl ?_
                  refine WL.guardN (e := 62) (v := .bool false) rfl rfl rfl rfl ?_
                  refine WL.guardN (e := 62) (v := .bool false) rfl rfl rfl rfl ?_
                  refine WL.val (R.pickF (v := Value.bool false) rfl rfl) rfl ?_
                  refine WL.val (R.move (v := Value.bool false) rfl) rfl ?_
                  refine WL.guardN (e := 66) (v := .bool false) rfl rfl rfl rfl ?_
                  refine WL.guardN (e := 66) (v := .bool false) rfl rfl rfl rfl ?_
                  refine WL.val (R.pickF (v := Value.bool false) rfl rfl) rfl ?_
                  refine WL.val (R.assign (v := Value.bool false) rfl) rfl ?_
                  refine WL.nil ?_
                  refine thenN ?_
                  refine WC.ret ?_
                  obtain rfl := Option.some.inj (show some false = some r from h285)
                  exact ret1 (P := Try.prog) (n := 70) (fn := Try.f95) (R := fun v w' => v = Value.bool false ∧ St [] w w' []) (t := 0) (v := Value.bool false) rfl rfl rfl ⟨rfl, hs269⟩
              · have h286 := ifF hc272 h271
                refine WL.val (R.eqlF (k := .i64) (a := y246.2) (b := 3) un2 rfl rfl hc272) rfl ?_
                refine WL.val (R.pickT (v := Value.bool false) rfl rfl) rfl ?_
                refine WL.val (R.move (v := Value.bool false) rfl) rfl ?_
                refine WL.guardN (e := 54) (v := .bool false) rfl rfl rfl rfl ?_
                refine WL.guardN (e := 54) (v := .bool false) rfl rfl rfl rfl ?_
                refine WL.val (R.pickF (v := Value.bool false) rfl rfl) rfl ?_
                refine WL.val (R.move (v := Value.bool false) rfl) rfl ?_
                refine WL.guardN (e := 58) (v := .bool false) rfl rfl rfl rfl ?_
                refine WL.guardN (e := 58) (v := .bool false) rfl rfl rfl rfl ?_
                refine WL.val (R.pickF (v := Value.bool false) rfl rfl) rfl ?_
                refine WL.val (R.move (v := Value.bool false) rfl) rfl ?_
                refine WL.guardN (e := 62) (v := .bool false) rfl rfl rfl rfl ?_
                refine WL.guardN (e := 62) (v := .bool false) rfl rfl rfl rfl ?_
                refine WL.val (R.pickF (v := Value.bool false) rfl rfl) rfl ?_
                refine WL.val (R.move (v := Value.bool false) rfl) rfl ?_
                refine WL.guardN (e := 66) (v := .bool false) rfl rfl rfl rfl ?_
                refine WL.guardN (e := 66) (v := .bool false) rfl rfl rfl rfl ?_
                refine WL.val (R.pickF (v := Value.bool false) rfl rfl) rfl ?_
                refine WL.val (R.assign (v := Value.bool false) rfl) rfl ?_
                refine WL.nil ?_
                refine thenN ?_
                refine WC.ret ?_
                obtain rfl := Option.some.inj (show some false = some r from h286)
                exact ret1 (P := Try.prog) (n := 70) (fn := Try.f95) (R := fun v w' => v = Value.bool false ∧ St [] w w' []) (t := 0) (v := Value.bool false) rfl rfl rfl ⟨rfl, hs269⟩
            · have h287 := ifF hc270 h264
              refine WL.val (R.eqlF (k := .i64) (a := y246.1) (b := 3) un2 rfl rfl hc270) rfl ?_
              refine WL.val (R.move (v := Value.bool false) rfl) rfl ?_
              refine WL.guardN (e := 50) (v := .bool false) rfl rfl rfl rfl ?_
              refine WL.guardN (e := 50) (v := .bool false) rfl rfl rfl rfl ?_
              refine WL.val (R.pickF (v := Value.bool false) rfl rfl) rfl ?_
              refine WL.val (R.move (v := Value.bool false) rfl) rfl ?_
              refine WL.guardN (e := 54) (v := .bool false) rfl rfl rfl rfl ?_
              refine WL.guardN (e := 54) (v := .bool false) rfl rfl rfl rfl ?_
              refine WL.val (R.pickF (v := Value.bool false) rfl rfl) rfl ?_
              refine WL.val (R.move (v := Value.bool false) rfl) rfl ?_
              refine WL.guardN (e := 58) (v := .bool false) rfl rfl rfl rfl ?_
              refine WL.guardN (e := 58) (v := .bool false) rfl rfl rfl rfl ?_
              refine WL.val (R.pickF (v := Value.bool false) rfl rfl) rfl ?_
              refine WL.val (R.move (v := Value.bool false) rfl) rfl ?_
              refine WL.guardN (e := 62) (v := .bool false) rfl rfl rfl rfl ?_
              refine WL.guardN (e := 62) (v := .bool false) rfl rfl rfl rfl ?_
              refine WL.val (R.pickF (v := Value.bool false) rfl rfl) rfl ?_
              refine WL.val (R.move (v := Value.bool false) rfl) rfl ?_
              refine WL.guardN (e := 66) (v := .bool false) rfl rfl rfl rfl ?_
              refine WL.guardN (e := 66) (v := .bool false) rfl rfl rfl rfl ?_
              refine WL.val (R.pickF (v := Value.bool false) rfl rfl) rfl ?_
              refine WL.val (R.assign (v := Value.bool false) rfl) rfl ?_
              refine WL.nil ?_
              refine thenN ?_
              refine WC.ret ?_
              obtain rfl := Option.some.inj (show some false = some r from h287)
              exact ret1 (P := Try.prog) (n := 70) (fn := Try.f95) (R := fun v w' => v = Value.bool false ∧ St [] w w' []) (t := 0) (v := Value.bool false) rfl rfl rfl ⟨rfl, hs269⟩
          · have h288 := ifF hc244 h238
            refine WL.val (R.neqT (k := .i64) (a := y236) (b := -1) un2 rfl rfl hc244) rfl ?_
            refine WL.val (R.pickF (v := Value.bool true) rfl rfl) rfl ?_
            refine WL.nil ?_
            refine thenN ?_
            refine WC.condT rfl rfl ?_
            refine WC.seq ?_
            refine WC.region ?_
            refine WL.val (R.assign (v := Value.bool false) rfl) rfl ?_
            refine WL.nil ?_
            refine thenN ?_
            refine WC.ret ?_
            obtain rfl := Option.some.inj (show some false = some r from h288)
            exact ret1 (P := Try.prog) (n := 70) (fn := Try.f95) (R := fun v w' => v = Value.bool false ∧ St [] w w' []) (t := 0) (v := Value.bool false) rfl rfl rfl ⟨rfl, hs243⟩
        · have h289 := ifF hc201 h195
          refine WL.val (R.neqT (k := .i64) (a := y193) (b := 7) un2 rfl rfl hc201) rfl ?_
          refine WL.val (R.pickF (v := Value.bool true) rfl rfl) rfl ?_
          refine WL.val (R.move (v := Value.bool true) rfl) rfl ?_
          refine WL.guardN (e := 27) (v := .bool true) rfl rfl rfl rfl ?_
          refine WL.guardN (e := 27) (v := .bool true) rfl rfl rfl rfl ?_
          refine WL.guardN (e := 27) (v := .bool true) rfl rfl rfl rfl ?_
          refine WL.guardN (e := 27) (v := .bool true) rfl rfl rfl rfl ?_
          refine WL.val (R.pickT (v := Value.bool true) rfl rfl) rfl ?_
          refine WL.nil ?_
          refine thenN ?_
          refine WC.condT rfl rfl ?_
          refine WC.seq ?_
          refine WC.region ?_
          refine WL.val (R.assign (v := Value.bool false) rfl) rfl ?_
          refine WL.nil ?_
          refine thenN ?_
          refine WC.ret ?_
          obtain rfl := Option.some.inj (show some false = some r from h289)
          exact ret1 (P := Try.prog) (n := 70) (fn := Try.f95) (R := fun v w' => v = Value.bool false ∧ St [] w w' []) (t := 0) (v := Value.bool false) rfl rfl rfl ⟨rfl, hs200⟩
      · have h290 := ifF hc158 h152
        refine WL.val (R.neqT (k := .i64) (a := y150) (b := 5) un2 rfl rfl hc158) rfl ?_
        refine WL.val (R.pickF (v := Value.bool true) rfl rfl) rfl ?_
        refine WL.val (R.move (v := Value.bool true) rfl) rfl ?_
        refine WL.guardN (e := 21) (v := .bool true) rfl rfl rfl rfl ?_
        refine WL.guardN (e := 21) (v := .bool true) rfl rfl rfl rfl ?_
        refine WL.guardN (e := 21) (v := .bool true) rfl rfl rfl rfl ?_
        refine WL.guardN (e := 21) (v := .bool true) rfl rfl rfl rfl ?_
        refine WL.val (R.pickT (v := Value.bool true) rfl rfl) rfl ?_
        refine WL.val (R.move (v := Value.bool true) rfl) rfl ?_
        refine WL.guardN (e := 27) (v := .bool true) rfl rfl rfl rfl ?_
        refine WL.guardN (e := 27) (v := .bool true) rfl rfl rfl rfl ?_
        refine WL.guardN (e := 27) (v := .bool true) rfl rfl rfl rfl ?_
        refine WL.guardN (e := 27) (v := .bool true) rfl rfl rfl rfl ?_
        refine WL.val (R.pickT (v := Value.bool true) rfl rfl) rfl ?_
        refine WL.nil ?_
        refine thenN ?_
        refine WC.condT rfl rfl ?_
        refine WC.seq ?_
        refine WC.region ?_
        refine WL.val (R.assign (v := Value.bool false) rfl) rfl ?_
        refine WL.nil ?_
        refine thenN ?_
        refine WC.ret ?_
        obtain rfl := Option.some.inj (show some false = some r from h290)
        exact ret1 (P := Try.prog) (n := 70) (fn := Try.f95) (R := fun v w' => v = Value.bool false ∧ St [] w w' []) (t := 0) (v := Value.bool false) rfl rfl rfl ⟨rfl, hs157⟩
    · have h291 := ifF hc115 h111
      refine WL.val (R.neqT (k := .i64) (a := y101.2) (b := 0) un66 rfl rfl hc115) rfl ?_
      refine WL.val (R.move (v := Value.bool true) rfl) rfl ?_
      refine WL.guardN (e := 15) (v := .bool true) rfl rfl rfl rfl ?_
      refine WL.guardN (e := 15) (v := .bool true) rfl rfl rfl rfl ?_
      refine WL.guardN (e := 15) (v := .bool true) rfl rfl rfl rfl ?_
      refine WL.guardN (e := 15) (v := .bool true) rfl rfl rfl rfl ?_
      refine WL.val (R.pickT (v := Value.bool true) rfl rfl) rfl ?_
      refine WL.val (R.move (v := Value.bool true) rfl) rfl ?_
      refine WL.guardN (e := 21) (v := .bool true) rfl rfl rfl rfl ?_
      refine WL.guardN (e := 21) (v := .bool true) rfl rfl rfl rfl ?_
      refine WL.guardN (e := 21) (v := .bool true) rfl rfl rfl rfl ?_
      refine WL.guardN (e := 21) (v := .bool true) rfl rfl rfl rfl ?_
      refine WL.val (R.pickT (v := Value.bool true) rfl rfl) rfl ?_
      refine WL.val (R.move (v := Value.bool true) rfl) rfl ?_
      refine WL.guardN (e := 27) (v := .bool true) rfl rfl rfl rfl ?_
      refine WL.guardN (e := 27) (v := .bool true) rfl rfl rfl rfl ?_
      refine WL.guardN (e := 27) (v := .bool true) rfl rfl rfl rfl ?_
      refine WL.guardN (e := 27) (v := .bool true) rfl rfl rfl rfl ?_
      refine WL.val (R.pickT (v := Value.bool true) rfl rfl) rfl ?_
      refine WL.nil ?_
      refine thenN ?_
      refine WC.condT rfl rfl ?_
      refine WC.seq ?_
      refine WC.region ?_
      refine WL.val (R.assign (v := Value.bool false) rfl) rfl ?_
      refine WL.nil ?_
      refine thenN ?_
      refine WC.ret ?_
      obtain rfl := Option.some.inj (show some false = some r from h291)
      exact ret1 (P := Try.prog) (n := 70) (fn := Try.f95) (R := fun v w' => v = Value.bool false ∧ St [] w w' []) (t := 0) (v := Value.bool false) rfl rfl rfl ⟨rfl, hs114⟩
  · rw [ho113] at ho108
    obtain ⟨b292, rfl, a293, c294, rfl⟩ := ho108
    have ht105 := hs100.call (N := []) (M := []) (List.Perm.refl _) ht104
    have hs297 := hs100.trans ht105
    refine WL.val (R.move (v := Value.tuple #[Value.pointer (some ⟨b292, 0, none⟩), Value.int .i64 y101.2]) rfl) rfl ?_
    refine WL.val (R.extract (v := Value.pointer (some ⟨b292, 0, none⟩)) rfl rfl) rfl ?_
    refine WL.val (R.extract (v := Value.int .i64 y101.2) rfl rfl) rfl ?_
    refine WL.val (R.assign (v := Value.pointer (some ⟨b292, 0, none⟩)) rfl) rfl ?_
    refine WL.val (R.assign (v := Value.int .i64 y101.2) rfl) rfl ?_
    refine WL.nil ?_
    refine thenN ?_
    refine WC.seq ?_
    refine WC.seq ?_
    refine WC.region ?_
    refine WL.val (R.move (v := Value.int .i64 y101.2) rfl) rfl ?_
    by_cases hc298 : y101.2 = 0
    · have h299 := ifT hc298 h111
      refine WL.val (R.neqF (k := .i64) (a := y101.2) (b := 0) un66 rfl rfl (not_not_intro hc298)) rfl ?_
      refine WL.val (R.move (v := Value.bool false) rfl) rfl ?_
      refine WL.guardY (e := 15) rfl rfl rfl ?_
      have hd305 : ∀ w : World, (Instr.buildSlice 196 4 #[(0, Value.int .i64 5), (1, Value.int .i64 9), (2, Value.int .i64 7), (3, Value.int .i64 3)]).run Try.prog w = .ok (.slice (some ⟨w.heap.size, 0, none⟩) 4 4) { w with heap := w.heap.push (.cells (List.toArray [Value.int .i64 5, Value.int .i64 9, Value.int .i64 7, Value.int .i64 3]) 2) } := fun _ => by kernel_rfl
      refine WL.new (L' := fun b300 => [blk b292 216 [Value.int .i64 q112.1, Value.slice a293 q112.2.length c294], gslU 2 i64E (Value.slice a293 q112.2.length c294) q112.2, blk b300 2 [Value.int .i64 5, Value.int .i64 9, Value.int .i64 7, Value.int .i64 3]]) (f := fun b300 => Value.slice (some ⟨b300, 0, none⟩) 4 4) (X.buildSlice (c := [Value.int .i64 5, Value.int .i64 9, Value.int .i64 7, Value.int .i64 3]) (vs := [(0, Value.int .i64 5), (1, Value.int .i64 9), (2, Value.int .i64 7), (3, Value.int .i64 3)]) (hs297.here) rfl hd305 (fun _ => rfl)) rfl ?_
      intro b300 w301 ht307 he303 hz304
      have hs308 := hs297.trans ht307
      refine WL.guardY (e := 15) rfl rfl rfl ?_
      have ht309 : St [blk b292 216 [Value.int .i64 q112.1, Value.slice a293 q112.2.length c294], gslU 2 i64E (Value.slice a293 q112.2.length c294) q112.2, blk b300 2 [Value.int .i64 5, Value.int .i64 9, Value.int .i64 7, Value.int .i64 3]] w301 w301 [blk b292 216 [Value.int .i64 q112.1, Value.slice a293 q112.2.length c294], gslU 2 i64E (Value.slice a293 q112.2.length c294) q112.2, gsl 2 i64E (Value.slice (some ⟨b300, 0, none⟩) (([5, 9, 7, 3]).length) 4) [5, 9, 7, 3]] := (hs308.here).conv (i := 2) rfl (arr_gsl (E := 2) (e := i64E) (xs := [5, 9, 7, 3]) (hs308.heap (i := 2) rfl) (by decide)) (fun b hb => (Option.some.inj hb).symm) rfl
      have hs310 := hs308.trans ht309
      obtain ⟨a311, c312, hv313, hl314, he315⟩ := el_freeze (k := (intW .i64)) (ok := ok) hs310 ((List.perm_middle (l₁ := [blk b292 216 [Value.int .i64 q112.1, Value.slice a293 q112.2.length c294], gslU 2 i64E (Value.slice a293 q112.2.length c294) q112.2]) (a := gsl 2 i64E (Value.slice (some ⟨b300, 0, none⟩) (([5, 9, 7, 3]).length) 4) [5, 9, 7, 3]) (l₂ := [])).trans (List.Perm.cons _ (List.Perm.refl _))) rfl (fun _ _ _ => ⟨trivial, rfl⟩)
      obtain ⟨rfl, rfl⟩ : (some ⟨b300, 0, none⟩) = a311 ∧ 4 = c312 := ⟨(Value.slice.inj hv313).1, (Value.slice.inj hv313).2.2⟩
      have ht316 := (hs310.here).perm (L' := [blk b292 216 [Value.int .i64 q112.1, Value.slice a293 q112.2.length c294], gslU 2 i64E (Value.slice a293 q112.2.length c294) q112.2]) (G := [gsl 2 i64E (Value.slice (some ⟨b300, 0, none⟩) (([5, 9, 7, 3]).length) 4) [5, 9, 7, 3]]) ((List.Perm.refl _))
      have hs317 := hs310.trans ht316
      obtain ⟨y319, hx320, h321⟩ := ob (o := vec16 [5, 9, 7, 3]) h299
      refine WL.call (vec16_ok _ _ [5, 9, 7, 3] _ _ he315 hl314 hx320) (R.call (vs := [Value.slice (some ⟨b300, 0, none⟩) 4 4]) (caps := []) bo134 rfl rfl) rfl ?_
      rintro v328 w329 ⟨a324, c325, rfl, hl326, he327, ht322⟩
      have ht323 := hs317.call (N := [blk b292 216 [Value.int .i64 q112.1, Value.slice a293 q112.2.length c294], gslU 2 i64E (Value.slice a293 q112.2.length c294) q112.2]) (M := []) (List.Perm.refl _) ht322
      have he330 := elC hs317 (M := []) (List.Perm.refl _) ht322 he327
      have hs331 := hs317.trans ht323
      refine WL.guardY (e := 15) rfl rfl rfl ?_
      obtain ⟨y333, hx334, h335⟩ := ob (o := common16 4 y319) h321
      refine WL.call (common16_ok _ _ 4 y319 _ _ he330 hl326 hx334) (R.call (vs := [Value.int .i64 4, Value.slice a324 y319.length c325]) (caps := []) bo94 rfl rfl) rfl ?_
      rintro v338 w339 ⟨rfl, ht336⟩
      have ht337 := hs331.call (N := [blk b292 216 [Value.int .i64 q112.1, Value.slice a293 q112.2.length c294], gslU 2 i64E (Value.slice a293 q112.2.length c294) q112.2]) (M := []) (List.Perm.refl _) ht336
      have hs340 := hs331.trans ht337
      refine WL.guardY (e := 15) rfl rfl rfl ?_
      by_cases hc341 : y333 = 5
      · have h342 := ifT hc341 h335
        refine WL.val (R.neqF (k := .i64) (a := y333) (b := 5) un2 rfl rfl (not_not_intro hc341)) rfl ?_
        refine WL.val (R.pickF (v := Value.bool false) rfl rfl) rfl ?_
        refine WL.val (R.move (v := Value.bool false) rfl) rfl ?_
        refine WL.guardY (e := 21) rfl rfl rfl ?_
        have hd348 : ∀ w : World, (Instr.buildSlice 196 4 #[(0, Value.int .i64 5), (1, Value.int .i64 9), (2, Value.int .i64 7), (3, Value.int .i64 (-1))]).run Try.prog w = .ok (.slice (some ⟨w.heap.size, 0, none⟩) 4 4) { w with heap := w.heap.push (.cells (List.toArray [Value.int .i64 5, Value.int .i64 9, Value.int .i64 7, Value.int .i64 (-1)]) 2) } := fun _ => by kernel_rfl
        refine WL.new (L' := fun b343 => [blk b292 216 [Value.int .i64 q112.1, Value.slice a293 q112.2.length c294], gslU 2 i64E (Value.slice a293 q112.2.length c294) q112.2, blk b343 2 [Value.int .i64 5, Value.int .i64 9, Value.int .i64 7, Value.int .i64 (-1)]]) (f := fun b343 => Value.slice (some ⟨b343, 0, none⟩) 4 4) (X.buildSlice (c := [Value.int .i64 5, Value.int .i64 9, Value.int .i64 7, Value.int .i64 (-1)]) (vs := [(0, Value.int .i64 5), (1, Value.int .i64 9), (2, Value.int .i64 7), (3, Value.int .i64 (-1))]) (hs340.here) rfl hd348 (fun _ => rfl)) rfl ?_
        intro b343 w344 ht350 he346 hz347
        have hs351 := hs340.trans ht350
        refine WL.guardY (e := 21) rfl rfl rfl ?_
        have ht352 : St [blk b292 216 [Value.int .i64 q112.1, Value.slice a293 q112.2.length c294], gslU 2 i64E (Value.slice a293 q112.2.length c294) q112.2, blk b343 2 [Value.int .i64 5, Value.int .i64 9, Value.int .i64 7, Value.int .i64 (-1)]] w344 w344 [blk b292 216 [Value.int .i64 q112.1, Value.slice a293 q112.2.length c294], gslU 2 i64E (Value.slice a293 q112.2.length c294) q112.2, gsl 2 i64E (Value.slice (some ⟨b343, 0, none⟩) (([5, 9, 7, -1]).length) 4) [5, 9, 7, -1]] := (hs351.here).conv (i := 2) rfl (arr_gsl (E := 2) (e := i64E) (xs := [5, 9, 7, -1]) (hs351.heap (i := 2) rfl) (by decide)) (fun b hb => (Option.some.inj hb).symm) rfl
        have hs353 := hs351.trans ht352
        obtain ⟨a354, c355, hv356, hl357, he358⟩ := el_freeze (k := (intW .i64)) (ok := ok) hs353 ((List.perm_middle (l₁ := [blk b292 216 [Value.int .i64 q112.1, Value.slice a293 q112.2.length c294], gslU 2 i64E (Value.slice a293 q112.2.length c294) q112.2]) (a := gsl 2 i64E (Value.slice (some ⟨b343, 0, none⟩) (([5, 9, 7, -1]).length) 4) [5, 9, 7, -1]) (l₂ := [])).trans (List.Perm.cons _ (List.Perm.refl _))) rfl (fun _ _ _ => ⟨trivial, rfl⟩)
        obtain ⟨rfl, rfl⟩ : (some ⟨b343, 0, none⟩) = a354 ∧ 4 = c355 := ⟨(Value.slice.inj hv356).1, (Value.slice.inj hv356).2.2⟩
        have ht359 := (hs353.here).perm (L' := [blk b292 216 [Value.int .i64 q112.1, Value.slice a293 q112.2.length c294], gslU 2 i64E (Value.slice a293 q112.2.length c294) q112.2]) (G := [gsl 2 i64E (Value.slice (some ⟨b343, 0, none⟩) (([5, 9, 7, -1]).length) 4) [5, 9, 7, -1]]) ((List.Perm.refl _))
        have hs360 := hs353.trans ht359
        obtain ⟨y362, hx363, h364⟩ := ob (o := vec16 [5, 9, 7, -1]) h342
        refine WL.call (vec16_ok _ _ [5, 9, 7, -1] _ _ he358 hl357 hx363) (R.call (vs := [Value.slice (some ⟨b343, 0, none⟩) 4 4]) (caps := []) bo134 rfl rfl) rfl ?_
        rintro v371 w372 ⟨a367, c368, rfl, hl369, he370, ht365⟩
        have ht366 := hs360.call (N := [blk b292 216 [Value.int .i64 q112.1, Value.slice a293 q112.2.length c294], gslU 2 i64E (Value.slice a293 q112.2.length c294) q112.2]) (M := []) (List.Perm.refl _) ht365
        have he373 := elC hs360 (M := []) (List.Perm.refl _) ht365 he370
        have hs374 := hs360.trans ht366
        refine WL.guardY (e := 21) rfl rfl rfl ?_
        obtain ⟨y376, hx377, h378⟩ := ob (o := common16 4 y362) h364
        refine WL.call (common16_ok _ _ 4 y362 _ _ he373 hl369 hx377) (R.call (vs := [Value.int .i64 4, Value.slice a367 y362.length c368]) (caps := []) bo94 rfl rfl) rfl ?_
        rintro v381 w382 ⟨rfl, ht379⟩
        have ht380 := hs374.call (N := [blk b292 216 [Value.int .i64 q112.1, Value.slice a293 q112.2.length c294], gslU 2 i64E (Value.slice a293 q112.2.length c294) q112.2]) (M := []) (List.Perm.refl _) ht379
        have hs383 := hs374.trans ht380
        refine WL.guardY (e := 21) rfl rfl rfl ?_
        by_cases hc384 : y376 = 7
        · have h385 := ifT hc384 h378
          refine WL.val (R.neqF (k := .i64) (a := y376) (b := 7) un2 rfl rfl (not_not_intro hc384)) rfl ?_
          refine WL.val (R.pickF (v := Value.bool false) rfl rfl) rfl ?_
          refine WL.val (R.move (v := Value.bool false) rfl) rfl ?_
          refine WL.guardY (e := 27) rfl rfl rfl ?_
          have hd391 : ∀ w : World, (Instr.buildSlice 196 2 #[(0, Value.int .i64 5), (1, Value.int .i64 9)]).run Try.prog w = .ok (.slice (some ⟨w.heap.size, 0, none⟩) 2 2) { w with heap := w.heap.push (.cells (List.toArray [Value.int .i64 5, Value.int .i64 9]) 2) } := fun _ => by kernel_rfl
          refine WL.new (L' := fun b386 => [blk b292 216 [Value.int .i64 q112.1, Value.slice a293 q112.2.length c294], gslU 2 i64E (Value.slice a293 q112.2.length c294) q112.2, blk b386 2 [Value.int .i64 5, Value.int .i64 9]]) (f := fun b386 => Value.slice (some ⟨b386, 0, none⟩) 2 2) (X.buildSlice (c := [Value.int .i64 5, Value.int .i64 9]) (vs := [(0, Value.int .i64 5), (1, Value.int .i64 9)]) (hs383.here) rfl hd391 (fun _ => rfl)) rfl ?_
          intro b386 w387 ht393 he389 hz390
          have hs394 := hs383.trans ht393
          refine WL.guardY (e := 27) rfl rfl rfl ?_
          have ht395 : St [blk b292 216 [Value.int .i64 q112.1, Value.slice a293 q112.2.length c294], gslU 2 i64E (Value.slice a293 q112.2.length c294) q112.2, blk b386 2 [Value.int .i64 5, Value.int .i64 9]] w387 w387 [blk b292 216 [Value.int .i64 q112.1, Value.slice a293 q112.2.length c294], gslU 2 i64E (Value.slice a293 q112.2.length c294) q112.2, gsl 2 i64E (Value.slice (some ⟨b386, 0, none⟩) (([5, 9]).length) 2) [5, 9]] := (hs394.here).conv (i := 2) rfl (arr_gsl (E := 2) (e := i64E) (xs := [5, 9]) (hs394.heap (i := 2) rfl) (by decide)) (fun b hb => (Option.some.inj hb).symm) rfl
          have hs396 := hs394.trans ht395
          obtain ⟨a397, c398, hv399, hl400, he401⟩ := el_freeze (k := (intW .i64)) (ok := ok) hs396 ((List.perm_middle (l₁ := [blk b292 216 [Value.int .i64 q112.1, Value.slice a293 q112.2.length c294], gslU 2 i64E (Value.slice a293 q112.2.length c294) q112.2]) (a := gsl 2 i64E (Value.slice (some ⟨b386, 0, none⟩) (([5, 9]).length) 2) [5, 9]) (l₂ := [])).trans (List.Perm.cons _ (List.Perm.refl _))) rfl (fun _ _ _ => ⟨trivial, rfl⟩)
          obtain ⟨rfl, rfl⟩ : (some ⟨b386, 0, none⟩) = a397 ∧ 2 = c398 := ⟨(Value.slice.inj hv399).1, (Value.slice.inj hv399).2.2⟩
          have ht402 := (hs396.here).perm (L' := [blk b292 216 [Value.int .i64 q112.1, Value.slice a293 q112.2.length c294], gslU 2 i64E (Value.slice a293 q112.2.length c294) q112.2]) (G := [gsl 2 i64E (Value.slice (some ⟨b386, 0, none⟩) (([5, 9]).length) 2) [5, 9]]) ((List.Perm.refl _))
          have hs403 := hs396.trans ht402
          obtain ⟨y405, hx406, h407⟩ := ob (o := vec16 [5, 9]) h385
          refine WL.call (vec16_ok _ _ [5, 9] _ _ he401 hl400 hx406) (R.call (vs := [Value.slice (some ⟨b386, 0, none⟩) 2 2]) (caps := []) bo134 rfl rfl) rfl ?_
          rintro v414 w415 ⟨a410, c411, rfl, hl412, he413, ht408⟩
          have ht409 := hs403.call (N := [blk b292 216 [Value.int .i64 q112.1, Value.slice a293 q112.2.length c294], gslU 2 i64E (Value.slice a293 q112.2.length c294) q112.2]) (M := []) (List.Perm.refl _) ht408
          have he416 := elC hs403 (M := []) (List.Perm.refl _) ht408 he413
          have hs417 := hs403.trans ht409
          refine WL.guardY (e := 27) rfl rfl rfl ?_
          obtain ⟨y419, hx420, h421⟩ := ob (o := common16 4 y405) h407
          refine WL.call (common16_ok _ _ 4 y405 _ _ he416 hl412 hx420) (R.call (vs := [Value.int .i64 4, Value.slice a410 y405.length c411]) (caps := []) bo94 rfl rfl) rfl ?_
          rintro v424 w425 ⟨rfl, ht422⟩
          have ht423 := hs417.call (N := [blk b292 216 [Value.int .i64 q112.1, Value.slice a293 q112.2.length c294], gslU 2 i64E (Value.slice a293 q112.2.length c294) q112.2]) (M := []) (List.Perm.refl _) ht422
          have hs426 := hs417.trans ht423
          refine WL.guardY (e := 27) rfl rfl rfl ?_
          by_cases hc427 : y419 = (-1)
          · have h428 := ifT hc427 h421
            refine WL.val (R.neqF (k := .i64) (a := y419) (b := -1) un2 rfl rfl (not_not_intro hc427)) rfl ?_
            refine WL.val (R.pickF (v := Value.bool false) rfl rfl) rfl ?_
            refine WL.nil ?_
            refine thenN ?_
            refine WC.condF rfl rfl ?_
            refine WC.skip ?_
            refine thenN ?_
            refine WC.seq ?_
            refine WC.region ?_
            refine WL.val (R.move (v := Value.pointer (some ⟨b292, 0, none⟩)) rfl) rfl ?_
            obtain ⟨y429, hx430, h431⟩ := ob (o := astep16 (q112.1, q112.2) (-1) 3) h428
            refine WL.call (astep16_ok _ (In ok w [] [blk b292 216 [Value.int .i64 q112.1, Value.slice a293 q112.2.length c294], gslU 2 i64E (Value.slice a293 q112.2.length c294) q112.2]) (q112.1, q112.2) (-1) 3  b292 _ _ (In.outM (M := [blk b292 216 [Value.int .i64 q112.1, Value.slice a293 q112.2.length c294], gslU 2 i64E (Value.slice a293 q112.2.length c294) q112.2]) (N := []) ((List.Perm.refl _))) (show St [blk b292 216 [Value.int .i64 q112.1, Value.slice a293 q112.2.length c294], gslU 2 i64E (Value.slice a293 q112.2.length c294) q112.2] _ _ [blk b292 216 [Value.int .i64 q112.1, Value.slice a293 q112.2.length c294], gslU 2 i64E (Value.slice a293 q112.2.length c294) q112.2] from St.ofM (M := [blk b292 216 [Value.int .i64 q112.1, Value.slice a293 q112.2.length c294], gslU 2 i64E (Value.slice a293 q112.2.length c294) q112.2]) (N := []) hs426 ((List.Perm.refl _))) hx430) (R.call (vs := [Value.pointer (some ⟨b292, 0, none⟩), Value.int .i64 (-1), Value.int .i64 3]) (caps := []) bo99 rfl rfl) rfl ?_
            rintro v436 w437 ⟨a434, c435, rfl, ht432⟩
            have ht433 := hs426.call (N := []) (M := [blk b292 216 [Value.int .i64 q112.1, Value.slice a293 q112.2.length c294], gslU 2 i64E (Value.slice a293 q112.2.length c294) q112.2]) ((List.Perm.refl _)) ht432
            have hs438 := hs426.trans ht433
            refine WL.val (R.move (v := Value.tuple #[Value.int .i64 y429.1, Value.int .i64 y429.2.1]) rfl) rfl ?_
            refine WL.val (R.extract (v := Value.int .i64 y429.1) rfl rfl) rfl ?_
            refine WL.val (R.extract (v := Value.int .i64 y429.2.1) rfl rfl) rfl ?_
            refine WL.val (R.assign (v := Value.int .i64 y429.1) rfl) rfl ?_
            refine WL.val (R.assign (v := Value.int .i64 y429.2.1) rfl) rfl ?_
            refine WL.nil ?_
            refine thenN ?_
            refine WC.seq ?_
            refine WC.region ?_
            refine WL.val (R.move (v := Value.pointer (some ⟨b292, 0, none⟩)) rfl) rfl ?_
            obtain ⟨y439, hx440, h441⟩ := ob (o := astep16 (y429.2.2.1, y429.2.2.2) 2 4) h431
            refine WL.call (astep16_ok _ (In ok w [] [blk b292 216 [Value.int .i64 y429.2.2.1, Value.slice a434 y429.2.2.2.length c435], gslU 2 i64E (Value.slice a434 y429.2.2.2.length c435) y429.2.2.2]) (y429.2.2.1, y429.2.2.2) 2 4  b292 _ _ (In.outM (M := [blk b292 216 [Value.int .i64 y429.2.2.1, Value.slice a434 y429.2.2.2.length c435], gslU 2 i64E (Value.slice a434 y429.2.2.2.length c435) y429.2.2.2]) (N := []) ((List.Perm.refl _))) (show St [blk b292 216 [Value.int .i64 y429.2.2.1, Value.slice a434 y429.2.2.2.length c435], gslU 2 i64E (Value.slice a434 y429.2.2.2.length c435) y429.2.2.2] _ _ [blk b292 216 [Value.int .i64 y429.2.2.1, Value.slice a434 y429.2.2.2.length c435], gslU 2 i64E (Value.slice a434 y429.2.2.2.length c435) y429.2.2.2] from St.ofM (M := [blk b292 216 [Value.int .i64 y429.2.2.1, Value.slice a434 y429.2.2.2.length c435], gslU 2 i64E (Value.slice a434 y429.2.2.2.length c435) y429.2.2.2]) (N := []) hs438 ((List.Perm.refl _))) hx440) (R.call (vs := [Value.pointer (some ⟨b292, 0, none⟩), Value.int .i64 2, Value.int .i64 4]) (caps := []) bo99 rfl rfl) rfl ?_
            rintro v446 w447 ⟨a444, c445, rfl, ht442⟩
            have ht443 := hs438.call (N := []) (M := [blk b292 216 [Value.int .i64 y429.2.2.1, Value.slice a434 y429.2.2.2.length c435], gslU 2 i64E (Value.slice a434 y429.2.2.2.length c435) y429.2.2.2]) ((List.Perm.refl _)) ht442
            have hs448 := hs438.trans ht443
            refine WL.val (R.move (v := Value.tuple #[Value.int .i64 y439.1, Value.int .i64 y439.2.1]) rfl) rfl ?_
            refine WL.val (R.extract (v := Value.int .i64 y439.1) rfl rfl) rfl ?_
            refine WL.val (R.extract (v := Value.int .i64 y439.2.1) rfl rfl) rfl ?_
            refine WL.val (R.assign (v := Value.int .i64 y439.1) rfl) rfl ?_
            refine WL.val (R.assign (v := Value.int .i64 y439.2.1) rfl) rfl ?_
            refine WL.nil ?_
            refine thenN ?_
            refine WC.seq ?_
            refine WC.region ?_
            refine WL.val (R.move (v := Value.pointer (some ⟨b292, 0, none⟩)) rfl) rfl ?_
            obtain ⟨y449, hx450, h451⟩ := ob (o := astep16 (y439.2.2.1, y439.2.2.2) (-1) 5) h441
            refine WL.call (astep16_ok _ (In ok w [] [blk b292 216 [Value.int .i64 y439.2.2.1, Value.slice a444 y439.2.2.2.length c445], gslU 2 i64E (Value.slice a444 y439.2.2.2.length c445) y439.2.2.2]) (y439.2.2.1, y439.2.2.2) (-1) 5  b292 _ _ (In.outM (M := [blk b292 216 [Value.int .i64 y439.2.2.1, Value.slice a444 y439.2.2.2.length c445], gslU 2 i64E (Value.slice a444 y439.2.2.2.length c445) y439.2.2.2]) (N := []) ((List.Perm.refl _))) (show St [blk b292 216 [Value.int .i64 y439.2.2.1, Value.slice a444 y439.2.2.2.length c445], gslU 2 i64E (Value.slice a444 y439.2.2.2.length c445) y439.2.2.2] _ _ [blk b292 216 [Value.int .i64 y439.2.2.1, Value.slice a444 y439.2.2.2.length c445], gslU 2 i64E (Value.slice a444 y439.2.2.2.length c445) y439.2.2.2] from St.ofM (M := [blk b292 216 [Value.int .i64 y439.2.2.1, Value.slice a444 y439.2.2.2.length c445], gslU 2 i64E (Value.slice a444 y439.2.2.2.length c445) y439.2.2.2]) (N := []) hs448 ((List.Perm.refl _))) hx450) (R.call (vs := [Value.pointer (some ⟨b292, 0, none⟩), Value.int .i64 (-1), Value.int .i64 5]) (caps := []) bo99 rfl rfl) rfl ?_
            rintro v456 w457 ⟨a454, c455, rfl, ht452⟩
            have ht453 := hs448.call (N := []) (M := [blk b292 216 [Value.int .i64 y439.2.2.1, Value.slice a444 y439.2.2.2.length c445], gslU 2 i64E (Value.slice a444 y439.2.2.2.length c445) y439.2.2.2]) ((List.Perm.refl _)) ht452
            have hs458 := hs448.trans ht453
            refine WL.val (R.move (v := Value.tuple #[Value.int .i64 y449.1, Value.int .i64 y449.2.1]) rfl) rfl ?_
            refine WL.val (R.extract (v := Value.int .i64 y449.1) rfl rfl) rfl ?_
            refine WL.val (R.extract (v := Value.int .i64 y449.2.1) rfl rfl) rfl ?_
            refine WL.val (R.assign (v := Value.int .i64 y449.1) rfl) rfl ?_
            refine WL.val (R.assign (v := Value.int .i64 y449.2.1) rfl) rfl ?_
            refine WL.nil ?_
            refine thenN ?_
            refine WC.seq ?_
            refine WC.region ?_
            refine WL.val (R.move (v := Value.int .i64 y429.1) rfl) rfl ?_
            by_cases hc459 : y429.1 = 3
            · have h460 := ifT hc459 h451
              refine WL.val (R.eqlT (k := .i64) (a := y429.1) (b := 3) un2 rfl rfl hc459) rfl ?_
              refine WL.val (R.move (v := Value.bool true) rfl) rfl ?_
              refine WL.guardY (e := 50) rfl rfl rfl ?_
              refine WL.val (R.move (v := Value.int .i64 y429.2.1) rfl) rfl ?_
              refine WL.guardY (e := 50) rfl rfl rfl ?_
              by_cases hc461 : y429.2.1 = 3
              · have h462 := ifT hc461 h460
                refine WL.val (R.eqlT (k := .i64) (a := y429.2.1) (b := 3) un2 rfl rfl hc461) rfl ?_
                refine WL.val (R.pickT (v := Value.bool true) rfl rfl) rfl ?_
                refine WL.val (R.move (v := Value.bool true) rfl) rfl ?_
                refine WL.guardY (e := 54) rfl rfl rfl ?_
                refine WL.val (R.move (v := Value.int .i64 y439.1) rfl) rfl ?_
                refine WL.guardY (e := 54) rfl rfl rfl ?_
                by_cases hc463 : y439.1 = 10
                · have h464 := ifT hc463 h462
                  refine WL.val (R.eqlT (k := .i64) (a := y439.1) (b := 10) un2 rfl rfl hc463) rfl ?_
                  refine WL.val (R.pickT (v := Value.bool true) rfl rfl) rfl ?_
                  refine WL.val (R.move (v := Value.bool true) rfl) rfl ?_
                  refine WL.guardY (e := 58) rfl rfl rfl ?_
                  refine WL.val (R.move (v := Value.int .i64 y439.2.1) rfl) rfl ?_
                  refine WL.guardY (e := 58) rfl rfl rfl ?_
                  by_cases hc465 : y439.2.1 = 10
                  · have h466 := ifT hc465 h464
                    refine WL.val (R.eqlT (k := .i64) (a := y439.2.1) (b := 10) un2 rfl rfl hc465) rfl ?_
                    refine WL.val (R.pickT (v := Value.bool true) rfl rfl) rfl ?_
                    refine WL.val (R.move (v := Value.bool true) rfl) rfl ?_
                    refine WL.guardY (e := 62) rfl rfl rfl ?_
                    refine WL.val (R.move (v := Value.int .i64 y449.1) rfl) rfl ?_
                    refine WL.guardY (e := 62) rfl rfl rfl ?_
                    by_cases hc467 : y449.1 = 5
                    · have h468 := ifT hc467 h466
                      refine WL.val (R.eqlT (k := .i64) (a := y449.1) (b := 5) un2 rfl rfl hc467) rfl ?_
                      refine WL.val (R.pickT (v := Value.bool true) rfl rfl) rfl ?_
                      refine WL.val (R.move (v := Value.bool true) rfl) rfl ?_
                      refine WL.guardY (e := 66) rfl rfl rfl ?_
                      refine WL.val (R.move (v := Value.int .i64 y449.2.1) rfl) rfl ?_
                      refine WL.guardY (e := 66) rfl rfl rfl ?_
                      by_cases hc469 : y449.2.1 = 11
                      · have h470 := ifT hc469 h468
                        refine WL.val (R.eqlT (k := .i64) (a := y449.2.1) (b := 11) un2 rfl rfl hc469) rfl ?_
                        refine WL.val (R.pickT (v := Value.bool true) rfl rfl) rfl ?_
                        refine WL.val (R.assign (v := Value.bool true) rfl) rfl ?_
                        refine WL.nil ?_
                        refine thenN ?_
                        refine WC.ret ?_
                        have ht471 := (hs458.here).perm (L' := []) (G := [blk b292 216 [Value.int .i64 y449.2.2.1, Value.slice a454 y449.2.2.2.length c455], gslU 2 i64E (Value.slice a454 y449.2.2.2.length c455) y449.2.2.2]) ((List.Perm.refl _))
                        have hs472 := hs458.trans ht471
                        obtain rfl := Option.some.inj (show some true = some r from h470)
                        exact ret1 (P := Try.prog) (n := 70) (fn := Try.f95) (R := fun v w' => v = Value.bool true ∧ St [] w w' []) (t := 0) (v := Value.bool true) rfl rfl rfl ⟨rfl, hs472⟩
                      · have h473 := ifF hc469 h468
                        refine WL.val (R.eqlF (k := .i64) (a := y449.2.1) (b := 11) un2 rfl rfl hc469) rfl ?_
                        refine WL.val (R.pickT (v := Value.bool false) rfl rfl) rfl ?_
                        refine WL.val (R.assign (v := Value.bool false) rfl) rfl ?_
                        refine WL.nil ?_
                        refine thenN ?_
                        refine WC.ret ?_
                        have ht474 := (hs458.here).perm (L' := []) (G := [blk b292 216 [Value.int .i64 y449.2.2.1, Value.slice a454 y449.2.2.2.length c455], gslU 2 i64E (Value.slice a454 y449.2.2.2.length c455) y449.2.2.2]) ((List.Perm.refl _))
                        have hs475 := hs458.trans ht474
                        obtain rfl := Option.some.inj (show some false = some r from h473)
                        exact ret1 (P := Try.prog) (n := 70) (fn := Try.f95) (R := fun v w' => v = Value.bool false ∧ St [] w w' []) (t := 0) (v := Value.bool false) rfl rfl rfl ⟨rfl, hs475⟩
                    · have h476 := ifF hc467 h466
                      refine WL.val (R.eqlF (k := .i64) (a := y449.1) (b := 5) un2 rfl rfl hc467) rfl ?_
                      refine WL.val (R.pickT (v := Value.bool false) rfl rfl) rfl ?_
                      refine WL.val (R.move (v := Value.bool false) rfl) rfl ?_
                      refine WL.guardN (e := 66) (v := .bool false) rfl rfl rfl rfl ?_
                      refine WL.guardN (e := 66) (v := .bool false) rfl rfl rfl rfl ?_
                      refine WL.val (R.pickF (v := Value.bool false) rfl rfl) rfl ?_
                      refine WL.val (R.assign (v := Value.bool false) rfl) rfl ?_
                      refine WL.nil ?_
                      refine thenN ?_
                      refine WC.ret ?_
                      have ht477 := (hs458.here).perm (L' := []) (G := [blk b292 216 [Value.int .i64 y449.2.2.1, Value.slice a454 y449.2.2.2.length c455], gslU 2 i64E (Value.slice a454 y449.2.2.2.length c455) y449.2.2.2]) ((List.Perm.refl _))
                      have hs478 := hs458.trans ht477
                      obtain rfl := Option.some.inj (show some false = some r from h476)
                      exact ret1 (P := Try.prog) (n := 70) (fn := Try.f95) (R := fun v w' => v = Value.bool false ∧ St [] w w' []) (t := 0) (v := Value.bool false) rfl rfl rfl ⟨rfl, hs478⟩
                  · have h479 := ifF hc465 h464
                    refine WL.val (R.eqlF (k := .i64) (a := y439.2.1) (b := 10) un2 rfl rfl hc465) rfl ?_
                    refine WL.val (R.pickT (v := Value.bool false) rfl rfl) rfl ?_
                    refine WL.val (R.move (v := Value.bool false) rfl) rfl ?_
                    refine WL.guardN (e := 62) (v := .bool false) rfl rfl rfl rfl ?_
                    refine WL.guardN (e := 62) (v := .bool false) rfl rfl rfl rfl ?_
                    refine WL.val (R.pickF (v := Value.bool false) rfl rfl) rfl ?_
                    refine WL.val (R.move (v := Value.bool false) rfl) rfl ?_
                    refine WL.guardN (e := 66) (v := .bool false) rfl rfl rfl rfl ?_
                    refine WL.guardN (e := 66) (v := .bool false) rfl rfl rfl rfl ?_
                    refine WL.val (R.pickF (v := Value.bool false) rfl rfl) rfl ?_
                    refine WL.val (R.assign (v := Value.bool false) rfl) rfl ?_
                    refine WL.nil ?_
                    refine thenN ?_
                    refine WC.ret ?_
                    have ht480 := (hs458.here).perm (L' := []) (G := [blk b292 216 [Value.int .i64 y449.2.2.1, Value.slice a454 y449.2.2.2.length c455], gslU 2 i64E (Value.slice a454 y449.2.2.2.length c455) y449.2.2.2]) ((List.Perm.refl _))
                    have hs481 := hs458.trans ht480
                    obtain rfl := Option.some.inj (show some false = some r from h479)
                    exact ret1 (P := Try.prog) (n := 70) (fn := Try.f95) (R := fun v w' => v = Value.bool false ∧ St [] w w' []) (t := 0) (v := Value.bool false) rfl rfl rfl ⟨rfl, hs481⟩
                · have h482 := ifF hc463 h462
                  refine WL.val (R.eqlF (k := .i64) (a := y439.1) (b := 10) un2 rfl rfl hc463) rfl ?_
                  refine WL.val (R.pickT (v := Value.bool false) rfl rfl) rfl ?_
                  refine WL.val (R.move (v := Value.bool false) rfl) rfl ?_
                  refine WL.guardN (e := 58) (v := .bool false) rfl rfl rfl rfl ?_
                  refine WL.guardN (e := 58) (v := .bool false) rfl rfl rfl rfl ?_
                  refine WL.val (R.pickF (v := Value.bool false) rfl rfl) rfl ?_
                  refine WL.val (R.move (v := Value.bool false) rfl) rfl ?_
                  refine WL.guardN (e := 62) (v := .bool false) rfl rfl rfl rfl ?_
                  refine WL.guardN (e := 62) (v := .bool false) rfl rfl rfl rfl ?_
                  refine WL.val (R.pickF (v := Value.bool false) rfl rfl) rfl ?_
                  refine WL.val (R.move (v := Value.bool false) rfl) rfl ?_
                  refine WL.guardN (e := 66) (v := .bool false) rfl rfl rfl rfl ?_
                  refine WL.guardN (e := 66) (v := .bool false) rfl rfl rfl rfl ?_
                  refine WL.val (R.pickF (v := Value.bool false) rfl rfl) rfl ?_
                  refine WL.val (R.assign (v := Value.bool false) rfl) rfl ?_
                  refine WL.nil ?_
                  refine thenN ?_
                  refine WC.ret ?_
                  have ht483 := (hs458.here).perm (L' := []) (G := [blk b292 216 [Value.int .i64 y449.2.2.1, Value.slice a454 y449.2.2.2.length c455], gslU 2 i64E (Value.slice a454 y449.2.2.2.length c455) y449.2.2.2]) ((List.Perm.refl _))
                  have hs484 := hs458.trans ht483
                  obtain rfl := Option.some.inj (show some false = some r from h482)
                  exact ret1 (P := Try.prog) (n := 70) (fn := Try.f95) (R := fun v w' => v = Value.bool false ∧ St [] w w' []) (t := 0) (v := Value.bool false) rfl rfl rfl ⟨rfl, hs484⟩
              · have h485 := ifF hc461 h460
                refine WL.val (R.eqlF (k := .i64) (a := y429.2.1) (b := 3) un2 rfl rfl hc461) rfl ?_
                refine WL.val (R.pickT (v := Value.bool false) rfl rfl) rfl ?_
                refine WL.val (R.move (v := Value.bool false) rfl) rfl ?_
                refine WL.guardN (e := 54) (v := .bool false) rfl rfl rfl rfl ?_
                refine WL.guardN (e := 54) (v := .bool false) rfl rfl rfl rfl ?_
                refine WL.val (R.pickF (v := Value.bool false) rfl rfl) rfl ?_
                refine WL.val (R.move (v := Value.bool false) rfl) rfl ?_
                refine WL.guardN (e := 58) (v := .bool false) rfl rfl rfl rfl ?_
                refine WL.guardN (e := 58) (v := .bool false) rfl rfl rfl rfl ?_
                refine WL.val (R.pickF (v := Value.bool false) rfl rfl) rfl ?_
                refine WL.val (R.move (v := Value.bool false) rfl) rfl ?_
                refine WL.guardN (e := 62) (v := .bool false) rfl rfl rfl rfl ?_
                refine WL.guardN (e := 62) (v := .bool false) rfl rfl rfl rfl ?_
                refine WL.val (R.pickF (v := Value.bool false) rfl rfl) rfl ?_
                refine WL.val (R.move (v := Value.bool false) rfl) rfl ?_
                refine WL.guardN (e := 66) (v := .bool false) rfl rfl rfl rfl ?_
                refine WL.guardN (e := 66) (v := .bool false) rfl rfl rfl rfl ?_
                refine WL.val (R.pickF (v := Value.bool false) rfl rfl) rfl ?_
                refine WL.val (R.assign (v := Value.bool false) rfl) rfl ?_
                refine WL.nil ?_
                refine thenN ?_
                refine WC.ret ?_
                have ht486 := (hs458.here).perm (L' := []) (G := [blk b292 216 [Value.int .i64 y449.2.2.1, Value.slice a454 y449.2.2.2.length c455], gslU 2 i64E (Value.slice a454 y449.2.2.2.length c455) y449.2.2.2]) ((List.Perm.refl _))
                have hs487 := hs458.trans ht486
                obtain rfl := Option.some.inj (show some false = some r from h485)
                exact ret1 (P := Try.prog) (n := 70) (fn := Try.f95) (R := fun v w' => v = Value.bool false ∧ St [] w w' []) (t := 0) (v := Value.bool false) rfl rfl rfl ⟨rfl, hs487⟩
            · have h488 := ifF hc459 h451
              refine WL.val (R.eqlF (k := .i64) (a := y429.1) (b := 3) un2 rfl rfl hc459) rfl ?_
              refine WL.val (R.move (v := Value.bool false) rfl) rfl ?_
              refine WL.guardN (e := 50) (v := .bool false) rfl rfl rfl rfl ?_
              refine WL.guardN (e := 50) (v := .bool false) rfl rfl rfl rfl ?_
              refine WL.val (R.pickF (v := Value.bool false) rfl rfl) rfl ?_
              refine WL.val (R.move (v := Value.bool false) rfl) rfl ?_
              refine WL.guardN (e := 54) (v := .bool false) rfl rfl rfl rfl ?_
              refine WL.guardN (e := 54) (v := .bool false) rfl rfl rfl rfl ?_
              refine WL.val (R.pickF (v := Value.bool false) rfl rfl) rfl ?_
              refine WL.val (R.move (v := Value.bool false) rfl) rfl ?_
              refine WL.guardN (e := 58) (v := .bool false) rfl rfl rfl rfl ?_
              refine WL.guardN (e := 58) (v := .bool false) rfl rfl rfl rfl ?_
              refine WL.val (R.pickF (v := Value.bool false) rfl rfl) rfl ?_
              refine WL.val (R.move (v := Value.bool false) rfl) rfl ?_
              refine WL.guardN (e := 62) (v := .bool false) rfl rfl rfl rfl ?_
              refine WL.guardN (e := 62) (v := .bool false) rfl rfl rfl rfl ?_
              refine WL.val (R.pickF (v := Value.bool false) rfl rfl) rfl ?_
              refine WL.val (R.move (v := Value.bool false) rfl) rfl ?_
              refine WL.guardN (e := 66) (v := .bool false) rfl rfl rfl rfl ?_
              refine WL.guardN (e := 66) (v := .bool false) rfl rfl rfl rfl ?_
              refine WL.val (R.pickF (v := Value.bool false) rfl rfl) rfl ?_
              refine WL.val (R.assign (v := Value.bool false) rfl) rfl ?_
              refine WL.nil ?_
              refine thenN ?_
              refine WC.ret ?_
              have ht489 := (hs458.here).perm (L' := []) (G := [blk b292 216 [Value.int .i64 y449.2.2.1, Value.slice a454 y449.2.2.2.length c455], gslU 2 i64E (Value.slice a454 y449.2.2.2.length c455) y449.2.2.2]) ((List.Perm.refl _))
              have hs490 := hs458.trans ht489
              obtain rfl := Option.some.inj (show some false = some r from h488)
              exact ret1 (P := Try.prog) (n := 70) (fn := Try.f95) (R := fun v w' => v = Value.bool false ∧ St [] w w' []) (t := 0) (v := Value.bool false) rfl rfl rfl ⟨rfl, hs490⟩
          · have h491 := ifF hc427 h421
            refine WL.val (R.neqT (k := .i64) (a := y419) (b := -1) un2 rfl rfl hc427) rfl ?_
            refine WL.val (R.pickF (v := Value.bool true) rfl rfl) rfl ?_
            refine WL.nil ?_
            refine thenN ?_
            refine WC.condT rfl rfl ?_
            refine WC.seq ?_
            refine WC.region ?_
            refine WL.val (R.assign (v := Value.bool false) rfl) rfl ?_
            refine WL.nil ?_
            refine thenN ?_
            refine WC.ret ?_
            have ht492 := (hs426.here).perm (L' := []) (G := [blk b292 216 [Value.int .i64 q112.1, Value.slice a293 q112.2.length c294], gslU 2 i64E (Value.slice a293 q112.2.length c294) q112.2]) ((List.Perm.refl _))
            have hs493 := hs426.trans ht492
            obtain rfl := Option.some.inj (show some false = some r from h491)
            exact ret1 (P := Try.prog) (n := 70) (fn := Try.f95) (R := fun v w' => v = Value.bool false ∧ St [] w w' []) (t := 0) (v := Value.bool false) rfl rfl rfl ⟨rfl, hs493⟩
        · have h494 := ifF hc384 h378
          refine WL.val (R.neqT (k := .i64) (a := y376) (b := 7) un2 rfl rfl hc384) rfl ?_
          refine WL.val (R.pickF (v := Value.bool true) rfl rfl) rfl ?_
          refine WL.val (R.move (v := Value.bool true) rfl) rfl ?_
          refine WL.guardN (e := 27) (v := .bool true) rfl rfl rfl rfl ?_
          refine WL.guardN (e := 27) (v := .bool true) rfl rfl rfl rfl ?_
          refine WL.guardN (e := 27) (v := .bool true) rfl rfl rfl rfl ?_
          refine WL.guardN (e := 27) (v := .bool true) rfl rfl rfl rfl ?_
          refine WL.val (R.pickT (v := Value.bool true) rfl rfl) rfl ?_
          refine WL.nil ?_
          refine thenN ?_
          refine WC.condT rfl rfl ?_
          refine WC.seq ?_
          refine WC.region ?_
          refine WL.val (R.assign (v := Value.bool false) rfl) rfl ?_
          refine WL.nil ?_
          refine thenN ?_
          refine WC.ret ?_
          have ht495 := (hs383.here).perm (L' := []) (G := [blk b292 216 [Value.int .i64 q112.1, Value.slice a293 q112.2.length c294], gslU 2 i64E (Value.slice a293 q112.2.length c294) q112.2]) ((List.Perm.refl _))
          have hs496 := hs383.trans ht495
          obtain rfl := Option.some.inj (show some false = some r from h494)
          exact ret1 (P := Try.prog) (n := 70) (fn := Try.f95) (R := fun v w' => v = Value.bool false ∧ St [] w w' []) (t := 0) (v := Value.bool false) rfl rfl rfl ⟨rfl, hs496⟩
      · have h497 := ifF hc341 h335
        refine WL.val (R.neqT (k := .i64) (a := y333) (b := 5) un2 rfl rfl hc341) rfl ?_
        refine WL.val (R.pickF (v := Value.bool true) rfl rfl) rfl ?_
        refine WL.val (R.move (v := Value.bool true) rfl) rfl ?_
        refine WL.guardN (e := 21) (v := .bool true) rfl rfl rfl rfl ?_
        refine WL.guardN (e := 21) (v := .bool true) rfl rfl rfl rfl ?_
        refine WL.guardN (e := 21) (v := .bool true) rfl rfl rfl rfl ?_
        refine WL.guardN (e := 21) (v := .bool true) rfl rfl rfl rfl ?_
        refine WL.val (R.pickT (v := Value.bool true) rfl rfl) rfl ?_
        refine WL.val (R.move (v := Value.bool true) rfl) rfl ?_
        refine WL.guardN (e := 27) (v := .bool true) rfl rfl rfl rfl ?_
        refine WL.guardN (e := 27) (v := .bool true) rfl rfl rfl rfl ?_
        refine WL.guardN (e := 27) (v := .bool true) rfl rfl rfl rfl ?_
        refine WL.guardN (e := 27) (v := .bool true) rfl rfl rfl rfl ?_
        refine WL.val (R.pickT (v := Value.bool true) rfl rfl) rfl ?_
        refine WL.nil ?_
        refine thenN ?_
        refine WC.condT rfl rfl ?_
        refine WC.seq ?_
        refine WC.region ?_
        refine WL.val (R.assign (v := Value.bool false) rfl) rfl ?_
        refine WL.nil ?_
        refine thenN ?_
        refine WC.ret ?_
        have ht498 := (hs340.here).perm (L' := []) (G := [blk b292 216 [Value.int .i64 q112.1, Value.slice a293 q112.2.length c294], gslU 2 i64E (Value.slice a293 q112.2.length c294) q112.2]) ((List.Perm.refl _))
        have hs499 := hs340.trans ht498
        obtain rfl := Option.some.inj (show some false = some r from h497)
        exact ret1 (P := Try.prog) (n := 70) (fn := Try.f95) (R := fun v w' => v = Value.bool false ∧ St [] w w' []) (t := 0) (v := Value.bool false) rfl rfl rfl ⟨rfl, hs499⟩
    · have h500 := ifF hc298 h111
      refine WL.val (R.neqT (k := .i64) (a := y101.2) (b := 0) un66 rfl rfl hc298) rfl ?_
      refine WL.val (R.move (v := Value.bool true) rfl) rfl ?_
      refine WL.guardN (e := 15) (v := .bool true) rfl rfl rfl rfl ?_
      refine WL.guardN (e := 15) (v := .bool true) rfl rfl rfl rfl ?_
      refine WL.guardN (e := 15) (v := .bool true) rfl rfl rfl rfl ?_
      refine WL.guardN (e := 15) (v := .bool true) rfl rfl rfl rfl ?_
      refine WL.val (R.pickT (v := Value.bool true) rfl rfl) rfl ?_
      refine WL.val (R.move (v := Value.bool true) rfl) rfl ?_
      refine WL.guardN (e := 21) (v := .bool true) rfl rfl rfl rfl ?_
      refine WL.guardN (e := 21) (v := .bool true) rfl rfl rfl rfl ?_
      refine WL.guardN (e := 21) (v := .bool true) rfl rfl rfl rfl ?_
      refine WL.guardN (e := 21) (v := .bool true) rfl rfl rfl rfl ?_
      refine WL.val (R.pickT (v := Value.bool true) rfl rfl) rfl ?_
      refine WL.val (R.move (v := Value.bool true) rfl) rfl ?_
      refine WL.guardN (e := 27) (v := .bool true) rfl rfl rfl rfl ?_
      refine WL.guardN (e := 27) (v := .bool true) rfl rfl rfl rfl ?_
      refine WL.guardN (e := 27) (v := .bool true) rfl rfl rfl rfl ?_
      refine WL.guardN (e := 27) (v := .bool true) rfl rfl rfl rfl ?_
      refine WL.val (R.pickT (v := Value.bool true) rfl rfl) rfl ?_
      refine WL.nil ?_
      refine thenN ?_
      refine WC.condT rfl rfl ?_
      refine WC.seq ?_
      refine WC.region ?_
      refine WL.val (R.assign (v := Value.bool false) rfl) rfl ?_
      refine WL.nil ?_
      refine thenN ?_
      refine WC.ret ?_
      have ht501 := (hs297.here).perm (L' := []) (G := [blk b292 216 [Value.int .i64 q112.1, Value.slice a293 q112.2.length c294], gslU 2 i64E (Value.slice a293 q112.2.length c294) q112.2]) ((List.Perm.refl _))
      have hs502 := hs297.trans ht501
      obtain rfl := Option.some.inj (show some false = some r from h500)
      exact ret1 (P := Try.prog) (n := 70) (fn := Try.f95) (R := fun v w' => v = Value.bool false ∧ St [] w w' []) (t := 0) (v := Value.bool false) rfl rfl rfl ⟨rfl, hs502⟩

theorem rcommon16_ok (w : World) (ok : Nat → Prop) (p0 : Int) (p1 : List Hd) (a1 : Option Addr) (c1 : Nat) (he1 : elems heldW w ok a1 p1) (hc1 : p1.length ≤ c1) {r : Int} (h : rcommon16 p0 p1 = some r) :
    Ret Try.prog 96 [Value.int .i64 p0, Value.slice a1 p1.length c1] w (fun v w' => v = Value.int .i64 r ∧ St [] w w' []) := by
  rw [rcommon16] at h
  have hs100 : St [] w w [] := St.start w
  have he1001 := el0 (L0 := []) (fun b _ => out_nil b) he1
  refine enter (n := 118) Try.func96 rfl rfl rfl ?_
  refine WC.seq ?_
  refine WC.region ?_
  refine WL.val (R.assign (v := Value.int .i64 0) rfl) rfl ?_
  refine WL.nil ?_
  refine thenN ?_
  refine WC.seq ?_
  refine WC.seq ?_
  refine WC.region ?_
  refine WL.val (R.move (v := Value.int .i64 p0) rfl) rfl ?_
  by_cases hc102 : p0 < 4
  · have h103 := ifT hc102 h
    refine WL.val (R.lssT (k := .i64) (a := p0) (b := 4) un3 rfl rfl hc102) rfl ?_
    refine WL.val (R.move (v := Value.bool true) rfl) rfl ?_
    refine WL.guardN (e := 14) (v := .bool true) rfl rfl rfl rfl ?_
    refine WL.guardN (e := 14) (v := .bool true) rfl rfl rfl rfl ?_
    refine WL.val (R.pickT (v := Value.bool true) rfl rfl) rfl ?_
    refine WL.nil ?_
    refine thenN ?_
    refine WC.condT rfl rfl ?_
    refine WC.seq ?_
    refine WC.region ?_
    refine WL.val (R.assign (v := Value.int .i64 (-1)) rfl) rfl ?_
    refine WL.nil ?_
    refine thenN ?_
    refine WC.ret ?_
    obtain rfl := Option.some.inj (show some (-1) = some r from h103)
    exact ret1 (P := Try.prog) (n := 118) (fn := Try.f96) (R := fun v w' => v = Value.int .i64 (-1) ∧ St [] w w' []) (t := 4) (v := Value.int .i64 (-1)) rfl rfl rfl ⟨rfl, hs100⟩
  · have h104 := ifF hc102 h
    refine WL.val (R.lssF (k := .i64) (a := p0) (b := 4) un3 rfl rfl hc102) rfl ?_
    refine WL.val (R.move (v := Value.bool false) rfl) rfl ?_
    refine WL.guardY (e := 14) rfl rfl rfl ?_
    refine WL.val (R.move (v := Value.int .i64 p0) rfl) rfl ?_
    refine WL.guardY (e := 14) rfl rfl rfl ?_
    by_cases hc105 : 16 < p0
    · have h106 := ifT hc105 h104
      refine WL.val (R.gtrT (k := .i64) (a := p0) (b := 16) un3 rfl rfl hc105) rfl ?_
      refine WL.val (R.pickF (v := Value.bool true) rfl rfl) rfl ?_
      refine WL.nil ?_
      refine thenN ?_
      refine WC.condT rfl rfl ?_
      refine WC.seq ?_
      refine WC.region ?_
      refine WL.val (R.assign (v := Value.int .i64 (-1)) rfl) rfl ?_
      refine WL.nil ?_
      refine thenN ?_
      refine WC.ret ?_
      obtain rfl := Option.some.inj (show some (-1) = some r from h106)
      exact ret1 (P := Try.prog) (n := 118) (fn := Try.f96) (R := fun v w' => v = Value.int .i64 (-1) ∧ St [] w w' []) (t := 4) (v := Value.int .i64 (-1)) rfl rfl rfl ⟨rfl, hs100⟩
    · have h107 := ifF hc105 h104
      refine WL.val (R.gtrF (k := .i64) (a := p0) (b := 16) un3 rfl rfl hc105) rfl ?_
      refine WL.val (R.pickF (v := Value.bool false) rfl rfl) rfl ?_
      refine WL.nil ?_
      refine thenN ?_
      refine WC.condF rfl rfl ?_
      refine WC.skip ?_
      refine thenN ?_
      refine WC.seq ?_
      refine WC.region ?_
      refine WL.val (R.assign (v := Value.slice none 0 0) rfl) rfl ?_
      refine WL.nil ?_
      refine thenN ?_
      refine WC.seq ?_
      refine WC.seq ?_
      refine WC.region ?_
      refine WL.val (R.assign (v := Value.int .i64 0) rfl) rfl ?_
      refine WL.nil ?_
      refine thenN ?_
      have ht161 := (hs100.here).addNil 2 i64E rfl
      have hs163 := hs100.trans ht161
      have hr291 := elT ht161 he1001
      obtain ⟨K283, hK284, h285⟩ := kE (G := fun K283 => rcommon16_l1 p0 p1 K283 1000000 0 ([] : List Int)) h107
      refine WC.join (fun σ293 w292 => ∃ l280 : List Int, ∃ a281, ∃ c282, σ293 0 = (Value.int .i64 p0) ∧ σ293 5 = (Value.slice a281 l280.length c282) ∧ K283 l280 = some r ∧ St [] w w292 [gsl 2 i64E (Value.slice a281 l280.length c282) l280]) ?_ ?_
      · refine WC.block ?_
        refine WC.loop (T := Nat) (fun k289 σ287 w286 => ∃ i276 : Int, ∃ l277 : List Int, ∃ a278, ∃ c279, σ287 0 = (Value.int .i64 p0) ∧ σ287 1 = (Value.slice a1 p1.length c1) ∧ σ287 5 = (Value.slice a278 l277.length c279) ∧ σ287 6 = (Value.int .i64 i276) ∧ elems heldW w286 (In ok w [] [gsl 2 i64E (Value.slice a278 l277.length c279) l277]) a1 p1 ∧ rcommon16_l1 p0 p1 K283 k289 i276 l277 = some r ∧ St [] w w286 [gsl 2 i64E (Value.slice a278 l277.length c279) l277]) (fun k289 => k289) 1000000 ⟨0, ([] : List Int), none, 0, rfl, rfl, rfl, rfl, hr291, h285, hs163⟩ ?_
        rintro k289 σ287 w286 ⟨i276, l277, a278, c279, s296, s297, s298, s299, he290, h295, hs288⟩
        rcases k289 with _ | k289
        · rw [rcommon16_l1] at h295; cases h295
        rw [rcommon16_l1] at h295
        refine WC.seq ?_
        refine WC.seq ?_
        refine WC.region ?_
        refine WL.val (R.move (v := Value.int .i64 i276) (by exact s299)) rfl ?_
        refine WL.val (R.move (v := Value.int .i64 p0) (by exact s296)) rfl ?_
        by_cases hc300 : i276 < p0
        · have h301 := ifT hc300 h295
          refine WL.val (R.lssT (k := .i64) (a := i276) (b := p0) un3 rfl rfl hc300) rfl ?_
          refine WL.val (R.move (v := Value.bool true) rfl) rfl ?_
          refine WL.guardY (e := 21) rfl rfl rfl ?_
          refine WL.val (R.move (v := Value.int .i64 i276) (by exact s299)) rfl ?_
          refine WL.guardY (e := 21) rfl rfl rfl ?_
          refine WL.val (R.move (v := Value.slice a1 p1.length c1) (by exact s297)) rfl ?_
          refine WL.guardY (e := 21) rfl rfl rfl ?_
          refine WL.val (R.len (a := a1) (n := p1.length) (c := c1) un31 rfl) rfl ?_
          refine WL.guardY (e := 21) rfl rfl rfl ?_
          by_cases hc302 : i276 < ((p1.length : Nat) : Int)
          · have h303 := ifT hc302 h301
            refine WL.val (R.lssT (k := .i64) (a := i276) (b := ((p1.length : Nat) : Int)) un3 rfl rfl hc302) rfl ?_
            refine WL.val (R.pickT (v := Value.bool true) rfl rfl) rfl ?_
            refine WL.nil ?_
            refine thenN ?_
            refine WC.condT rfl rfl ?_
            refine WC.skip ?_
            refine thenN ?_
            refine WC.seq ?_
            refine WC.block ?_
            refine WC.seq ?_
            refine WC.region ?_
            refine WL.val (R.move (v := Value.slice a1 p1.length c1) (by exact s297)) rfl ?_
            refine WL.val (R.move (v := Value.int .i64 i276) (by exact s299)) rfl ?_
            obtain ⟨x304, hx305, h306⟩ := ob (o := rd p1 i276) h303
            obtain ⟨h0307, hx308, hl309, hm310⟩ := rdE hx305
            obtain ⟨ad311, e316, ha312, hp313, hat314, hrd315⟩ := he290 _ _ hx308
            obtain ⟨-, rfl⟩ := hrd315
            refine WL.val (R.indexS (n := 56) (m := (i276).toNat) (a := a1) (ad := ad311) (len := p1.length) (cap := c1) (z := i276) un31 ag202.size rfl ha312 rfl hm310 hl309 hp313) rfl ?_
            refine WL.val (R.fieldAddr (o := ad311.off + (i276).toNat * 56) (o' := ad311.off + (i276).toNat * 56) fa202_0 rfl rfl) rfl ?_
            refine WL.val (R.loadL (v := Value.bool x304.is) lf4 rfl (At.sub (a := ⟨ad311.block, ad311.off + (i276).toNat * 56, none⟩) (off := 0) (n := 1) (cs := encH x304) (ds := [Value.bool x304.is]) hat314 rfl rfl)) rfl ?_
            refine WL.val (R.move (v := Value.bool x304.is) rfl) rfl ?_
            by_cases hc318 : x304.is = true
            · have h319 := ifT hc318 h306
              refine WL.guardY (e := 34) (Eq.trans (show _ = Value.bool x304.is from rfl) (congrArg Value.bool hc318)) rfl rfl ?_
              refine WL.val (R.move (v := Value.slice a1 p1.length c1) (by exact s297)) rfl ?_
              refine WL.guardY (e := 34) (Eq.trans (show _ = Value.bool x304.is from rfl) (congrArg Value.bool hc318)) rfl rfl ?_
              refine WL.val (R.move (v := Value.int .i64 i276) (by exact s299)) rfl ?_
              refine WL.guardY (e := 34) (Eq.trans (show _ = Value.bool x304.is from rfl) (congrArg Value.bool hc318)) rfl rfl ?_
              refine WL.val (R.indexS (n := 56) (m := (i276).toNat) (a := a1) (ad := ad311) (len := p1.length) (cap := c1) (z := i276) un31 ag202.size rfl ha312 rfl hm310 hl309 hp313) rfl ?_
              refine WL.guardY (e := 34) (Eq.trans (show _ = Value.bool x304.is from rfl) (congrArg Value.bool hc318)) rfl rfl ?_
              refine WL.val (R.fieldAddr (o := ad311.off + (i276).toNat * 56) (o' := ad311.off + (i276).toNat * 56 + 1) fa202_1 rfl rfl) rfl ?_
              refine WL.guardY (e := 34) (Eq.trans (show _ = Value.bool x304.is from rfl) (congrArg Value.bool hc318)) rfl rfl ?_
              refine WL.val (R.fieldAddr (o := ad311.off + (i276).toNat * 56 + 1) (o' := ad311.off + (i276).toNat * 56 + 1) fa58_0 rfl rfl) rfl ?_
              refine WL.guardY (e := 34) (Eq.trans (show _ = Value.bool x304.is from rfl) (congrArg Value.bool hc318)) rfl rfl ?_
              refine WL.val (R.loadL (v := Value.int .i64 x304.cell.age) lf2 rfl (At.sub (a := ⟨ad311.block, ad311.off + (i276).toNat * 56, none⟩) (off := 1) (n := 1) (cs := encH x304) (ds := [Value.int .i64 x304.cell.age]) hat314 rfl rfl)) rfl ?_
              refine WL.guardY (e := 34) (Eq.trans (show _ = Value.bool x304.is from rfl) (congrArg Value.bool hc318)) rfl rfl ?_
              by_cases hc320 : 0 ≤ x304.cell.age
              · have h321 := ifT hc320 h319
                refine WL.val (R.geqT (k := .i64) (a := x304.cell.age) (b := 0) un2 rfl rfl hc320) rfl ?_
                refine WL.val (R.pickT (v := Value.bool true) (Eq.trans (show _ = Value.bool x304.is from rfl) (congrArg Value.bool hc318)) rfl) rfl ?_
                refine WL.val (R.move (v := Value.bool true) rfl) rfl ?_
                refine WL.guardY (e := 43) rfl rfl rfl ?_
                refine WL.val (R.move (v := Value.slice a1 p1.length c1) (by exact s297)) rfl ?_
                refine WL.guardY (e := 43) rfl rfl rfl ?_
                refine WL.val (R.move (v := Value.int .i64 i276) (by exact s299)) rfl ?_
                refine WL.guardY (e := 43) rfl rfl rfl ?_
                refine WL.val (R.indexS (n := 56) (m := (i276).toNat) (a := a1) (ad := ad311) (len := p1.length) (cap := c1) (z := i276) un31 ag202.size rfl ha312 rfl hm310 hl309 hp313) rfl ?_
                refine WL.guardY (e := 43) rfl rfl rfl ?_
                refine WL.val (R.fieldAddr (o := ad311.off + (i276).toNat * 56) (o' := ad311.off + (i276).toNat * 56 + 1) fa202_1 rfl rfl) rfl ?_
                refine WL.guardY (e := 43) rfl rfl rfl ?_
                refine WL.val (R.fieldAddr (o := ad311.off + (i276).toNat * 56 + 1) (o' := ad311.off + (i276).toNat * 56 + 1) fa58_0 rfl rfl) rfl ?_
                refine WL.guardY (e := 43) rfl rfl rfl ?_
                refine WL.val (R.loadL (v := Value.int .i64 x304.cell.age) lf2 rfl (At.sub (a := ⟨ad311.block, ad311.off + (i276).toNat * 56, none⟩) (off := 1) (n := 1) (cs := encH x304) (ds := [Value.int .i64 x304.cell.age]) hat314 rfl rfl)) rfl ?_
                refine WL.guardY (e := 43) rfl rfl rfl ?_
                by_cases hc322 : x304.cell.age ≤ 1099511627776
                · have h323 := ifT hc322 h321
                  refine WL.val (R.leqT (k := .i64) (a := x304.cell.age) (b := 1099511627776) un2 rfl rfl hc322) rfl ?_
                  refine WL.val (R.pickT (v := Value.bool true) rfl rfl) rfl ?_
                  refine WL.nil ?_
                  refine thenN ?_
                  refine WC.condT rfl rfl ?_
                  refine WC.region ?_
                  refine WL.val (R.move (v := Value.slice a278 l277.length c279) (by exact s298)) rfl ?_
                  refine WL.val (R.move (v := Value.slice a1 p1.length c1) (by exact s297)) rfl ?_
                  refine WL.val (R.move (v := Value.int .i64 i276) (by exact s299)) rfl ?_
                  refine WL.val (R.indexS (n := 56) (m := (i276).toNat) (a := a1) (ad := ad311) (len := p1.length) (cap := c1) (z := i276) un31 ag202.size rfl ha312 rfl hm310 hl309 hp313) rfl ?_
                  refine WL.val (R.fieldAddr (o := ad311.off + (i276).toNat * 56) (o' := ad311.off + (i276).toNat * 56 + 1) fa202_1 rfl rfl) rfl ?_
                  refine WL.val (R.fieldAddr (o := ad311.off + (i276).toNat * 56 + 1) (o' := ad311.off + (i276).toNat * 56 + 1) fa58_0 rfl rfl) rfl ?_
                  refine WL.val (R.loadL (v := Value.int .i64 x304.cell.age) lf2 rfl (At.sub (a := ⟨ad311.block, ad311.off + (i276).toNat * 56, none⟩) (off := 1) (n := 1) (cs := encH x304) (ds := [Value.int .i64 x304.cell.age]) hat314 rfl rfl)) rfl ?_
                  have hd329 : ∀ w : World, (Instr.buildSlice 196 1 #[(0, Value.int .i64 x304.cell.age)]).run Try.prog w = .ok (.slice (some ⟨w.heap.size, 0, none⟩) 1 1) { w with heap := w.heap.push (.cells (List.toArray [Value.int .i64 x304.cell.age]) 2) } := fun _ => by kernel_rfl
                  refine WL.new (L' := fun b324 => [gsl 2 i64E (Value.slice a278 l277.length c279) l277, blk b324 2 [Value.int .i64 x304.cell.age]]) (f := fun b324 => Value.slice (some ⟨b324, 0, none⟩) 1 1) (X.buildSlice (c := [Value.int .i64 x304.cell.age]) (vs := [(0, Value.int .i64 x304.cell.age)]) (hs288.here) rfl hd329 (fun _ => rfl)) rfl ?_
                  intro b324 w325 ht331 he327 hz328
                  have hs332 := hs288.trans ht331
                  obtain ⟨hg333, h334⟩ := ckE (c := l277.length < 1000000) h323
                  refine WL.grow (L' := fun v335 => [gsl 2 i64E v335 (l277 ++ [x304.cell.age]), blk b324 2 [Value.int .i64 x304.cell.age]]) (X.append (i := 0) (e := i64E) (xs := l277) (ys := [x304.cell.age]) (ad := ⟨b324, 0, none⟩) (m := 1) (c := 1) (hs332.here) sl196 rfl rfl rfl rfl ((hs332.here).at (i := 1) (off := 0) (n := 1) (cs := flat i64E [x304.cell.age]) rfl rfl rfl) rfl rfl (room (n := 1) hg333 rfl (by decide)) (room63 (n := 1) hg333 rfl (by decide)) (fun _ => rfl)) rfl ?_
                  intro v335 w336 ht337
                  obtain ⟨a338, c339, hv340⟩ := gsl_sl (ht337.get (i := 0) rfl)
                  subst hv340
                  have hs341 := hs332.trans ht337
                  refine WL.val (R.assign (v := Value.slice a338 ((l277 ++ [x304.cell.age]).length) c339) rfl) rfl ?_
                  refine WL.nil ?_
                  refine blockN ?_
                  refine thenN ?_
                  refine WC.region ?_
                  refine WL.val (R.move (v := Value.int .i64 i276) (by exact s299)) rfl ?_
                  obtain ⟨hg342, h343⟩ := ckE (c := -9223372036854775808 ≤ i276 + 1 ∧ i276 + 1 ≤ 9223372036854775807) h334
                  refine WL.val (R.add (a := i276) (b := 1) (z := i276 + 1) rfl rfl (w64e rfl hg342.1 hg342.2)) rfl ?_
                  refine WL.val (R.assign (v := Value.int .i64 (i276 + 1)) rfl) rfl ?_
                  refine WL.nil ?_
                  have ht344 := (hs341.here).perm (L' := [gsl 2 i64E (Value.slice a338 ((l277 ++ [x304.cell.age]).length) c339) (l277 ++ [x304.cell.age])]) (G := [blk b324 2 [Value.int .i64 x304.cell.age]]) ((List.Perm.refl _))
                  have hs345 := hs341.trans ht344
                  have hr346 := elT ((ht331.trans ht337).trans ht344) he290
                  exact roundEnd (s := k289) ⟨i276 + 1, l277 ++ [x304.cell.age], a338, c339, s296, s297, rfl, rfl, hr346, h343, hs345⟩ (Nat.lt_succ_self _)
                · have h347 := ifF hc322 h321
                  refine WL.val (R.leqF (k := .i64) (a := x304.cell.age) (b := 1099511627776) un2 rfl rfl hc322) rfl ?_
                  refine WL.val (R.pickT (v := Value.bool false) rfl rfl) rfl ?_
                  refine WL.nil ?_
                  refine thenN ?_
                  refine WC.condF rfl rfl ?_
                  refine WC.skip ?_
                  refine blockN ?_
                  refine thenN ?_
                  refine WC.region ?_
                  refine WL.val (R.move (v := Value.int .i64 i276) (by exact s299)) rfl ?_
                  obtain ⟨hg348, h349⟩ := ckE (c := -9223372036854775808 ≤ i276 + 1 ∧ i276 + 1 ≤ 9223372036854775807) h347
                  refine WL.val (R.add (a := i276) (b := 1) (z := i276 + 1) rfl rfl (w64e rfl hg348.1 hg348.2)) rfl ?_
                  refine WL.val (R.assign (v := Value.int .i64 (i276 + 1)) rfl) rfl ?_
                  refine WL.nil ?_
                  exact roundEnd (s := k289) ⟨i276 + 1, l277, a278, c279, s296, s297, s298, rfl, he290, h349, hs288⟩ (Nat.lt_succ_self _)
              · have h350 := ifF hc320 h319
                refine WL.val (R.geqF (k := .i64) (a := x304.cell.age) (b := 0) un2 rfl rfl hc320) rfl ?_
                refine WL.val (R.pickT (v := Value.bool false) (Eq.trans (show _ = Value.bool x304.is from rfl) (congrArg Value.bool hc318)) rfl) rfl ?_
                refine WL.val (R.move (v := Value.bool false) rfl) rfl ?_
                refine WL.guardN (e := 43) (v := .bool false) rfl rfl rfl rfl ?_
                refine WL.guardN (e := 43) (v := .bool false) rfl rfl rfl rfl ?_
                refine WL.guardN (e := 43) (v := .bool false) rfl rfl rfl rfl ?_
                refine WL.guardN (e := 43) (v := .bool false) rfl rfl rfl rfl ?_
                refine WL.guardN (e := 43) (v := .bool false) rfl rfl rfl rfl ?_
                refine WL.guardN (e := 43) (v := .bool false) rfl rfl rfl rfl ?_
                refine WL.guardN (e := 43) (v := .bool false) rfl rfl rfl rfl ?_
                refine WL.val (R.pickF (v := Value.bool false) rfl rfl) rfl ?_
                refine WL.nil ?_
                refine thenN ?_
                refine WC.condF rfl rfl ?_
                refine WC.skip ?_
                refine blockN ?_
                refine thenN ?_
                refine WC.region ?_
                refine WL.val (R.move (v := Value.int .i64 i276) (by exact s299)) rfl ?_
                obtain ⟨hg351, h352⟩ := ckE (c := -9223372036854775808 ≤ i276 + 1 ∧ i276 + 1 ≤ 9223372036854775807) h350
                refine WL.val (R.add (a := i276) (b := 1) (z := i276 + 1) rfl rfl (w64e rfl hg351.1 hg351.2)) rfl ?_
                refine WL.val (R.assign (v := Value.int .i64 (i276 + 1)) rfl) rfl ?_
                refine WL.nil ?_
                exact roundEnd (s := k289) ⟨i276 + 1, l277, a278, c279, s296, s297, s298, rfl, he290, h352, hs288⟩ (Nat.lt_succ_self _)
            · have h353 := ifF hc318 h306
              refine WL.guardN (e := 34) (v := .bool false) (Eq.trans (show _ = Value.bool x304.is from rfl) (congrArg Value.bool (Bool.eq_false_iff.2 hc318))) rfl rfl rfl ?_
              refine WL.guardN (e := 34) (v := .bool false) (Eq.trans (show _ = Value.bool x304.is from rfl) (congrArg Value.bool (Bool.eq_false_iff.2 hc318))) rfl rfl rfl ?_
              refine WL.guardN (e := 34) (v := .bool false) (Eq.trans (show _ = Value.bool x304.is from rfl) (congrArg Value.bool (Bool.eq_false_iff.2 hc318))) rfl rfl rfl ?_
              refine WL.guardN (e := 34) (v := .bool false) (Eq.trans (show _ = Value.bool x304.is from rfl) (congrArg Value.bool (Bool.eq_false_iff.2 hc318))) rfl rfl rfl ?_
              refine WL.guardN (e := 34) (v := .bool false) (Eq.trans (show _ = Value.bool x304.is from rfl) (congrArg Value.bool (Bool.eq_false_iff.2 hc318))) rfl rfl rfl ?_
              refine WL.guardN (e := 34) (v := .bool false) (Eq.trans (show _ = Value.bool x304.is from rfl) (congrArg Value.bool (Bool.eq_false_iff.2 hc318))) rfl rfl rfl ?_
              refine WL.guardN (e := 34) (v := .bool false) (Eq.trans (show _ = Value.bool x304.is from rfl) (congrArg Value.bool (Bool.eq_false_iff.2 hc318))) rfl rfl rfl ?_
              refine WL.val (R.pickF (v := Value.bool false) (Eq.trans (show _ = Value.bool x304.is from rfl) (congrArg Value.bool (Bool.eq_false_iff.2 hc318))) rfl) rfl ?_
              refine WL.val (R.move (v := Value.bool false) rfl) rfl ?_
              refine WL.guardN (e := 43) (v := .bool false) rfl rfl rfl rfl ?_
              refine WL.guardN (e := 43) (v := .bool false) rfl rfl rfl rfl ?_
              refine WL.guardN (e := 43) (v := .bool false) rfl rfl rfl rfl ?_
              refine WL.guardN (e := 43) (v := .bool false) rfl rfl rfl rfl ?_
              refine WL.guardN (e := 43) (v := .bool false) rfl rfl rfl rfl ?_
              refine WL.guardN (e := 43) (v := .bool false) rfl rfl rfl rfl ?_
              refine WL.guardN (e := 43) (v := .bool false) rfl rfl rfl rfl ?_
              refine WL.val (R.pickF (v := Value.bool false) rfl rfl) rfl ?_
              refine WL.nil ?_
              refine thenN ?_
              refine WC.condF rfl rfl ?_
              refine WC.skip ?_
              refine blockN ?_
              refine thenN ?_
              refine WC.region ?_
              refine WL.val (R.move (v := Value.int .i64 i276) (by exact s299)) rfl ?_
              obtain ⟨hg354, h355⟩ := ckE (c := -9223372036854775808 ≤ i276 + 1 ∧ i276 + 1 ≤ 9223372036854775807) h353
              refine WL.val (R.add (a := i276) (b := 1) (z := i276 + 1) rfl rfl (w64e rfl hg354.1 hg354.2)) rfl ?_
              refine WL.val (R.assign (v := Value.int .i64 (i276 + 1)) rfl) rfl ?_
              refine WL.nil ?_
              exact roundEnd (s := k289) ⟨i276 + 1, l277, a278, c279, s296, s297, s298, rfl, he290, h355, hs288⟩ (Nat.lt_succ_self _)
          · have h356 := ifF hc302 h301
            refine WL.val (R.lssF (k := .i64) (a := i276) (b := ((p1.length : Nat) : Int)) un3 rfl rfl hc302) rfl ?_
            refine WL.val (R.pickT (v := Value.bool false) rfl rfl) rfl ?_
            refine WL.nil ?_
            refine thenN ?_
            refine WC.condF rfl rfl ?_
            refine WC.exit ?_
            refine thenE ?_
            refine thenE ?_
            refine blockHit ?_
            exact joinI ⟨l277, a278, c279, s296, s298, h356, hs288⟩
        · have h357 := ifF hc300 h295
          refine WL.val (R.lssF (k := .i64) (a := i276) (b := p0) un3 rfl rfl hc300) rfl ?_
          refine WL.val (R.move (v := Value.bool false) rfl) rfl ?_
          refine WL.guardN (e := 21) (v := .bool false) rfl rfl rfl rfl ?_
          refine WL.guardN (e := 21) (v := .bool false) rfl rfl rfl rfl ?_
          refine WL.guardN (e := 21) (v := .bool false) rfl rfl rfl rfl ?_
          refine WL.guardN (e := 21) (v := .bool false) rfl rfl rfl rfl ?_
          refine WL.val (R.pickF (v := Value.bool false) rfl rfl) rfl ?_
          refine WL.nil ?_
          refine thenN ?_
          refine WC.condF rfl rfl ?_
          refine WC.exit ?_
          refine thenE ?_
          refine thenE ?_
          refine blockHit ?_
          exact joinI ⟨l277, a278, c279, s296, s298, h357, hs288⟩
      · rintro σ293 w292 ⟨l280, a281, c282, s359, s360, h358, hs294⟩
        subst hK284
        refine thenN ?_
        refine WC.seq ?_
        refine WC.seq ?_
        refine WC.region ?_
        refine WL.val (R.move (v := Value.slice a281 l280.length c282) (by exact s360)) rfl ?_
        refine WL.val (R.len (a := a281) (n := l280.length) (c := c282) un196 rfl) rfl ?_
        refine WL.val (R.move (v := Value.int .i64 p0) (by exact s359)) rfl ?_
        obtain ⟨hg361, h362⟩ := ckE (c := -9223372036854775808 ≤ p0 - 1 ∧ p0 - 1 ≤ 9223372036854775807) h358
        refine WL.val (R.sub (a := p0) (b := 1) (z := p0 - 1) rfl rfl (w64e rfl hg361.1 hg361.2)) rfl ?_
        by_cases hc363 : ((l280.length : Nat) : Int) < (p0 - 1)
        · have h364 := ifT hc363 h362
          refine WL.val (R.lssT (k := .i64) (a := ((l280.length : Nat) : Int)) (b := p0 - 1) un3 rfl rfl hc363) rfl ?_
          refine WL.nil ?_
          refine thenN ?_
          refine WC.condT rfl rfl ?_
          refine WC.seq ?_
          refine WC.region ?_
          refine WL.val (R.assign (v := Value.int .i64 (-1)) rfl) rfl ?_
          refine WL.nil ?_
          refine thenN ?_
          refine WC.ret ?_
          have ht365 := (hs294.here).perm (L' := []) (G := [gsl 2 i64E (Value.slice a281 l280.length c282) l280]) ((List.Perm.refl _))
          have hs366 := hs294.trans ht365
          obtain rfl := Option.some.inj (show some (-1) = some r from h364)
          exact ret1 (P := Try.prog) (n := 118) (fn := Try.f96) (R := fun v w' => v = Value.int .i64 (-1) ∧ St [] w w' []) (t := 4) (v := Value.int .i64 (-1)) rfl rfl rfl ⟨rfl, hs366⟩
        · have h367 := ifF hc363 h362
          refine WL.val (R.lssF (k := .i64) (a := ((l280.length : Nat) : Int)) (b := p0 - 1) un3 rfl rfl hc363) rfl ?_
          refine WL.nil ?_
          refine thenN ?_
          refine WC.condF rfl rfl ?_
          refine WC.skip ?_
          refine thenN ?_
          refine WC.seq ?_
          refine WC.seq ?_
          refine WC.region ?_
          refine WL.val (R.assign (v := Value.int .i64 0) rfl) rfl ?_
          refine WL.nil ?_
          refine thenN ?_
          obtain ⟨K1018, hK1019, h1020⟩ := kE (G := fun K1018 => rcommon16_l2 l280 K1018 1000000 0) h367
          refine WC.join (fun σ1026 w1025 => K1018 () = some r ∧ St [] w w1025 []) ?_ ?_
          · refine WC.block ?_
            refine WC.loop (T := Nat) (fun k1024 σ1022 w1021 => ∃ i1017 : Int, σ1022 5 = (Value.slice a281 l280.length c282) ∧ σ1022 7 = (Value.int .i64 i1017) ∧ rcommon16_l2 l280 K1018 k1024 i1017 = some r ∧ St [] w w1021 [gsl 2 i64E (Value.slice a281 l280.length c282) l280]) (fun k1024 => k1024) 1000000 ⟨0, s360, rfl, h1020, hs294⟩ ?_
            rintro k1024 σ1022 w1021 ⟨i1017, s1029, s1030, h1028, hs1023⟩
            rcases k1024 with _ | k1024
            · rw [rcommon16_l2] at h1028; cases h1028
            rw [rcommon16_l2] at h1028
            refine WC.seq ?_
            refine WC.seq ?_
            refine WC.region ?_
            refine WL.val (R.move (v := Value.int .i64 i1017) (by exact s1030)) rfl ?_
            refine WL.val (R.move (v := Value.slice a281 l280.length c282) (by exact s1029)) rfl ?_
            refine WL.val (R.len (a := a281) (n := l280.length) (c := c282) un196 rfl) rfl ?_
            by_cases hc1031 : i1017 < ((l280.length : Nat) : Int)
            · have h1032 := ifT hc1031 h1028
              refine WL.val (R.lssT (k := .i64) (a := i1017) (b := ((l280.length : Nat) : Int)) un3 rfl rfl hc1031) rfl ?_
              refine WL.nil ?_
              refine thenN ?_
              refine WC.condT rfl rfl ?_
              refine WC.skip ?_
              refine thenN ?_
              refine WC.seq ?_
              refine WC.block ?_
              refine WC.seq ?_
              refine WC.region ?_
              refine WL.val (R.assign (v := Value.int .i64 0) rfl) rfl ?_
              refine WL.nil ?_
              refine thenN ?_
              refine WC.seq ?_
              refine WC.region ?_
              refine WL.val (R.assign (v := Value.int .i64 0) rfl) rfl ?_
              refine WL.nil ?_
              refine thenN ?_
              refine WC.seq ?_
              refine WC.seq ?_
              refine WC.region ?_
              refine WL.val (R.assign (v := Value.int .i64 0) rfl) rfl ?_
              refine WL.nil ?_
              refine thenN ?_
              obtain ⟨K1215, hK1216, h1217⟩ := kE (G := fun K1215 => rcommon16_l3 l280 i1017 K1215 1000000 0 0 0) h1032
              refine WC.join (fun σ1223 w1222 => ∃ i1213 : Int, ∃ i1214 : Int, σ1223 5 = (Value.slice a281 l280.length c282) ∧ σ1223 7 = (Value.int .i64 i1017) ∧ σ1223 8 = (Value.int .i64 i1213) ∧ σ1223 9 = (Value.int .i64 i1214) ∧ K1215 i1213 i1214 = some r ∧ St [] w w1222 [gsl 2 i64E (Value.slice a281 l280.length c282) l280]) ?_ ?_
              · refine WC.block ?_
                refine WC.loop (T := Nat) (fun k1221 σ1219 w1218 => ∃ i1210 : Int, ∃ i1211 : Int, ∃ i1212 : Int, σ1219 5 = (Value.slice a281 l280.length c282) ∧ σ1219 7 = (Value.int .i64 i1017) ∧ σ1219 8 = (Value.int .i64 i1210) ∧ σ1219 9 = (Value.int .i64 i1211) ∧ σ1219 10 = (Value.int .i64 i1212) ∧ rcommon16_l3 l280 i1017 K1215 k1221 i1210 i1211 i1212 = some r ∧ St [] w w1218 [gsl 2 i64E (Value.slice a281 l280.length c282) l280]) (fun k1221 => k1221) 1000000 ⟨0, 0, 0, s1029, s1030, rfl, rfl, rfl, h1217, hs1023⟩ ?_
                rintro k1221 σ1219 w1218 ⟨i1210, i1211, i1212, s1226, s1227, s1228, s1229, s1230, h1225, hs1220⟩
                rcases k1221 with _ | k1221
                · rw [rcommon16_l3] at h1225; cases h1225
                rw [rcommon16_l3] at h1225
                refine WC.seq ?_
                refine WC.seq ?_
                refine WC.region ?_
                refine WL.val (R.move (v := Value.int .i64 i1212) (by exact s1230)) rfl ?_
                refine WL.val (R.move (v := Value.slice a281 l280.length c282) (by exact s1226)) rfl ?_
                refine WL.val (R.len (a := a281) (n := l280.length) (c := c282) un196 rfl) rfl ?_
                by_cases hc1231 : i1212 < ((l280.length : Nat) : Int)
                · have h1232 := ifT hc1231 h1225
                  refine WL.val (R.lssT (k := .i64) (a := i1212) (b := ((l280.length : Nat) : Int)) un3 rfl rfl hc1231) rfl ?_
                  refine WL.nil ?_
                  refine thenN ?_
                  refine WC.condT rfl rfl ?_
                  refine WC.skip ?_
                  refine thenN ?_
                  refine WC.seq ?_
                  refine WC.block ?_
                  refine WC.seq ?_
                  refine WC.seq ?_
                  refine WC.drawE mixed (NP.then (NP.then (NP.block (NP.then (NP.then (NP.block (NP.join (NP.then (NP.block (NP.then (NP.then (NP.block (NP.join (NP.then NP.rq)))))))))))))) ?_
                  have ht1233 := (hs1220.here).ext (Ext.drew _)
                  have hs1234 := hs1220.trans ht1233
                  refine WE.take 0 rfl (by decide +kernel) (by decide +kernel) (by decide +kernel) (by decide +kernel) rfl rfl (fun wq hq => R.move (v := Value.slice a281 l280.length c282) (by exact s1226)) ?_
                  refine WE.take 1 rfl (by decide +kernel) (by decide +kernel) (by decide +kernel) (by decide +kernel) rfl rfl (fun wq hq => R.move (v := Value.int .i64 i1212) (by exact s1230)) ?_
                  obtain ⟨x1235, hx1236, h1237⟩ := ob (o := rd l280 i1212) h1232
                  obtain ⟨h01238, hx1239, hl1240, hm1241⟩ := rdE hx1236
                  obtain ⟨b1242, c1243, hv1244, _⟩ := hs1234.gslAt (i := 0) rfl hx1239
                  refine WE.take 2 rfl (by decide +kernel) (by decide +kernel) (by decide +kernel) (by decide +kernel) rfl rfl (fun wq hq => R.indexS (n := 1) (m := (i1212).toNat) (ad := ⟨b1242, 0, none⟩) (len := (l280).length) (cap := c1243) (z := i1212) un196 lf2.size (Eq.trans (show _ = Value.slice a281 l280.length c282 from rfl) hv1244) rfl rfl hm1241 hl1240 rfl) ?_
                  refine WE.take 3 rfl (by decide +kernel) (by decide +kernel) (by decide +kernel) (by decide +kernel) rfl rfl (fun wq hq => R.loadL (v := Value.int .i64 x1235) lf2 rfl ((hs1234.ext hq).gslAtV (i := 0) rfl hx1239 hv1244)) ?_
                  refine WE.take 4 rfl (by decide +kernel) (by decide +kernel) (by decide +kernel) (by decide +kernel) rfl rfl (fun wq hq => R.move (v := Value.slice a281 l280.length c282) (by exact s1226)) ?_
                  refine WE.take 5 rfl (by decide +kernel) (by decide +kernel) (by decide +kernel) (by decide +kernel) rfl rfl (fun wq hq => R.move (v := Value.int .i64 i1017) (by exact s1227)) ?_
                  obtain ⟨x1245, hx1246, h1247⟩ := ob (o := rd l280 i1017) h1237
                  obtain ⟨h01248, hx1249, hl1250, hm1251⟩ := rdE hx1246
                  obtain ⟨b1252, c1253, hv1254, _⟩ := hs1234.gslAt (i := 0) rfl hx1249
                  refine WE.take 6 rfl (by decide +kernel) (by decide +kernel) (by decide +kernel) (by decide +kernel) rfl rfl (fun wq hq => R.indexS (n := 1) (m := (i1017).toNat) (ad := ⟨b1252, 0, none⟩) (len := (l280).length) (cap := c1253) (z := i1017) un196 lf2.size (Eq.trans (show _ = Value.slice a281 l280.length c282 from rfl) hv1254) rfl rfl hm1251 hl1250 rfl) ?_
                  refine WE.take 7 rfl (by decide +kernel) (by decide +kernel) (by decide +kernel) (by decide +kernel) rfl rfl (fun wq hq => R.loadL (v := Value.int .i64 x1245) lf2 rfl ((hs1234.ext hq).gslAtV (i := 0) rfl hx1249 hv1254)) ?_
                  by_cases hc1255 : x1235 < x1245
                  · have h1256 := ifT hc1255 h1247
                    refine WE.take 8 rfl (by decide +kernel) (by decide +kernel) (by decide +kernel) (by decide +kernel) rfl rfl (fun wq hq => R.lssT (k := .i64) (a := x1235) (b := x1245) un2 rfl rfl hc1255) ?_
                    refine WE.done (by decide +kernel) ?_
                    refine thenN ?_
                    refine WC.condT rfl rfl ?_
                    refine WC.region ?_
                    refine WL.val (R.move (v := Value.int .i64 i1210) (by exact s1228)) rfl ?_
                    obtain ⟨hg1257, h1258⟩ := ckE (c := -9223372036854775808 ≤ i1210 + 1 ∧ i1210 + 1 ≤ 9223372036854775807) h1256
                    refine WL.val (R.add (a := i1210) (b := 1) (z := i1210 + 1) rfl rfl (w64e rfl hg1257.1 hg1257.2)) rfl ?_
                    refine WL.val (R.assign (v := Value.int .i64 (i1210 + 1)) rfl) rfl ?_
                    refine WL.nil ?_
                    refine thenN ?_
                    refine WC.seq ?_
                    refine WC.drawE mixed (NP.then (NP.block (NP.then (NP.then (NP.block (NP.join (NP.then (NP.block (NP.then (NP.then (NP.block (NP.join (NP.then NP.rq))))))))))))) ?_
                    have ht1259 := (hs1234.here).ext (Ext.drew _)
                    have hs1260 := hs1234.trans ht1259
                    refine WE.take 0 rfl (by decide +kernel) (by decide +kernel) (by decide +kernel) (by decide +kernel) rfl rfl (fun wq hq => R.move (v := Value.slice a281 l280.length c282) (by exact s1226)) ?_
                    refine WE.take 1 rfl (by decide +kernel) (by decide +kernel) (by decide +kernel) (by decide +kernel) rfl rfl (fun wq hq => R.move (v := Value.int .i64 i1212) (by exact s1230)) ?_
                    obtain ⟨x1261, hx1262, h1263⟩ := ob (o := rd l280 i1212) h1258
                    obtain ⟨h01264, hx1265, hl1266, hm1267⟩ := rdE hx1262
                    obtain ⟨b1268, c1269, hv1270, _⟩ := hs1260.gslAt (i := 0) rfl hx1265
                    refine WE.take 2 rfl (by decide +kernel) (by decide +kernel) (by decide +kernel) (by decide +kernel) rfl rfl (fun wq hq => R.indexS (n := 1) (m := (i1212).toNat) (ad := ⟨b1268, 0, none⟩) (len := (l280).length) (cap := c1269) (z := i1212) un196 lf2.size (Eq.trans (show _ = Value.slice a281 l280.length c282 from rfl) hv1270) rfl rfl hm1267 hl1266 rfl) ?_
                    refine WE.take 3 rfl (by decide +kernel) (by decide +kernel) (by decide +kernel) (by decide +kernel) rfl rfl (fun wq hq => R.loadL (v := Value.int .i64 x1261) lf2 rfl ((hs1260.ext hq).gslAtV (i := 0) rfl hx1265 hv1270)) ?_
                    refine WE.take 4 rfl (by decide +kernel) (by decide +kernel) (by decide +kernel) (by decide +kernel) rfl rfl (fun wq hq => R.move (v := Value.slice a281 l280.length c282) (by exact s1226)) ?_
                    refine WE.take 5 rfl (by decide +kernel) (by decide +kernel) (by decide +kernel) (by decide +kernel) rfl rfl (fun wq hq => R.move (v := Value.int .i64 i1017) (by exact s1227)) ?_
                    obtain ⟨x1271, hx1272, h1273⟩ := ob (o := rd l280 i1017) h1263
                    obtain ⟨h01274, hx1275, hl1276, hm1277⟩ := rdE hx1272
                    obtain ⟨b1278, c1279, hv1280, _⟩ := hs1260.gslAt (i := 0) rfl hx1275
                    refine WE.take 6 rfl (by decide +kernel) (by decide +kernel) (by decide +kernel) (by decide +kernel) rfl rfl (fun wq hq => R.indexS (n := 1) (m := (i1017).toNat) (ad := ⟨b1278, 0, none⟩) (len := (l280).length) (cap := c1279) (z := i1017) un196 lf2.size (Eq.trans (show _ = Value.slice a281 l280.length c282 from rfl) hv1280) rfl rfl hm1277 hl1276 rfl) ?_
                    refine WE.take 7 rfl (by decide +kernel) (by decide +kernel) (by decide +kernel) (by decide +kernel) rfl rfl (fun wq hq => R.loadL (v := Value.int .i64 x1271) lf2 rfl ((hs1260.ext hq).gslAtV (i := 0) rfl hx1275 hv1280)) ?_
                    by_cases hc1281 : x1261 = x1271
                    · have h1282 := ifT hc1281 h1273
                      refine WE.take 8 rfl (by decide +kernel) (by decide +kernel) (by decide +kernel) (by decide +kernel) rfl rfl (fun wq hq => R.eqlT (k := .i64) (a := x1261) (b := x1271) un2 rfl rfl hc1281) ?_
                      refine WE.done (by decide +kernel) ?_
                      refine thenN ?_
                      refine WC.condT rfl rfl ?_
                      refine WC.region ?_
                      refine WL.val (R.move (v := Value.int .i64 i1211) (by exact s1229)) rfl ?_
                      obtain ⟨hg1283, h1284⟩ := ckE (c := -9223372036854775808 ≤ i1211 + 1 ∧ i1211 + 1 ≤ 9223372036854775807) h1282
                      refine WL.val (R.add (a := i1211) (b := 1) (z := i1211 + 1) rfl rfl (w64e rfl hg1283.1 hg1283.2)) rfl ?_
                      refine WL.val (R.assign (v := Value.int .i64 (i1211 + 1)) rfl) rfl ?_
                      refine WL.nil ?_
                      refine blockN ?_
                      refine thenN ?_
                      refine WC.region ?_
                      refine WL.val (R.move (v := Value.int .i64 i1212) (by exact s1230)) rfl ?_
                      obtain ⟨hg1285, h1286⟩ := ckE (c := -9223372036854775808 ≤ i1212 + 1 ∧ i1212 + 1 ≤ 9223372036854775807) h1284
                      refine WL.val (R.add (a := i1212) (b := 1) (z := i1212 + 1) rfl rfl (w64e rfl hg1285.1 hg1285.2)) rfl ?_
                      refine WL.val (R.assign (v := Value.int .i64 (i1212 + 1)) rfl) rfl ?_
                      refine WL.nil ?_
                      exact roundEnd (s := k1221) ⟨i1210 + 1, i1211 + 1, i1212 + 1, s1226, s1227, rfl, rfl, rfl, h1286, hs1260⟩ (Nat.lt_succ_self _)
                    · have h1287 := ifF hc1281 h1273
                      refine WE.take 8 rfl (by decide +kernel) (by decide +kernel) (by decide +kernel) (by decide +kernel) rfl rfl (fun wq hq => R.eqlF (k := .i64) (a := x1261) (b := x1271) un2 rfl rfl hc1281) ?_
                      refine WE.done (by decide +kernel) ?_
                      refine thenN ?_
                      refine WC.condF rfl rfl ?_
                      refine WC.skip ?_
                      refine blockN ?_
                      refine thenN ?_
                      refine WC.region ?_
                      refine WL.val (R.move (v := Value.int .i64 i1212) (by exact s1230)) rfl ?_
                      obtain ⟨hg1288, h1289⟩ := ckE (c := -9223372036854775808 ≤ i1212 + 1 ∧ i1212 + 1 ≤ 9223372036854775807) h1287
                      refine WL.val (R.add (a := i1212) (b := 1) (z := i1212 + 1) rfl rfl (w64e rfl hg1288.1 hg1288.2)) rfl ?_
                      refine WL.val (R.assign (v := Value.int .i64 (i1212 + 1)) rfl) rfl ?_
                      refine WL.nil ?_
                      exact roundEnd (s := k1221) ⟨i1210 + 1, i1211, i1212 + 1, s1226, s1227, rfl, s1229, rfl, h1289, hs1260⟩ (Nat.lt_succ_self _)
                  · have h1290 := ifF hc1255 h1247
                    refine WE.take 8 rfl (by decide +kernel) (by decide +kernel) (by decide +kernel) (by decide +kernel) rfl rfl (fun wq hq => R.lssF (k := .i64) (a := x1235) (b := x1245) un2 rfl rfl hc1255) ?_
                    refine WE.done (by decide +kernel) ?_
                    refine thenN ?_
                    refine WC.condF rfl rfl ?_
                    refine WC.skip ?_
                    refine thenN ?_
                    refine WC.seq ?_
                    refine WC.drawE mixed (NP.then (NP.block (NP.then (NP.then (NP.block (NP.join (NP.then (NP.block (NP.then (NP.then (NP.block (NP.join (NP.then NP.rq))))))))))))) ?_
                    have ht1291 := (hs1234.here).ext (Ext.drew _)
                    have hs1292 := hs1234.trans ht1291
                    refine WE.take 0 rfl (by decide +kernel) (by decide +kernel) (by decide +kernel) (by decide +kernel) rfl rfl (fun wq hq => R.move (v := Value.slice a281 l280.length c282) (by exact s1226)) ?_
                    refine WE.take 1 rfl (by decide +kernel) (by decide +kernel) (by decide +kernel) (by decide +kernel) rfl rfl (fun wq hq => R.move (v := Value.int .i64 i1212) (by exact s1230)) ?_
                    obtain ⟨x1293, hx1294, h1295⟩ := ob (o := rd l280 i1212) h1290
                    obtain ⟨h01296, hx1297, hl1298, hm1299⟩ := rdE hx1294
                    obtain ⟨b1300, c1301, hv1302, _⟩ := hs1292.gslAt (i := 0) rfl hx1297
                    refine WE.take 2 rfl (by decide +kernel) (by decide +kernel) (by decide +kernel) (by decide +kernel) rfl rfl (fun wq hq => R.indexS (n := 1) (m := (i1212).toNat) (ad := ⟨b1300, 0, none⟩) (len := (l280).length) (cap := c1301) (z := i1212) un196 lf2.size (Eq.trans (show _ = Value.slice a281 l280.length c282 from rfl) hv1302) rfl rfl hm1299 hl1298 rfl) ?_
                    refine WE.take 3 rfl (by decide +kernel) (by decide +kernel) (by decide +kernel) (by decide +kernel) rfl rfl (fun wq hq => R.loadL (v := Value.int .i64 x1293) lf2 rfl ((hs1292.ext hq).gslAtV (i := 0) rfl hx1297 hv1302)) ?_
                    refine WE.take 4 rfl (by decide +kernel) (by decide +kernel) (by decide +kernel) (by decide +kernel) rfl rfl (fun wq hq => R.move (v := Value.slice a281 l280.length c282) (by exact s1226)) ?_
                    refine WE.take 5 rfl (by decide +kernel) (by decide +kernel) (by decide +kernel) (by decide +kernel) rfl rfl (fun wq hq => R.move (v := Value.int .i64 i1017) (by exact s1227)) ?_
                    obtain ⟨x1303, hx1304, h1305⟩ := ob (o := rd l280 i1017) h1295
                    obtain ⟨h01306, hx1307, hl1308, hm1309⟩ := rdE hx1304
                    obtain ⟨b1310, c1311, hv1312, _⟩ := hs1292.gslAt (i := 0) rfl hx1307
                    refine WE.take 6 rfl (by decide +kernel) (by decide +kernel) (by decide +kernel) (by decide +kernel) rfl rfl (fun wq hq => R.indexS (n := 1) (m := (i1017).toNat) (ad := ⟨b1310, 0, none⟩) (len := (l280).length) (cap := c1311) (z := i1017) un196 lf2.size (Eq.trans (show _ = Value.slice a281 l280.length c282 from rfl) hv1312) rfl rfl hm1309 hl1308 rfl) ?_
                    refine WE.take 7 rfl (by decide +kernel) (by decide +kernel) (by decide +kernel) (by decide +kernel) rfl rfl (fun wq hq => R.loadL (v := Value.int .i64 x1303) lf2 rfl ((hs1292.ext hq).gslAtV (i := 0) rfl hx1307 hv1312)) ?_
                    by_cases hc1313 : x1293 = x1303
                    · have h1314 := ifT hc1313 h1305
                      refine WE.take 8 rfl (by decide +kernel) (by decide +kernel) (by decide +kernel) (by decide +kernel) rfl rfl (fun wq hq => R.eqlT (k := .i64) (a := x1293) (b := x1303) un2 rfl rfl hc1313) ?_
                      refine WE.done (by decide +kernel) ?_
                      refine thenN ?_
                      refine WC.condT rfl rfl ?_
                      refine WC.region ?_
                      refine WL.val (R.move (v := Value.int .i64 i1211) (by exact s1229)) rfl ?_
                      obtain ⟨hg1315, h1316⟩ := ckE (c := -9223372036854775808 ≤ i1211 + 1 ∧ i1211 + 1 ≤ 9223372036854775807) h1314
                      refine WL.val (R.add (a := i1211) (b := 1) (z := i1211 + 1) rfl rfl (w64e rfl hg1315.1 hg1315.2)) rfl ?_
                      refine WL.val (R.assign (v := Value.int .i64 (i1211 + 1)) rfl) rfl ?_
                      refine WL.nil ?_
                      refine blockN ?_
                      refine thenN ?_
                      refine WC.region ?_
                      refine WL.val (R.move (v := Value.int .i64 i1212) (by exact s1230)) rfl ?_
                      obtain ⟨hg1317, h1318⟩ := ckE (c := -9223372036854775808 ≤ i1212 + 1 ∧ i1212 + 1 ≤ 9223372036854775807) h1316
                      refine WL.val (R.add (a := i1212) (b := 1) (z := i1212 + 1) rfl rfl (w64e rfl hg1317.1 hg1317.2)) rfl ?_
                      refine WL.val (R.assign (v := Value.int .i64 (i1212 + 1)) rfl) rfl ?_
                      refine WL.nil ?_
                      exact roundEnd (s := k1221) ⟨i1210, i1211 + 1, i1212 + 1, s1226, s1227, s1228, rfl, rfl, h1318, hs1292⟩ (Nat.lt_succ_self _)
                    · have h1319 := ifF hc1313 h1305
                      refine WE.take 8 rfl (by decide +kernel) (by decide +kernel) (by decide +kernel) (by decide +kernel) rfl rfl (fun wq hq => R.eqlF (k := .i64) (a := x1293) (b := x1303) un2 rfl rfl hc1313) ?_
                      refine WE.done (by decide +kernel) ?_
                      refine thenN ?_
                      refine WC.condF rfl rfl ?_
                      refine WC.skip ?_
                      refine blockN ?_
                      refine thenN ?_
                      refine WC.region ?_
                      refine WL.val (R.move (v := Value.int .i64 i1212) (by exact s1230)) rfl ?_
                      obtain ⟨hg1320, h1321⟩ := ckE (c := -9223372036854775808 ≤ i1212 + 1 ∧ i1212 + 1 ≤ 9223372036854775807) h1319
                      refine WL.val (R.add (a := i1212) (b := 1) (z := i1212 + 1) rfl rfl (w64e rfl hg1320.1 hg1320.2)) rfl ?_
                      refine WL.val (R.assign (v := Value.int .i64 (i1212 + 1)) rfl) rfl ?_
                      refine WL.nil ?_
                      exact roundEnd (s := k1221) ⟨i1210, i1211, i1212 + 1, s1226, s1227, s1228, s1229, rfl, h1321, hs1292⟩ (Nat.lt_succ_self _)
                · have h1322 := ifF hc1231 h1225
                  refine WL.val (R.lssF (k := .i64) (a := i1212) (b := ((l280.length : Nat) : Int)) un3 rfl rfl hc1231) rfl ?_
                  refine WL.nil ?_
                  refine thenN ?_
                  refine WC.condF rfl rfl ?_
                  refine WC.exit ?_
                  refine thenE ?_
                  refine thenE ?_
                  refine blockHit ?_
                  exact joinI ⟨i1210, i1211, s1226, s1227, s1228, s1229, h1322, hs1220⟩
              · rintro σ1223 w1222 ⟨i1213, i1214, s1324, s1325, s1326, s1327, h1323, hs1224⟩
                subst hK1216
                refine thenN ?_
                refine WC.seq ?_
                refine WC.region ?_
                refine WL.val (R.move (v := Value.slice a281 l280.length c282) (by exact s1324)) rfl ?_
                refine WL.val (R.len (a := a281) (n := l280.length) (c := c282) un196 rfl) rfl ?_
                obtain ⟨hg1328, h1329⟩ := ckE (c := -9223372036854775808 ≤ ((l280.length : Nat) : Int) - 1 ∧ ((l280.length : Nat) : Int) - 1 ≤ 9223372036854775807) h1323
                refine WL.val (R.sub (a := ((l280.length : Nat) : Int)) (b := 1) (z := ((l280.length : Nat) : Int) - 1) rfl rfl (w64e rfl hg1328.1 hg1328.2)) rfl ?_
                obtain ⟨hg1330, h1331⟩ := ckE (c := 0 ≤ ((l280.length : Nat) : Int) - 1 ∧ 0 < (2 : Int) ∧ (((l280.length : Nat) : Int) - 1 : Int) ≤ 9223372036854775807) h1329
                refine WL.val (R.quoG (a := ((l280.length : Nat) : Int) - 1) (b := 2) rfl rfl hg1330 (by decide)) rfl ?_
                refine WL.val (R.assign (v := Value.int .i64 ((((l280.length : Nat) : Int) - 1) / 2)) rfl) rfl ?_
                refine WL.nil ?_
                refine thenN ?_
                refine WC.seq ?_
                refine WC.region ?_
                refine WL.val (R.move (v := Value.int .i64 i1213) (by exact s1326)) rfl ?_
                refine WL.val (R.move (v := Value.int .i64 ((((l280.length : Nat) : Int) - 1) / 2)) rfl) rfl ?_
                by_cases hc1332 : i1213 ≤ ((((l280.length : Nat) : Int) - 1) / 2)
                · have h1333 := ifT hc1332 h1331
                  refine WL.val (R.leqT (k := .i64) (a := i1213) (b := (((l280.length : Nat) : Int) - 1) / 2) un3 rfl rfl hc1332) rfl ?_
                  refine WL.val (R.move (v := Value.bool true) rfl) rfl ?_
                  refine WL.guardY (e := 107) rfl rfl rfl ?_
                  refine WL.val (R.move (v := Value.int .i64 ((((l280.length : Nat) : Int) - 1) / 2)) rfl) rfl ?_
                  refine WL.guardY (e := 107) rfl rfl rfl ?_
                  refine WL.val (R.move (v := Value.int .i64 i1213) (by exact s1326)) rfl ?_
                  refine WL.guardY (e := 107) rfl rfl rfl ?_
                  refine WL.val (R.move (v := Value.int .i64 i1214) (by exact s1327)) rfl ?_
                  refine WL.guardY (e := 107) rfl rfl rfl ?_
                  obtain ⟨hg1334, h1335⟩ := ckE (c := -9223372036854775808 ≤ i1213 + i1214 ∧ i1213 + i1214 ≤ 9223372036854775807) h1333
                  refine WL.val (R.add (a := i1213) (b := i1214) (z := i1213 + i1214) rfl rfl (w64e rfl hg1334.1 hg1334.2)) rfl ?_
                  refine WL.guardY (e := 107) rfl rfl rfl ?_
                  by_cases hc1336 : ((((l280.length : Nat) : Int) - 1) / 2) < (i1213 + i1214)
                  · have h1337 := ifT hc1336 h1335
                    refine WL.val (R.lssT (k := .i64) (a := (((l280.length : Nat) : Int) - 1) / 2) (b := i1213 + i1214) un3 rfl rfl hc1336) rfl ?_
                    refine WL.val (R.pickT (v := Value.bool true) rfl rfl) rfl ?_
                    refine WL.nil ?_
                    refine thenN ?_
                    refine WC.condT rfl rfl ?_
                    refine WC.seq ?_
                    refine WC.region ?_
                    refine WL.val (R.move (v := Value.slice a281 l280.length c282) (by exact s1324)) rfl ?_
                    refine WL.val (R.move (v := Value.int .i64 i1017) (by exact s1325)) rfl ?_
                    obtain ⟨x1338, hx1339, h1340⟩ := ob (o := rd l280 i1017) h1337
                    obtain ⟨h01341, hx1342, hl1343, hm1344⟩ := rdE hx1339
                    obtain ⟨b1345, c1346, hv1347, _⟩ := hs1224.gslAt (i := 0) rfl hx1342
                    refine WL.val (R.indexS (n := 1) (m := (i1017).toNat) (ad := ⟨b1345, 0, none⟩) (len := (l280).length) (cap := c1346) (z := i1017) un196 lf2.size (Eq.trans (show _ = Value.slice a281 l280.length c282 from rfl) hv1347) rfl rfl hm1344 hl1343 rfl) rfl ?_
                    refine WL.val (R.loadL (v := Value.int .i64 x1338) lf2 rfl (hs1224.gslAtV (i := 0) rfl hx1342 hv1347)) rfl ?_
                    refine WL.val (R.assign (v := Value.int .i64 x1338) rfl) rfl ?_
                    refine WL.nil ?_
                    refine thenN ?_
                    refine WC.ret ?_
                    have ht1348 := (hs1224.here).perm (L' := []) (G := [gsl 2 i64E (Value.slice a281 l280.length c282) l280]) ((List.Perm.refl _))
                    have hs1349 := hs1224.trans ht1348
                    obtain rfl := Option.some.inj (show some x1338 = some r from h1340)
                    exact ret1 (P := Try.prog) (n := 118) (fn := Try.f96) (R := fun v w' => v = Value.int .i64 x1338 ∧ St [] w w' []) (t := 4) (v := Value.int .i64 x1338) rfl rfl rfl ⟨rfl, hs1349⟩
                  · have h1350 := ifF hc1336 h1335
                    refine WL.val (R.lssF (k := .i64) (a := (((l280.length : Nat) : Int) - 1) / 2) (b := i1213 + i1214) un3 rfl rfl hc1336) rfl ?_
                    refine WL.val (R.pickT (v := Value.bool false) rfl rfl) rfl ?_
                    refine WL.nil ?_
                    refine thenN ?_
                    refine WC.condF rfl rfl ?_
                    refine WC.skip ?_
                    refine blockN ?_
                    refine thenN ?_
                    refine WC.region ?_
                    refine WL.val (R.move (v := Value.int .i64 i1017) (by exact s1325)) rfl ?_
                    obtain ⟨hg1351, h1352⟩ := ckE (c := -9223372036854775808 ≤ i1017 + 1 ∧ i1017 + 1 ≤ 9223372036854775807) h1350
                    refine WL.val (R.add (a := i1017) (b := 1) (z := i1017 + 1) rfl rfl (w64e rfl hg1351.1 hg1351.2)) rfl ?_
                    refine WL.val (R.assign (v := Value.int .i64 (i1017 + 1)) rfl) rfl ?_
                    refine WL.nil ?_
                    exact roundEnd (s := k1024) ⟨i1017 + 1, s1324, rfl, h1352, hs1224⟩ (Nat.lt_succ_self _)
                · have h1353 := ifF hc1332 h1331
                  refine WL.val (R.leqF (k := .i64) (a := i1213) (b := (((l280.length : Nat) : Int) - 1) / 2) un3 rfl rfl hc1332) rfl ?_
                  refine WL.val (R.move (v := Value.bool false) rfl) rfl ?_
                  refine WL.guardN (e := 107) (v := .bool false) rfl rfl rfl rfl ?_
                  refine WL.guardN (e := 107) (v := .bool false) rfl rfl rfl rfl ?_
                  refine WL.guardN (e := 107) (v := .bool false) rfl rfl rfl rfl ?_
                  refine WL.guardN (e := 107) (v := .bool false) rfl rfl rfl rfl ?_
                  refine WL.guardN (e := 107) (v := .bool false) rfl rfl rfl rfl ?_
                  refine WL.val (R.pickF (v := Value.bool false) rfl rfl) rfl ?_
                  refine WL.nil ?_
                  refine thenN ?_
                  refine WC.condF rfl rfl ?_
                  refine WC.skip ?_
                  refine blockN ?_
                  refine thenN ?_
                  refine WC.region ?_
                  refine WL.val (R.move (v := Value.int .i64 i1017) (by exact s1325)) rfl ?_
                  obtain ⟨hg1354, h1355⟩ := ckE (c := -9223372036854775808 ≤ i1017 + 1 ∧ i1017 + 1 ≤ 9223372036854775807) h1353
                  refine WL.val (R.add (a := i1017) (b := 1) (z := i1017 + 1) rfl rfl (w64e rfl hg1354.1 hg1354.2)) rfl ?_
                  refine WL.val (R.assign (v := Value.int .i64 (i1017 + 1)) rfl) rfl ?_
                  refine WL.nil ?_
                  exact roundEnd (s := k1024) ⟨i1017 + 1, s1324, rfl, h1355, hs1224⟩ (Nat.lt_succ_self _)
            · have h1356 := ifF hc1031 h1028
              refine WL.val (R.lssF (k := .i64) (a := i1017) (b := ((l280.length : Nat) : Int)) un3 rfl rfl hc1031) rfl ?_
              refine WL.nil ?_
              refine thenN ?_
              refine WC.condF rfl rfl ?_
              refine WC.exit ?_
              refine thenE ?_
              refine thenE ?_
              refine blockHit ?_
              have ht1357 := (hs1023.here).perm (L' := []) (G := [gsl 2 i64E (Value.slice a281 l280.length c282) l280]) ((List.Perm.refl _))
              have hs1358 := hs1023.trans ht1357
              exact joinI ⟨h1356, hs1358⟩
          · rintro σ1026 w1025 ⟨h1359, hs1027⟩
            subst hK1019
            refine thenN ?_
            refine WC.seq ?_
            refine WC.region ?_
            refine WL.val (R.assign (v := Value.int .i64 (-1)) rfl) rfl ?_
            refine WL.nil ?_
            refine thenN ?_
            refine WC.ret ?_
            obtain rfl := Option.some.inj (show some (-1) = some r from h1359)
            exact ret1 (P := Try.prog) (n := 118) (fn := Try.f96) (R := fun v w' => v = Value.int .i64 (-1) ∧ St [] w w' []) (t := 4) (v := Value.int .i64 (-1)) rfl rfl rfl ⟨rfl, hs1027⟩

theorem rnew16_ok (w : World) (ok : Nat → Prop) (p0 : Int) {r : (Option (Int × (List Int))) × Int} (h : rnew16 p0 = some r) :
    Ret Try.prog 98 [Value.int .i64 p0] w (fun v w' => ∃ rp0, ∃ rL0, v = Value.tuple #[rp0, Value.int .i64 r.2] ∧ objR (fun (b : Nat) (d : Int × (List Int)) (L : List Ent) => ∃ ra1 : Option Addr, ∃ rc2 : Nat, L = [blk b 264 [Value.int .i64 d.1, Value.slice ra1 d.2.length rc2], gsl 2 i64E (Value.slice ra1 d.2.length rc2) d.2]) r.1 rp0 rL0 ∧ St [] w w' (rL0)) := by
  rw [rnew16] at h
  have hs100 : St [] w w [] := St.start w
  refine enter (n := 13) Try.func98 rfl rfl rfl ?_
  refine WC.seq ?_
  refine WC.region ?_
  refine WL.val (R.assign (v := Value.pointer none) rfl) rfl ?_
  refine WL.val (R.assign (v := Value.int .i64 0) rfl) rfl ?_
  refine WL.nil ?_
  refine thenN ?_
  refine WC.seq ?_
  refine WC.seq ?_
  refine WC.region ?_
  refine WL.val (R.move (v := Value.int .i64 p0) rfl) rfl ?_
  by_cases hc101 : p0 < 4
  · have h102 := ifT hc101 h
    refine WL.val (R.lssT (k := .i64) (a := p0) (b := 4) un3 rfl rfl hc101) rfl ?_
    refine WL.val (R.move (v := Value.bool true) rfl) rfl ?_
    refine WL.guardN (e := 6) (v := .bool true) rfl rfl rfl rfl ?_
    refine WL.guardN (e := 6) (v := .bool true) rfl rfl rfl rfl ?_
    refine WL.val (R.pickT (v := Value.bool true) rfl rfl) rfl ?_
    refine WL.nil ?_
    refine thenN ?_
    refine WC.condT rfl rfl ?_
    refine WC.seq ?_
    refine WC.region ?_
    refine WL.val (R.assign (v := Value.pointer none) rfl) rfl ?_
    refine WL.val (R.assign (v := Value.int .i64 1) rfl) rfl ?_
    refine WL.nil ?_
    refine thenN ?_
    refine WC.ret ?_
    obtain rfl := Option.some.inj (show some (none, 1) = some r from h102)
    exact ret2 (P := Try.prog) (n := 13) (fn := Try.f98) (R := fun v w' => ∃ rp0, ∃ rL0, v = Value.tuple #[rp0, Value.int .i64 (none, 1).2] ∧ objR (fun (b : Nat) (d : Int × (List Int)) (L : List Ent) => ∃ ra1 : Option Addr, ∃ rc2 : Nat, L = [blk b 264 [Value.int .i64 d.1, Value.slice ra1 d.2.length rc2], gsl 2 i64E (Value.slice ra1 d.2.length rc2) d.2]) (none, 1).1 rp0 rL0 ∧ St [] w w' (rL0)) (t := 2) (u := 3) (v := Value.pointer none) (v' := Value.int .i64 1) rfl rfl rfl rfl rfl ⟨(Value.pointer none), [], rfl, ⟨rfl, rfl⟩, hs100⟩
  · have h103 := ifF hc101 h
    refine WL.val (R.lssF (k := .i64) (a := p0) (b := 4) un3 rfl rfl hc101) rfl ?_
    refine WL.val (R.move (v := Value.bool false) rfl) rfl ?_
    refine WL.guardY (e := 6) rfl rfl rfl ?_
    refine WL.val (R.move (v := Value.int .i64 p0) rfl) rfl ?_
    refine WL.guardY (e := 6) rfl rfl rfl ?_
    by_cases hc104 : 16 < p0
    · have h105 := ifT hc104 h103
      refine WL.val (R.gtrT (k := .i64) (a := p0) (b := 16) un3 rfl rfl hc104) rfl ?_
      refine WL.val (R.pickF (v := Value.bool true) rfl rfl) rfl ?_
      refine WL.nil ?_
      refine thenN ?_
      refine WC.condT rfl rfl ?_
      refine WC.seq ?_
      refine WC.region ?_
      refine WL.val (R.assign (v := Value.pointer none) rfl) rfl ?_
      refine WL.val (R.assign (v := Value.int .i64 1) rfl) rfl ?_
      refine WL.nil ?_
      refine thenN ?_
      refine WC.ret ?_
      obtain rfl := Option.some.inj (show some (none, 1) = some r from h105)
      exact ret2 (P := Try.prog) (n := 13) (fn := Try.f98) (R := fun v w' => ∃ rp0, ∃ rL0, v = Value.tuple #[rp0, Value.int .i64 (none, 1).2] ∧ objR (fun (b : Nat) (d : Int × (List Int)) (L : List Ent) => ∃ ra1 : Option Addr, ∃ rc2 : Nat, L = [blk b 264 [Value.int .i64 d.1, Value.slice ra1 d.2.length rc2], gsl 2 i64E (Value.slice ra1 d.2.length rc2) d.2]) (none, 1).1 rp0 rL0 ∧ St [] w w' (rL0)) (t := 2) (u := 3) (v := Value.pointer none) (v' := Value.int .i64 1) rfl rfl rfl rfl rfl ⟨(Value.pointer none), [], rfl, ⟨rfl, rfl⟩, hs100⟩
    · have h106 := ifF hc104 h103
      refine WL.val (R.gtrF (k := .i64) (a := p0) (b := 16) un3 rfl rfl hc104) rfl ?_
      refine WL.val (R.pickF (v := Value.bool false) rfl rfl) rfl ?_
      refine WL.nil ?_
      refine thenN ?_
      refine WC.condF rfl rfl ?_
      refine WC.skip ?_
      refine thenN ?_
      refine WC.seq ?_
      refine WC.region ?_
      refine WL.val (R.move (v := Value.int .i64 p0) rfl) rfl ?_
      have hd107 : ∀ w, (Instr.build 264 #[(0, Value.int .i64 p0)]).run Try.prog w = .ok (Value.agg (List.toArray [Value.int .i64 p0, Value.slice none 0 0])) w := fun _ => by kernel_rfl
      refine WL.val (R.build (vs := [(0, Value.int .i64 p0)]) rfl hd107) rfl ?_
      refine WL.new (L' := fun b108 => [blk b108 264 [Value.int .i64 p0, Value.slice none 0 0]]) (f := fun b108 => Value.pointer (some ⟨b108, 0, none⟩)) (X.box (v := Value.agg (List.toArray [Value.int .i64 p0, Value.slice none 0 0])) (c := [Value.int .i64 p0, Value.slice none 0 0]) (hs100.here) rfl rfl (fun _ => rfl)) rfl ?_
      intro b108 w109 ht114 he111 hz112
      have hs115 := hs100.trans ht114
      refine WL.val (R.assign (v := Value.pointer (some ⟨b108, 0, none⟩)) rfl) rfl ?_
      refine WL.val (R.assign (v := Value.int .i64 0) rfl) rfl ?_
      refine WL.nil ?_
      refine thenN ?_
      refine WC.ret ?_
      have ht116 := (hs115.here).addNil 2 i64E rfl
      have hs118 := hs115.trans ht116
      obtain rfl := Option.some.inj (show some ((some (p0, ([] : List Int))), 0) = some r from h106)
      exact ret2 (P := Try.prog) (n := 13) (fn := Try.f98) (R := fun v w' => ∃ rp0, ∃ rL0, v = Value.tuple #[rp0, Value.int .i64 ((some (p0, ([] : List Int))), 0).2] ∧ objR (fun (b : Nat) (d : Int × (List Int)) (L : List Ent) => ∃ ra1 : Option Addr, ∃ rc2 : Nat, L = [blk b 264 [Value.int .i64 d.1, Value.slice ra1 d.2.length rc2], gsl 2 i64E (Value.slice ra1 d.2.length rc2) d.2]) ((some (p0, ([] : List Int))), 0).1 rp0 rL0 ∧ St [] w w' (rL0)) (t := 2) (u := 3) (v := Value.pointer (some ⟨b108, 0, none⟩)) (v' := Value.int .i64 0) rfl rfl rfl rfl rfl ⟨Value.pointer (some ⟨b108, 0, none⟩), _, rfl, ⟨_, rfl, none, 0, rfl⟩, hs118⟩

end Go.Proofs.Ytckcldimnelklaa
