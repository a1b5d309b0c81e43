/- words.Cell: four functions, one behind the other, over one cell; by hand. -/
import Derived.Test.YtckcldimnelklaaD13c
import Derived.Test.YtckcldimnelklaaW13aa
import Derived.Test.YtckcldimnelklaaLG
namespace Go.Proofs.Ytckcldimnelklaa
open Go
set_option linter.unusedVariables false
set_option linter.unusedSimpArgs false
set_option maxRecDepth 100000
set_option maxHeartbeats 4000000

theorem un240' : Try.prog.underlying 240 = some (.slice 1) := by kernel_rfl
theorem lf1' : LeafT Try.prog 1 := ⟨fun _ => by kernel_rfl, fun _ => by kernel_rfl⟩

theorem bo116' : Bodied Try.prog 116 := ⟨_, Try.func116, by decide +kernel, fun h => by cases h⟩
theorem bo117' : Bodied Try.prog 117 := ⟨_, Try.func117, by decide +kernel, fun h => by cases h⟩
theorem bo119' : Bodied Try.prog 119 := ⟨_, Try.func119, by decide +kernel, fun h => by cases h⟩
theorem bo120' : Bodied Try.prog 120 := ⟨_, Try.func120, by decide +kernel, fun h => by cases h⟩
def fnA (b1 : Nat) : List Value := [Value.func (.func 116) (List.toArray []) (List.toArray [Value.pointer (some ⟨b1, 0, none⟩)]), Value.func (.func 117) (List.toArray []) (List.toArray [Value.pointer (some ⟨b1, 0, none⟩)]), Value.func (.func 119) (List.toArray []) (List.toArray [Value.pointer (some ⟨b1, 0, none⟩)]), Value.func (.func 120) (List.toArray []) (List.toArray [Value.pointer (some ⟨b1, 0, none⟩)])]

theorem cell13_ok (w : World) (ok : Nat → Prop) (p0 : Cl) {r : Cl} (h : cell13 p0 = some r) :
    Ret Try.prog 73 [Value.agg (List.toArray (encC p0))] w (fun v w' => v = Value.agg (List.toArray (encC r)) ∧ St [] w w' []) := by
  have hs0 : St [] w w [] := St.start w
  refine enter (n := 19) Try.func73 rfl rfl rfl ?_
  refine WC.seq ?_
  refine WC.region ?_
  refine WL.new (L' := fun b1 => [blk b1 58 (encC p0)]) (f := fun b1 => Value.pointer (some ⟨b1, 0, none⟩)) (X.box (v := Value.agg (List.toArray (encC p0))) (c := encC p0) (hs0.here) rfl rfl (fun _ => rfl)) rfl ?_
  intro b1 w1 ht1 he1 hz1
  have hs1 := hs0.trans ht1
  refine WL.new (L' := fun b2 => [blk b1 58 (encC p0), blk b2 58 (encC Cl.zero)]) (f := fun b2 => Value.pointer (some ⟨b2, 0, none⟩)) (X.alloc (c := encC Cl.zero) (hs1.here) zr58 rfl (fun _ => rfl)) rfl ?_
  intro b2 w2 ht2 he2 hz2
  have hs2 := hs1.trans ht2
  refine WL.nil ?_
  refine thenN ?_
  refine WC.seq ?_
  refine WC.seq ?_
  refine WC.region ?_
  refine WL.val (R.makeFunc (vs := []) (us := [Value.pointer (some ⟨b1, 0, none⟩)]) rfl rfl) rfl ?_
  refine WL.val (R.makeFunc (vs := []) (us := [Value.pointer (some ⟨b1, 0, none⟩)]) rfl rfl) rfl ?_
  refine WL.val (R.makeFunc (vs := []) (us := [Value.pointer (some ⟨b1, 0, none⟩)]) rfl rfl) rfl ?_
  refine WL.val (R.makeFunc (vs := []) (us := [Value.pointer (some ⟨b1, 0, none⟩)]) rfl rfl) rfl ?_
  have hd9 : ∀ w : World, (Instr.buildSlice 240 4 (List.toArray [(0, Value.func (.func 116) (List.toArray []) (List.toArray [Value.pointer (some ⟨b1, 0, none⟩)])), (1, Value.func (.func 117) (List.toArray []) (List.toArray [Value.pointer (some ⟨b1, 0, none⟩)])), (2, Value.func (.func 119) (List.toArray []) (List.toArray [Value.pointer (some ⟨b1, 0, none⟩)])), (3, Value.func (.func 120) (List.toArray []) (List.toArray [Value.pointer (some ⟨b1, 0, none⟩)]))])).run Try.prog w = .ok (.slice (some ⟨w.heap.size, 0, none⟩) 4 4) { w with heap := w.heap.push (.cells (List.toArray (fnA b1)) 1) } := fun _ => by kernel_rfl
  refine WL.new (L' := fun b9 => [blk b1 58 (encC p0), blk b2 58 (encC Cl.zero), blk b9 1 (fnA b1)]) (f := fun b9 => Value.slice (some ⟨b9, 0, none⟩) 4 4) (X.buildSlice (c := fnA b1) (vs := [(0, Value.func (.func 116) (List.toArray []) (List.toArray [Value.pointer (some ⟨b1, 0, none⟩)])), (1, Value.func (.func 117) (List.toArray []) (List.toArray [Value.pointer (some ⟨b1, 0, none⟩)])), (2, Value.func (.func 119) (List.toArray []) (List.toArray [Value.pointer (some ⟨b1, 0, none⟩)])), (3, Value.func (.func 120) (List.toArray []) (List.toArray [Value.pointer (some ⟨b1, 0, none⟩)]))]) (hs2.here) rfl hd9 (fun _ => rfl)) rfl ?_
  intro b9 w9 ht9 he9 hz9
  have hs9 := hs2.trans ht9
  refine WL.val (R.len (a := some ⟨b9, 0, none⟩) (n := 4) (c := 4) un240' rfl) rfl ?_
  refine WL.val (R.move (v := Value.int .i64 0) rfl) rfl ?_
  refine WL.nil ?_
  refine thenN ?_
  refine WC.join (fun σ' w' => σ' 1 = Value.pointer (some ⟨b1, 0, none⟩) ∧ σ' 2 = Value.pointer (some ⟨b2, 0, none⟩) ∧ St [] w w' [blk b1 58 (encC r), blk b2 58 (encC Cl.zero), blk b9 1 (fnA b1)]) ?_ ?_
  · refine WC.block ?_
    refine WC.loop (T := Nat) (fun i σ' w' => ∃ c : Cl, i ≤ 4 ∧ σ' 1 = Value.pointer (some ⟨b1, 0, none⟩) ∧ σ' 2 = Value.pointer (some ⟨b2, 0, none⟩) ∧ σ' 9 = Value.slice (some ⟨b9, 0, none⟩) 4 4 ∧ σ' 10 = Value.int .i64 4 ∧ σ' 11 = Value.int .i64 ((i : Nat) : Int) ∧ cellT13 i c = some r ∧ St [] w w' [blk b1 58 (encC c), blk b2 58 (encC Cl.zero), blk b9 1 (fnA b1)]) (fun i => 5 - i) 0 ⟨p0, Nat.zero_le _, rfl, rfl, rfl, rfl, rfl, h, hs9⟩ ?_
    rintro i σ' w' ⟨c, hi, s1, s2, s9, s10, s11, hc, hs⟩
    refine WC.seq ?_
    refine WC.region ?_
    rcases i with _ | _ | _ | _ | _ | i
    · obtain ⟨y, hy, hc2⟩ := ob (o := c1_13 c) (f := cellT13 1) hc
      refine WL.val (R.lssT (k := .i64) (a := 0) (b := 4) un3 (by exact s11) (by exact s10) (by decide)) rfl ?_
      refine WL.nil ?_
      refine thenN ?_
      refine WC.seq ?_
      refine WC.condT rfl rfl ?_
      refine WC.skip ?_
      refine thenN ?_
      refine WC.seq ?_
      refine WC.block ?_
      refine WC.seq ?_
      refine WC.region ?_
      refine WL.val (R.indexS (n := 1) (m := 0) (a := some ⟨b9, 0, none⟩) (ad := ⟨b9, 0, none⟩) (len := 4) (cap := 4) (z := 0) un240' lf1'.size (by exact s9) rfl (by exact s11) rfl (by decide) rfl) rfl ?_
      refine WL.val (R.loadL (v := Value.func (.func 116) (List.toArray []) (List.toArray [Value.pointer (some ⟨b1, 0, none⟩)])) lf1' rfl (hs.at (i := 2) (off := 0) (n := 1) (cs := [Value.func (.func 116) (List.toArray []) (List.toArray [Value.pointer (some ⟨b1, 0, none⟩)])]) rfl rfl rfl)) rfl ?_
      refine WL.val (R.assign (v := Value.func (.func 116) (List.toArray []) (List.toArray [Value.pointer (some ⟨b1, 0, none⟩)])) rfl) rfl ?_
      refine WL.nil ?_
      refine thenN ?_
      refine WC.region ?_
      refine WL.val (R.move (v := Value.func (.func 116) (List.toArray []) (List.toArray [Value.pointer (some ⟨b1, 0, none⟩)])) rfl) rfl ?_
      refine WL.call (c1_13_ok _ (In ok w [] [blk b1 58 (encC c), blk b2 58 (encC Cl.zero), blk b9 1 (fnA b1)]) c b1 (In.outM (M := [blk b1 58 (encC c)]) (N := [blk b2 58 (encC Cl.zero), blk b9 1 (fnA b1)]) ((List.Perm.refl _))) (show St [blk b1 58 (encC c)] _ _ [blk b1 58 (encC c)] from St.ofM (M := [blk b1 58 (encC c)]) (N := [blk b2 58 (encC Cl.zero), blk b9 1 (fnA b1)]) hs ((List.Perm.refl _))) hy) (R.callF (fs := []) (vs := []) (caps := [Value.pointer (some ⟨b1, 0, none⟩)]) bo116' rfl rfl) rfl ?_
      rintro v' w4 ⟨rfl, ht3⟩
      have ht4 := hs.call (N := [blk b2 58 (encC Cl.zero), blk b9 1 (fnA b1)]) (M := [blk b1 58 (encC c)]) ((List.Perm.refl _)) ht3
      have hs4 := hs.trans ht4
      refine WL.nil ?_
      refine blockN ?_
      refine thenN ?_
      refine WC.region ?_
      refine WL.val (R.add (a := 0) (b := 1) (z := 1) (by exact s11) rfl (w64e rfl (by decide) (by decide))) rfl ?_
      refine WL.val (R.move (v := Value.int .i64 1) rfl) rfl ?_
      refine WL.nil ?_
      exact roundEnd (s := 1) ⟨y, by omega, s1, s2, s9, s10, rfl, hc2, hs4⟩ (by decide)
    · obtain ⟨y, hy, hc2⟩ := ob (o := c2_13 c) (f := cellT13 2) hc
      refine WL.val (R.lssT (k := .i64) (a := 1) (b := 4) un3 (by exact s11) (by exact s10) (by decide)) rfl ?_
      refine WL.nil ?_
      refine thenN ?_
      refine WC.seq ?_
      refine WC.condT rfl rfl ?_
      refine WC.skip ?_
      refine thenN ?_
      refine WC.seq ?_
      refine WC.block ?_
      refine WC.seq ?_
      refine WC.region ?_
      refine WL.val (R.indexS (n := 1) (m := 1) (a := some ⟨b9, 0, none⟩) (ad := ⟨b9, 0, none⟩) (len := 4) (cap := 4) (z := 1) un240' lf1'.size (by exact s9) rfl (by exact s11) rfl (by decide) rfl) rfl ?_
      refine WL.val (R.loadL (v := Value.func (.func 117) (List.toArray []) (List.toArray [Value.pointer (some ⟨b1, 0, none⟩)])) lf1' rfl (hs.at (i := 2) (off := 1) (n := 1) (cs := [Value.func (.func 117) (List.toArray []) (List.toArray [Value.pointer (some ⟨b1, 0, none⟩)])]) rfl rfl rfl)) rfl ?_
      refine WL.val (R.assign (v := Value.func (.func 117) (List.toArray []) (List.toArray [Value.pointer (some ⟨b1, 0, none⟩)])) rfl) rfl ?_
      refine WL.nil ?_
      refine thenN ?_
      refine WC.region ?_
      refine WL.val (R.move (v := Value.func (.func 117) (List.toArray []) (List.toArray [Value.pointer (some ⟨b1, 0, none⟩)])) rfl) rfl ?_
      refine WL.call (c2_13_ok _ (In ok w [] [blk b1 58 (encC c), blk b2 58 (encC Cl.zero), blk b9 1 (fnA b1)]) c b1 (In.outM (M := [blk b1 58 (encC c)]) (N := [blk b2 58 (encC Cl.zero), blk b9 1 (fnA b1)]) ((List.Perm.refl _))) (show St [blk b1 58 (encC c)] _ _ [blk b1 58 (encC c)] from St.ofM (M := [blk b1 58 (encC c)]) (N := [blk b2 58 (encC Cl.zero), blk b9 1 (fnA b1)]) hs ((List.Perm.refl _))) hy) (R.callF (fs := []) (vs := []) (caps := [Value.pointer (some ⟨b1, 0, none⟩)]) bo117' rfl rfl) rfl ?_
      rintro v' w4 ⟨rfl, ht3⟩
      have ht4 := hs.call (N := [blk b2 58 (encC Cl.zero), blk b9 1 (fnA b1)]) (M := [blk b1 58 (encC c)]) ((List.Perm.refl _)) ht3
      have hs4 := hs.trans ht4
      refine WL.nil ?_
      refine blockN ?_
      refine thenN ?_
      refine WC.region ?_
      refine WL.val (R.add (a := 1) (b := 1) (z := 2) (by exact s11) rfl (w64e rfl (by decide) (by decide))) rfl ?_
      refine WL.val (R.move (v := Value.int .i64 2) rfl) rfl ?_
      refine WL.nil ?_
      exact roundEnd (s := 2) ⟨y, by omega, s1, s2, s9, s10, rfl, hc2, hs4⟩ (by decide)
    · obtain ⟨y, hy, hc2⟩ := ob (o := c3_13 c) (f := cellT13 3) hc
      refine WL.val (R.lssT (k := .i64) (a := 2) (b := 4) un3 (by exact s11) (by exact s10) (by decide)) rfl ?_
      refine WL.nil ?_
      refine thenN ?_
      refine WC.seq ?_
      refine WC.condT rfl rfl ?_
      refine WC.skip ?_
      refine thenN ?_
      refine WC.seq ?_
      refine WC.block ?_
      refine WC.seq ?_
      refine WC.region ?_
      refine WL.val (R.indexS (n := 1) (m := 2) (a := some ⟨b9, 0, none⟩) (ad := ⟨b9, 0, none⟩) (len := 4) (cap := 4) (z := 2) un240' lf1'.size (by exact s9) rfl (by exact s11) rfl (by decide) rfl) rfl ?_
      refine WL.val (R.loadL (v := Value.func (.func 119) (List.toArray []) (List.toArray [Value.pointer (some ⟨b1, 0, none⟩)])) lf1' rfl (hs.at (i := 2) (off := 2) (n := 1) (cs := [Value.func (.func 119) (List.toArray []) (List.toArray [Value.pointer (some ⟨b1, 0, none⟩)])]) rfl rfl rfl)) rfl ?_
      refine WL.val (R.assign (v := Value.func (.func 119) (List.toArray []) (List.toArray [Value.pointer (some ⟨b1, 0, none⟩)])) rfl) rfl ?_
      refine WL.nil ?_
      refine thenN ?_
      refine WC.region ?_
      refine WL.val (R.move (v := Value.func (.func 119) (List.toArray []) (List.toArray [Value.pointer (some ⟨b1, 0, none⟩)])) rfl) rfl ?_
      refine WL.call (c3_13_ok _ (In ok w [] [blk b1 58 (encC c), blk b2 58 (encC Cl.zero), blk b9 1 (fnA b1)]) c b1 (In.outM (M := [blk b1 58 (encC c)]) (N := [blk b2 58 (encC Cl.zero), blk b9 1 (fnA b1)]) ((List.Perm.refl _))) (show St [blk b1 58 (encC c)] _ _ [blk b1 58 (encC c)] from St.ofM (M := [blk b1 58 (encC c)]) (N := [blk b2 58 (encC Cl.zero), blk b9 1 (fnA b1)]) hs ((List.Perm.refl _))) hy) (R.callF (fs := []) (vs := []) (caps := [Value.pointer (some ⟨b1, 0, none⟩)]) bo119' rfl rfl) rfl ?_
      rintro v' w4 ⟨rfl, ht3⟩
      have ht4 := hs.call (N := [blk b2 58 (encC Cl.zero), blk b9 1 (fnA b1)]) (M := [blk b1 58 (encC c)]) ((List.Perm.refl _)) ht3
      have hs4 := hs.trans ht4
      refine WL.nil ?_
      refine blockN ?_
      refine thenN ?_
      refine WC.region ?_
      refine WL.val (R.add (a := 2) (b := 1) (z := 3) (by exact s11) rfl (w64e rfl (by decide) (by decide))) rfl ?_
      refine WL.val (R.move (v := Value.int .i64 3) rfl) rfl ?_
      refine WL.nil ?_
      exact roundEnd (s := 3) ⟨y, by omega, s1, s2, s9, s10, rfl, hc2, hs4⟩ (by decide)
    · obtain ⟨y, hy, hc2⟩ := ob (o := c4_13 c) (f := cellT13 4) hc
      refine WL.val (R.lssT (k := .i64) (a := 3) (b := 4) un3 (by exact s11) (by exact s10) (by decide)) rfl ?_
      refine WL.nil ?_
      refine thenN ?_
      refine WC.seq ?_
      refine WC.condT rfl rfl ?_
      refine WC.skip ?_
      refine thenN ?_
      refine WC.seq ?_
      refine WC.block ?_
      refine WC.seq ?_
      refine WC.region ?_
      refine WL.val (R.indexS (n := 1) (m := 3) (a := some ⟨b9, 0, none⟩) (ad := ⟨b9, 0, none⟩) (len := 4) (cap := 4) (z := 3) un240' lf1'.size (by exact s9) rfl (by exact s11) rfl (by decide) rfl) rfl ?_
      refine WL.val (R.loadL (v := Value.func (.func 120) (List.toArray []) (List.toArray [Value.pointer (some ⟨b1, 0, none⟩)])) lf1' rfl (hs.at (i := 2) (off := 3) (n := 1) (cs := [Value.func (.func 120) (List.toArray []) (List.toArray [Value.pointer (some ⟨b1, 0, none⟩)])]) rfl rfl rfl)) rfl ?_
      refine WL.val (R.assign (v := Value.func (.func 120) (List.toArray []) (List.toArray [Value.pointer (some ⟨b1, 0, none⟩)])) rfl) rfl ?_
      refine WL.nil ?_
      refine thenN ?_
      refine WC.region ?_
      refine WL.val (R.move (v := Value.func (.func 120) (List.toArray []) (List.toArray [Value.pointer (some ⟨b1, 0, none⟩)])) rfl) rfl ?_
      refine WL.call (c4_13_ok _ (In ok w [] [blk b1 58 (encC c), blk b2 58 (encC Cl.zero), blk b9 1 (fnA b1)]) c b1 (In.outM (M := [blk b1 58 (encC c)]) (N := [blk b2 58 (encC Cl.zero), blk b9 1 (fnA b1)]) ((List.Perm.refl _))) (show St [blk b1 58 (encC c)] _ _ [blk b1 58 (encC c)] from St.ofM (M := [blk b1 58 (encC c)]) (N := [blk b2 58 (encC Cl.zero), blk b9 1 (fnA b1)]) hs ((List.Perm.refl _))) hy) (R.callF (fs := []) (vs := []) (caps := [Value.pointer (some ⟨b1, 0, none⟩)]) bo120' rfl rfl) rfl ?_
      rintro v' w4 ⟨rfl, ht3⟩
      have ht4 := hs.call (N := [blk b2 58 (encC Cl.zero), blk b9 1 (fnA b1)]) (M := [blk b1 58 (encC c)]) ((List.Perm.refl _)) ht3
      have hs4 := hs.trans ht4
      refine WL.nil ?_
      refine blockN ?_
      refine thenN ?_
      refine WC.region ?_
      refine WL.val (R.add (a := 3) (b := 1) (z := 4) (by exact s11) rfl (w64e rfl (by decide) (by decide))) rfl ?_
      refine WL.val (R.move (v := Value.int .i64 4) rfl) rfl ?_
      refine WL.nil ?_
      exact roundEnd (s := 4) ⟨y, by omega, s1, s2, s9, s10, rfl, hc2, hs4⟩ (by decide)
    · refine WL.val (R.lssF (k := .i64) (a := 4) (b := 4) un3 (by exact s11) (by exact s10) (by decide)) rfl ?_
      refine WL.nil ?_
      refine thenN ?_
      refine WC.seq ?_
      refine WC.condF rfl rfl ?_
      refine WC.exit ?_
      refine thenE ?_
      refine thenE ?_
      refine blockHit ?_
      obtain rfl := Option.some.inj (show some c = some r from hc)
      exact joinI ⟨s1, s2, hs⟩
    · exact absurd hi (by omega)
  · rintro σ' w' ⟨s1, s2, hs⟩
    refine thenN ?_
    refine WC.seq ?_
    refine WC.region ?_
    refine WL.val (R.loadA (cs := encC r) (n := 55) ag58 (by exact s1) (hs.at (i := 0) (off := 0) (n := 55) (cs := encC r) rfl rfl rfl) rfl) rfl ?_
    refine WL.sto (L' := [blk b1 58 (encC r), blk b2 58 (encC r), blk b9 1 (fnA b1)]) (X.store (i := 1) (n := 55) (b := b2) (off := 0) (c := encC Cl.zero) (U := 58) (vs := encC r) (v := Value.agg (List.toArray (encC r))) (c' := encC r) (hs.here) rfl ag58.size (by exact s2) rfl rfl rfl rfl rfl rfl rfl) rfl rfl ?_
    intro w7 ht7
    have hs7 := hs.trans ht7
    refine WL.nil ?_
    refine thenN ?_
    refine WC.ret ?_
    have hl8 := run_loadA (P := Try.prog) (n := 55) ag58 (hs7.at (i := 1) (off := 0) (n := 55) (cs := encC r) rfl rfl rfl) rfl
    have ht8 := (hs7.here).perm (L' := []) (G := [blk b1 58 (encC r), blk b2 58 (encC r), blk b9 1 (fnA b1)]) ((List.Perm.refl _))
    have hs8 := hs7.trans ht8
    exact retCell (P := Try.prog) (n := 19) (fn := Try.f73) (R := fun v w' => v = Value.agg (List.toArray (encC r)) ∧ St [] w w' []) (t := 2) (v := Value.agg (List.toArray (encC r))) rfl (by exact s2) rfl hl8 ⟨rfl, hs8⟩
end Go.Proofs.Ytckcldimnelklaa
