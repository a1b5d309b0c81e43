/- The functions come to what their twins answer: group 14v. -/
import Derived.Test.YtckcldimnelklaaW14la
import Derived.Test.YtckcldimnelklaaTP
import Derived.Test.YtckcldimnelklaaD14v
namespace Go.Proofs.Ytckcldimnelklaa
open Go
set_option linter.unusedVariables false
set_option linter.unusedSimpArgs false
set_option maxRecDepth 100000
set_option maxHeartbeats 4000000

theorem sayC14_ok (w : World) (ok : Nat → Prop) (q0 : Int × Int × Int × Bool × (List (((List Rw) × (List Rw)) × ((List Rw) × (List Rw))))) (p1 : Rw) (a1 : Option Addr) (c1 : Nat) (he1 : elems heldW w ok a1 p1.table) (hc1 : p1.table.length ≤ c1) (b0o0 : Nat) (a0o0 : Option Addr) (c0o0a : Nat) (rs0o0b : List (Raw 4)) (hq0 : readsL momU w ok q0.2.2.2.2 rs0o0b) (hok : ∀ b, ok b → out [blk b0o0 174 [Value.int .i64 q0.1, Value.int .i64 q0.2.1, Value.int .i64 q0.2.2.1, Value.bool q0.2.2.2.1, Value.slice a0o0 q0.2.2.2.2.length c0o0a], gsl 249 (rawE 4) (Value.slice a0o0 q0.2.2.2.2.length c0o0a) rs0o0b] b) (hL : St [blk b0o0 174 [Value.int .i64 q0.1, Value.int .i64 q0.2.1, Value.int .i64 q0.2.2.1, Value.bool q0.2.2.2.1, Value.slice a0o0 q0.2.2.2.2.length c0o0a], gsl 249 (rawE 4) (Value.slice a0o0 q0.2.2.2.2.length c0o0a) rs0o0b] w w [blk b0o0 174 [Value.int .i64 q0.1, Value.int .i64 q0.2.1, Value.int .i64 q0.2.2.1, Value.bool q0.2.2.2.1, Value.slice a0o0 q0.2.2.2.2.length c0o0a], gsl 249 (rawE 4) (Value.slice a0o0 q0.2.2.2.2.length c0o0a) rs0o0b]) {r : (List Rw) × (List Rw) × (Int × Int × Int × Bool × (List (((List Rw) × (List Rw)) × ((List Rw) × (List Rw)))))} (h : sayC14 q0 p1 = some r) :
    Ret Try.prog 83 [Value.pointer (some ⟨b0o0, 0, none⟩), Value.agg (List.toArray (encR p1 (Value.slice a1 p1.table.length c1)))] w (fun v w' => ∃ ra0, ∃ rc0, ∃ ra1, ∃ rc1, ∃ rza1, ∃ rzc2, ∃ rzrs3, v = Value.tuple #[Value.agg (List.toArray [Value.slice ra0 r.1.length rc0]), Value.agg (List.toArray [Value.slice ra1 r.2.1.length rc1])] ∧ readsL momU w' (In ok w [blk b0o0 174 [Value.int .i64 q0.1, Value.int .i64 q0.2.1, Value.int .i64 q0.2.2.1, Value.bool q0.2.2.2.1, Value.slice a0o0 q0.2.2.2.2.length c0o0a], gsl 249 (rawE 4) (Value.slice a0o0 q0.2.2.2.2.length c0o0a) rs0o0b] [blk b0o0 174 [Value.int .i64 r.2.2.1, Value.int .i64 r.2.2.2.1, Value.int .i64 r.2.2.2.2.1, Value.bool r.2.2.2.2.2.1, Value.slice rza1 r.2.2.2.2.2.2.length rzc2], gsl 249 (rawE 4) (Value.slice rza1 r.2.2.2.2.2.2.length rzc2) rzrs3]) r.2.2.2.2.2.2 rzrs3 ∧ r.1.length ≤ rc0 ∧ elems rowW w' (In ok w [blk b0o0 174 [Value.int .i64 q0.1, Value.int .i64 q0.2.1, Value.int .i64 q0.2.2.1, Value.bool q0.2.2.2.1, Value.slice a0o0 q0.2.2.2.2.length c0o0a], gsl 249 (rawE 4) (Value.slice a0o0 q0.2.2.2.2.length c0o0a) rs0o0b] [blk b0o0 174 [Value.int .i64 r.2.2.1, Value.int .i64 r.2.2.2.1, Value.int .i64 r.2.2.2.2.1, Value.bool r.2.2.2.2.2.1, Value.slice rza1 r.2.2.2.2.2.2.length rzc2], gsl 249 (rawE 4) (Value.slice rza1 r.2.2.2.2.2.2.length rzc2) rzrs3]) ra0 r.1 ∧ r.2.1.length ≤ rc1 ∧ elems rowW w' (In ok w [blk b0o0 174 [Value.int .i64 q0.1, Value.int .i64 q0.2.1, Value.int .i64 q0.2.2.1, Value.bool q0.2.2.2.1, Value.slice a0o0 q0.2.2.2.2.length c0o0a], gsl 249 (rawE 4) (Value.slice a0o0 q0.2.2.2.2.length c0o0a) rs0o0b] [blk b0o0 174 [Value.int .i64 r.2.2.1, Value.int .i64 r.2.2.2.1, Value.int .i64 r.2.2.2.2.1, Value.bool r.2.2.2.2.2.1, Value.slice rza1 r.2.2.2.2.2.2.length rzc2], gsl 249 (rawE 4) (Value.slice rza1 r.2.2.2.2.2.2.length rzc2) rzrs3]) ra1 r.2.1 ∧ St [blk b0o0 174 [Value.int .i64 q0.1, Value.int .i64 q0.2.1, Value.int .i64 q0.2.2.1, Value.bool q0.2.2.2.1, Value.slice a0o0 q0.2.2.2.2.length c0o0a], gsl 249 (rawE 4) (Value.slice a0o0 q0.2.2.2.2.length c0o0a) rs0o0b] w w' [blk b0o0 174 [Value.int .i64 r.2.2.1, Value.int .i64 r.2.2.2.1, Value.int .i64 r.2.2.2.2.1, Value.bool r.2.2.2.2.2.1, Value.slice rza1 r.2.2.2.2.2.2.length rzc2], gsl 249 (rawE 4) (Value.slice rza1 r.2.2.2.2.2.2.length rzc2) rzrs3]) := by
  rw [sayC14] at h
  have hs100 : St [blk b0o0 174 [Value.int .i64 q0.1, Value.int .i64 q0.2.1, Value.int .i64 q0.2.2.1, Value.bool q0.2.2.2.1, Value.slice a0o0 q0.2.2.2.2.length c0o0a], gsl 249 (rawE 4) (Value.slice a0o0 q0.2.2.2.2.length c0o0a) rs0o0b] w w [blk b0o0 174 [Value.int .i64 q0.1, Value.int .i64 q0.2.1, Value.int .i64 q0.2.2.1, Value.bool q0.2.2.2.1, Value.slice a0o0 q0.2.2.2.2.length c0o0a], gsl 249 (rawE 4) (Value.slice a0o0 q0.2.2.2.2.length c0o0a) rs0o0b] := hL
  have he1001 := el0 (L0 := [blk b0o0 174 [Value.int .i64 q0.1, Value.int .i64 q0.2.1, Value.int .i64 q0.2.2.1, Value.bool q0.2.2.2.1, Value.slice a0o0 q0.2.2.2.2.length c0o0a], gsl 249 (rawE 4) (Value.slice a0o0 q0.2.2.2.2.length c0o0a) rs0o0b]) hok he1
  have hr102 := rl0 (L0 := [blk b0o0 174 [Value.int .i64 q0.1, Value.int .i64 q0.2.1, Value.int .i64 q0.2.2.1, Value.bool q0.2.2.2.1, Value.slice a0o0 q0.2.2.2.2.length c0o0a], gsl 249 (rawE 4) (Value.slice a0o0 q0.2.2.2.2.length c0o0a) rs0o0b]) hok hq0
  refine enter (n := 73) Try.func83 rfl rfl rfl ?_
  refine WC.seq ?_
  refine WC.region ?_
  refine WL.new (L' := fun b104 => [blk b0o0 174 [Value.int .i64 q0.1, Value.int .i64 q0.2.1, Value.int .i64 q0.2.2.1, Value.bool q0.2.2.2.1, Value.slice a0o0 q0.2.2.2.2.length c0o0a], gsl 249 (rawE 4) (Value.slice a0o0 q0.2.2.2.2.length c0o0a) rs0o0b, blk b104 62 (encR p1 (Value.slice a1 p1.table.length c1))]) (f := fun b104 => Value.pointer (some ⟨b104, 0, none⟩)) (X.box (v := Value.agg (List.toArray (encR p1 (Value.slice a1 p1.table.length c1)))) (c := encR p1 (Value.slice a1 p1.table.length c1)) (hs100.here) rfl rfl (fun _ => rfl)) rfl ?_
  intro b104 w105 ht110 he107 hz108
  have hs111 := hs100.trans ht110
  refine WL.new (L' := fun b112 => [blk b0o0 174 [Value.int .i64 q0.1, Value.int .i64 q0.2.1, Value.int .i64 q0.2.2.1, Value.bool q0.2.2.2.1, Value.slice a0o0 q0.2.2.2.2.length c0o0a], gsl 249 (rawE 4) (Value.slice a0o0 q0.2.2.2.2.length c0o0a) rs0o0b, blk b104 62 (encR p1 (Value.slice a1 p1.table.length c1)), blk b112 25 [Value.slice none 0 0]]) (f := fun b112 => Value.pointer (some ⟨b112, 0, none⟩)) (X.alloc (c := [Value.slice none 0 0]) (hs111.here) zr25 rfl (fun _ => rfl)) rfl ?_
  intro b112 w113 ht118 he115 hz116
  have hs119 := hs111.trans ht118
  refine WL.new (L' := fun b120 => [blk b0o0 174 [Value.int .i64 q0.1, Value.int .i64 q0.2.1, Value.int .i64 q0.2.2.1, Value.bool q0.2.2.2.1, Value.slice a0o0 q0.2.2.2.2.length c0o0a], gsl 249 (rawE 4) (Value.slice a0o0 q0.2.2.2.2.length c0o0a) rs0o0b, blk b104 62 (encR p1 (Value.slice a1 p1.table.length c1)), blk b112 25 [Value.slice none 0 0], blk b120 25 [Value.slice none 0 0]]) (f := fun b120 => Value.pointer (some ⟨b120, 0, none⟩)) (X.alloc (c := [Value.slice none 0 0]) (hs119.here) zr25 rfl (fun _ => rfl)) rfl ?_
  intro b120 w121 ht126 he123 hz124
  have hs127 := hs119.trans ht126
  refine WL.nil ?_
  refine thenN ?_
  refine WC.seq ?_
  refine WC.seq ?_
  refine WC.region ?_
  refine WL.val (R.move (v := Value.pointer (some ⟨b0o0, 0, none⟩)) rfl) rfl ?_
  refine WL.val (R.ptrNil (a := ⟨b0o0, 0, none⟩) un151 rfl rfl) rfl ?_
  refine WL.val (R.move (v := Value.bool false) rfl) rfl ?_
  refine WL.guardY (e := 10) rfl rfl rfl ?_
  refine WL.val (R.move (v := Value.pointer (some ⟨b0o0, 0, none⟩)) rfl) rfl ?_
  refine WL.guardY (e := 10) rfl rfl rfl ?_
  refine WL.val (R.nilCheckP (a := ⟨b0o0, 0, none⟩) rfl) rfl ?_
  refine WL.guardY (e := 10) rfl rfl rfl ?_
  refine WL.val (R.fieldAddr (o := 0) (o' := 3) fa174_3 rfl rfl) rfl ?_
  refine WL.guardY (e := 10) rfl rfl rfl ?_
  refine WL.val (R.loadL (v := Value.bool q0.2.2.2.1) lf4 rfl (hs127.at (i := 0) (off := 3) (n := 1) (cs := [Value.bool q0.2.2.2.1]) rfl rfl rfl)) rfl ?_
  refine WL.guardY (e := 10) rfl rfl rfl ?_
  refine WL.val (R.not (b := q0.2.2.2.1) rfl) rfl ?_
  refine WL.val (R.pickF (v := Value.bool (!q0.2.2.2.1)) rfl rfl) rfl ?_
  refine WL.nil ?_
  refine thenN ?_
  by_cases hc128 : q0.2.2.2.1 = true
  · have h129 := ifT hc128 h
    have hk130 : (!q0.2.2.2.1) = false := by simp [hc128]
    refine WC.condF (Eq.trans (show _ = Value.bool (!q0.2.2.2.1) from rfl) (congrArg Value.bool hk130)) rfl ?_
    refine WC.skip ?_
    refine thenN ?_
    refine WC.seq ?_
    refine WC.region ?_
    cases h129
  · have h131 := ifF hc128 h
    have hk132 : (!q0.2.2.2.1) = true := by simp [hc128]
    refine WC.condT (Eq.trans (show _ = Value.bool (!q0.2.2.2.1) from rfl) (congrArg Value.bool hk132)) rfl ?_
    refine WC.seq ?_
    refine WC.drawM mixed (NP.then (NP.then NP.rq)) (fun x => St [blk b0o0 174 [Value.int .i64 q0.1, Value.int .i64 q0.2.1, Value.int .i64 q0.2.2.1, Value.bool q0.2.2.2.1, Value.slice a0o0 q0.2.2.2.2.length c0o0a], gsl 249 (rawE 4) (Value.slice a0o0 q0.2.2.2.2.length c0o0a) rs0o0b, blk b104 62 (encR p1 (Value.slice a1 p1.table.length c1)), blk b112 25 [Value.slice none 0 0], blk b120 25 [Value.slice none 0 0]] (w121).drew x [blk b0o0 174 [Value.int .i64 q0.1, Value.int .i64 q0.2.1, Value.int .i64 q0.2.2.1, Value.bool q0.2.2.2.1, Value.slice a0o0 q0.2.2.2.2.length c0o0a], gsl 249 (rawE 4) (Value.slice a0o0 q0.2.2.2.2.length c0o0a) rs0o0b, blk b104 62 (encR p1 (Value.slice a1 p1.table.length c1)), blk b112 25 [Value.slice none 0 0], blk b120 25 [Value.slice none 0 0]]) ?_
    have ht133 := (hs127.here).ext (Ext.drew _)
    have hs134 := hs127.trans ht133
    have hS135 : (fun x => St [blk b0o0 174 [Value.int .i64 q0.1, Value.int .i64 q0.2.1, Value.int .i64 q0.2.2.1, Value.bool q0.2.2.2.1, Value.slice a0o0 q0.2.2.2.2.length c0o0a], gsl 249 (rawE 4) (Value.slice a0o0 q0.2.2.2.2.length c0o0a) rs0o0b, blk b104 62 (encR p1 (Value.slice a1 p1.table.length c1)), blk b112 25 [Value.slice none 0 0], blk b120 25 [Value.slice none 0 0]] (w121).drew x [blk b0o0 174 [Value.int .i64 q0.1, Value.int .i64 q0.2.1, Value.int .i64 q0.2.2.1, Value.bool q0.2.2.2.1, Value.slice a0o0 q0.2.2.2.2.length c0o0a], gsl 249 (rawE 4) (Value.slice a0o0 q0.2.2.2.2.length c0o0a) rs0o0b, blk b104 62 (encR p1 (Value.slice a1 p1.table.length c1)), blk b112 25 [Value.slice none 0 0], blk b120 25 [Value.slice none 0 0]]) ((w121).drew) := (hs134.here)
    refine WM.take 0 rfl (by decide +kernel) (by decide +kernel) (by decide +kernel) (by decide +kernel) rfl rfl (fun wq hq => (by have hq2 := hq; exact R.loadA (cs := [Value.slice none 0 0]) (n := 1) ag25 rfl ((hs134.trans hq2).at (i := 3) (off := 0) (n := 1) (cs := [Value.slice none 0 0]) rfl rfl rfl) rfl)) hS135 ?_
    refine WM.take 1 rfl (by decide +kernel) (by decide +kernel) (by decide +kernel) (by decide +kernel) rfl rfl (fun wq hq => (by have hq2 := hq; exact R.loadA (cs := [Value.slice none 0 0]) (n := 1) ag25 rfl ((hs134.trans hq2).at (i := 4) (off := 0) (n := 1) (cs := [Value.slice none 0 0]) rfl rfl rfl) rfl)) hS135 ?_
    refine WM.stoS (L' := [blk b0o0 174 [Value.int .i64 q0.1, Value.int .i64 q0.2.1, Value.int .i64 q0.2.2.1, Value.bool q0.2.2.2.1, Value.slice a0o0 q0.2.2.2.2.length c0o0a], gsl 249 (rawE 4) (Value.slice a0o0 q0.2.2.2.2.length c0o0a) rs0o0b, blk b104 62 (encR p1 (Value.slice a1 p1.table.length c1)), blk b112 25 [Value.slice none 0 0], blk b120 25 [Value.slice none 0 0]]) 2 (by decide +kernel) rfl rfl rfl rfl (X.store (i := 3) (n := 1) (b := b112) (off := 0) (c := [Value.slice none 0 0]) (U := 25) (vs := [Value.slice none 0 0]) (v := Value.agg (List.toArray [Value.slice none 0 0])) (c' := [Value.slice none 0 0]) (hs134.here) rfl ag25.size rfl rfl rfl rfl rfl rfl rfl rfl) (fun _ h => by exact hS135.trans h) ?_
    intro w136 ht137
    have hS138 : (fun x => St [blk b0o0 174 [Value.int .i64 q0.1, Value.int .i64 q0.2.1, Value.int .i64 q0.2.2.1, Value.bool q0.2.2.2.1, Value.slice a0o0 q0.2.2.2.2.length c0o0a], gsl 249 (rawE 4) (Value.slice a0o0 q0.2.2.2.2.length c0o0a) rs0o0b, blk b104 62 (encR p1 (Value.slice a1 p1.table.length c1)), blk b112 25 [Value.slice none 0 0], blk b120 25 [Value.slice none 0 0]] (w121).drew x [blk b0o0 174 [Value.int .i64 q0.1, Value.int .i64 q0.2.1, Value.int .i64 q0.2.2.1, Value.bool q0.2.2.2.1, Value.slice a0o0 q0.2.2.2.2.length c0o0a], gsl 249 (rawE 4) (Value.slice a0o0 q0.2.2.2.2.length c0o0a) rs0o0b, blk b104 62 (encR p1 (Value.slice a1 p1.table.length c1)), blk b112 25 [Value.slice none 0 0], blk b120 25 [Value.slice none 0 0]]) w136 := hS135.trans ht137
    have hs139 := hs134.trans ht137
    refine WM.stoS (L' := [blk b0o0 174 [Value.int .i64 q0.1, Value.int .i64 q0.2.1, Value.int .i64 q0.2.2.1, Value.bool q0.2.2.2.1, Value.slice a0o0 q0.2.2.2.2.length c0o0a], gsl 249 (rawE 4) (Value.slice a0o0 q0.2.2.2.2.length c0o0a) rs0o0b, blk b104 62 (encR p1 (Value.slice a1 p1.table.length c1)), blk b112 25 [Value.slice none 0 0], blk b120 25 [Value.slice none 0 0]]) 3 (by decide +kernel) rfl rfl rfl rfl (X.store (i := 4) (n := 1) (b := b120) (off := 0) (c := [Value.slice none 0 0]) (U := 25) (vs := [Value.slice none 0 0]) (v := Value.agg (List.toArray [Value.slice none 0 0])) (c' := [Value.slice none 0 0]) (hs139.here) rfl ag25.size rfl rfl rfl rfl rfl rfl rfl rfl) (fun _ h => by exact hS138.trans h) ?_
    intro w140 ht141
    have hS142 : (fun x => St [blk b0o0 174 [Value.int .i64 q0.1, Value.int .i64 q0.2.1, Value.int .i64 q0.2.2.1, Value.bool q0.2.2.2.1, Value.slice a0o0 q0.2.2.2.2.length c0o0a], gsl 249 (rawE 4) (Value.slice a0o0 q0.2.2.2.2.length c0o0a) rs0o0b, blk b104 62 (encR p1 (Value.slice a1 p1.table.length c1)), blk b112 25 [Value.slice none 0 0], blk b120 25 [Value.slice none 0 0]] (w121).drew x [blk b0o0 174 [Value.int .i64 q0.1, Value.int .i64 q0.2.1, Value.int .i64 q0.2.2.1, Value.bool q0.2.2.2.1, Value.slice a0o0 q0.2.2.2.2.length c0o0a], gsl 249 (rawE 4) (Value.slice a0o0 q0.2.2.2.2.length c0o0a) rs0o0b, blk b104 62 (encR p1 (Value.slice a1 p1.table.length c1)), blk b112 25 [Value.slice none 0 0], blk b120 25 [Value.slice none 0 0]]) w140 := hS138.trans ht141
    have hs143 := hs139.trans ht141
    refine WM.done (by decide +kernel) ?_
    refine thenN ?_
    refine WC.ret ?_
    have hl144 := run_loadA (P := Try.prog) (n := 1) ag25 (hs143.at (i := 3) (off := 0) (n := 1) (cs := [Value.slice none 0 0]) rfl rfl rfl) rfl
    have hl145 := run_loadA (P := Try.prog) (n := 1) ag25 (hs143.at (i := 4) (off := 0) (n := 1) (cs := [Value.slice none 0 0]) rfl rfl rfl) rfl
    have ht146 := (hs143.here).perm (L' := [blk b0o0 174 [Value.int .i64 q0.1, Value.int .i64 q0.2.1, Value.int .i64 q0.2.2.1, Value.bool q0.2.2.2.1, Value.slice a0o0 q0.2.2.2.2.length c0o0a], gsl 249 (rawE 4) (Value.slice a0o0 q0.2.2.2.2.length c0o0a) rs0o0b]) (G := [blk b104 62 (encR p1 (Value.slice a1 p1.table.length c1)), blk b112 25 [Value.slice none 0 0], blk b120 25 [Value.slice none 0 0]]) ((List.Perm.refl _))
    have hs147 := hs143.trans ht146
    have hr148 := rlT ((((((ht110.trans ht118).trans ht126).trans ht133).trans ht137).trans ht141).trans ht146) hr102
    obtain rfl := Option.some.inj (show some ([], [], (q0.1, q0.2.1, q0.2.2.1, q0.2.2.2.1, q0.2.2.2.2)) = some r from h131)
    exact retCell2 (P := Try.prog) (n := 73) (fn := Try.f83) (R := fun v w' => ∃ ra0, ∃ rc0, ∃ ra1, ∃ rc1, ∃ rza1, ∃ rzc2, ∃ rzrs3, v = Value.tuple #[Value.agg (List.toArray [Value.slice ra0 ([], [], (q0.1, q0.2.1, q0.2.2.1, q0.2.2.2.1, q0.2.2.2.2)).1.length rc0]), Value.agg (List.toArray [Value.slice ra1 ([], [], (q0.1, q0.2.1, q0.2.2.1, q0.2.2.2.1, q0.2.2.2.2)).2.1.length rc1])] ∧ readsL momU w' (In ok w [blk b0o0 174 [Value.int .i64 q0.1, Value.int .i64 q0.2.1, Value.int .i64 q0.2.2.1, Value.bool q0.2.2.2.1, Value.slice a0o0 q0.2.2.2.2.length c0o0a], gsl 249 (rawE 4) (Value.slice a0o0 q0.2.2.2.2.length c0o0a) rs0o0b] [blk b0o0 174 [Value.int .i64 ([], [], (q0.1, q0.2.1, q0.2.2.1, q0.2.2.2.1, q0.2.2.2.2)).2.2.1, Value.int .i64 ([], [], (q0.1, q0.2.1, q0.2.2.1, q0.2.2.2.1, q0.2.2.2.2)).2.2.2.1, Value.int .i64 ([], [], (q0.1, q0.2.1, q0.2.2.1, q0.2.2.2.1, q0.2.2.2.2)).2.2.2.2.1, Value.bool ([], [], (q0.1, q0.2.1, q0.2.2.1, q0.2.2.2.1, q0.2.2.2.2)).2.2.2.2.2.1, Value.slice rza1 ([], [], (q0.1, q0.2.1, q0.2.2.1, q0.2.2.2.1, q0.2.2.2.2)).2.2.2.2.2.2.length rzc2], gsl 249 (rawE 4) (Value.slice rza1 ([], [], (q0.1, q0.2.1, q0.2.2.1, q0.2.2.2.1, q0.2.2.2.2)).2.2.2.2.2.2.length rzc2) rzrs3]) ([], [], (q0.1, q0.2.1, q0.2.2.1, q0.2.2.2.1, q0.2.2.2.2)).2.2.2.2.2.2 rzrs3 ∧ ([], [], (q0.1, q0.2.1, q0.2.2.1, q0.2.2.2.1, q0.2.2.2.2)).1.length ≤ rc0 ∧ elems rowW w' (In ok w [blk b0o0 174 [Value.int .i64 q0.1, Value.int .i64 q0.2.1, Value.int .i64 q0.2.2.1, Value.bool q0.2.2.2.1, Value.slice a0o0 q0.2.2.2.2.length c0o0a], gsl 249 (rawE 4) (Value.slice a0o0 q0.2.2.2.2.length c0o0a) rs0o0b] [blk b0o0 174 [Value.int .i64 ([], [], (q0.1, q0.2.1, q0.2.2.1, q0.2.2.2.1, q0.2.2.2.2)).2.2.1, Value.int .i64 ([], [], (q0.1, q0.2.1, q0.2.2.1, q0.2.2.2.1, q0.2.2.2.2)).2.2.2.1, Value.int .i64 ([], [], (q0.1, q0.2.1, q0.2.2.1, q0.2.2.2.1, q0.2.2.2.2)).2.2.2.2.1, Value.bool ([], [], (q0.1, q0.2.1, q0.2.2.1, q0.2.2.2.1, q0.2.2.2.2)).2.2.2.2.2.1, Value.slice rza1 ([], [], (q0.1, q0.2.1, q0.2.2.1, q0.2.2.2.1, q0.2.2.2.2)).2.2.2.2.2.2.length rzc2], gsl 249 (rawE 4) (Value.slice rza1 ([], [], (q0.1, q0.2.1, q0.2.2.1, q0.2.2.2.1, q0.2.2.2.2)).2.2.2.2.2.2.length rzc2) rzrs3]) ra0 ([], [], (q0.1, q0.2.1, q0.2.2.1, q0.2.2.2.1, q0.2.2.2.2)).1 ∧ ([], [], (q0.1, q0.2.1, q0.2.2.1, q0.2.2.2.1, q0.2.2.2.2)).2.1.length ≤ rc1 ∧ elems rowW w' (In ok w [blk b0o0 174 [Value.int .i64 q0.1, Value.int .i64 q0.2.1, Value.int .i64 q0.2.2.1, Value.bool q0.2.2.2.1, Value.slice a0o0 q0.2.2.2.2.length c0o0a], gsl 249 (rawE 4) (Value.slice a0o0 q0.2.2.2.2.length c0o0a) rs0o0b] [blk b0o0 174 [Value.int .i64 ([], [], (q0.1, q0.2.1, q0.2.2.1, q0.2.2.2.1, q0.2.2.2.2)).2.2.1, Value.int .i64 ([], [], (q0.1, q0.2.1, q0.2.2.1, q0.2.2.2.1, q0.2.2.2.2)).2.2.2.1, Value.int .i64 ([], [], (q0.1, q0.2.1, q0.2.2.1, q0.2.2.2.1, q0.2.2.2.2)).2.2.2.2.1, Value.bool ([], [], (q0.1, q0.2.1, q0.2.2.1, q0.2.2.2.1, q0.2.2.2.2)).2.2.2.2.2.1, Value.slice rza1 ([], [], (q0.1, q0.2.1, q0.2.2.1, q0.2.2.2.1, q0.2.2.2.2)).2.2.2.2.2.2.length rzc2], gsl 249 (rawE 4) (Value.slice rza1 ([], [], (q0.1, q0.2.1, q0.2.2.1, q0.2.2.2.1, q0.2.2.2.2)).2.2.2.2.2.2.length rzc2) rzrs3]) ra1 ([], [], (q0.1, q0.2.1, q0.2.2.1, q0.2.2.2.1, q0.2.2.2.2)).2.1 ∧ St [blk b0o0 174 [Value.int .i64 q0.1, Value.int .i64 q0.2.1, Value.int .i64 q0.2.2.1, Value.bool q0.2.2.2.1, Value.slice a0o0 q0.2.2.2.2.length c0o0a], gsl 249 (rawE 4) (Value.slice a0o0 q0.2.2.2.2.length c0o0a) rs0o0b] w w' [blk b0o0 174 [Value.int .i64 ([], [], (q0.1, q0.2.1, q0.2.2.1, q0.2.2.2.1, q0.2.2.2.2)).2.2.1, Value.int .i64 ([], [], (q0.1, q0.2.1, q0.2.2.1, q0.2.2.2.1, q0.2.2.2.2)).2.2.2.1, Value.int .i64 ([], [], (q0.1, q0.2.1, q0.2.2.1, q0.2.2.2.1, q0.2.2.2.2)).2.2.2.2.1, Value.bool ([], [], (q0.1, q0.2.1, q0.2.2.1, q0.2.2.2.1, q0.2.2.2.2)).2.2.2.2.2.1, Value.slice rza1 ([], [], (q0.1, q0.2.1, q0.2.2.1, q0.2.2.2.1, q0.2.2.2.2)).2.2.2.2.2.2.length rzc2], gsl 249 (rawE 4) (Value.slice rza1 ([], [], (q0.1, q0.2.1, q0.2.2.1, q0.2.2.2.1, q0.2.2.2.2)).2.2.2.2.2.2.length rzc2) rzrs3]) (t := 4) (u := 5) (v := Value.agg (List.toArray [Value.slice none 0 0])) (v' := Value.agg (List.toArray [Value.slice none 0 0])) rfl rfl rfl rfl rfl hl144 hl145 ⟨none, 0, none, 0, a0o0, c0o0a, rs0o0b, rfl, hr148, (Nat.le_refl _), elems_nil, (Nat.le_refl _), elems_nil, hs147⟩

theorem sayN14_ok (w : World) (ok : Nat → Prop) (p1 : Rw) (a1 : Option Addr) (c1 : Nat) (he1 : elems heldW w ok a1 p1.table) (hc1 : p1.table.length ≤ c1) {r : (List Rw) × (List Rw)} (h : sayN14 p1 = some r) :
    Ret Try.prog 83 [Value.pointer none, Value.agg (List.toArray (encR p1 (Value.slice a1 p1.table.length c1)))] w (fun v w' => ∃ ra0, ∃ rc0, ∃ ra1, ∃ rc1, v = Value.tuple #[Value.agg (List.toArray [Value.slice ra0 r.1.length rc0]), Value.agg (List.toArray [Value.slice ra1 r.2.length rc1])] ∧ r.1.length ≤ rc0 ∧ elems rowW w' (In ok w [] []) ra0 r.1 ∧ r.2.length ≤ rc1 ∧ elems rowW w' (In ok w [] []) ra1 r.2 ∧ St [] w w' []) := by
  rw [sayN14] at h
  have hs100 : St [] w w [] := St.start w
  have he1001 := el0 (L0 := []) (fun b _ => out_nil b) he1
  refine enter (n := 73) Try.func83 rfl rfl rfl ?_
  refine WC.seq ?_
  refine WC.region ?_
  refine WL.new (L' := fun b102 => [blk b102 62 (encR p1 (Value.slice a1 p1.table.length c1))]) (f := fun b102 => Value.pointer (some ⟨b102, 0, none⟩)) (X.box (v := Value.agg (List.toArray (encR p1 (Value.slice a1 p1.table.length c1)))) (c := encR p1 (Value.slice a1 p1.table.length c1)) (hs100.here) rfl rfl (fun _ => rfl)) rfl ?_
  intro b102 w103 ht108 he105 hz106
  have hs109 := hs100.trans ht108
  refine WL.new (L' := fun b110 => [blk b102 62 (encR p1 (Value.slice a1 p1.table.length c1)), blk b110 25 [Value.slice none 0 0]]) (f := fun b110 => Value.pointer (some ⟨b110, 0, none⟩)) (X.alloc (c := [Value.slice none 0 0]) (hs109.here) zr25 rfl (fun _ => rfl)) rfl ?_
  intro b110 w111 ht116 he113 hz114
  have hs117 := hs109.trans ht116
  refine WL.new (L' := fun b118 => [blk b102 62 (encR p1 (Value.slice a1 p1.table.length c1)), blk b110 25 [Value.slice none 0 0], blk b118 25 [Value.slice none 0 0]]) (f := fun b118 => Value.pointer (some ⟨b118, 0, none⟩)) (X.alloc (c := [Value.slice none 0 0]) (hs117.here) zr25 rfl (fun _ => rfl)) rfl ?_
  intro b118 w119 ht124 he121 hz122
  have hs125 := hs117.trans ht124
  refine WL.nil ?_
  refine thenN ?_
  refine WC.seq ?_
  refine WC.seq ?_
  refine WC.region ?_
  refine WL.val (R.move (v := Value.pointer none) rfl) rfl ?_
  refine WL.val (R.nilNil un151 rfl rfl) rfl ?_
  refine WL.val (R.move (v := Value.bool true) rfl) rfl ?_
  refine WL.guardN (e := 10) (v := .bool true) rfl rfl rfl rfl ?_
  refine WL.guardN (e := 10) (v := .bool true) rfl rfl rfl rfl ?_
  refine WL.guardN (e := 10) (v := .bool true) rfl rfl rfl rfl ?_
  refine WL.guardN (e := 10) (v := .bool true) rfl rfl rfl rfl ?_
  refine WL.guardN (e := 10) (v := .bool true) rfl rfl rfl rfl ?_
  refine WL.val (R.pickT (v := Value.bool true) rfl rfl) rfl ?_
  refine WL.nil ?_
  refine thenN ?_
  refine WC.condT rfl rfl ?_
  refine WC.seq ?_
  refine WC.drawM mixed (NP.then (NP.then NP.rq)) (fun x => St [blk b102 62 (encR p1 (Value.slice a1 p1.table.length c1)), blk b110 25 [Value.slice none 0 0], blk b118 25 [Value.slice none 0 0]] (w119).drew x [blk b102 62 (encR p1 (Value.slice a1 p1.table.length c1)), blk b110 25 [Value.slice none 0 0], blk b118 25 [Value.slice none 0 0]]) ?_
  have ht126 := (hs125.here).ext (Ext.drew _)
  have hs127 := hs125.trans ht126
  have hS128 : (fun x => St [blk b102 62 (encR p1 (Value.slice a1 p1.table.length c1)), blk b110 25 [Value.slice none 0 0], blk b118 25 [Value.slice none 0 0]] (w119).drew x [blk b102 62 (encR p1 (Value.slice a1 p1.table.length c1)), blk b110 25 [Value.slice none 0 0], blk b118 25 [Value.slice none 0 0]]) ((w119).drew) := (hs127.here)
  refine WM.take 0 rfl (by decide +kernel) (by decide +kernel) (by decide +kernel) (by decide +kernel) rfl rfl (fun wq hq => (by have hq2 := hq; exact R.loadA (cs := [Value.slice none 0 0]) (n := 1) ag25 rfl ((hs127.trans hq2).at (i := 1) (off := 0) (n := 1) (cs := [Value.slice none 0 0]) rfl rfl rfl) rfl)) hS128 ?_
  refine WM.take 1 rfl (by decide +kernel) (by decide +kernel) (by decide +kernel) (by decide +kernel) rfl rfl (fun wq hq => (by have hq2 := hq; exact R.loadA (cs := [Value.slice none 0 0]) (n := 1) ag25 rfl ((hs127.trans hq2).at (i := 2) (off := 0) (n := 1) (cs := [Value.slice none 0 0]) rfl rfl rfl) rfl)) hS128 ?_
  refine WM.stoS (L' := [blk b102 62 (encR p1 (Value.slice a1 p1.table.length c1)), blk b110 25 [Value.slice none 0 0], blk b118 25 [Value.slice none 0 0]]) 2 (by decide +kernel) rfl rfl rfl rfl (X.store (i := 1) (n := 1) (b := b110) (off := 0) (c := [Value.slice none 0 0]) (U := 25) (vs := [Value.slice none 0 0]) (v := Value.agg (List.toArray [Value.slice none 0 0])) (c' := [Value.slice none 0 0]) (hs127.here) rfl ag25.size rfl rfl rfl rfl rfl rfl rfl rfl) (fun _ h => by exact hS128.trans h) ?_
  intro w129 ht130
  have hS131 : (fun x => St [blk b102 62 (encR p1 (Value.slice a1 p1.table.length c1)), blk b110 25 [Value.slice none 0 0], blk b118 25 [Value.slice none 0 0]] (w119).drew x [blk b102 62 (encR p1 (Value.slice a1 p1.table.length c1)), blk b110 25 [Value.slice none 0 0], blk b118 25 [Value.slice none 0 0]]) w129 := hS128.trans ht130
  have hs132 := hs127.trans ht130
  refine WM.stoS (L' := [blk b102 62 (encR p1 (Value.slice a1 p1.table.length c1)), blk b110 25 [Value.slice none 0 0], blk b118 25 [Value.slice none 0 0]]) 3 (by decide +kernel) rfl rfl rfl rfl (X.store (i := 2) (n := 1) (b := b118) (off := 0) (c := [Value.slice none 0 0]) (U := 25) (vs := [Value.slice none 0 0]) (v := Value.agg (List.toArray [Value.slice none 0 0])) (c' := [Value.slice none 0 0]) (hs132.here) rfl ag25.size rfl rfl rfl rfl rfl rfl rfl rfl) (fun _ h => by exact hS131.trans h) ?_
  intro w133 ht134
  have hS135 : (fun x => St [blk b102 62 (encR p1 (Value.slice a1 p1.table.length c1)), blk b110 25 [Value.slice none 0 0], blk b118 25 [Value.slice none 0 0]] (w119).drew x [blk b102 62 (encR p1 (Value.slice a1 p1.table.length c1)), blk b110 25 [Value.slice none 0 0], blk b118 25 [Value.slice none 0 0]]) w133 := hS131.trans ht134
  have hs136 := hs132.trans ht134
  refine WM.done (by decide +kernel) ?_
  refine thenN ?_
  refine WC.ret ?_
  have hl137 := run_loadA (P := Try.prog) (n := 1) ag25 (hs136.at (i := 1) (off := 0) (n := 1) (cs := [Value.slice none 0 0]) rfl rfl rfl) rfl
  have hl138 := run_loadA (P := Try.prog) (n := 1) ag25 (hs136.at (i := 2) (off := 0) (n := 1) (cs := [Value.slice none 0 0]) rfl rfl rfl) rfl
  have ht139 := (hs136.here).perm (L' := []) (G := [blk b102 62 (encR p1 (Value.slice a1 p1.table.length c1)), blk b110 25 [Value.slice none 0 0], blk b118 25 [Value.slice none 0 0]]) ((List.Perm.refl _))
  have hs140 := hs136.trans ht139
  obtain rfl := Option.some.inj (show some ([], []) = some r from h)
  exact retCell2 (P := Try.prog) (n := 73) (fn := Try.f83) (R := fun v w' => ∃ ra0, ∃ rc0, ∃ ra1, ∃ rc1, v = Value.tuple #[Value.agg (List.toArray [Value.slice ra0 ([], []).1.length rc0]), Value.agg (List.toArray [Value.slice ra1 ([], []).2.length rc1])] ∧ ([], []).1.length ≤ rc0 ∧ elems rowW w' (In ok w [] []) ra0 ([], []).1 ∧ ([], []).2.length ≤ rc1 ∧ elems rowW w' (In ok w [] []) ra1 ([], []).2 ∧ St [] w w' []) (t := 4) (u := 5) (v := Value.agg (List.toArray [Value.slice none 0 0])) (v' := Value.agg (List.toArray [Value.slice none 0 0])) rfl rfl rfl rfl rfl hl137 hl138 ⟨none, 0, none, 0, rfl, (Nat.le_refl _), elems_nil, (Nat.le_refl _), elems_nil, hs140⟩

theorem hearN14_ok (w : World) (ok : Nat → Prop) (p1 : (List Rw) × (List Rw) × (List Rw) × (List Rw)) (a1 : Option Addr) (c1 : Nat) (he1 : elems rowW w ok a1 p1.1) (hc1 : p1.1.length ≤ c1) (a1a : Option Addr) (c1a : Nat) (he1a : elems rowW w ok a1a p1.2.1) (hc1a : p1.2.1.length ≤ c1a) (a1b : Option Addr) (c1b : Nat) (he1b : elems rowW w ok a1b p1.2.2.1) (hc1b : p1.2.2.1.length ≤ c1b) (a1c : Option Addr) (c1c : Nat) (he1c : elems rowW w ok a1c p1.2.2.2) (hc1c : p1.2.2.2.length ≤ c1c) {r : (List Rw)} (h : hearN14 p1 = some r) :
    Ret Try.prog 80 [Value.pointer none, Value.agg (List.toArray [Value.slice a1 p1.1.length c1, Value.slice a1a p1.2.1.length c1a, Value.slice a1b p1.2.2.1.length c1b, Value.slice a1c p1.2.2.2.length c1c])] w (fun v w' => ∃ ra0, ∃ rc0, v = Value.slice ra0 r.length rc0 ∧ r.length ≤ rc0 ∧ elems rowW w' (In ok w [] []) ra0 r ∧ St [] w w' []) := by
  rw [hearN14] at h
  have hs100 : St [] w w [] := St.start w
  have he1001 := el0 (L0 := []) (fun b _ => out_nil b) he1
  have he1001a := el0 (L0 := []) (fun b _ => out_nil b) he1a
  have he1001b := el0 (L0 := []) (fun b _ => out_nil b) he1b
  have he1001c := el0 (L0 := []) (fun b _ => out_nil b) he1c
  refine enter (n := 82) Try.func80 rfl rfl rfl ?_
  refine WC.seq ?_
  refine WC.region ?_
  refine WL.new (L' := fun b105 => [blk b105 151 [Value.pointer none]]) (f := fun b105 => Value.pointer (some ⟨b105, 0, none⟩)) (X.box (v := Value.pointer none) (c := [Value.pointer none]) (hs100.here) rfl rfl (fun _ => rfl)) rfl ?_
  intro b105 w106 ht111 he108 hz109
  have hs112 := hs100.trans ht111
  refine WL.new (L' := fun b113 => [blk b105 151 [Value.pointer none], blk b113 158 [Value.slice a1 p1.1.length c1, Value.slice a1a p1.2.1.length c1a, Value.slice a1b p1.2.2.1.length c1b, Value.slice a1c p1.2.2.2.length c1c]]) (f := fun b113 => Value.pointer (some ⟨b113, 0, none⟩)) (X.box (v := Value.agg (List.toArray [Value.slice a1 p1.1.length c1, Value.slice a1a p1.2.1.length c1a, Value.slice a1b p1.2.2.1.length c1b, Value.slice a1c p1.2.2.2.length c1c])) (c := [Value.slice a1 p1.1.length c1, Value.slice a1a p1.2.1.length c1a, Value.slice a1b p1.2.2.1.length c1b, Value.slice a1c p1.2.2.2.length c1c]) (hs112.here) rfl rfl (fun _ => rfl)) rfl ?_
  intro b113 w114 ht119 he116 hz117
  have hs120 := hs112.trans ht119
  refine WL.val (R.assign (v := Value.slice none 0 0) rfl) rfl ?_
  refine WL.nil ?_
  refine thenN ?_
  refine WC.seq ?_
  refine WC.seq ?_
  refine WC.region ?_
  refine WL.val (R.loadL (v := Value.pointer none) lf151 rfl (hs120.at (i := 0) (off := 0) (n := 1) (cs := [Value.pointer none]) rfl rfl rfl)) rfl ?_
  refine WL.val (R.nilNil un151 rfl rfl) rfl ?_
  refine WL.val (R.move (v := Value.bool true) rfl) rfl ?_
  refine WL.guardN (e := 11) (v := .bool true) rfl rfl rfl rfl ?_
  refine WL.guardN (e := 11) (v := .bool true) rfl rfl rfl rfl ?_
  refine WL.guardN (e := 11) (v := .bool true) rfl rfl rfl rfl ?_
  refine WL.guardN (e := 11) (v := .bool true) rfl rfl rfl rfl ?_
  refine WL.guardN (e := 11) (v := .bool true) rfl rfl rfl rfl ?_
  refine WL.val (R.pickT (v := Value.bool true) rfl rfl) rfl ?_
  refine WL.nil ?_
  refine thenN ?_
  refine WC.condT rfl rfl ?_
  refine WC.seq ?_
  refine WC.region ?_
  refine WL.val (R.assign (v := Value.slice none 0 0) rfl) rfl ?_
  refine WL.nil ?_
  refine thenN ?_
  refine WC.ret ?_
  have ht121 := (hs120.here).perm (L' := []) (G := [blk b105 151 [Value.pointer none], blk b113 158 [Value.slice a1 p1.1.length c1, Value.slice a1a p1.2.1.length c1a, Value.slice a1b p1.2.2.1.length c1b, Value.slice a1c p1.2.2.2.length c1c]]) ((List.Perm.refl _))
  have hs122 := hs120.trans ht121
  obtain rfl := Option.some.inj (show some [] = some r from h)
  exact ret1 (P := Try.prog) (n := 82) (fn := Try.f80) (R := fun v w' => ∃ ra0, ∃ rc0, v = Value.slice ra0 [].length rc0 ∧ [].length ≤ rc0 ∧ elems rowW w' (In ok w [] []) ra0 [] ∧ St [] w w' []) (t := 4) (v := Value.slice none 0 0) rfl rfl rfl ⟨none, 0, rfl, (Nat.le_refl _), elems_nil, hs122⟩

theorem hearV14_ok (w : World) (ok : Nat → Prop) (q0 : Int × Int × Int × Bool × (List (((List Rw) × (List Rw)) × ((List Rw) × (List Rw))))) (p1 : (List Rw) × (List Rw) × (List Rw) × (List Rw)) (a1 : Option Addr) (c1 : Nat) (he1 : elems rowW w ok a1 p1.1) (hc1 : p1.1.length ≤ c1) (a1a : Option Addr) (c1a : Nat) (he1a : elems rowW w ok a1a p1.2.1) (hc1a : p1.2.1.length ≤ c1a) (a1b : Option Addr) (c1b : Nat) (he1b : elems rowW w ok a1b p1.2.2.1) (hc1b : p1.2.2.1.length ≤ c1b) (a1c : Option Addr) (c1c : Nat) (he1c : elems rowW w ok a1c p1.2.2.2) (hc1c : p1.2.2.2.length ≤ c1c) (b0o0 : Nat) (a0o0 : Option Addr) (c0o0a : Nat) (rs0o0b : List (Raw 4)) (hq0 : readsL momU w ok q0.2.2.2.2 rs0o0b) (hok : ∀ b, ok b → out [blk b0o0 174 [Value.int .i64 q0.1, Value.int .i64 q0.2.1, Value.int .i64 q0.2.2.1, Value.bool q0.2.2.2.1, Value.slice a0o0 q0.2.2.2.2.length c0o0a], gsl 249 (rawE 4) (Value.slice a0o0 q0.2.2.2.2.length c0o0a) rs0o0b] b) (hL : St [blk b0o0 174 [Value.int .i64 q0.1, Value.int .i64 q0.2.1, Value.int .i64 q0.2.2.1, Value.bool q0.2.2.2.1, Value.slice a0o0 q0.2.2.2.2.length c0o0a], gsl 249 (rawE 4) (Value.slice a0o0 q0.2.2.2.2.length c0o0a) rs0o0b] w w [blk b0o0 174 [Value.int .i64 q0.1, Value.int .i64 q0.2.1, Value.int .i64 q0.2.2.1, Value.bool q0.2.2.2.1, Value.slice a0o0 q0.2.2.2.2.length c0o0a], gsl 249 (rawE 4) (Value.slice a0o0 q0.2.2.2.2.length c0o0a) rs0o0b]) {r : (List Rw) × (Int × Int × Int × Bool × (List (((List Rw) × (List Rw)) × ((List Rw) × (List Rw)))))} (h : hearV14 q0 p1 = some r) :
    Ret Try.prog 80 [Value.pointer (some ⟨b0o0, 0, none⟩), Value.agg (List.toArray [Value.slice a1 p1.1.length c1, Value.slice a1a p1.2.1.length c1a, Value.slice a1b p1.2.2.1.length c1b, Value.slice a1c p1.2.2.2.length c1c])] w (fun v w' => ∃ ra0, ∃ rc0, ∃ rza1, ∃ rzc2, ∃ rzrs3, v = Value.slice ra0 r.1.length rc0 ∧ readsL momU w' (In ok w [blk b0o0 174 [Value.int .i64 q0.1, Value.int .i64 q0.2.1, Value.int .i64 q0.2.2.1, Value.bool q0.2.2.2.1, Value.slice a0o0 q0.2.2.2.2.length c0o0a], gsl 249 (rawE 4) (Value.slice a0o0 q0.2.2.2.2.length c0o0a) rs0o0b] [blk b0o0 174 [Value.int .i64 r.2.1, Value.int .i64 r.2.2.1, Value.int .i64 r.2.2.2.1, Value.bool r.2.2.2.2.1, Value.slice rza1 r.2.2.2.2.2.length rzc2], gsl 249 (rawE 4) (Value.slice rza1 r.2.2.2.2.2.length rzc2) rzrs3]) r.2.2.2.2.2 rzrs3 ∧ r.1.length ≤ rc0 ∧ elems rowW w' (In ok w [blk b0o0 174 [Value.int .i64 q0.1, Value.int .i64 q0.2.1, Value.int .i64 q0.2.2.1, Value.bool q0.2.2.2.1, Value.slice a0o0 q0.2.2.2.2.length c0o0a], gsl 249 (rawE 4) (Value.slice a0o0 q0.2.2.2.2.length c0o0a) rs0o0b] [blk b0o0 174 [Value.int .i64 r.2.1, Value.int .i64 r.2.2.1, Value.int .i64 r.2.2.2.1, Value.bool r.2.2.2.2.1, Value.slice rza1 r.2.2.2.2.2.length rzc2], gsl 249 (rawE 4) (Value.slice rza1 r.2.2.2.2.2.length rzc2) rzrs3]) ra0 r.1 ∧ St [blk b0o0 174 [Value.int .i64 q0.1, Value.int .i64 q0.2.1, Value.int .i64 q0.2.2.1, Value.bool q0.2.2.2.1, Value.slice a0o0 q0.2.2.2.2.length c0o0a], gsl 249 (rawE 4) (Value.slice a0o0 q0.2.2.2.2.length c0o0a) rs0o0b] w w' [blk b0o0 174 [Value.int .i64 r.2.1, Value.int .i64 r.2.2.1, Value.int .i64 r.2.2.2.1, Value.bool r.2.2.2.2.1, Value.slice rza1 r.2.2.2.2.2.length rzc2], gsl 249 (rawE 4) (Value.slice rza1 r.2.2.2.2.2.length rzc2) rzrs3]) := by
  rw [hearV14] at h
  have hs100 : St [blk b0o0 174 [Value.int .i64 q0.1, Value.int .i64 q0.2.1, Value.int .i64 q0.2.2.1, Value.bool q0.2.2.2.1, Value.slice a0o0 q0.2.2.2.2.length c0o0a], gsl 249 (rawE 4) (Value.slice a0o0 q0.2.2.2.2.length c0o0a) rs0o0b] w w [blk b0o0 174 [Value.int .i64 q0.1, Value.int .i64 q0.2.1, Value.int .i64 q0.2.2.1, Value.bool q0.2.2.2.1, Value.slice a0o0 q0.2.2.2.2.length c0o0a], gsl 249 (rawE 4) (Value.slice a0o0 q0.2.2.2.2.length c0o0a) rs0o0b] := hL
  have he1001 := el0 (L0 := [blk b0o0 174 [Value.int .i64 q0.1, Value.int .i64 q0.2.1, Value.int .i64 q0.2.2.1, Value.bool q0.2.2.2.1, Value.slice a0o0 q0.2.2.2.2.length c0o0a], gsl 249 (rawE 4) (Value.slice a0o0 q0.2.2.2.2.length c0o0a) rs0o0b]) hok he1
  have he1001a := el0 (L0 := [blk b0o0 174 [Value.int .i64 q0.1, Value.int .i64 q0.2.1, Value.int .i64 q0.2.2.1, Value.bool q0.2.2.2.1, Value.slice a0o0 q0.2.2.2.2.length c0o0a], gsl 249 (rawE 4) (Value.slice a0o0 q0.2.2.2.2.length c0o0a) rs0o0b]) hok he1a
  have he1001b := el0 (L0 := [blk b0o0 174 [Value.int .i64 q0.1, Value.int .i64 q0.2.1, Value.int .i64 q0.2.2.1, Value.bool q0.2.2.2.1, Value.slice a0o0 q0.2.2.2.2.length c0o0a], gsl 249 (rawE 4) (Value.slice a0o0 q0.2.2.2.2.length c0o0a) rs0o0b]) hok he1b
  have he1001c := el0 (L0 := [blk b0o0 174 [Value.int .i64 q0.1, Value.int .i64 q0.2.1, Value.int .i64 q0.2.2.1, Value.bool q0.2.2.2.1, Value.slice a0o0 q0.2.2.2.2.length c0o0a], gsl 249 (rawE 4) (Value.slice a0o0 q0.2.2.2.2.length c0o0a) rs0o0b]) hok he1c
  have hr105 := rl0 (L0 := [blk b0o0 174 [Value.int .i64 q0.1, Value.int .i64 q0.2.1, Value.int .i64 q0.2.2.1, Value.bool q0.2.2.2.1, Value.slice a0o0 q0.2.2.2.2.length c0o0a], gsl 249 (rawE 4) (Value.slice a0o0 q0.2.2.2.2.length c0o0a) rs0o0b]) hok hq0
  refine enter (n := 82) Try.func80 rfl rfl rfl ?_
  refine WC.seq ?_
  refine WC.region ?_
  refine WL.new (L' := fun b107 => [blk b0o0 174 [Value.int .i64 q0.1, Value.int .i64 q0.2.1, Value.int .i64 q0.2.2.1, Value.bool q0.2.2.2.1, Value.slice a0o0 q0.2.2.2.2.length c0o0a], gsl 249 (rawE 4) (Value.slice a0o0 q0.2.2.2.2.length c0o0a) rs0o0b, blk b107 151 [Value.pointer (some ⟨b0o0, 0, none⟩)]]) (f := fun b107 => Value.pointer (some ⟨b107, 0, none⟩)) (X.box (v := Value.pointer (some ⟨b0o0, 0, none⟩)) (c := [Value.pointer (some ⟨b0o0, 0, none⟩)]) (hs100.here) rfl rfl (fun _ => rfl)) rfl ?_
  intro b107 w108 ht113 he110 hz111
  have hs114 := hs100.trans ht113
  refine WL.new (L' := fun b115 => [blk b0o0 174 [Value.int .i64 q0.1, Value.int .i64 q0.2.1, Value.int .i64 q0.2.2.1, Value.bool q0.2.2.2.1, Value.slice a0o0 q0.2.2.2.2.length c0o0a], gsl 249 (rawE 4) (Value.slice a0o0 q0.2.2.2.2.length c0o0a) rs0o0b, blk b107 151 [Value.pointer (some ⟨b0o0, 0, none⟩)], blk b115 158 [Value.slice a1 p1.1.length c1, Value.slice a1a p1.2.1.length c1a, Value.slice a1b p1.2.2.1.length c1b, Value.slice a1c p1.2.2.2.length c1c]]) (f := fun b115 => Value.pointer (some ⟨b115, 0, none⟩)) (X.box (v := Value.agg (List.toArray [Value.slice a1 p1.1.length c1, Value.slice a1a p1.2.1.length c1a, Value.slice a1b p1.2.2.1.length c1b, Value.slice a1c p1.2.2.2.length c1c])) (c := [Value.slice a1 p1.1.length c1, Value.slice a1a p1.2.1.length c1a, Value.slice a1b p1.2.2.1.length c1b, Value.slice a1c p1.2.2.2.length c1c]) (hs114.here) rfl rfl (fun _ => rfl)) rfl ?_
  intro b115 w116 ht121 he118 hz119
  have hs122 := hs114.trans ht121
  refine WL.val (R.assign (v := Value.slice none 0 0) rfl) rfl ?_
  refine WL.nil ?_
  refine thenN ?_
  refine WC.seq ?_
  refine WC.seq ?_
  refine WC.region ?_
  refine WL.val (R.loadL (v := Value.pointer (some ⟨b0o0, 0, none⟩)) lf151 rfl (hs122.at (i := 2) (off := 0) (n := 1) (cs := [Value.pointer (some ⟨b0o0, 0, none⟩)]) rfl rfl rfl)) rfl ?_
  refine WL.val (R.ptrNil (a := ⟨b0o0, 0, none⟩) un151 rfl rfl) rfl ?_
  refine WL.val (R.move (v := Value.bool false) rfl) rfl ?_
  refine WL.guardY (e := 11) rfl rfl rfl ?_
  refine WL.val (R.loadL (v := Value.pointer (some ⟨b0o0, 0, none⟩)) lf151 rfl (hs122.at (i := 2) (off := 0) (n := 1) (cs := [Value.pointer (some ⟨b0o0, 0, none⟩)]) rfl rfl rfl)) rfl ?_
  refine WL.guardY (e := 11) rfl rfl rfl ?_
  refine WL.val (R.nilCheckP (a := ⟨b0o0, 0, none⟩) rfl) rfl ?_
  refine WL.guardY (e := 11) rfl rfl rfl ?_
  refine WL.val (R.fieldAddr (o := 0) (o' := 0) fa174_0 rfl rfl) rfl ?_
  refine WL.guardY (e := 11) rfl rfl rfl ?_
  refine WL.val (R.loadL (v := Value.int .i64 q0.1) lf3 rfl (hs122.at (i := 0) (off := 0) (n := 1) (cs := [Value.int .i64 q0.1]) rfl rfl rfl)) rfl ?_
  refine WL.guardY (e := 11) rfl rfl rfl ?_
  by_cases hc123 : q0.1 = 0
  · have h124 := ifT hc123 h
    refine WL.val (R.eqlT (k := .i64) (a := q0.1) (b := 0) un3 rfl rfl hc123) rfl ?_
    refine WL.val (R.pickF (v := Value.bool true) rfl rfl) rfl ?_
    refine WL.nil ?_
    refine thenN ?_
    refine WC.condT rfl rfl ?_
    refine WC.seq ?_
    refine WC.region ?_
    refine WL.val (R.assign (v := Value.slice none 0 0) rfl) rfl ?_
    refine WL.nil ?_
    refine thenN ?_
    refine WC.ret ?_
    have ht125 := (hs122.here).perm (L' := [blk b0o0 174 [Value.int .i64 q0.1, Value.int .i64 q0.2.1, Value.int .i64 q0.2.2.1, Value.bool q0.2.2.2.1, Value.slice a0o0 q0.2.2.2.2.length c0o0a], gsl 249 (rawE 4) (Value.slice a0o0 q0.2.2.2.2.length c0o0a) rs0o0b]) (G := [blk b107 151 [Value.pointer (some ⟨b0o0, 0, none⟩)], blk b115 158 [Value.slice a1 p1.1.length c1, Value.slice a1a p1.2.1.length c1a, Value.slice a1b p1.2.2.1.length c1b, Value.slice a1c p1.2.2.2.length c1c]]) ((List.Perm.refl _))
    have hs126 := hs122.trans ht125
    have hr127 := rlT ((ht113.trans ht121).trans ht125) hr105
    obtain rfl := Option.some.inj (show some ([], (q0.1, q0.2.1, q0.2.2.1, q0.2.2.2.1, q0.2.2.2.2)) = some r from h124)
    exact ret1 (P := Try.prog) (n := 82) (fn := Try.f80) (R := fun v w' => ∃ ra0, ∃ rc0, ∃ rza1, ∃ rzc2, ∃ rzrs3, v = Value.slice ra0 ([], (q0.1, q0.2.1, q0.2.2.1, q0.2.2.2.1, q0.2.2.2.2)).1.length rc0 ∧ readsL momU w' (In ok w [blk b0o0 174 [Value.int .i64 q0.1, Value.int .i64 q0.2.1, Value.int .i64 q0.2.2.1, Value.bool q0.2.2.2.1, Value.slice a0o0 q0.2.2.2.2.length c0o0a], gsl 249 (rawE 4) (Value.slice a0o0 q0.2.2.2.2.length c0o0a) rs0o0b] [blk b0o0 174 [Value.int .i64 ([], (q0.1, q0.2.1, q0.2.2.1, q0.2.2.2.1, q0.2.2.2.2)).2.1, Value.int .i64 ([], (q0.1, q0.2.1, q0.2.2.1, q0.2.2.2.1, q0.2.2.2.2)).2.2.1, Value.int .i64 ([], (q0.1, q0.2.1, q0.2.2.1, q0.2.2.2.1, q0.2.2.2.2)).2.2.2.1, Value.bool ([], (q0.1, q0.2.1, q0.2.2.1, q0.2.2.2.1, q0.2.2.2.2)).2.2.2.2.1, Value.slice rza1 ([], (q0.1, q0.2.1, q0.2.2.1, q0.2.2.2.1, q0.2.2.2.2)).2.2.2.2.2.length rzc2], gsl 249 (rawE 4) (Value.slice rza1 ([], (q0.1, q0.2.1, q0.2.2.1, q0.2.2.2.1, q0.2.2.2.2)).2.2.2.2.2.length rzc2) rzrs3]) ([], (q0.1, q0.2.1, q0.2.2.1, q0.2.2.2.1, q0.2.2.2.2)).2.2.2.2.2 rzrs3 ∧ ([], (q0.1, q0.2.1, q0.2.2.1, q0.2.2.2.1, q0.2.2.2.2)).1.length ≤ rc0 ∧ elems rowW w' (In ok w [blk b0o0 174 [Value.int .i64 q0.1, Value.int .i64 q0.2.1, Value.int .i64 q0.2.2.1, Value.bool q0.2.2.2.1, Value.slice a0o0 q0.2.2.2.2.length c0o0a], gsl 249 (rawE 4) (Value.slice a0o0 q0.2.2.2.2.length c0o0a) rs0o0b] [blk b0o0 174 [Value.int .i64 ([], (q0.1, q0.2.1, q0.2.2.1, q0.2.2.2.1, q0.2.2.2.2)).2.1, Value.int .i64 ([], (q0.1, q0.2.1, q0.2.2.1, q0.2.2.2.1, q0.2.2.2.2)).2.2.1, Value.int .i64 ([], (q0.1, q0.2.1, q0.2.2.1, q0.2.2.2.1, q0.2.2.2.2)).2.2.2.1, Value.bool ([], (q0.1, q0.2.1, q0.2.2.1, q0.2.2.2.1, q0.2.2.2.2)).2.2.2.2.1, Value.slice rza1 ([], (q0.1, q0.2.1, q0.2.2.1, q0.2.2.2.1, q0.2.2.2.2)).2.2.2.2.2.length rzc2], gsl 249 (rawE 4) (Value.slice rza1 ([], (q0.1, q0.2.1, q0.2.2.1, q0.2.2.2.1, q0.2.2.2.2)).2.2.2.2.2.length rzc2) rzrs3]) ra0 ([], (q0.1, q0.2.1, q0.2.2.1, q0.2.2.2.1, q0.2.2.2.2)).1 ∧ St [blk b0o0 174 [Value.int .i64 q0.1, Value.int .i64 q0.2.1, Value.int .i64 q0.2.2.1, Value.bool q0.2.2.2.1, Value.slice a0o0 q0.2.2.2.2.length c0o0a], gsl 249 (rawE 4) (Value.slice a0o0 q0.2.2.2.2.length c0o0a) rs0o0b] w w' [blk b0o0 174 [Value.int .i64 ([], (q0.1, q0.2.1, q0.2.2.1, q0.2.2.2.1, q0.2.2.2.2)).2.1, Value.int .i64 ([], (q0.1, q0.2.1, q0.2.2.1, q0.2.2.2.1, q0.2.2.2.2)).2.2.1, Value.int .i64 ([], (q0.1, q0.2.1, q0.2.2.1, q0.2.2.2.1, q0.2.2.2.2)).2.2.2.1, Value.bool ([], (q0.1, q0.2.1, q0.2.2.1, q0.2.2.2.1, q0.2.2.2.2)).2.2.2.2.1, Value.slice rza1 ([], (q0.1, q0.2.1, q0.2.2.1, q0.2.2.2.1, q0.2.2.2.2)).2.2.2.2.2.length rzc2], gsl 249 (rawE 4) (Value.slice rza1 ([], (q0.1, q0.2.1, q0.2.2.1, q0.2.2.2.1, q0.2.2.2.2)).2.2.2.2.2.length rzc2) rzrs3]) (t := 4) (v := Value.slice none 0 0) rfl rfl rfl ⟨none, 0, a0o0, c0o0a, rs0o0b, rfl, hr127, (Nat.le_refl _), elems_nil, hs126⟩
  · have h128 := ifF hc123 h
    refine WL.val (R.eqlF (k := .i64) (a := q0.1) (b := 0) un3 rfl rfl hc123) rfl ?_
    refine WL.val (R.pickF (v := Value.bool false) rfl rfl) rfl ?_
    refine WL.nil ?_
    refine thenN ?_
    refine WC.condF rfl rfl ?_
    refine WC.skip ?_
    refine thenN ?_
    refine WC.seq ?_
    refine WC.region ?_
    cases h128

end Go.Proofs.Ytckcldimnelklaa
