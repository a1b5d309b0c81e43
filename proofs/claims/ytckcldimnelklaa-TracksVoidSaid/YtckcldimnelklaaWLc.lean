/- A lane in memory, as one thing: its facts through calls; its calls, by where it lies. -/
import Derived.Test.YtckcldimnelklaaWLb
namespace Go.Proofs.Ytckcldimnelklaa
open Go
set_option linter.unusedVariables false
set_option linter.unusedSimpArgs false
theorem laneF.ofN {ok' : Nat → Prop} {w0 w : World} {L0 L : List Ent} {g : LaneG} {q : LaneD} (h : laneF w (In (fun _ => False) w0 L0 L) g q) : laneF w (In ok' w0 L0 L) g q :=
  h.keep (fun _ _ hb => ⟨rfl, hb.ofN⟩) (Nat.le_refl _)
theorem lfC {ok : Nat → Prop} {L0 L M N M' : List Ent} {w0 w w' : World} {g : LaneG} {q : LaneD} (h : St L0 w0 w L) (hp : L.Perm (M ++ N)) (c : St M w w' M')
    (he : laneF w' (In (In ok w0 L0 L) w M M') g q) : laneF w' (In ok w0 L0 (M' ++ N)) g q := he.keep (fun b _ ho => ⟨rfl, inC h hp c b ho⟩) (Nat.le_refl _)
theorem lfCN {L0 L M N M' : List Ent} {w0 w w' : World} {g : LaneG} {q : LaneD} (h : St L0 w0 w L) (hp : L.Perm (M ++ N)) (c : St M w w' M')
    (he : laneF w' (In (fun _ => False) w M M') g q) : laneF w' (In (fun _ => False) w0 L0 (M' ++ N)) g q := lfC (ok := fun _ => False) h hp c he.ofN
theorem lane_mkB {ok : Nat → Prop} {w : World} {p : Nat} {a : Option Addr} {c : Nat} {rs : List (Raw 4)} (q : LaneD) (hb : q.2.2.2.1 = false)
    (h : St [blk p 174 [Value.int .i64 q.1, Value.int .i64 q.2.1, Value.int .i64 q.2.2.1, Value.bool q.2.2.2.1, Value.slice a q.2.2.2.2.length c], gsl 249 (rawE 4) (Value.slice a q.2.2.2.2.length c) rs] w w [blk p 174 [Value.int .i64 q.1, Value.int .i64 q.2.1, Value.int .i64 q.2.2.1, Value.bool q.2.2.2.1, Value.slice a q.2.2.2.2.length c], gsl 249 (rawE 4) (Value.slice a q.2.2.2.2.length c) rs])
    (hP : readsL momU w ok q.2.2.2.2 rs) (hok : ∀ b, ok b → out [blk p 174 [Value.int .i64 q.1, Value.int .i64 q.2.1, Value.int .i64 q.2.2.1, Value.bool q.2.2.2.1, Value.slice a q.2.2.2.2.length c], gsl 249 (rawE 4) (Value.slice a q.2.2.2.2.length c) rs] b) :
    ∃ g : LaneG, g.p = p ∧ St [blk p 174 [Value.int .i64 q.1, Value.int .i64 q.2.1, Value.int .i64 q.2.2.1, Value.bool q.2.2.2.1, Value.slice a q.2.2.2.2.length c], gsl 249 (rawE 4) (Value.slice a q.2.2.2.2.length c) rs] w w [laneE g q] ∧
      laneF w (In ok w [blk p 174 [Value.int .i64 q.1, Value.int .i64 q.2.1, Value.int .i64 q.2.2.1, Value.bool q.2.2.2.1, Value.slice a q.2.2.2.2.length c], gsl 249 (rawE 4) (Value.slice a q.2.2.2.2.length c) rs] [laneE g q]) g q := by
  obtain ⟨h1, h2⟩ := lane_mk hb h (readsL_keep (fun b _ hb => ⟨rfl, In.of hok b hb⟩) (Nat.le_refl _) hP)
  exact ⟨_, rfl, h1, h2⟩
theorem hearB_ok (w : World) (ok : Nat → Prop) (g : LaneG) (q : LaneD) {b : Nat} (hb : g.p = b) (p1 : (List Rw) × (List Rw) × (List Rw) × (List Rw)) (a1 : Option Addr) (c1 : Nat) (he1 : elems rowW w ok a1 p1.1) (hc1 : p1.1.length ≤ c1)
    (a2 : Option Addr) (c2 : Nat) (he2 : elems rowW w ok a2 p1.2.1) (hc2 : p1.2.1.length ≤ c2) (a3 : Option Addr) (c3 : Nat) (he3 : elems rowW w ok a3 p1.2.2.1) (hc3 : p1.2.2.1.length ≤ c3)
    (a4 : Option Addr) (c4 : Nat) (he4 : elems rowW w ok a4 p1.2.2.2) (hc4 : p1.2.2.2.length ≤ c4) (hF : laneF w ok g q) (hok : ∀ b, ok b → out [laneE g q] b) (hL : St [laneE g q] w w [laneE g q])
    {r : List Rw × LaneD} (h : hearU q p1 = some r) :
    Ret Try.prog 80 [Value.pointer (some ⟨b, 0, none⟩), Value.agg (List.toArray [Value.slice a1 p1.1.length c1, Value.slice a2 p1.2.1.length c2, Value.slice a3 p1.2.2.1.length c3, Value.slice a4 p1.2.2.2.length c4])] w
      (fun v w' => ∃ g', g'.p = b ∧ ∃ a c, v = Value.slice a r.1.length c ∧ r.1.length ≤ c ∧ elems rowW w' (In (fun _ => False) w [laneE g q] [laneE g' r.2]) a r.1 ∧ laneF w' (In ok w [laneE g q] [laneE g' r.2]) g' r.2 ∧ St [laneE g q] w w' [laneE g' r.2]) := by
  subst hb
  exact hearU_ok w ok g q p1 a1 c1 he1 hc1 a2 c2 he2 hc2 a3 c3 he3 hc3 a4 c4 he4 hc4 hF hok hL h
theorem sayB_ok (w : World) (ok : Nat → Prop) (g : LaneG) (q : LaneD) {b : Nat} (hb : g.p = b) (p1 : Rw) (a1 : Option Addr) (c1 : Nat) (he1 : elems heldW w ok a1 p1.table) (hc1 : p1.table.length ≤ c1)
    (hF : laneF w ok g q) (hok : ∀ b, ok b → out [laneE g q] b) (hL : St [laneE g q] w w [laneE g q]) {r : List Rw × List Rw × LaneD} (h : sayU q p1 = some r) :
    Ret Try.prog 83 [Value.pointer (some ⟨b, 0, none⟩), Value.agg (List.toArray (encR p1 (Value.slice a1 p1.table.length c1)))] w
      (fun v w' => ∃ g', g'.p = b ∧ ∃ a c a' c', v = Value.tuple #[Value.agg (List.toArray [Value.slice a r.1.length c]), Value.agg (List.toArray [Value.slice a' r.2.1.length c'])] ∧ r.1.length ≤ c ∧ elems rowW w' (In (fun _ => False) w [laneE g q] [laneE g' r.2.2]) a r.1 ∧
        r.2.1.length ≤ c' ∧ elems rowW w' (In (fun _ => False) w [laneE g q] [laneE g' r.2.2]) a' r.2.1 ∧ laneF w' (In ok w [laneE g q] [laneE g' r.2.2]) g' r.2.2 ∧ St [laneE g q] w w' [laneE g' r.2.2]) := by
  subst hb
  exact sayU_ok w ok g q p1 a1 c1 he1 hc1 hF hok hL h
end Go.Proofs.Ytckcldimnelklaa
