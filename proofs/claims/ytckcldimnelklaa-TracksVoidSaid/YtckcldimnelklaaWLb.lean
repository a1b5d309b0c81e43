/- A lane in memory, as one thing: Say of it; a new one. -/
import Derived.Test.YtckcldimnelklaaWLa
import Derived.Test.YtckcldimnelklaaW14va
namespace Go.Proofs.Ytckcldimnelklaa
open Go
set_option linter.unusedVariables false
set_option linter.unusedSimpArgs false
/-- A lane of which no moment is open. -/
theorem lane_mk {ok : Nat → Prop} {L0 : List Ent} {w0 w : World} {p : Nat} {a : Option Addr} {c : Nat} {rs : List (Raw 4)} {q : LaneD} (hb : q.2.2.2.1 = false)
    (h : St L0 w0 w [blk p 174 [Value.int .i64 q.1, Value.int .i64 q.2.1, Value.int .i64 q.2.2.1, Value.bool q.2.2.2.1, Value.slice a q.2.2.2.2.length c], gsl 249 (rawE 4) (Value.slice a q.2.2.2.2.length c) rs])
    (hP : readsL momU w (In ok w0 L0 [blk p 174 [Value.int .i64 q.1, Value.int .i64 q.2.1, Value.int .i64 q.2.2.1, Value.bool q.2.2.2.1, Value.slice a q.2.2.2.2.length c], gsl 249 (rawE 4) (Value.slice a q.2.2.2.2.length c) rs]) q.2.2.2.2 rs) :
    St L0 w0 w [laneE ⟨p, a, c, rs, none, 0, [], none, 0, []⟩ q] ∧ laneF w (In ok w0 L0 [laneE ⟨p, a, c, rs, none, 0, [], none, 0, []⟩ q]) ⟨p, a, c, rs, none, 0, [], none, 0, []⟩ q := by
  obtain ⟨e1, e2, e3⟩ := lent_off hb
  have hlist : laneL ⟨p, a, c, rs, none, 0, [], none, 0, []⟩ q = [blk p 174 [Value.int .i64 q.1, Value.int .i64 q.2.1, Value.int .i64 q.2.2.1, Value.bool q.2.2.2.1, Value.slice a q.2.2.2.2.length c], gsl 249 (rawE 4) (Value.slice a q.2.2.2.2.length c) rs,
      gsl 62 (rawE 57) (Value.slice none 0 0) [], gsl 62 (rawE 57) (Value.slice none 0 0) []] := by
    unfold laneL; rw [e1, e2, e3]; rfl
  have h2 := (h.addNil 62 (rawE 57) rfl).addNil 62 (rawE 57) rfl
  have hS : St L0 w0 w [laneE ⟨p, a, c, rs, none, 0, [], none, 0, []⟩ q] := by
    have : St L0 w0 w (laneL ⟨p, a, c, rs, none, 0, [], none, 0, []⟩ q ++ []) := by rw [List.append_nil, hlist]; exact h2
    exact this.closeB
  refine ⟨hS, ⟨?_, ?_, ?_, fun hx => by rw [hb] at hx; cases hx⟩⟩
  · rw [e1]
    refine readsL_keep (fun b _ hx => ⟨rfl, In_lane.2 ⟨hx.1, ?_⟩⟩) (Nat.le_refl _) hP
    rw [hlist]
    intro E hE hF
    rcases List.mem_cons.1 hE with rfl | hE
    · exact hx.2 _ (List.mem_cons_self ..) hF
    rcases List.mem_cons.1 hE with rfl | hE
    · exact hx.2 _ (List.mem_cons_of_mem _ (List.mem_cons_self ..)) hF
    rcases List.mem_cons.1 hE with rfl | hE
    · exact absurd (show (none : Option Nat) = some b from hF) (by simp)
    cases List.mem_singleton.1 hE
    exact absurd (show (none : Option Nat) = some b from hF) (by simp)
  · rw [e2]; exact readsL_nil
  · rw [e3]; exact readsL_nil

theorem sayU_ok (w : World) (ok : Nat → Prop) (g : LaneG) (q : LaneD) (p1 : Rw) (a1 : Option Addr) (c1 : Nat) (he1 : elems heldW w ok a1 p1.table) (hc1 : p1.table.length ≤ c1)
    (hF : laneF w ok g q) (hok : ∀ b, ok b → out [laneE g q] b) (hL : St [laneE g q] w w [laneE g q]) {r : List Rw × List Rw × LaneD} (h : sayU q p1 = some r) :
    Ret Try.prog 83 [Value.pointer (some ⟨g.p, 0, none⟩), Value.agg (List.toArray (encR p1 (Value.slice a1 p1.table.length c1)))] w
      (fun v w' => ∃ g', g'.p = g.p ∧ ∃ a c a' c', v = Value.tuple #[Value.agg (List.toArray [Value.slice a r.1.length c]), Value.agg (List.toArray [Value.slice a' r.2.1.length c'])] ∧ r.1.length ≤ c ∧ elems rowW w' (In (fun _ => False) w [laneE g q] [laneE g' r.2.2]) a r.1 ∧
        r.2.1.length ≤ c' ∧ elems rowW w' (In (fun _ => False) w [laneE g q] [laneE g' r.2.2]) a' r.2.1 ∧ laneF w' (In ok w [laneE g q] [laneE g' r.2.2]) g' r.2.2 ∧ St [laneE g q] w w' [laneE g' r.2.2]) := by
  have hF0 : laneF w (In ok w [laneE g q] [laneE g q]) g q := hF.keep (fun b _ hb => ⟨rfl, In.of hok b hb⟩) (Nat.le_refl _)
  unfold sayU at h
  cases hb : q.2.2.2.1 with
  | false =>
    rw [if_neg (by rw [hb]; simp)] at h
    cases h
    obtain ⟨hM, hP⟩ := lane_close hL hF0
    have hin := in_call hM hok
    have hy : sayC14 q p1 = some ([], [], q) := by rw [sayC14, if_neg (by rw [hb]; simp)]
    refine Ret.mono (sayC14_ok w (In ok w [laneE g q] (laneM g q)) q p1 a1 c1 (elems_keep hin (Nat.le_refl _) he1) hc1 g.p g.a g.c g.rs hP (fun b hb => hb.2) hM.here hy) ?_
    rintro v w' ⟨ra, rc, ra', rc', xa, xc, xrs, hv, hp', _, _, _, _, hc⟩
    have hS := hM.trans hc
    have k1 := rlC hM (permE (List.Perm.refl _)) hc hp'
    simp only [List.append_nil] at k1
    obtain ⟨m1, m2⟩ := lane_mk hb hS k1
    refine ⟨⟨g.p, xa, xc, xrs, none, 0, [], none, 0, []⟩, rfl, ra, rc, ra', rc', hv, by simp, elems_nil, by simp, elems_nil, m2, m1⟩
  | true =>
    rw [if_pos hb] at h
    have h1 := hL.lane
    have hF1 : laneF w (In ok w [laneE g q] (laneL g q)) g q := hF0.keep (fun b _ hb => ⟨rfl, In_lane.1 hb⟩) (Nat.le_refl _)
    have hin := in_call h1 hok
    obtain ⟨z, zu, zv, hz, hz2⟩ := hF1.raw hb
    have hsh := say14_shape h
    refine Ret.mono (say14_ok w (In ok w [laneE g q] (laneL g q)) (lq q) p1 (trk0 q) (trk1 q) a1 c1 (elems_keep hin (Nat.le_refl _) he1) hc1 g.a0 g.c0 g.r0 g.a1 g.c1 g.r1 g.p g.a g.c g.rs hF1.past hF1.t0 hF1.t1 z zu zv hz hz2 (fun b hb => hb.2) h1.here h) ?_
    rintro v w' ⟨ra, rc, ra', rc', xa, xc, xrs, hv, hp', hl, he, hl', he', hc⟩
    have hS := h1.trans hc
    have k1 := rlC h1 (permE (List.Perm.refl _)) hc hp'
    have k2 := elCN h1 (permE (List.Perm.refl _)) hc he
    have k3 := elCN h1 (permE (List.Perm.refl _)) hc he'
    simp only [List.append_nil] at k1 k2 k3
    obtain ⟨m1, m2⟩ := lane_mk hsh hS k1
    have hx : ∀ b, In (fun _ => False) w [laneE g q] [blk g.p 174 [Value.int .i64 r.2.2.1, Value.int .i64 r.2.2.2.1, Value.int .i64 r.2.2.2.2.1, Value.bool r.2.2.2.2.2.1, Value.slice xa r.2.2.2.2.2.2.length xc], gsl 249 (rawE 4) (Value.slice xa r.2.2.2.2.2.2.length xc) xrs] b →
        In (fun _ => False) w [laneE g q] [laneE ⟨g.p, xa, xc, xrs, none, 0, [], none, 0, []⟩ r.2.2] b := by
      intro b hb'
      refine In_lane.2 ⟨hb'.1, ?_⟩
      obtain ⟨e1, e2, e3⟩ := lent_off hsh
      have hlist : laneL ⟨g.p, xa, xc, xrs, none, 0, [], none, 0, []⟩ r.2.2 = [blk g.p 174 [Value.int .i64 r.2.2.1, Value.int .i64 r.2.2.2.1, Value.int .i64 r.2.2.2.2.1, Value.bool r.2.2.2.2.2.1, Value.slice xa r.2.2.2.2.2.2.length xc], gsl 249 (rawE 4) (Value.slice xa r.2.2.2.2.2.2.length xc) xrs,
          gsl 62 (rawE 57) (Value.slice none 0 0) [], gsl 62 (rawE 57) (Value.slice none 0 0) []] := by
        unfold laneL; rw [e1, e2, e3]; rfl
      rw [hlist]
      intro E hE hF
      rcases List.mem_cons.1 hE with rfl | hE
      · exact hb'.2 _ (List.mem_cons_self ..) hF
      rcases List.mem_cons.1 hE with rfl | hE
      · exact hb'.2 _ (List.mem_cons_of_mem _ (List.mem_cons_self ..)) hF
      rcases List.mem_cons.1 hE with rfl | hE
      · exact absurd (show (none : Option Nat) = some b from hF) (by simp)
      cases List.mem_singleton.1 hE
      exact absurd (show (none : Option Nat) = some b from hF) (by simp)
    exact ⟨⟨g.p, xa, xc, xrs, none, 0, [], none, 0, []⟩, rfl, ra, rc, ra', rc', hv, hl, elems_keep (fun b _ hb => ⟨rfl, hx b hb⟩) (Nat.le_refl _) k2, hl', elems_keep (fun b _ hb => ⟨rfl, hx b hb⟩) (Nat.le_refl _) k3, m2, m1⟩
end Go.Proofs.Ytckcldimnelklaa
