/- A lane in memory, as one thing; Hear and Say of it. -/
import Derived.Test.YtckcldimnelklaaDLa
import Derived.Test.YtckcldimnelklaaTB
import Derived.Test.YtckcldimnelklaaW14ha
import Derived.Test.YtckcldimnelklaaW14sa
namespace Go.Proofs.Ytckcldimnelklaa
open Go
set_option linter.unusedVariables false
set_option linter.unusedSimpArgs false
/-- Where a lane lies. -/
structure LaneG where
  p : Nat
  a : Option Addr
  c : Nat
  rs : List (Raw 4)
  a0 : Option Addr
  c0 : Nat
  r0 : List (Raw 57)
  a1 : Option Addr
  c1 : Nat
  r1 : List (Raw 57)
def laneL (g : LaneG) (q : LaneD) : List Ent :=
  [blk g.p 174 [Value.int .i64 q.1, Value.int .i64 q.2.1, Value.int .i64 q.2.2.1, Value.bool q.2.2.2.1, Value.slice g.a (lentD q).length g.c], gsl 249 (rawE 4) (Value.slice g.a (lentD q).length g.c) g.rs,
   gsl 62 (rawE 57) (Value.slice g.a0 (trk0 q).length g.c0) g.r0, gsl 62 (rawE 57) (Value.slice g.a1 (trk1 q).length g.c1) g.r1]
def laneE (g : LaneG) (q : LaneD) : Ent := bundle (laneL g q)
/-- What the lane's memory leads to. -/
structure laneF (w : World) (ok : Nat → Prop) (g : LaneG) (q : LaneD) : Prop where
  past : readsL momU w ok (lentD q) g.rs
  t0 : readsL rowW w ok (trk0 q) g.r0
  t1 : readsL rowW w ok (trk1 q) g.r1
  raw : q.2.2.2.1 = true → ∃ z zu zv, g.rs[cur14 q]? = some z ∧ z.1 = [Value.slice g.a0 (trk0 q).length g.c0, zu, Value.slice g.a1 (trk1 q).length g.c1, zv]
theorem laneF.keep {w w' : World} {ok ok' : Nat → Prop} {g : LaneG} {q : LaneD} (hk : ∀ b, b < w.heap.size → ok b → w'.heap[b]? = w.heap[b]? ∧ ok' b) (hz : w.heap.size ≤ w'.heap.size) (h : laneF w ok g q) : laneF w' ok' g q :=
  ⟨readsL_keep hk hz h.past, readsL_keep hk hz h.t0, readsL_keep hk hz h.t1, h.raw⟩
theorem lfT {ok : Nat → Prop} {w0 w w' : World} {L0 L L' : List Ent} {g : LaneG} {q : LaneD} (t : St L w w' L') (h : laneF w (In ok w0 L0 L) g q) : laneF w' (In ok w0 L0 L') g q := h.keep (tr_hk t) t.size

def laneM (g : LaneG) (q : LaneD) : List Ent :=
  [blk g.p 174 [Value.int .i64 q.1, Value.int .i64 q.2.1, Value.int .i64 q.2.2.1, Value.bool q.2.2.2.1, Value.slice g.a q.2.2.2.2.length g.c], gsl 249 (rawE 4) (Value.slice g.a q.2.2.2.2.length g.c) g.rs]

theorem St.lane {L0 : List Ent} {w0 w : World} {g : LaneG} {q : LaneD} (h : St L0 w0 w [laneE g q]) : St L0 w0 w (laneL g q) := by
  have := h.openB
  rwa [List.append_nil] at this
theorem In_lane {ok : Nat → Prop} {L0 : List Ent} {w0 : World} {g : LaneG} {q : LaneD} {b : Nat} : In ok w0 L0 [laneE g q] b ↔ In ok w0 L0 (laneL g q) b := by
  have : out [laneE g q] b ↔ out (laneL g q) b := by
    have := out_bundle (b := b) (X := laneL g q) (N := [])
    rwa [List.append_nil] at this
  unfold In; rw [this]

/-- Its moments, each whole. -/
theorem lane_close {ok : Nat → Prop} {L0 : List Ent} {w0 w : World} {g : LaneG} {q : LaneD} (h : St L0 w0 w [laneE g q]) (hF : laneF w (In ok w0 L0 [laneE g q]) g q) :
    St L0 w0 w (laneM g q) ∧ readsL momU w (In ok w0 L0 (laneM g q)) q.2.2.2.2 g.rs := by
  have h1 := h.lane
  have hF1 : laneF w (In ok w0 L0 (laneL g q)) g q := hF.keep (fun b _ hb => ⟨rfl, In_lane.1 hb⟩) (Nat.le_refl _)
  have hlen := lentD_len q
  have hM : laneM g q = [blk g.p 174 [Value.int .i64 q.1, Value.int .i64 q.2.1, Value.int .i64 q.2.2.1, Value.bool q.2.2.2.1, Value.slice g.a (lentD q).length g.c], gsl 249 (rawE 4) (Value.slice g.a (lentD q).length g.c) g.rs] := by
    unfold laneM; rw [hlen]
  have hp : (laneL g q).Perm (laneM g q ++ [gsl 62 (rawE 57) (Value.slice g.a0 (trk0 q).length g.c0) g.r0, gsl 62 (rawE 57) (Value.slice g.a1 (trk1 q).length g.c1) g.r1]) := by
    rw [hM]; exact List.Perm.refl _
  refine ⟨h1.perm hp, ?_⟩
  cases hb : q.2.2.2.1 with
  | false =>
    have := rlP hp hF1.past
    rwa [(lent_off hb).1] at this
  | true =>
    obtain ⟨z, zu, zv, hz, hz2⟩ := hF1.raw hb
    have hp0 : (laneL g q).Perm (gsl 62 (rawE 57) (Value.slice g.a0 (trk0 q).length g.c0) g.r0 :: (laneM g q ++ [gsl 62 (rawE 57) (Value.slice g.a1 (trk1 q).length g.c1) g.r1])) :=
      hp.trans (List.perm_middle (l₁ := laneM g q))
    have hp1 : (laneL g q).Perm (gsl 62 (rawE 57) (Value.slice g.a1 (trk1 q).length g.c1) g.r1 :: (laneM g q ++ [gsl 62 (rawE 57) (Value.slice g.a0 (trk0 q).length g.c0) g.r0])) := by
      refine hp.trans ((List.Perm.append_left _ (List.Perm.swap _ _ _)).trans (List.perm_middle (l₁ := laneM g q)))
    obtain ⟨a, c, hv, _, he0⟩ := el_freezeR h1 hp0 rfl hF1.t0
    obtain ⟨a', c', hv', _, he1⟩ := el_freezeR h1 hp1 rfl hF1.t1
    obtain ⟨rfl, -, -⟩ := Value.slice.inj hv
    obtain ⟨rfl, -, -⟩ := Value.slice.inj hv'
    have he0' := elP (L' := laneM g q) (List.Perm.refl _) he0
    have he1' := elP (L' := laneM g q) (List.Perm.refl _) he1
    have hP := rlP hp hF1.past
    have hlt : cur14 q < q.2.2.2.2.length := by
      have h2 := (List.getElem?_eq_some_iff.1 hz).1
      have h3 := hP.1
      omega
    have hd := List.getElem?_eq_getElem hlt
    have hL : lentD q = q.2.2.2.2.set (cur14 q) ((([] : List Rw), q.2.2.2.2[cur14 q].1.2), (([] : List Rw), q.2.2.2.2[cur14 q].2.2)) := by
      unfold lentD lent1; rw [if_pos hb, hd]
    have ht0 : trk0 q = q.2.2.2.2[cur14 q].1.1 := by unfold trk0; rw [if_pos hb, hd]
    have ht1 : trk1 q = q.2.2.2.2[cur14 q].2.1 := by unfold trk1; rw [if_pos hb, hd]
    rw [hL] at hP
    have := readsL_give hP (List.getElem?_set_self hlt) hz hz2 he0' he1'
    rw [List.set_set, ht0, ht1] at this
    have e : q.2.2.2.2.set (cur14 q) q.2.2.2.2[cur14 q] = q.2.2.2.2 := by
      apply List.ext_getElem (by simp)
      intro i h1 h2
      rw [List.getElem_set]
      split
      · subst_vars; rfl
      · rfl
    have this2 : readsL momU w (In ok w0 L0 (laneM g q)) (q.2.2.2.2.set (cur14 q) q.2.2.2.2[cur14 q]) g.rs := this
    rwa [e] at this2

theorem in_call {ok : Nat → Prop} {L M : List Ent} {w : World} (hM : St L w w M) (hok : ∀ b, ok b → out L b) : ∀ b, b < w.heap.size → ok b → w.heap[b]? = w.heap[b]? ∧ In ok w L M b :=
  fun b hlt ho => ⟨rfl, .inl ho, fun E hE hF => hM.sub E hE b hF hlt (hok b ho)⟩

/-- Hear: what is held lies anew, apart from all. -/
theorem hearU_ok (w : World) (ok : Nat → Prop) (g : LaneG) (q : LaneD) (p1 : (List Rw) × (List Rw) × (List Rw) × (List Rw)) (a1 : Option Addr) (c1 : Nat) (he1 : elems rowW w ok a1 p1.1) (hc1 : p1.1.length ≤ c1)
    (a2 : Option Addr) (c2 : Nat) (he2 : elems rowW w ok a2 p1.2.1) (hc2 : p1.2.1.length ≤ c2) (a3 : Option Addr) (c3 : Nat) (he3 : elems rowW w ok a3 p1.2.2.1) (hc3 : p1.2.2.1.length ≤ c3)
    (a4 : Option Addr) (c4 : Nat) (he4 : elems rowW w ok a4 p1.2.2.2) (hc4 : p1.2.2.2.length ≤ c4) (hF : laneF w ok g q) (hok : ∀ b, ok b → out [laneE g q] b) (hL : St [laneE g q] w w [laneE g q])
    {r : List Rw × LaneD} (h : hearU q p1 = some r) :
    Ret Try.prog 80 [Value.pointer (some ⟨g.p, 0, none⟩), Value.agg (List.toArray [Value.slice a1 p1.1.length c1, Value.slice a2 p1.2.1.length c2, Value.slice a3 p1.2.2.1.length c3, Value.slice a4 p1.2.2.2.length c4])] w
      (fun v w' => ∃ g', g'.p = g.p ∧ ∃ a c, v = Value.slice a r.1.length c ∧ r.1.length ≤ c ∧ elems rowW w' (In (fun _ => False) w [laneE g q] [laneE g' r.2]) a r.1 ∧ laneF w' (In ok w [laneE g q] [laneE g' r.2]) g' r.2 ∧ St [laneE g q] w w' [laneE g' r.2]) := by
  obtain ⟨y, hy, hr⟩ := ob h
  cases hr
  have hF0 : laneF w (In ok w [laneE g q] [laneE g q]) g q := hF.keep (fun b _ hb => ⟨rfl, In.of hok b hb⟩) (Nat.le_refl _)
  obtain ⟨hM, hP⟩ := lane_close hL hF0
  have hin := in_call hM hok
  obtain ⟨n0, n1, d, hd, hs⟩ := hear14_shape hy
  refine Ret.mono (hear14_ok w (In ok w [laneE g q] (laneM g q)) q p1 a1 c1 (elems_keep hin (Nat.le_refl _) he1) hc1 a2 c2 (elems_keep hin (Nat.le_refl _) he2) hc2 a3 c3 (elems_keep hin (Nat.le_refl _) he3) hc3 a4 c4 (elems_keep hin (Nat.le_refl _) he4) hc4
    g.p g.a g.c g.rs hP (fun b hb => hb.2) hM.here hy) ?_
  rintro v w' ⟨ra, rc, xa, xc, xrs, hrs, ya0, yc0, yr0, ya1, yc1, yr1, hv, hp', hh', ht0, ht1, ⟨z, zu, zv, hz, hz2⟩, hc⟩
  obtain ⟨f1, f2, f3, f4, f5⟩ := full_facts (x0 := y.2.2.1) (x1 := y.2.2.2) hd hs
  have hperm : (laneM g q).Perm (laneM g q ++ []) := permE (List.Perm.refl _)
  have k1 := rlC hM hperm hc hp'
  have k2 := rlCN hM hperm hc hh'
  have k3 := rlCN hM hperm hc ht0
  have k4 := rlCN hM hperm hc ht1
  have hS := hM.trans hc
  -- the lane, as it lies now
  refine ⟨⟨g.p, xa, xc, xrs, ya0, yc0, yr0, ya1, yc1, yr1⟩, rfl, ?_⟩
  generalize hg' : (⟨g.p, xa, xc, xrs, ya0, yc0, yr0, ya1, yc1, yr1⟩ : LaneG) = g'
  have hlist : laneL g' (fullD y.2.1 y.2.2.1 y.2.2.2) = [blk g.p 174 [Value.int .i64 y.2.1.1, Value.int .i64 y.2.1.2.1, Value.int .i64 y.2.1.2.2.1, Value.bool y.2.1.2.2.2.1, Value.slice xa y.2.1.2.2.2.2.length xc], gsl 249 (rawE 4) (Value.slice xa y.2.1.2.2.2.2.length xc) xrs,
      gsl 62 (rawE 57) (Value.slice ya0 y.2.2.1.length yc0) yr0, gsl 62 (rawE 57) (Value.slice ya1 y.2.2.2.length yc1) yr1] := by
    subst hg'
    unfold laneL
    rw [f3, f4, f5, f1, hs]
  simp only [List.append_nil] at k1 k2 k3 k4
  have hpL : ∀ A B C D E : Ent, [A, B, C, D, E].Perm (C :: [A, B, D, E]) := fun A B C D E => List.perm_middle (l₁ := [A, B]) (a := C) (l₂ := [D, E])
  obtain ⟨a, c, hv2, hlc, hel⟩ := el_freezeR hS (hpL _ _ _ _ _) rfl k2
  have hpD : ∀ A B C D E : Ent, [A, B, C, D, E].Perm ([A, B, D, E] ++ [C]) := fun A B C D E => (hpL A B C D E).trans (List.perm_append_singleton C [A, B, D, E]).symm
  have hS2 := hS.perm (hpD _ _ _ _ _)
  rw [← hlist] at hS2 hel
  have hS3 : St [laneE g q] w w' [laneE g' (fullD y.2.1 y.2.2.1 y.2.2.2)] := by
    have : St [laneE g q] w w' (laneL g' (fullD y.2.1 y.2.2.1 y.2.2.2) ++ []) := by rw [List.append_nil]; exact hS2
    exact this.closeB
  have j1 := rlP (hpD _ _ _ _ _) k1
  have j3 := rlP (hpD _ _ _ _ _) k3
  have j4 := rlP (hpD _ _ _ _ _) k4
  rw [← hlist] at j1 j3 j4
  refine ⟨a, c, by rw [hv, hv2], hlc, elems_keep (fun b _ hb => ⟨rfl, In_lane.2 hb⟩) (Nat.le_refl _) hel, ⟨?_, ?_, ?_, ?_⟩, hS3⟩
  · rw [f3]; subst hg'; exact readsL_keep (fun b _ hb => ⟨rfl, In_lane.2 hb⟩) (Nat.le_refl _) j1
  · rw [f4]; subst hg'; exact readsL_keep (fun b _ hb => ⟨rfl, In_lane.2 hb.ofN⟩) (Nat.le_refl _) j3
  · rw [f5]; subst hg'; exact readsL_keep (fun b _ hb => ⟨rfl, In_lane.2 hb.ofN⟩) (Nat.le_refl _) j4
  · intro _
    subst hg'
    refine ⟨z, zu, zv, ?_, ?_⟩
    · rw [f2]; exact hz
    · rw [f4, f5]; exact hz2
end Go.Proofs.Ytckcldimnelklaa
