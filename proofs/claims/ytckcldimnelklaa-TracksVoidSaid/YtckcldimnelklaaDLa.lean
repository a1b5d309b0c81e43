/- A lane as a datum; what its methods make of it, whole. -/
import Derived.Test.YtckcldimnelklaaD14h
import Derived.Test.YtckcldimnelklaaD14s
import Derived.Test.YtckcldimnelklaaTL
namespace Go.Proofs.Ytckcldimnelklaa
open Go
set_option linter.unusedVariables false
/-- n, me, ticks, begun, past. -/
abbrev LaneD : Type := Int × Int × Int × Bool × List Mom
def cur14 (q : LaneD) : Nat := ((q.2.2.1 - 1) % (q.1 + 1)).toNat
def lent1 (ds : List Mom) (m : Nat) : List Mom := match ds[m]? with
  | none => ds
  | some d => ds.set m ((([] : List Rw), d.1.2), (([] : List Rw), d.2.2))
/-- What lies in the lane's memory of moments: of the one that is open the tracks lie elsewhere. -/
def lentD (q : LaneD) : List Mom := if q.2.2.2.1 = true then lent1 q.2.2.2.2 (cur14 q) else q.2.2.2.2
def trk0 (q : LaneD) : List Rw := if q.2.2.2.1 = true then (match q.2.2.2.2[cur14 q]? with | none => [] | some d => d.1.1) else []
def trk1 (q : LaneD) : List Rw := if q.2.2.2.1 = true then (match q.2.2.2.2[cur14 q]? with | none => [] | some d => d.2.1) else []
def lq (q : LaneD) : LaneD := (q.1, q.2.1, q.2.2.1, q.2.2.2.1, lentD q)
def fullD (q : LaneD) (x0 x1 : List Rw) : LaneD := match q.2.2.2.2[cur14 q]? with
  | none => q
  | some d => (q.1, q.2.1, q.2.2.1, q.2.2.2.1, q.2.2.2.2.set (cur14 q) ((x0, d.1.2), (x1, d.2.2)))
/-- Hear, of a lane that is there. -/
def hearU (q : LaneD) (p1 : (List Rw) × (List Rw) × (List Rw) × (List Rw)) : Option (List Rw × LaneD) := Option.bind (hear14 q p1) fun r => some (r.1, fullD r.2.1 r.2.2.1 r.2.2.2)
/-- Say, of a lane that is there. -/
def sayU (q : LaneD) (p1 : Rw) : Option (List Rw × List Rw × LaneD) := if q.2.2.2.1 = true then say14 (lq q) p1 (trk0 q) (trk1 q) else some ([], [], q)

theorem lent1_len (ds : List Mom) (m : Nat) : (lent1 ds m).length = ds.length := by unfold lent1; split <;> simp
theorem lentD_len (q : LaneD) : (lentD q).length = q.2.2.2.2.length := by unfold lentD; split; exact lent1_len _ _; rfl

theorem hear14_l1_K {q0 : LaneD} {y z : List Rw × List Rw} {K : List Rw → Option (List Rw × LaneD × List Rw × List Rw)} {r : List Rw × LaneD × List Rw × List Rw} :
    ∀ (F : Nat) (i : Int) (l : List Rw), hear14_l1 q0 y z K F i l = some r → ∃ l', K l' = some r := by
  intro F
  induction F with
  | zero => intro i l h; cases h
  | succ F ih =>
    intro i l h
    rw [hear14_l1] at h
    split at h
    · split at h
      · obtain ⟨x, _, h⟩ := ob h
        obtain ⟨x2, _, h⟩ := ob h
        obtain ⟨x3, _, h⟩ := ob h
        exact ih _ _ (ckE h).2
      · exact ih _ _ (ckE h).2
    · exact ⟨l, h⟩

/-- What Hear leaves. -/
theorem hear14_shape {q : LaneD} {p1 : (List Rw) × (List Rw) × (List Rw) × (List Rw)} {r : List Rw × LaneD × List Rw × List Rw} (h : hear14 q p1 = some r) :
    ∃ (n0 n1 : List Rw) (d : Mom), q.2.2.2.2[(q.2.2.1 % (q.1 + 1)).toNat]? = some d ∧ r.2.1 = (q.1, q.2.1, q.2.2.1 + 1, true, q.2.2.2.2.set (q.2.2.1 % (q.1 + 1)).toNat ((([] : List Rw), n0), (([] : List Rw), n1))) := by
  rw [hear14] at h
  split at h
  · cases h
  · obtain ⟨_, h⟩ := ckE h
    obtain ⟨_, h⟩ := ckE h
    obtain ⟨_, h⟩ := ckE h
    obtain ⟨y, _, h⟩ := ob h
    obtain ⟨z, _, h⟩ := ob h
    obtain ⟨d, hd, h⟩ := ob h
    obtain ⟨_, h⟩ := ckE h
    obtain ⟨l, h⟩ := hear14_l1_K _ _ _ h
    cases h
    exact ⟨y.2, z.2, d, (rdE hd).2.1, rfl⟩

/-- What was laid, whole. -/
theorem full_facts {q q1 : LaneD} {n0 n1 x0 x1 : List Rw} {d : Mom} (hd : q.2.2.2.2[(q.2.2.1 % (q.1 + 1)).toNat]? = some d)
    (hq : q1 = (q.1, q.2.1, q.2.2.1 + 1, true, q.2.2.2.2.set (q.2.2.1 % (q.1 + 1)).toNat ((([] : List Rw), n0), (([] : List Rw), n1)))) :
    fullD q1 x0 x1 = (q.1, q.2.1, q.2.2.1 + 1, true, q.2.2.2.2.set (q.2.2.1 % (q.1 + 1)).toNat ((x0, n0), (x1, n1))) ∧ cur14 (fullD q1 x0 x1) = (q.2.2.1 % (q.1 + 1)).toNat ∧ lentD (fullD q1 x0 x1) = q1.2.2.2.2 ∧ trk0 (fullD q1 x0 x1) = x0 ∧ trk1 (fullD q1 x0 x1) = x1 := by
  have hlt := (List.getElem?_eq_some_iff.1 hd).1
  have hc : ∀ p : List Mom, cur14 (q.1, q.2.1, q.2.2.1 + 1, true, p) = (q.2.2.1 % (q.1 + 1)).toNat := fun p => by
    show ((q.2.2.1 + 1 - 1) % (q.1 + 1)).toNat = _
    rw [show q.2.2.1 + 1 - 1 = q.2.2.1 by omega]
  have h1 : fullD q1 x0 x1 = (q.1, q.2.1, q.2.2.1 + 1, true, q.2.2.2.2.set (q.2.2.1 % (q.1 + 1)).toNat ((x0, n0), (x1, n1))) := by
    subst hq
    unfold fullD
    rw [hc]
    simp only [List.getElem?_set_self hlt, List.set_set]
  rw [h1]
  refine ⟨rfl, hc _, ?_, ?_, ?_⟩
  · unfold lentD lent1
    rw [hc, hq]
    simp only [if_true, List.getElem?_set_self hlt, List.set_set]
  · unfold trk0
    rw [hc]
    simp only [if_true, List.getElem?_set_self hlt]
  · unfold trk1
    rw [hc]
    simp only [if_true, List.getElem?_set_self hlt]

theorem say14_l1_K {q0 : LaneD} {p1 : Rw} {K : List Rw → List Rw → Option (List Rw × List Rw × LaneD)} {r : List Rw × List Rw × LaneD} :
    ∀ (F : Nat) (i : Int) (l m : List Rw), say14_l1 q0 p1 K F i l m = some r → ∃ l' m', K l' m' = some r := by
  intro F
  induction F with
  | zero => intro i l m h; cases h
  | succ F ih =>
    intro i l m h
    rw [say14_l1] at h
    split at h
    · split at h
      · obtain ⟨x, _, h⟩ := ob h
        obtain ⟨x2, _, h⟩ := ob h
        exact ih _ _ _ (ckE h).2
      · obtain ⟨_, h⟩ := ckE h
        obtain ⟨x, _, h⟩ := ob h
        obtain ⟨x2, _, h⟩ := ob h
        exact ih _ _ _ (ckE h).2
    · exact ⟨l, m, h⟩
theorem say14_shape {q : LaneD} {p1 : Rw} {t0 t1 : List Rw} {r : List Rw × List Rw × LaneD} (h : say14 q p1 t0 t1 = some r) : r.2.2.2.2.2.1 = false := by
  rw [say14] at h
  split at h
  · obtain ⟨_, h⟩ := ckE h
    obtain ⟨_, h⟩ := ckE h
    obtain ⟨_, h⟩ := ckE h
    obtain ⟨y, _, h⟩ := ob h
    obtain ⟨l, m, h⟩ := say14_l1_K _ _ _ _ h
    obtain ⟨y, _, h⟩ := ob h
    obtain ⟨z, _, h⟩ := ob h
    cases h; rfl
  · cases h
theorem lent_off {q : LaneD} (h : q.2.2.2.1 = false) : lentD q = q.2.2.2.2 ∧ trk0 q = [] ∧ trk1 q = [] := by
  unfold lentD trk0 trk1
  rw [h]
  exact ⟨if_neg (by simp), if_neg (by simp), if_neg (by simp)⟩
end Go.Proofs.Ytckcldimnelklaa
