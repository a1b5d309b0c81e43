/- TracksVoid, plain. -/
import Derived.Test.YtckcldimnelklaaD14y
import Derived.Test.YtckcldimnelklaaPU
namespace Go.Proofs.Ytckcldimnelklaa
open Go
set_option linter.unusedVariables false
set_option linter.unusedSimpArgs false

theorem greatn14_l1_le (p0 : List Rw) (K : Int → Option Bool) (hl0 : p0.length ≤ 140737488355328) (hz : ∀ r ∈ p0, r.table.length ≤ 140737488355328) : ∀ (k i : Nat) (m : Int), p0.length < k + i → i ≤ p0.length → 0 ≤ m → m ≤ 1000000000000000 →
    ∃ m', greatn14_l1 p0 K k m ((i : Nat) : Int) = K m' ∧ m ≤ m' ∧ (m' ≤ 800 → ∀ j, i ≤ j → ∀ h : j < p0.length, p0[j].table.length ≤ 800) := by
  intro k
  induction k with
  | zero => intro i m h1 h2; omega
  | succ k ih =>
    intro i m h1 h2 h3 h4
    rw [greatn14_l1]
    by_cases hlt : i < p0.length
    · rw [if_pos (by omega)]
      by_cases h9 : m < 900
      · have hl := hz p0[i] (List.getElem_mem hlt)
        rw [if_pos h9, rd_get hlt, ob_some, if_pos (by omega)]
        have hw : IntKind.wrap .i64 (m + ((p0[i].table.length : Nat) : Int)) = m + ((p0[i].table.length : Nat) : Int) := w64 (by omega) (by omega)
        rw [hw, succI]
        obtain ⟨m', h5, h6, h7⟩ := ih (i + 1) (m + ((p0[i].table.length : Nat) : Int)) (by omega) (by omega) (by omega) (by omega)
        refine ⟨m', h5, by omega, fun h8 j hj h => ?_⟩
        by_cases hji : j = i
        · subst hji; omega
        · exact h7 h8 j (by omega) h
      · rw [if_neg h9]
        exact ⟨m, rfl, by omega, fun h => by omega⟩
    · rw [if_neg (by omega)]
      exact ⟨m, rfl, by omega, fun _ j hj h => by omega⟩

theorem greatn14_le (p0 : List Rw) (hl : p0.length ≤ 140737488355328) (hz : ∀ r ∈ p0, r.table.length ≤ 140737488355328) : ∃ b, greatn14 p0 = some b ∧ (b = false → p0.length ≤ 800 ∧ ∀ r ∈ p0, r.table.length ≤ 800) := by
  unfold greatn14
  have hF : 10000 < 1000000 := by decide
  revert hF
  generalize 1000000 = F
  intro hF
  by_cases hL : p0.length ≤ 1000
  · obtain ⟨m', h5, h6, h7⟩ := greatn14_l1_le p0 (fun (i178 : Int) => (if 800 < i178 then (some true) else (some false))) hl hz F 0 ((p0.length : Nat) : Int) (by omega) (by omega) (by omega) (by omega)
    rw [show (0 : Int) = ((0 : Nat) : Int) from rfl, h5]
    by_cases h8 : 800 < m'
    · exact ⟨true, by rw [if_pos h8], fun h => by cases h⟩
    · refine ⟨false, by rw [if_neg h8], fun _ => ⟨by omega, fun r hr => ?_⟩⟩
      obtain ⟨j, hj, rfl⟩ := List.mem_iff_getElem.1 hr
      exact h7 (by omega) j (Nat.zero_le _) hj
  · obtain ⟨G, rfl⟩ : ∃ G, F = G + 1 := ⟨F - 1, by omega⟩
    rw [greatn14_l1, if_pos (by omega), if_neg (by omega), if_pos (by omega)]
    exact ⟨true, rfl, fun h => by cases h⟩

theorem great14_l3_some (x : ((List Rw) × (List Rw) × (List Rw) × (List Rw)) × Rw × Int) (j : Int) (l : List Rw) (hj : rd [x.1.1, x.1.2.1, x.1.2.2.1, x.1.2.2.2, [x.2.1]] j = some l) (K : Int → Option Bool) (hL : l.length ≤ 1000) : ∀ (k i : Nat) (m : Int), l.length < k + i → i ≤ l.length → ∃ m', great14_l3 x j K k m ((i : Nat) : Int) = K m' := by
  intro k
  induction k with
  | zero => intro i m h1 h2; omega
  | succ k ih =>
    intro i m h1 h2
    rw [great14_l3, hj, ob_some, ob_some]
    by_cases hlt : i < l.length
    · rw [if_pos (by omega), rd_get hlt, ob_some, if_pos (by omega), succI]
      exact ih (i + 1) _ (by omega) (by omega)
    · rw [if_neg (by omega)]
      exact ⟨m, rfl⟩

theorem great14_l2_some (x : ((List Rw) × (List Rw) × (List Rw) × (List Rw)) × Rw × Int) (K : Int → Option Bool) (hK : ∀ m, ∃ b, K m = some b) (h0 : ∀ l ∈ [x.1.1, x.1.2.1, x.1.2.2.1, x.1.2.2.2, [x.2.1]], l.length ≤ 140737488355328 ∧ ∀ r ∈ l, r.table.length ≤ 140737488355328) : ∀ (d j F : Nat) (m : Int), j + d = 5 → ∃ b, great14_l2 x K (F + d + 1) m ((j : Nat) : Int) = some b := by
  intro d
  induction d with
  | zero =>
    intro j F m hj
    rw [great14_l2, if_neg (by omega)]
    exact hK m
  | succ d ih =>
    intro j F m hj
    rw [great14_l2, if_pos (by omega)]
    have hlt : j < ([x.1.1, x.1.2.1, x.1.2.2.1, x.1.2.2.2, [x.2.1]]).length := by show j < 5; omega
    have hr := rd_get hlt
    obtain ⟨h1, h2⟩ := h0 _ (List.getElem_mem hlt)
    revert hr h1 h2
    generalize ([x.1.1, x.1.2.1, x.1.2.2.1, x.1.2.2.2, [x.2.1]])[j] = l
    intro hr h1 h2
    obtain ⟨b, hb, hb2⟩ := greatn14_le l h1 h2
    rw [hr, ob_some, ob_some, hb, ob_some]
    cases b with
    | true => rw [if_pos rfl]; exact ⟨true, rfl⟩
    | false =>
      rw [if_neg (by simp)]
      by_cases h6 : 6000 < m
      · rw [if_pos h6]; exact ⟨true, rfl⟩
      rw [if_neg h6]
      have hl := (hb2 rfl).1
      have hF : 10000 < 1000000 := by decide
      revert hF
      generalize 1000000 = G
      intro hF
      obtain ⟨m', hm⟩ := great14_l3_some x ((j : Nat) : Int) l hr (fun (i : Int) => if -9223372036854775808 ≤ ((j : Nat) : Int) + 1 ∧ ((j : Nat) : Int) + 1 ≤ 9223372036854775807 then great14_l2 x K (F + d + 1) i (((j : Nat) : Int) + 1) else none) (by omega) G 0 (IntKind.wrap .i64 (m + ((l.length : Nat) : Int))) (by omega) (by omega)
      obtain ⟨b, hb⟩ := ih (j + 1) F m' (by omega)
      refine ⟨b, (show _ = _ from hm).trans ?_⟩
      show (if -9223372036854775808 ≤ ((j : Nat) : Int) + 1 ∧ ((j : Nat) : Int) + 1 ≤ 9223372036854775807 then great14_l2 x K (F + d + 1) m' (((j : Nat) : Int) + 1) else none) = _
      rw [if_pos (by omega), succI]
      exact hb

theorem great14_some (x : ((List Rw) × (List Rw) × (List Rw) × (List Rw)) × Rw × Int) (h0 : ∀ l ∈ [x.1.1, x.1.2.1, x.1.2.2.1, x.1.2.2.2, [x.2.1]], l.length ≤ 140737488355328 ∧ ∀ r ∈ l, r.table.length ≤ 140737488355328) : ∃ b, great14 [x] = some b := by
  unfold great14
  have hF : 10000 < 1000000 := by decide
  revert hF
  generalize 1000000 = G
  intro hF
  rw [if_neg (by simp)]
  obtain ⟨G1, rfl⟩ : ∃ G1, G = G1 + 6 := ⟨G - 6, by omega⟩
  rw [great14_l1, if_pos (by simp)]
  have hr : rd [x] 0 = some x := rfl
  rw [hr, ob_some]
  have hF2 : 10000 < 1000000 := by decide
  revert hF2
  generalize 1000000 = G2
  intro hF2
  obtain ⟨G3, rfl⟩ : ∃ G3, G2 = G3 + 6 := ⟨G2 - 6, by omega⟩
  refine great14_l2_some x _ (fun m => ?_) h0 5 0 G3 0 rfl
  rw [if_pos (by decide)]
  have : ∀ m : Int, ∃ b, (if 6000 < m then some true else some false) = some b := fun m => by split <;> exact ⟨_, rfl⟩
  obtain ⟨b, hb⟩ := this m
  refine ⟨b, ?_⟩
  show great14_l1 [x] _ (G1 + 4 + 1) m (0 + 1) = some b
  rw [great14_l1, if_neg (by simp)]
  exact hb
theorem lives14_true : lives14 = some true := by decide +kernel
theorem void14_eq (x : ((List Rw) × (List Rw) × (List Rw) × (List Rw)) × Rw × Int) (h0 : ∀ l ∈ [x.1.1, x.1.2.1, x.1.2.2.1, x.1.2.2.2, [x.2.1]], l.length ≤ 140737488355328 ∧ ∀ r ∈ l, r.table.length ≤ 140737488355328) : void14 x = some true := by
  obtain ⟨b, hb⟩ := great14_some x h0
  unfold void14
  rw [hb, ob_some, lives14_true]
  cases b with
  | true => rfl
  | false =>
    rw [if_neg (by simp)]
    have hF : 10000 < 1000000 := by decide
    revert hF
    generalize 1000000 = G
    intro hF
    obtain ⟨G1, rfl⟩ : ∃ G1, G = G1 + 3 := ⟨G - 3, by omega⟩
    rfl

end Go.Proofs.Ytckcldimnelklaa
