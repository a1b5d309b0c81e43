/- Ages, plain: the common age is the middle one. -/
import Derived.Test.YtckcldimnelklaaQ16
namespace Go.Proofs.Ytckcldimnelklaa
open Go
set_option linter.unusedVariables false
set_option linter.unusedSimpArgs false

def validAge (h : Hd) : Bool := h.is && decide (0 ≤ h.cell.age ∧ h.cell.age ≤ 1099511627776)
def agesOf (xs : List Hd) : List Int := (xs.filter validAge).map fun h => h.cell.age
theorem agesOf_cons (x : Hd) (xs : List Hd) : agesOf (x :: xs) = if validAge x = true then x.cell.age :: agesOf xs else agesOf xs := by
  unfold agesOf
  rw [List.filter_cons]
  split <;> rfl
theorem agesOf_nil : agesOf [] = [] := rfl
theorem agesOf_length (xs : List Hd) : (agesOf xs).length ≤ xs.length := by
  unfold agesOf
  rw [List.length_map]
  exact List.length_filter_le _ _
theorem agesOf_append (xs ys : List Hd) : agesOf (xs ++ ys) = agesOf xs ++ agesOf ys := by simp [agesOf]
theorem drop_consH {α : Type} {xs : List α} {i : Nat} (h : i < xs.length) : xs.drop i = xs[i] :: xs.drop (i + 1) := List.drop_eq_getElem_cons h

theorem amay16_eq (n : Int) : amay16 n = some (decide (4 ≤ n ∧ n ≤ 16)) := by
  unfold amay16
  by_cases h1 : 4 ≤ n <;> by_cases h2 : n ≤ 16 <;> simp [h1, h2]
theorem ais16_eq (a : Int) : ais16 a = some (decide (0 ≤ a ∧ a ≤ 1099511627776)) := by
  unfold ais16
  by_cases h1 : 0 ≤ a <;> by_cases h2 : a ≤ 1099511627776 <;> simp [h1, h2]
theorem add16_eq (q : List Int) (h : Hd) (hq : q.length < 1000000) : add16 q h = some (if validAge h = true then q ++ [h.cell.age] else q) := by
  unfold add16
  rw [ais16_eq, ob_some]
  unfold validAge
  by_cases h1 : h.is = true
  · rw [if_pos h1]
    by_cases h2 : 0 ≤ h.cell.age ∧ h.cell.age ≤ 1099511627776
    · rw [if_pos (decide_eq_true h2), if_pos hq, if_pos (by simp [h1, h2])]
    · rw [if_neg (by simpa using h2), if_neg (by simp [h1]; intro h3; omega)]
  · rw [if_neg h1, if_neg (by simp [h1])]

theorem each16_l1_eq (xs : List Hd) (K : List Int → Option (List Int)) (hL : xs.length ≤ 1000) : ∀ (k i : Nat) (l : List Int), xs.length < k + i → i ≤ xs.length → l.length ≤ i →
    each16_l1 xs K k ((i : Nat) : Int) l = K (l ++ agesOf (xs.drop i)) := by
  intro k
  induction k with
  | zero => intro i l h1 h2; omega
  | succ k ih =>
    intro i l h1 h2 h3
    rw [each16_l1]
    by_cases hi : i < xs.length
    · rw [if_pos (by omega), rd_get hi, ob_some, add16_eq _ _ (by omega), ob_some, if_pos (by omega), succI, drop_consH hi, agesOf_cons]
      by_cases g : validAge xs[i] = true
      · rw [if_pos g, if_pos g, ih (i + 1) _ (by omega) (by omega) (by simp; omega)]
        simp
      · rw [if_neg g, if_neg g]
        exact ih (i + 1) _ (by omega) (by omega) (by omega)
    · rw [if_neg (by omega), List.drop_eq_nil_of_le (by omega), agesOf_nil, List.append_nil]

theorem each16_eq (xs : List Hd) (hL : xs.length ≤ 1000) : each16 xs [] = some (agesOf xs) := by
  unfold each16
  have e := fun F (hF : 1000 < F) => each16_l1_eq xs (fun l => some l) hL F 0 [] (by omega) (by omega) (by simp)
  exact e 1000000 (by omega)

/-- The common age. -/
def middle (l : List Int) : Int := (srt l).getD ((l.length - 1) / 2) (-1)
def common (n : Int) (xs : List Hd) : Int :=
  if 4 ≤ n ∧ n ≤ 16 then (if ((agesOf (xs.take n.toNat)).length : Int) < n - 1 then -1 else middle (agesOf (xs.take n.toNat))) else -1

theorem take_min {xs : List Hd} {n : Int} : xs.take (min n ((xs.length : Nat) : Int)).toNat = xs.take n.toNat := by
  rcases Int.le_total n xs.length with h3 | h3
  · rw [Int.min_eq_left h3]
  · rw [Int.min_eq_right h3, List.take_of_length_le (by omega), List.take_of_length_le (by omega)]

theorem middle_rd {l : List Int} (h : 0 < l.length) : rd (srt l) ((((l.length : Nat) : Int) - 1) / 2) = some (middle l) := by
  have hl := srt_length l
  have e : (((l.length : Nat) : Int) - 1) / 2 = (((l.length - 1) / 2 : Nat) : Int) := by omega
  have hlt : (l.length - 1) / 2 < (srt l).length := by omega
  rw [e, rd_get hlt, middle, List.getD_eq_getElem?_getD, List.getElem?_eq_getElem hlt]
  rfl

theorem common16_eq (n : Int) (xs : List Hd) : common16 n xs = some (common n xs) := by
  unfold common16 common
  rw [amay16_eq, ob_some]
  by_cases h : 4 ≤ n ∧ n ≤ 16
  · have hl : (xs.take n.toNat).length ≤ 16 := by rw [List.length_take]; omega
    have ha := agesOf_length (xs.take n.toNat)
    rw [if_pos (decide_eq_true h), if_pos (by omega), take_min, each16_eq _ (by omega), ob_some, if_pos (by omega), if_pos h]
    by_cases h2 : (((agesOf (xs.take n.toNat)).length : Nat) : Int) < n - 1
    · rw [if_pos h2, if_pos h2]
    · rw [if_neg h2, if_neg h2]
      unfold sort16
      rw [if_pos (by omega), if_pos (by omega), ob_some, if_pos (by omega), if_pos (by omega), middle_rd (by omega), bsome]
  · rw [if_neg (by simpa using h), if_neg h]

/-! ### How many are less -/
def cLt (l : List Int) (v : Int) : Nat := l.countP fun x => decide (x < v)
def cEq (l : List Int) (v : Int) : Nat := l.countP fun x => decide (x = v)
def cLe (l : List Int) (v : Int) : Nat := l.countP fun x => decide (x ≤ v)
theorem cLe_eq (l : List Int) (v : Int) : cLe l v = cLt l v + cEq l v := by
  induction l with
  | nil => rfl
  | cons x l ih =>
    simp only [cLe, cLt, cEq, List.countP_cons] at *
    rw [ih]
    simp only [decide_eq_true_eq]
    split <;> split <;> split <;> omega
theorem cLt_perm {l m : List Int} (h : l.Perm m) (v : Int) : cLt l v = cLt m v := h.countP_eq _
theorem cLe_perm {l m : List Int} (h : l.Perm m) (v : Int) : cLe l v = cLe m v := h.countP_eq _
theorem cLe_cLt {l : List Int} {x v : Int} (h : x < v) : cLe l x ≤ cLt l v := List.countP_mono_left fun y _ hy => by simp only [decide_eq_true_eq] at *; omega

theorem cLt_append (l m : List Int) (v : Int) : cLt (l ++ m) v = cLt l v + cLt m v := by simp [cLt, List.countP_append]
theorem cLe_append (l m : List Int) (v : Int) : cLe (l ++ m) v = cLe l v + cLe m v := by simp [cLe, List.countP_append]

/-- In a rising list: of the one at a place no more are less, and more are not greater. -/
theorem at_sorted {s : List Int} (hs : s.Pairwise (· ≤ ·)) {i : Nat} (hi : i < s.length) : cLt s s[i] ≤ i ∧ i < cLe s s[i] := by
  have hp := List.pairwise_iff_getElem.1 hs
  constructor
  · have e : s = s.take i ++ s.drop i := (List.take_append_drop i s).symm
    have h1 : cLt (s.drop i) s[i] = 0 := by
      refine List.countP_eq_zero.2 fun x hx => ?_
      obtain ⟨j, hj, rfl⟩ := List.getElem_of_mem hx
      rw [List.getElem_drop]
      simp only [decide_eq_true_eq]
      rcases Nat.eq_zero_or_pos j with h0 | h0
      · subst h0; simp
      · have := hp i (i + j) hi (by simp at hj; omega) (by omega)
        omega
    have h2 : cLt (s.take i) s[i] ≤ i := Nat.le_trans List.countP_le_length (by simp; omega)
    have h3 : cLt s s[i] = cLt (s.take i) s[i] + cLt (s.drop i) s[i] := by rw [← cLt_append, List.take_append_drop]
    omega
  · have e : s = s.take (i + 1) ++ s.drop (i + 1) := (List.take_append_drop (i + 1) s).symm
    have h1 : cLe (s.take (i + 1)) s[i] = i + 1 := by
      have : cLe (s.take (i + 1)) s[i] = (s.take (i + 1)).length := by
        refine List.countP_eq_length.2 fun x hx => ?_
        obtain ⟨j, hj, rfl⟩ := List.getElem_of_mem hx
        rw [List.getElem_take]
        simp only [decide_eq_true_eq]
        have hj' : j < i + 1 := by simp at hj; omega
        rcases Nat.lt_or_ge j i with h0 | h0
        · exact hp j i (by omega) hi h0
        · have : j = i := by omega
          subst this; exact Int.le_refl _
      rw [this]; simp; omega
    have h3 : cLe s s[i] = cLe (s.take (i + 1)) s[i] + cLe (s.drop (i + 1)) s[i] := by rw [← cLe_append, List.take_append_drop]
    omega

theorem middle_at {l : List Int} (h : 0 < l.length) : cLt l (middle l) ≤ (l.length - 1) / 2 ∧ (l.length - 1) / 2 < cLe l (middle l) ∧ middle l ∈ l := by
  have hl := srt_length l
  have hi : (l.length - 1) / 2 < (srt l).length := by omega
  have e : middle l = (srt l)[(l.length - 1) / 2] := by rw [middle, List.getD_eq_getElem?_getD, List.getElem?_eq_getElem hi]; rfl
  obtain ⟨h1, h2⟩ := at_sorted (srt_pw l) hi
  rw [← e] at h1 h2
  refine ⟨by rw [← cLt_perm (srt_perm l)]; exact h1, by rw [← cLe_perm (srt_perm l)]; exact h2, ?_⟩
  rw [e]
  exact (srt_perm l).subset (List.getElem_mem hi)

theorem middle_uniq {l : List Int} (h : 0 < l.length) {x : Int} (h1 : cLt l x ≤ (l.length - 1) / 2) (h2 : (l.length - 1) / 2 < cLe l x) : x = middle l := by
  obtain ⟨k1, k2, _⟩ := middle_at h
  rcases Int.lt_trichotomy x (middle l) with h3 | h3 | h3
  · have := cLe_cLt (l := l) h3; omega
  · exact h3
  · have := cLe_cLt (l := l) h3; omega

/-! ### The reference -/
theorem rcommon16_l1_eq (n : Int) (xs : List Hd) (K : List Int → Option Int) (hL : xs.length ≤ 1000) : ∀ (k i : Nat) (l : List Int), xs.length < k + i → i ≤ xs.length → l.length ≤ i →
    rcommon16_l1 n xs K k ((i : Nat) : Int) l = K (l ++ agesOf ((xs.take n.toNat).drop i)) := by
  intro k
  induction k with
  | zero => intro i l h1 h2; omega
  | succ k ih =>
    intro i l h1 h2 h3
    rw [rcommon16_l1]
    by_cases hn : ((i : Nat) : Int) < n
    · rw [if_pos hn]
      by_cases hi : i < xs.length
      · have hi2 : i < (xs.take n.toNat).length := by rw [List.length_take]; omega
        rw [if_pos (by omega), rd_get hi, ob_some, drop_consH hi2, agesOf_cons, List.getElem_take]
        have e := ih (i + 1) l (by omega) (by omega) (by omega)
        have e2 := ih (i + 1) (l ++ [xs[i].cell.age]) (by omega) (by omega) (by simp; omega)
        have g : -9223372036854775808 ≤ ((i : Nat) : Int) + 1 ∧ ((i : Nat) : Int) + 1 ≤ 9223372036854775807 := by omega
        by_cases g1 : xs[i].is = true
        · by_cases g2 : 0 ≤ xs[i].cell.age
          · by_cases g3 : xs[i].cell.age ≤ 1099511627776
            · rw [if_pos g1, if_pos g2, if_pos g3, if_pos (by omega), if_pos g, if_pos (by simp [validAge, g1, g2, g3]), succI, e2]
              simp
            · rw [if_pos g1, if_pos g2, if_neg g3, if_pos g, if_neg (by simp [validAge, g1]; omega)]; exact e
          · rw [if_pos g1, if_neg g2, if_pos g, if_neg (by simp [validAge, g1]; omega)]; exact e
        · rw [if_neg g1, if_pos g, if_neg (by simp [validAge, g1])]; exact e
      · rw [if_neg (by omega), List.drop_eq_nil_of_le (by rw [List.length_take]; omega), agesOf_nil, List.append_nil]
    · rw [if_neg hn, List.drop_eq_nil_of_le (by rw [List.length_take]; omega), agesOf_nil, List.append_nil]

theorem cLt_cons (x : Int) (l : List Int) (v : Int) : cLt (x :: l) v = cLt l v + if x < v then 1 else 0 := by simp [cLt, List.countP_cons]
theorem cEq_cons (x : Int) (l : List Int) (v : Int) : cEq (x :: l) v = cEq l v + if x = v then 1 else 0 := by simp [cEq, List.countP_cons]

theorem rcommon16_l3_eq (l : List Int) (i : Nat) (hi : i < l.length) (K : Int → Int → Option Int) (hL : l.length ≤ 1000) : ∀ (k j : Nat) (a b : Int), l.length < k + j → j ≤ l.length → 0 ≤ a → a ≤ j → 0 ≤ b → b ≤ j →
    rcommon16_l3 l ((i : Nat) : Int) K k a b ((j : Nat) : Int) = K (a + cLt (l.drop j) l[i]) (b + cEq (l.drop j) l[i]) := by
  intro k
  induction k with
  | zero => intro j a b h1 h2; omega
  | succ k ih =>
    intro j a b h1 h2 h3 h4 h5 h6
    rw [rcommon16_l3]
    by_cases hj : j < l.length
    · rw [if_pos (by omega), rd_get hj, rd_get hi, ob_some, ob_some, drop_consH hj, cLt_cons, cEq_cons]
      have e := fun a b h3 h4 h5 h6 => ih (j + 1) a b (by omega) (by omega) h3 h4 h5 h6
      simp only [ob_some]
      by_cases g1 : l[j] < l[i]
      · by_cases g2 : l[j] = l[i]
        · omega
        · rw [if_pos g1, if_pos (by omega), if_neg g2, if_pos (by omega), succI, e (a + 1) b (by omega) (by omega) (by omega) (by omega), if_pos g1, if_neg g2]
          congr 1; omega
      · by_cases g2 : l[j] = l[i]
        · rw [if_neg g1, if_pos g2, if_pos (by omega), if_pos (by omega), succI, e a (b + 1) (by omega) (by omega) (by omega) (by omega), if_neg g1, if_pos g2]
          congr 1; omega
        · rw [if_neg g1, if_neg g2, if_pos (by omega), succI, e a b (by omega) (by omega) (by omega) (by omega), if_neg g1, if_neg g2]
          congr 1
    · rw [if_neg (by omega), List.drop_eq_nil_of_le (by omega)]
      simp [cLt, cEq]

theorem rcommon16_l2_eq (l : List Int) (K : Unit → Option Int) (h0 : 0 < l.length) (hL : l.length ≤ 1000) : ∀ (k i : Nat), l.length < k + i → i ≤ l.length → middle l ∈ l.drop i →
    rcommon16_l2 l K k ((i : Nat) : Int) = some (middle l) := by
  intro k
  induction k with
  | zero => intro i h1 h2; omega
  | succ k ih =>
    intro i h1 h2 hm
    have hi : i < l.length := by
      rcases Nat.lt_or_ge i l.length with h | h
      · exact h
      · rw [List.drop_eq_nil_of_le h] at hm; cases hm
    rw [rcommon16_l2, if_pos (by omega)]
    have e3 := fun K => rcommon16_l3_eq l i hi K hL 1000000 0 0 0 (by omega) (by omega) (by omega) (by omega) (by omega) (by omega)
    refine Eq.trans (e3 _) ?_
    simp only [List.drop_zero, Int.zero_add]
    have hle := cLe_eq l l[i]
    have hc1 : cLt l l[i] ≤ l.length := List.countP_le_length
    have hc2 : cEq l l[i] ≤ l.length := List.countP_le_length
    have hne : l[i] ≠ middle l → middle l ∈ l.drop (i + 1) := fun hn => by
      rw [drop_consH hi] at hm
      rcases List.mem_cons.1 hm with h | h
      · exact absurd h.symm hn
      · exact h
    have e2 : (((l.length : Nat) : Int) - 1) / 2 = (((l.length - 1) / 2 : Nat) : Int) := by omega
    rw [if_pos (by omega), if_pos (by omega), e2]
    by_cases g1 : cLt l l[i] ≤ (l.length - 1) / 2
    · rw [if_pos (by omega), if_pos (by omega)]
      by_cases g2 : (l.length - 1) / 2 < cLe l l[i]
      · rw [if_pos (by omega), rd_get hi, ob_some, middle_uniq h0 g1 g2]
      · rw [if_neg (by omega), if_pos (by omega), succI]
        exact ih (i + 1) (by omega) (by omega) (hne fun he => g2 (by rw [he]; exact (middle_at h0).2.1))
    · rw [if_neg (by omega), if_pos (by omega), succI]
      exact ih (i + 1) (by omega) (by omega) (hne fun he => g1 (by rw [he]; exact (middle_at h0).1))

theorem rcommon16_eq (n : Int) (xs : List Hd) (hL : xs.length ≤ 1000) : rcommon16 n xs = some (common n xs) := by
  unfold rcommon16 common
  by_cases h1 : n < 4
  · rw [if_pos h1, if_neg (by omega)]
  · by_cases h2 : 16 < n
    · rw [if_neg h1, if_pos h2, if_neg (by omega)]
    · have ha := agesOf_length (xs.take n.toNat)
      have ht : (xs.take n.toNat).length ≤ 16 := by rw [List.length_take]; omega
      rw [if_neg h1, if_neg h2, if_pos (by omega)]
      refine Eq.trans (rcommon16_l1_eq n xs _ hL 1000000 0 [] (by omega) (by omega) (by simp)) ?_
      simp only [List.drop_zero, List.nil_append]
      rw [if_pos (by omega)]
      by_cases h3 : (((agesOf (xs.take n.toNat)).length : Nat) : Int) < n - 1
      · rw [if_pos h3, if_pos h3]
      · rw [if_neg h3, if_neg h3]
        exact rcommon16_l2_eq _ _ (by omega) (by omega) 1000000 0 (by omega) (by omega) (by rw [List.drop_zero]; exact (middle_at (by omega)).2.2)

theorem acommon16_l1_eq (xs : List Hd) (K : List Hd → Option Bool) (hL : xs.length ≤ 1000) : ∀ (k i : Nat), xs.length < k + i → i ≤ xs.length → acommon16_l1 xs K k ((i : Nat) : Int) (xs.take i) = K xs := by
  intro k
  induction k with
  | zero => intro i h1 h2; omega
  | succ k ih =>
    intro i h1 h2
    rw [acommon16_l1]
    by_cases hi : i < xs.length
    · rw [if_pos (by omega), rd_get hi, ob_some, if_pos (by rw [List.length_take]; omega), if_pos (by omega), succI]
      have e : xs.take i ++ [(⟨xs[i].is, xs[i].cell⟩ : Hd)] = xs.take (i + 1) := by rw [List.take_succ_eq_append_getElem hi]
      rw [e]; exact ih (i + 1) (by omega) (by omega)
    · rw [if_neg (by omega), List.take_of_length_le (by omega)]

theorem acommon16_l2_eq (xs : List Hd) (K : Unit → Option Bool) (hL : xs.length ≤ 1000) : ∀ (k i : Nat), xs.length < k + i → i ≤ xs.length → acommon16_l2 xs K k ((i : Nat) : Int) = K () := by
  intro k
  induction k with
  | zero => intro i h1 h2; omega
  | succ k ih =>
    intro i h1 h2
    rw [acommon16_l2]
    by_cases hi : i < xs.length
    · rw [if_pos (by omega), List.nil_append, rd_get hi, ob_some, ob_some, if_neg (by simp), if_pos (by omega), succI]
      exact ih (i + 1) (by omega) (by omega)
    · rw [if_neg (by omega)]

theorem acommon16_eq (n : Int) (xs : List Hd) (hn : -9223372036854775808 ≤ n ∧ n ≤ 9223372036854775807) : acommon16 n xs = some true := by
  unfold acommon16
  by_cases h : 100 < ((xs.length : Nat) : Int)
  · rw [if_pos h, bsome]; exact lives16_true
  · rw [if_neg h, if_pos (by simp; omega)]
    have e1 := fun F (hF : 100 < F) K => acommon16_l1_eq xs K (by omega) F 0 (by omega) (by omega)
    have e2 := fun F (hF : 100 < F) K => acommon16_l2_eq xs K (by omega) F 0 (by omega) (by omega)
    have hF : 100 < 1000000 := by omega
    revert hF
    generalize 1000000 = F
    intro hF
    refine Eq.trans (e1 F hF _) ?_
    rw [List.nil_append, common16_eq, ob_some, rcommon16_eq n xs (by omega), ob_some, if_pos rfl]
    refine Eq.trans (e2 F hF _) ?_
    rw [bsome]; exact lives16_true
end Go.Proofs.Ytckcldimnelklaa
