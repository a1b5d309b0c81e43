/- Plain: what is agreed. -/
import Derived.Test.YtckcldimnelklaaPAgreesAnyD0
import Derived.Test.YtckcldimnelklaaPU
namespace Go.Proofs.Ytckcldimnelklaa
open Go
set_option linter.unusedVariables false
set_option linter.unusedSimpArgs false

/-- What a node's row says of another one. -/
def vote (s i : Nat) (r : Rw) : Option Cl :=
  if i = s then none else if r.is = true then (match r.table[s]? with | some h => if h.is = true then some h.cell else none | none => none) else none

def mostR (n : Int) (s : Nat) : List Rw → Nat → List (Cl × Int) → Hd
  | [], _, _ => Hd.none
  | r :: rs, i, m => match vote s i r with
    | none => mostR n s rs (i + 1) m
    | some c => if n - 1 < 2 * (mget m c + 1) then ⟨true, c⟩ else mostR n s rs (i + 1) (mput m c (mget m c + 1))

theorem most15_l1_eq (p2 : List Rw) (p0 : Int) (s : Nat) (K : Unit → Option Hd) (hp : 0 ≤ p0 ∧ p0 ≤ 16) (hK : K () = some Hd.none) :
    ∀ (F i : Nat) (m : List (Cl × Int)), i ≤ (p2.take p0.toNat).length → (p2.take p0.toNat).length - i < F → (∀ c, 0 ≤ mget m c ∧ mget m c ≤ i) →
      most15_l1 p2 p0 ((s : Nat) : Int) K F ((i : Nat) : Int) m = some (mostR p0 s ((p2.take p0.toNat).drop i) i m) := by
  have ht : p2.take (min p0 ((p2.length : Nat) : Int)).toNat = p2.take p0.toNat := by
    rcases Int.le_total p0 ((p2.length : Nat) : Int) with h | h
    · rw [Int.min_eq_left h]
    · rw [Int.min_eq_right h, Int.toNat_natCast, List.take_length, List.take_of_length_le (by omega)]
  have hlen : (p2.take p0.toNat).length ≤ 16 := by rw [List.length_take]; omega
  intro F
  induction F with
  | zero => intro i m hi hF; omega
  | succ F ih =>
    intro i m hi hF hm
    rw [most15_l1, ht]
    by_cases hlt : i < (p2.take p0.toNat).length
    · rw [if_pos (show ((i : Nat) : Int) < _ by omega), rd_get hlt, ob_some]
      have hd : (p2.take p0.toNat).drop i = (p2.take p0.toNat)[i] :: (p2.take p0.toNat).drop (i + 1) := List.drop_eq_getElem_cons hlt
      rw [hd]
      generalize (p2.take p0.toNat)[i] = r
      rw [mostR]
      have hov : (-9223372036854775808 : Int) ≤ ((i : Nat) : Int) + 1 ∧ ((i : Nat) : Int) + 1 ≤ 9223372036854775807 := by omega
      have hnext : ∀ m' : List (Cl × Int), (∀ c, 0 ≤ mget m' c ∧ mget m' c ≤ i + 1) → most15_l1 p2 p0 ((s : Nat) : Int) K F (((i : Nat) : Int) + 1) m' = some (mostR p0 s ((p2.take p0.toNat).drop (i + 1)) (i + 1) m') := fun m' hm' =>
        ih (i + 1) m' (by omega) (by omega) (by intro c; have := hm' c; omega)
      have hm1 : ∀ c, 0 ≤ mget m c ∧ mget m c ≤ i + 1 := fun c => by have := hm c; omega
      by_cases hs : i = s
      · rw [if_pos (show ((i : Nat) : Int) = ((s : Nat) : Int) by omega), if_pos hov, hnext m hm1]
        rw [vote, if_pos hs]
      · rw [if_neg (show ¬ ((i : Nat) : Int) = ((s : Nat) : Int) by omega)]
        rw [vote, if_neg hs]
        by_cases hr : r.is = true
        · rw [if_pos hr, if_pos hr]
          by_cases hl : s < r.table.length
          · rw [if_neg (show ¬ ((r.table.length : Nat) : Int) ≤ ((s : Nat) : Int) by omega), rd_get hl, ob_some, List.getElem?_eq_getElem hl]
            generalize r.table[s] = h
            by_cases hh : h.is = true
            · have hg : mget (mput m h.cell (mget m h.cell + 1)) h.cell = mget m h.cell + 1 := by rw [mget_mput, if_pos rfl]
              have hmc := hm h.cell
              simp only [hh, if_true, hg]
              rw [if_pos (by omega), if_pos (by omega), if_pos (by omega)]
              by_cases hmaj : p0 - 1 < 2 * (mget m h.cell + 1)
              · rw [if_pos hmaj, if_pos hmaj]
              · rw [if_neg hmaj, if_neg hmaj, if_pos hov]
                refine hnext _ fun c => ?_
                rw [mget_mput]
                have := hm c
                split
                · omega
                · omega
            · simp only [hh, Bool.false_eq_true, if_false]
              rw [if_pos hov, hnext m hm1]
          · rw [if_pos (show ((r.table.length : Nat) : Int) ≤ ((s : Nat) : Int) by omega), List.getElem?_eq_none (by omega), if_pos hov, hnext m hm1]
        · rw [if_neg hr, if_neg hr, if_pos hov, hnext m hm1]
    · rw [if_neg (show ¬ ((i : Nat) : Int) < _ by omega), hK]
      have : (p2.take p0.toNat).drop i = [] := List.drop_eq_nil_of_le (by omega)
      rw [this, mostR]

theorem most15_eq (p0 : Int) (s : Nat) (p2 : List Rw) (hp : 0 ≤ p0 ∧ p0 ≤ 16) : most15 p0 ((s : Nat) : Int) p2 = some (mostR p0 s (p2.take p0.toNat) 0 []) := by
  rw [most15]
  have hF : 100 < 1000000 := by decide
  revert hF
  generalize 1000000 = F
  intro hF
  rw [if_pos (by rcases Int.le_total p0 ((p2.length : Nat) : Int) with h | h; rw [Int.min_eq_left h]; omega; rw [Int.min_eq_right h]; omega)]
  have hlen : (p2.take p0.toNat).length ≤ 16 := by rw [List.length_take]; omega
  exact most15_l1_eq p2 p0 s _ hp rfl F 0 [] (Nat.zero_le _) (by omega) (fun c => ⟨Int.le_refl _, Int.le_refl _⟩)

/-- What is agreed. -/
def agreeL (n : Nat) (hs : List Rw) : List Hd := (List.range n).map fun s => mostR n s (hs.take n) 0 []

theorem agree15_l1_eq (p0 : Int) (p1 : List Rw) (hp : 0 ≤ p0 ∧ p0 ≤ 16) : ∀ (F i : Nat) (l : List Hd), l.length = p0.toNat → i ≤ p0.toNat → p0.toNat - i < F →
    agree15_l1 p0 p1 (fun l => some l) F ((i : Nat) : Int) l = some (l.take i ++ ((List.range p0.toNat).drop i).map fun s => mostR p0 s (p1.take p0.toNat) 0 []) := by
  intro F
  induction F with
  | zero => intro i l hl hi hF; omega
  | succ F ih =>
    intro i l hl hi hF
    rw [agree15_l1, List.length_replicate]
    by_cases hlt : i < p0.toNat
    · rw [if_pos (show ((i : Nat) : Int) < _ by omega), most15_eq p0 i p1 hp, ob_some, rd_get (by omega), ob_some, if_pos (by omega)]
      have := ih (i + 1) (l.set i (mostR p0 i (p1.take p0.toNat) 0 [])) (by simpa using hl) (by omega) (by omega)
      rw [Int.toNat_natCast]
      show agree15_l1 p0 p1 _ F ((i + 1 : Nat) : Int) _ = _
      rw [this]
      have h1 : (List.range p0.toNat).drop i = i :: (List.range p0.toNat).drop (i + 1) := by
        rw [List.drop_eq_getElem_cons (by simpa using hlt)]; simp
      rw [h1, List.map_cons]
      have h2 : (l.set i (mostR p0 i (p1.take p0.toNat) 0 [])).take (i + 1) = l.take i ++ [mostR p0 i (p1.take p0.toNat) 0 []] := by
        rw [List.take_succ_eq_append_getElem (by simp; omega), List.take_set_of_le (Nat.le_refl i)]
        simp
      rw [h2, List.append_assoc]; rfl
    · rw [if_neg (show ¬ ((i : Nat) : Int) < _ by omega)]
      have : i = p0.toNat := by omega
      subst this
      rw [List.take_of_length_le (by omega), List.drop_eq_nil_of_le (by simp)]; simp

theorem agree15_eq (n : Nat) (p1 : List Rw) (hn : 4 ≤ n ∧ n ≤ 16) : agree15 ((n : Nat) : Int) p1 = some (agreeL n p1) := by
  rw [agree15]
  have hF : 100 < 1000000 := by decide
  revert hF
  generalize 1000000 = F
  intro hF
  rw [if_neg (by omega), if_neg (by omega), if_pos (by omega)]
  have := agree15_l1_eq ((n : Nat) : Int) p1 (by omega) F 0 (List.replicate ((n : Nat) : Int).toNat Hd.none) (by simp) (by omega) (by omega)
  rw [show (0 : Int) = ((0 : Nat) : Int) from rfl, this]
  simp [agreeL]

/-! ### The majority -/
def votesL (s : Nat) : List Rw → Nat → List Cl
  | [], _ => []
  | r :: rs, i => match vote s i r with
    | none => votesL s rs (i + 1)
    | some c => c :: votesL s rs (i + 1)
def mostV (n : Int) : List Cl → List (Cl × Int) → Hd
  | [], _ => Hd.none
  | c :: cs, m => if n - 1 < 2 * (mget m c + 1) then ⟨true, c⟩ else mostV n cs (mput m c (mget m c + 1))
theorem mostR_eq (n : Int) (s : Nat) : ∀ (rs : List Rw) (i : Nat) (m : List (Cl × Int)), mostR n s rs i m = mostV n (votesL s rs i) m
  | [], _, _ => rfl
  | r :: rs, i, m => by
    rw [mostR, votesL]
    cases vote s i r with
    | none => exact mostR_eq n s rs (i + 1) m
    | some c => simp only [mostV]; rw [mostR_eq n s rs (i + 1)]

theorem mget_step {pre : List Cl} {m : List (Cl × Int)} {c : Cl} (hm : ∀ c, mget m c = ((pre.count c : Nat) : Int)) (c' : Cl) : mget (mput m c (mget m c + 1)) c' = (((pre ++ [c]).count c' : Nat) : Int) := by
  rw [mget_mput, hm c', hm c, List.count_append]
  by_cases h' : c' = c
  · subst h'; simp
  · rw [if_neg h']
    have : ¬ c = c' := fun h => h' h.symm
    simp [List.count_cons, this]
theorem mostV_sound (n : Int) : ∀ (cs pre : List Cl) (m : List (Cl × Int)), (∀ c, mget m c = ((pre.count c : Nat) : Int)) → (mostV n cs m).is = true → n - 1 < 2 * (((pre ++ cs).count (mostV n cs m).cell : Nat) : Int)
  | [], pre, m, hm, h => by cases h
  | c :: cs, pre, m, hm, h => by
    rw [mostV] at h ⊢
    by_cases hc : n - 1 < 2 * (mget m c + 1)
    · rw [if_pos hc]
      rw [hm c] at hc
      simp only [List.count_append, List.count_cons_self]
      omega
    · rw [if_neg hc] at h ⊢
      have := mostV_sound n cs (pre ++ [c]) _ (mget_step hm) h
      rw [List.append_assoc] at this
      exact this

theorem count_two (a b : Cl) (h : a ≠ b) : ∀ l : List Cl, l.count a + l.count b ≤ l.length
  | [] => by simp
  | c :: l => by
    have := count_two a b h l
    simp only [List.count_cons, List.length_cons]
    by_cases h1 : c = a
    · subst h1; simp [h]; omega
    · by_cases h2 : c = b
      · subst h2; simp [h1]; omega
      · simp [h1, h2]; omega

/-- Where one cell has more than half, it is that. -/
theorem mostV_maj (n : Int) (x : Cl) : ∀ (cs pre : List Cl) (m : List (Cl × Int)), (∀ c, mget m c = ((pre.count c : Nat) : Int)) → n - 1 < 2 * (((pre ++ cs).count x : Nat) : Int) → (((pre ++ cs).length : Nat) : Int) ≤ n - 1 →
    ¬ n - 1 < 2 * ((pre.count x : Nat) : Int) → mostV n cs m = ⟨true, x⟩
  | [], pre, m, hm, h, hl, hp => by rw [List.append_nil] at h; exact absurd h hp
  | c :: cs, pre, m, hm, h, hl, hp => by
    rw [mostV]
    by_cases hc : n - 1 < 2 * (mget m c + 1)
    · rw [if_pos hc]
      by_cases hx : c = x
      · rw [hx]
      · exfalso
        rw [hm c] at hc
        have h2 := count_two c x hx (pre ++ c :: cs)
        simp only [List.count_append, List.count_cons_self] at h2
        simp only [List.count_append] at h
        omega
    · rw [if_neg hc]
      refine mostV_maj n x cs (pre ++ [c]) _ (mget_step hm) (by rw [List.append_assoc]; exact h) (by rw [List.append_assoc]; exact hl) ?_
      rw [List.count_append]
      by_cases hx : c = x
      · subst hx; rw [hm c] at hc; simp; omega
      · simp [List.count_cons, hx]; omega

theorem mostV_none (n : Int) : ∀ (cs : List Cl) (m : List (Cl × Int)), (mostV n cs m).is = false → mostV n cs m = Hd.none := by
  intro cs
  induction cs with
  | nil => intro m _; rfl
  | cons c cs ih =>
    intro m h
    rw [mostV] at h ⊢
    split at h
    · cases h
    · rename_i hc; rw [if_neg hc]; exact ih _ h
theorem maj_none (n : Int) (hn : 4 ≤ n) (cs : List Cl) (h : cs.length ≤ 1) : mostV n cs [] = Hd.none := by
  cases hi : (mostV n cs []).is with
  | true =>
    have := mostV_sound n cs [] [] (fun c => rfl) hi
    have h2 := List.count_le_length (a := (mostV n cs []).cell) (l := cs)
    rw [List.nil_append] at this
    omega
  | false =>
    exact mostV_none n cs [] hi

theorem maj (n : Int) (hn : 0 < n) (x : Cl) (cs : List Cl) (h : n - 1 < 2 * ((cs.count x : Nat) : Int)) (hl : ((cs.length : Nat) : Int) ≤ n - 1) : mostV n cs [] = ⟨true, x⟩ :=
  mostV_maj n x cs [] [] (fun c => rfl) (by simpa using h) (by simpa using hl) (by simp; omega)

/-! ### What the votes are -/
theorem votesL_len (s : Nat) : ∀ (rs : List Rw) (i : Nat), (votesL s rs i).length + (if i ≤ s ∧ s < i + rs.length then 1 else 0) ≤ rs.length
  | [], i => by simp [votesL]
  | r :: rs, i => by
    have ih := votesL_len s rs (i + 1)
    rw [votesL]
    by_cases hs : i = s
    · have : vote s i r = none := by rw [vote, if_pos hs]
      rw [this]
      simp only [List.length_cons]
      rw [if_neg (by omega)] at ih
      split <;> omega
    · cases vote s i r with
      | none =>
        simp only [List.length_cons]
        split
        · rw [if_pos (by omega)] at ih; omega
        · split at ih <;> omega
      | some c =>
        simp only [List.length_cons]
        split
        · rw [if_pos (by omega)] at ih; omega
        · split at ih <;> omega

/-- Rows that differ at a place that is not asked. -/
theorem votesL_congr (s : Nat) : ∀ (rs qs : List Rw) (i : Nat), rs.length = qs.length → (∀ k r q, rs[k]? = some r → qs[k]? = some q → vote s (i + k) r = vote s (i + k) q) → votesL s rs i = votesL s qs i
  | [], [], _, _, _ => rfl
  | r :: rs, q :: qs, i, hl, h => by
    have h0 := h 0 r q rfl rfl
    rw [Nat.add_zero] at h0
    have ih := votesL_congr s rs qs (i + 1) (by simpa using hl) (fun k a b h1 h2 => by
      have := h (k + 1) a b (by simpa using h1) (by simpa using h2)
      rwa [show i + 1 + k = i + (k + 1) by omega])
    rw [votesL, votesL, h0, ih]
  | [], _ :: _, _, hl, _ => by simp at hl
  | _ :: _, [], _, hl, _ => by simp at hl

/-- How many have a cell: all but s itself, and one that may say what it likes. -/
theorem votesL_count (s b : Nat) (x : Cl) : ∀ (rs : List Rw) (i : Nat), (∀ k r, rs[k]? = some r → i + k ≠ s → i + k ≠ b → vote s (i + k) r = some x) →
    rs.length ≤ (votesL s rs i).count x + (if i ≤ s ∧ s < i + rs.length then 1 else 0) + (if i ≤ b ∧ b < i + rs.length then 1 else 0)
  | [], i, _ => by simp
  | r :: rs, i, h => by
    have ih := votesL_count s b x rs (i + 1) (fun k a h1 h2 h3 => by
      have := h (k + 1) a (by simpa using h1) (by omega) (by omega)
      rwa [show i + 1 + k = i + (k + 1) by omega])
    have h0 := h 0 r rfl
    rw [Nat.add_zero] at h0
    simp only [List.length_cons]
    by_cases hs : i = s
    · have hv : vote s i r = none := by rw [vote, if_pos hs]
      rw [votesL, hv]
      simp only
      rw [if_neg (by omega)] at ih
      rw [if_pos (by omega)]
      split at ih
      · rw [if_pos (by omega)]; omega
      · omega
    · by_cases hb : i = b
      · rw [if_neg (c := i + 1 ≤ b ∧ b < i + 1 + rs.length) (by omega)] at ih
        rw [if_pos (c := i ≤ b ∧ b < i + (rs.length + 1)) (by omega)]
        have hc : (votesL s rs (i + 1)).count x ≤ (votesL s (r :: rs) i).count x := by
          rw [votesL]
          cases vote s i r with
          | none => exact Nat.le_refl _
          | some c => simp [List.count_cons]
        split at ih
        · rw [if_pos (by omega)]; omega
        · omega
      · rw [votesL, h0 hs hb]
        simp only [List.count_cons_self]
        split at ih
        · rw [if_pos (c := i ≤ s ∧ s < i + (rs.length + 1)) (by omega)]
          split at ih
          · rw [if_pos (by omega)]; omega
          · omega
        · split at ih
          · rw [if_pos (c := i ≤ b ∧ b < i + (rs.length + 1)) (by omega)]; omega
          · omega
theorem votesL_none (s b : Nat) : ∀ (rs : List Rw) (i : Nat), (∀ k r, rs[k]? = some r → i + k ≠ b → vote s (i + k) r = none) → (votesL s rs i).length ≤ (if i ≤ b ∧ b < i + rs.length then 1 else 0)
  | [], i, _ => by simp [votesL]
  | r :: rs, i, h => by
    have ih := votesL_none s b rs (i + 1) (fun k a h1 h2 => by
      have := h (k + 1) a (by simpa using h1) (by omega)
      rwa [show i + 1 + k = i + (k + 1) by omega])
    have h0 := h 0 r rfl
    rw [Nat.add_zero] at h0
    rw [votesL]
    simp only [List.length_cons]
    by_cases hb : i = b
    · rw [if_neg (by omega)] at ih
      rw [if_pos (by omega)]
      cases vote s i r with
      | none => simp only; omega
      | some c => simp only [List.length_cons]; omega
    · rw [h0 hb]
      simp only
      split at ih
      · rw [if_pos (by omega)]; exact ih
      · omega
end Go.Proofs.Ytckcldimnelklaa
