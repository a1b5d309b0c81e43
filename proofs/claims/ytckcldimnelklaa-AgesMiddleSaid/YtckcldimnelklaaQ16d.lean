/- Ages, plain: the common age lies in the midst of the others. -/
import Derived.Test.YtckcldimnelklaaQ16c
namespace Go.Proofs.Ytckcldimnelklaa
open Go
set_option linter.unusedVariables false
set_option linter.unusedSimpArgs false

/-- The ages of all but one. -/
def oth (bad : Nat) : Nat → List Hd → List Int
  | _, [] => []
  | i, x :: xs => if i = bad then oth bad (i + 1) xs else if validAge x = true then x.cell.age :: oth bad (i + 1) xs else oth bad (i + 1) xs
theorem oth_past (bad : Nat) : ∀ (xs : List Hd) (i : Nat), bad < i → oth bad i xs = agesOf xs
  | [], _, _ => rfl
  | x :: xs, i, h => by rw [oth, if_neg (by omega), agesOf_cons, oth_past bad xs (i + 1) (by omega)]
theorem oth_count (p : Int → Bool) (bad : Nat) : ∀ (xs : List Hd) (i : Nat), (oth bad i xs).countP p ≤ (agesOf xs).countP p ∧ (agesOf xs).countP p ≤ (oth bad i xs).countP p + 1
  | [], _ => by simp [oth, agesOf]
  | x :: xs, i => by
    rw [oth, agesOf_cons]
    by_cases h : i = bad
    · rw [if_pos h, oth_past bad xs (i + 1) (by omega)]
      split
      · rw [List.countP_cons]; split <;> omega
      · omega
    · have ih := oth_count p bad xs (i + 1)
      rw [if_neg h]
      split
      · rw [List.countP_cons, List.countP_cons]; split <;> omega
      · exact ih
theorem oth_ok (bad : Nat) : ∀ (xs : List Hd) (i : Nat), ∀ a ∈ oth bad i xs, 0 ≤ a ∧ a ≤ 1099511627776
  | [], _, a, h => by cases h
  | x :: xs, i, a, h => by
    rw [oth] at h
    split at h
    · exact oth_ok bad xs (i + 1) a h
    · split at h
      · rename_i hv
        rcases List.mem_cons.1 h with rfl | h
        · simpa [validAge] using (by simpa [validAge] using hv : x.is = true ∧ 0 ≤ x.cell.age ∧ x.cell.age ≤ 1099511627776).2
        · exact oth_ok bad xs (i + 1) a h
      · exact oth_ok bad xs (i + 1) a h

/-- The least, the greatest, how many. -/
structure LM (O : List Int) (a b c : Int) : Prop where
  many : c = O.length
  non : O = [] → a = -1 ∧ b = -1
  low : O ≠ [] → 0 ≤ a ∧ (∀ x ∈ O, a ≤ x)
  high : O ≠ [] → (∀ x ∈ O, x ≤ b)
  fits : O ≠ [] → a ∈ O ∧ b ∈ O
theorem LM.nil : LM [] (-1) (-1) 0 := ⟨rfl, fun _ => ⟨rfl, rfl⟩, fun h => absurd rfl h, fun h => absurd rfl h, fun h => absurd rfl h⟩
theorem LM.snoc {O : List Int} {a b c : Int} (h : LM O a b c) {x : Int} (hx : 0 ≤ x) : LM (O ++ [x]) (if a < 0 then x else if x < a then x else a) (max b x) (c + 1) := by
  have hne : O ++ [x] ≠ [] := by simp
  by_cases h0 : O = []
  · obtain ⟨h1, h2⟩ := h.non h0
    have h3 := h.many
    subst h0; subst h1; subst h2
    rw [if_pos (by decide), Int.max_eq_right (by omega)]
    refine ⟨by simp at h3; simp [h3], fun e => absurd e hne, fun _ => ⟨hx, fun y hy => ?_⟩, fun _ y hy => ?_, fun _ => ⟨by simp, by simp⟩⟩
    · simp at hy; omega
    · simp at hy; omega
  · obtain ⟨h1, h2⟩ := h.low h0
    have h3 := h.high h0
    obtain ⟨h4, h5⟩ := h.fits h0
    rw [if_neg (by omega)]
    refine ⟨by rw [h.many]; simp, fun e => absurd e hne, fun _ => ⟨by split <;> omega, fun y hy => ?_⟩, fun _ y hy => ?_, fun _ => ⟨?_, ?_⟩⟩
    · rcases List.mem_append.1 hy with hy | hy
      · have := h2 y hy; split <;> omega
      · cases List.mem_singleton.1 hy; split <;> omega
    · rcases List.mem_append.1 hy with hy | hy
      · have := h3 y hy; omega
      · cases List.mem_singleton.1 hy; omega
    · split
      · simp
      · exact List.mem_append_left _ h4
    · rcases Int.le_total b x with hq | hq
      · rw [Int.max_eq_right hq]; simp
      · rw [Int.max_eq_left hq]; exact List.mem_append_left _ h5

theorem amiddle16_l1_eq (p0 : Int × Int × Int) (p1 : List Hd) (xs : List Hd) (n bad : Nat) (K : Int → Int → Int → Option Bool) (hn : 4 + p0.1 % 13 = (n : Int)) (hxs : p1.take (4 + p0.1 % 13).toNat = xs) (hl : xs.length = n) (hn2 : n ≤ 16) (hb : p0.2.1 % (n : Int) = (bad : Int)) :
    ∀ (k i : Nat) (O : List Int) (a b c : Int), n < k + i → i ≤ n → LM O a b c → c ≤ i → ∃ a' b' c', LM (O ++ oth bad i (xs.drop i)) a' b' c' ∧ amiddle16_l1 p0 p1 K k a b c ((i : Nat) : Int) = K a' b' c' := by
  intro k
  induction k with
  | zero => intro i O a b c h1 h2; omega
  | succ k ih =>
    intro i O a b c h1 h2 h3 h4
    rw [amiddle16_l1, hxs, hn, hb]
    by_cases hi : i < n
    · have hi' : i < xs.length := by omega
      have hc := h3.many
      have g : -9223372036854775808 ≤ ((i : Nat) : Int) + 1 ∧ ((i : Nat) : Int) + 1 ≤ 9223372036854775807 := by omega
      rw [if_pos (by omega), rd_get hi', ob_some, drop_consH hi']
      have ho1 : i = bad → oth bad i (xs[i] :: xs.drop (i + 1)) = oth bad (i + 1) (xs.drop (i + 1)) := fun e => by rw [oth, if_pos e]
      have ho2 : ¬ validAge xs[i] = true → oth bad i (xs[i] :: xs.drop (i + 1)) = oth bad (i + 1) (xs.drop (i + 1)) := fun e => by
        rw [oth, if_neg e]; split <;> rfl
      have ho3 : ¬ i = bad → validAge xs[i] = true → oth bad i (xs[i] :: xs.drop (i + 1)) = xs[i].cell.age :: oth bad (i + 1) (xs.drop (i + 1)) := fun e e' => by
        rw [oth, if_neg e, if_pos e']
      have ih0 := ih (i + 1) O a b c (by omega) (by omega) h3 (by omega)
      by_cases e1 : i = bad
      · rw [ho1 e1, if_pos (by omega), if_pos g, succI]
        exact ih0
      · rw [if_neg (by omega)]
        by_cases e2 : xs[i].is = true
        · by_cases e3 : xs[i].cell.age < 0
          · rw [ho2 (by simp [validAge, e2]; omega), if_pos e2, if_pos e3, if_pos g, succI]
            exact ih0
          · by_cases e4 : 1099511627776 < xs[i].cell.age
            · rw [ho2 (by simp [validAge, e2]; omega), if_pos e2, if_neg e3, if_pos e4, if_pos g, succI]
              exact ih0
            · have h5 := h3.snoc (x := xs[i].cell.age) (by omega)
              have ih' := ih (i + 1) (O ++ [xs[i].cell.age]) _ _ _ (by omega) (by omega) h5 (by omega)
              rw [List.append_assoc] at ih'
              rw [ho3 e1 (by simp [validAge, e2]; omega), if_pos e2, if_neg e3, if_neg e4, if_pos (by omega)]
              by_cases e5 : a < 0
              · rw [if_pos e5] at ih'
                rw [if_pos e5, if_pos g, succI]; exact ih'
              · rw [if_neg e5] at ih'
                rw [if_neg e5]
                by_cases e6 : xs[i].cell.age < a
                · rw [if_pos e6] at ih'
                  rw [if_pos e6, if_pos g, succI]; exact ih'
                · rw [if_neg e6] at ih'
                  rw [if_neg e6, if_pos g, succI]; exact ih'
        · rw [ho2 (by simp [validAge, e2]), if_neg e2, if_pos g, succI]
          exact ih0
    · rw [if_neg (by omega), List.drop_eq_nil_of_le (by omega)]
      exact ⟨a, b, c, by simpa [oth] using h3, rfl⟩

/-- Where it lies. -/
theorem common_mid {n : Nat} (h4 : 4 ≤ n ∧ n ≤ 16) {xs : List Hd} (hl : xs.length = n) {bad : Nat} {a b c : Int} (h : LM (oth bad 0 xs) a b c) :
    (0 ≤ common n xs → ¬ c < (n : Int) - 2 ∧ ¬ common n xs < a ∧ ¬ b < common n xs) ∧ (c = (n : Int) - 1 → 0 ≤ common n xs) := by
  have hc := h.many
  have ht : xs.take ((n : Nat) : Int).toNat = xs := List.take_of_length_le (by simp; omega)
  have hlen := oth_count (fun _ => true) bad xs 0
  simp only [List.countP_true] at hlen
  unfold common
  rw [if_pos (by omega), ht]
  by_cases h2 : (((agesOf xs).length : Nat) : Int) < (n : Int) - 1
  · rw [if_pos h2]
    exact ⟨fun h => absurd h (by decide), fun h3 => by omega⟩
  · rw [if_neg h2]
    have hpos : 0 < (agesOf xs).length := by omega
    obtain ⟨m1, m2, m3⟩ := middle_at hpos
    have hne : oth bad 0 xs ≠ [] := fun e => by rw [e] at hlen; simp at hlen; omega
    obtain ⟨l1, l2⟩ := h.low hne
    have l3 := h.high hne
    have hv : 0 ≤ middle (agesOf xs) := by
      unfold agesOf at m3
      obtain ⟨y, hy, hm⟩ := List.mem_map.1 m3
      have := (List.mem_filter.1 hy).2
      simp [validAge] at this
      unfold agesOf
      omega
    refine ⟨fun _ => ⟨by omega, fun h5 => ?_, fun h5 => ?_⟩, fun _ => hv⟩
    · have q1 := (oth_count (fun x => decide (x ≤ middle (agesOf xs))) bad xs 0).2
      have q2 : (oth bad 0 xs).countP (fun x => decide (x ≤ middle (agesOf xs))) = 0 := List.countP_eq_zero.2 fun x hx => by
        have := l2 x hx
        simp only [decide_eq_true_eq]; omega
      have q3 : cLe (agesOf xs) (middle (agesOf xs)) ≤ 1 := by unfold cLe; omega
      omega
    · have q1 := (oth_count (fun x => decide (x < middle (agesOf xs))) bad xs 0).1
      have q2 : (oth bad 0 xs).countP (fun x => decide (x < middle (agesOf xs))) = (oth bad 0 xs).length := List.countP_eq_length.2 fun x hx => by
        have := l3 x hx
        simp only [decide_eq_true_eq]; omega
      have q3 : (oth bad 0 xs).length ≤ cLt (agesOf xs) (middle (agesOf xs)) := by unfold cLt; omega
      omega

theorem middle_perm {l m : List Int} (h : l.Perm m) : middle l = middle m := by
  unfold middle
  rw [eq_of_pw ((srt_perm l).trans (h.trans (srt_perm m).symm)) (srt_pw l) (srt_pw m), h.length_eq]
theorem common_turn {n : Nat} {xs : List Hd} (hl : xs.length = n) (k : Nat) : common n (xs.drop k ++ xs.take k) = common n xs := by
  have ht : xs.take ((n : Nat) : Int).toNat = xs := List.take_of_length_le (by simp; omega)
  have hl2 : (xs.drop k ++ xs.take k).length = n := by simp; omega
  have ht2 : (xs.drop k ++ xs.take k).take ((n : Nat) : Int).toNat = xs.drop k ++ xs.take k := List.take_of_length_le (by simp; omega)
  have hp : (agesOf (xs.drop k ++ xs.take k)).Perm (agesOf xs) := by
    have : agesOf xs = agesOf (xs.take k) ++ agesOf (xs.drop k) := by rw [← agesOf_append, List.take_append_drop]
    rw [this, agesOf_append]
    exact List.perm_append_comm
  unfold common
  rw [ht, ht2, middle_perm hp, hp.length_eq]

theorem amid_of {p0 : Int × Int × Int} {p1 xs : List Hd} {n bad : Nat} {K : Int → Int → Int → Option Bool} (hn : 4 + p0.1 % 13 = (n : Int)) (hxs : p1.take (4 + p0.1 % 13).toNat = xs) (hl : xs.length = n) (hn2 : n ≤ 16) (hb : p0.2.1 % (n : Int) = (bad : Int))
    {F : Nat} (hF : 100 < F) (hK : ∀ a b c, LM (oth bad 0 xs) a b c → K a b c = some true) : amiddle16_l1 p0 p1 K F (-1) (-1) 0 0 = some true := by
  obtain ⟨a, b, c, h1, h2⟩ := amiddle16_l1_eq p0 p1 xs n bad K hn hxs hl hn2 hb F 0 [] (-1) (-1) 0 (by omega) (by omega) LM.nil (by omega)
  exact Eq.trans h2 (hK a b c (by simpa using h1))

theorem amiddle16_eq (p0 : Int × Int × Int) (p1 : List Hd) (h : inK .u8 p0.1 ∧ inK .u8 p0.2.1 ∧ inK .u8 p0.2.2) : amiddle16 p0 p1 = some true := by
  have h1 : 0 ≤ p0.1 ∧ p0.1 ≤ 255 := h.1
  have h2 : 0 ≤ p0.2.1 ∧ p0.2.1 ≤ 255 := h.2.1
  have h3 : 0 ≤ p0.2.2 ∧ p0.2.2 ≤ 255 := h.2.2
  have hF : 100 < 1000000 := by omega
  unfold amiddle16
  revert hF
  generalize 1000000 = F
  intro hF
  rw [if_pos (by omega), if_pos (by omega), if_pos (by omega)]
  by_cases g1 : ((p1.length : Nat) : Int) < 4 + p0.1 % 13
  · rw [if_pos g1, bsome]; exact lives16_true
  · rw [if_neg g1]
    by_cases g2 : 40 < ((p1.length : Nat) : Int)
    · rw [if_pos g2, bsome]; exact lives16_true
    · rw [if_neg g2]
      obtain ⟨n, hn⟩ : ∃ n : Nat, 4 + p0.1 % 13 = (n : Int) := ⟨(4 + p0.1 % 13).toNat, by omega⟩
      have hl : (p1.take n).length = n := by rw [List.length_take]; omega
      obtain ⟨bad, hb⟩ : ∃ bad : Nat, p0.2.1 % (n : Int) = (bad : Int) := ⟨(p0.2.1 % (n : Int)).toNat, (Int.toNat_of_nonneg (Int.emod_nonneg _ (by omega))).symm⟩
      have r3 : 0 ≤ p0.2.2 % (n : Int) := Int.emod_nonneg _ (by omega)
      have r4 : p0.2.2 % (n : Int) < n := Int.emod_lt_of_pos _ (by omega)
      have hxs : p1.take (4 + p0.1 % 13).toNat = p1.take n := by rw [hn]; rfl
      have hdl : ((p1.take n).drop (p0.2.2 % (n : Int)).toNat).length ≤ n := by rw [List.length_drop]; omega
      have htl : ((p1.take n).take (p0.2.2 % (n : Int)).toNat).length ≤ n := by rw [List.length_take]; omega
      have hturn := common_turn hl (p0.2.2 % (n : Int)).toNat
      rw [hn]
      rw [if_pos (by omega), if_pos (by omega), if_pos (by omega), common16_eq, ob_some]
      refine amid_of hn hxs hl (by omega) hb hF fun a b c hLM => ?_
      obtain ⟨q1, q2⟩ := common_mid (by omega) hl hLM
      have hcn : ((n : Nat) : Int).toNat = n := Int.toNat_natCast n
      rw [hcn]
      have htail : ∀ cm, cm = common n (p1.take n) → (if -9223372036854775808 ≤ p0.2.2 ∧ p0.2.2 ≤ 9223372036854775807 then (if 0 ≤ p0.2.2 ∧ 0 < ((n : Int) : Int) ∧ ((n : Int) : Int) ≤ 9223372036854775807 then (if 0 ≤ p0.2.2 % (n : Int) ∧ p0.2.2 % (n : Int) ≤ (((p1.take n).length : Nat) : Int) then (if ([] : List Hd).length + ((p1.take n).drop (p0.2.2 % (n : Int)).toNat).length < F then (if (([] : List Hd) ++ ((p1.take n).drop (p0.2.2 % (n : Int)).toNat)).length + ((p1.take n).take (p0.2.2 % (n : Int)).toNat).length < F then (Option.bind (common16 (n : Int) ((([] : List Hd) ++ ((p1.take n).drop (p0.2.2 % (n : Int)).toNat)) ++ ((p1.take n).take (p0.2.2 % (n : Int)).toNat))) fun (y428 : Int) => (if y428 = cm then (Option.bind lives16 fun (y438 : Bool) => (some y438)) else (some false))) else none) else none) else none) else none) else none) = some true := by
        intro cm hcm
        rw [if_pos (by omega), if_pos (by omega), if_pos (by omega), if_pos (by simp only [List.length_nil]; omega), if_pos (by simp only [List.nil_append]; omega), common16_eq, ob_some, List.nil_append, hturn, if_pos hcm.symm, bsome]
        exact lives16_true
      by_cases w1 : 0 ≤ common n (p1.take n)
      · obtain ⟨z1, z2, z3⟩ := q1 w1
        rw [if_pos w1, if_pos (by omega), if_neg z1, if_neg z2, if_neg z3, if_pos (by omega)]
        by_cases w2 : c = (n : Int) - 1
        · rw [if_pos w2, if_neg (by omega)]
          by_cases w3 : a = b
          · rw [if_pos w3, if_pos (by omega)]; exact htail _ rfl
          · rw [if_neg w3]; exact htail _ rfl
        · rw [if_neg w2]; exact htail _ rfl
      · rw [if_neg w1, if_pos (by omega)]
        by_cases w2 : c = (n : Int) - 1
        · exact absurd (q2 w2) w1
        · rw [if_neg w2]; exact htail _ rfl
end Go.Proofs.Ytckcldimnelklaa
