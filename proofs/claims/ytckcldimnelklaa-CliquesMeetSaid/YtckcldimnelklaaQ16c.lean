/- Ages, plain: the clock. -/
import Derived.Test.YtckcldimnelklaaQ16b
namespace Go.Proofs.Ytckcldimnelklaa
open Go
set_option linter.unusedVariables false
set_option linter.unusedSimpArgs false

theorem anew16_in {n : Int} (h : 4 ≤ n ∧ n ≤ 16) : anew16 n = some (some (n, []), 0) := by
  unfold anew16
  rw [amay16_eq, ob_some, if_pos (decide_eq_true h)]
theorem anew16_out {n : Int} (h : ¬ (4 ≤ n ∧ n ≤ 16)) : anew16 n = some (none, 1) := by
  unfold anew16
  rw [amay16_eq, ob_some, if_neg (by simpa using h)]
theorem rnew16_in {n : Int} (h : 4 ≤ n ∧ n ≤ 16) : rnew16 n = some (some (n, []), 0) := by
  unfold rnew16
  rw [if_neg (by omega), if_neg (by omega)]
theorem rnew16_out {n : Int} (h : ¬ (4 ≤ n ∧ n ≤ 16)) : rnew16 n = some (none, 1) := by
  unfold rnew16
  by_cases h1 : n < 4
  · rw [if_pos h1]
  · rw [if_neg h1, if_pos (by omega)]

/-- The age that is told. -/
def ageOf (n c d : Int) : Int :=
  if 0 ≤ c ∧ c ≤ 1099511627776 then (if c + 2 * n ≤ 1099511627776 then c + 2 * n else -1) else (if 0 ≤ d ∧ d ≤ 1099511627776 then d else -1)
def okAge (a : Int) : Prop := a = -1 ∨ 0 ≤ a ∧ a ≤ 1099511627776
theorem ageOf_ok {n : Int} (hn : 0 ≤ n) (c d : Int) : okAge (ageOf n c d) := by
  unfold ageOf okAge
  split
  · split <;> omega
  · split <;> omega
theorem own16_eq {n : Int} (l : List Int) (c d : Int) (hn : 0 ≤ n ∧ n ≤ 1000) : own16 (n, l) c d = some (ageOf n c d) := by
  unfold own16 ageOf
  rw [ais16_eq, ob_some]
  by_cases h : 0 ≤ c ∧ c ≤ 1099511627776
  · rw [if_pos (decide_eq_true h), if_pos (by dsimp only; omega), if_pos (by dsimp only; omega), ais16_eq, ob_some, if_pos h]
    by_cases h2 : c + 2 * n ≤ 1099511627776
    · rw [if_pos (decide_eq_true (by dsimp only; omega)), if_pos h2]
    · rw [if_neg (by simp; omega), if_neg h2]
  · rw [if_neg (by simpa using h), ais16_eq, ob_some, if_neg h]
    by_cases h2 : 0 ≤ d ∧ d ≤ 1099511627776
    · rw [if_pos (decide_eq_true h2), if_pos h2]
    · rw [if_neg (by simpa using h2), if_neg h2]

/-- What is shown, of ages, the newest one last. -/
def shw : List Int → Int
  | [] => -1
  | a :: l => max (if a = -1 then -1 else a + l.length) (shw l)
theorem shw_ge : ∀ l : List Int, -1 ≤ shw l
  | [] => Int.le_refl _
  | a :: l => Int.le_trans (shw_ge l) (Int.le_max_right _ _)
theorem shw_le {l : List Int} (h : ∀ a ∈ l, okAge a) : shw l ≤ 1099511627776 + l.length := by
  induction l with
  | nil => simp [shw]
  | cons a l ih =>
    have h1 := ih (fun b hb => h b (List.mem_cons_of_mem _ hb))
    have h2 := h a (List.mem_cons_self ..)
    simp only [shw, List.length_cons]
    unfold okAge at h2
    split <;> omega
def shv (s : Int) : Int := if s ≤ 1099511627776 then s else -1
/-- The last ones, twice the nodes. -/
def tail2 (n : Int) (l : List Int) : List Int := l.drop (l.length - (2 * n).toNat)
theorem tail2_length (n : Int) (l : List Int) : (tail2 n l).length = min l.length (2 * n).toNat := by
  unfold tail2; rw [List.length_drop]; omega

theorem astep16_l1_eq (l : List Int) (K : Int → Option (Int × Int × (Int × (List Int)))) (hL : l.length ≤ 1000) (hok : ∀ a ∈ l, okAge a) : ∀ (k i : Nat) (s : Int), l.length < k + i → i ≤ l.length → -1 ≤ s →
    astep16_l1 l K k s ((i : Nat) : Int) = K (max s (shw (l.drop i))) := by
  intro k
  induction k with
  | zero => intro i s h1 h2; omega
  | succ k ih =>
    intro i s h1 h2 h3
    rw [astep16_l1]
    by_cases hi : i < l.length
    · have ho := hok _ (List.getElem_mem hi)
      unfold okAge at ho
      have hd : (l.drop (i + 1)).length = l.length - (i + 1) := List.length_drop
      rw [if_pos (by omega), rd_get hi, ob_some, drop_consH hi]
      simp only [shw]
      by_cases g : l[i] = -1
      · rw [if_pos g, if_pos g, if_pos (by omega), succI, ih (i + 1) s (by omega) (by omega) h3]
        have := shw_ge (l.drop (i + 1))
        congr 1; omega
      · rw [if_neg g, if_neg g, if_pos (by omega), if_pos (by omega), if_pos (by omega), if_pos (by omega), succI, ih (i + 1) _ (by omega) (by omega) (by omega)]
        congr 1; rw [hd]; omega
    · rw [if_neg (by omega), List.drop_eq_nil_of_le (by omega)]
      congr 1; simp [shw]; omega

theorem astep16_eq {n : Int} {l : List Int} (c d : Int) (hn : 4 ≤ n ∧ n ≤ 16) (hl : l.length ≤ (2 * n).toNat) (hok : ∀ a ∈ l, okAge a) :
    astep16 (n, l) c d = some (ageOf n c d, shv (shw (tail2 n (l ++ [ageOf n c d]))), (n, tail2 n (l ++ [ageOf n c d]))) := by
  unfold astep16
  rw [if_neg (by dsimp only; omega), own16_eq l c d (by omega), ob_some, if_pos (by dsimp only; omega)]
  generalize hag : ageOf n c d = a
  have ha : okAge a := by rw [← hag]; exact ageOf_ok (by omega) c d
  have hall : ∀ b ∈ l ++ [a], okAge b := fun b hb => by
    rcases List.mem_append.1 hb with hb | hb
    · exact hok b hb
    · cases List.mem_singleton.1 hb; exact ha
  have hlen : (l ++ [a]).length = l.length + 1 := by simp
  have key : ∀ (m : List Int), m = tail2 n (l ++ [a]) → (fun (l157 : List Int) => astep16_l1 l157 (fun (i263 : Int) => (Option.bind (ais16 i263) fun (y314 : Bool) => (if y314 = true then (some (a, i263, ((n, l).1, l157))) else (some (a, -1, ((n, l).1, l157)))))) 1000000 (-1) 0) m
      = some (a, shv (shw (tail2 n (l ++ [a]))), (n, tail2 n (l ++ [a]))) := by
    rintro m rfl
    have hm := tail2_length n (l ++ [a])
    have hmo : ∀ b ∈ tail2 n (l ++ [a]), okAge b := fun b hb => hall b (List.mem_of_mem_drop hb)
    refine Eq.trans (astep16_l1_eq _ _ (by omega) hmo 1000000 0 (-1) (by omega) (by omega) (by omega)) ?_
    have h1 := shw_ge (tail2 n (l ++ [a]))
    rw [List.drop_zero, Int.max_eq_right h1, ais16_eq, ob_some]
    unfold shv
    by_cases h2 : 0 ≤ shw (tail2 n (l ++ [a])) ∧ shw (tail2 n (l ++ [a])) ≤ 1099511627776
    · rw [if_pos (decide_eq_true h2), if_pos h2.2]
    · rw [if_neg (by simpa using h2)]
      by_cases h3 : shw (tail2 n (l ++ [a])) ≤ 1099511627776
      · rw [if_pos h3]
        have : shw (tail2 n (l ++ [a])) = -1 := by omega
        rw [this]
      · rw [if_neg h3]
  unfold jn
  dsimp only
  rw [if_pos (by omega), if_pos (by omega)]
  by_cases h1 : 0 < (((l ++ [a]).length : Nat) : Int) - 2 * n
  · rw [if_pos h1, if_pos (by omega)]
    refine key _ ?_
    unfold tail2
    congr 1
    omega
  · rw [if_neg h1]
    refine key _ ?_
    unfold tail2
    rw [show (l ++ [a]).length - (2 * n).toNat = 0 by omega, List.drop_zero]

theorem rstep16_l1_eq (n : Int) (l : List Int) (a : Int) (K : Int → Option (Int × Int × (Int × (List Int)))) (hn : 4 ≤ n ∧ n ≤ 16) (hL : l.length ≤ 1000) (hok : ∀ b ∈ l ++ [a], okAge b) : ∀ (k d : Nat), 2 * n < k + d → d ≤ (l ++ [a]).length → (d : Int) ≤ 2 * n →
    rstep16_l1 (n, l) a K k (shw ((l ++ [a]).drop ((l ++ [a]).length - d))) ((d : Nat) : Int) = K (shw (tail2 n (l ++ [a]))) := by
  have hlen : (l ++ [a]).length ≤ 1001 := by simp; omega
  intro k
  induction k with
  | zero => intro d h1 h2; omega
  | succ k ih =>
    intro d h1 h2 h3
    rw [rstep16_l1]
    generalize hM : l ++ [a] = M at *
    rw [if_pos (by dsimp only; omega)]
    by_cases g1 : ((d : Nat) : Int) < 2 * n
    · rw [if_pos g1]
      by_cases g2 : d < M.length
      · have hi : M.length - 1 - d < M.length := by omega
        have hd := drop_consH hi
        rw [show M.length - 1 - d + 1 = M.length - d by omega] at hd
        have hdl : (M.drop (M.length - d)).length = d := by rw [List.length_drop]; omega
        have ho := hok _ (List.getElem_mem hi)
        have hs1 := shw_ge (M.drop (M.length - d))
        have hs2 := shw_le (l := M.drop (M.length - d)) (fun b hb => hok b (List.mem_of_mem_drop hb))
        have e : shw (M.drop (M.length - (d + 1))) = max (if M[M.length - 1 - d] = -1 then -1 else M[M.length - 1 - d] + d) (shw (M.drop (M.length - d))) := by
          rw [show M.length - (d + 1) = M.length - 1 - d by omega, hd, shw, hdl]
        have ih' := ih (d + 1) (by omega) (by omega) (by omega)
        rw [e] at ih'
        unfold okAge at ho
        rw [if_pos (by omega), if_pos (by omega), if_pos (by omega), show ((M.length : Nat) : Int) - 1 - ((d : Nat) : Int) = ((M.length - 1 - d : Nat) : Int) by omega, rd_get hi, ob_some]
        have g : -9223372036854775808 ≤ ((d : Nat) : Int) + 1 ∧ ((d : Nat) : Int) + 1 ≤ 9223372036854775807 := by omega
        by_cases g3 : 0 ≤ M[M.length - 1 - d]
        · rw [if_pos g3, if_pos (by omega)]
          rw [if_neg (by omega)] at ih'
          by_cases g4 : shw (M.drop (M.length - d)) < M[M.length - 1 - d] + ((d : Nat) : Int)
          · rw [if_pos g4, if_pos g, succI]
            rw [Int.max_eq_left (by omega)] at ih'
            exact ih'
          · rw [if_neg g4, if_pos g, succI]
            rw [Int.max_eq_right (by omega)] at ih'
            exact ih'
        · rw [if_neg g3, if_pos g, succI]
          rw [if_pos (by omega), Int.max_eq_right hs1] at ih'
          exact ih'
      · rw [if_neg (by omega)]
        have hdM : d = M.length := by omega
        subst hdM
        unfold tail2
        rw [show M.length - (2 * n).toNat = 0 by omega, Nat.sub_self]
    · rw [if_neg g1]
      unfold tail2
      rw [show M.length - (2 * n).toNat = M.length - d by omega]

theorem rstep16_eq {n : Int} {l : List Int} (c d : Int) (hn : 4 ≤ n ∧ n ≤ 16) (hl : l.length ≤ 1000) (hok : ∀ a ∈ l, okAge a) :
    rstep16 (n, l) c d = some (ageOf n c d, shv (shw (tail2 n (l ++ [ageOf n c d]))), (n, l ++ [ageOf n c d])) := by
  have key : ∀ a, a = ageOf n c d → (fun (i137 : Int) => (if (n, l).2.length < 1000000 then (rstep16_l1 (n, l) i137 (fun (i259 : Int) => (if 1099511627776 < i259 then (some (i137, -1, ((n, l).1, (n, l).2 ++ [i137]))) else (some (i137, i259, ((n, l).1, (n, l).2 ++ [i137]))))) 1000000 (-1) 0) else none)) a
      = some (ageOf n c d, shv (shw (tail2 n (l ++ [ageOf n c d]))), (n, l ++ [ageOf n c d])) := by
    rintro a rfl
    have ha := ageOf_ok (n := n) (by omega) c d
    generalize ageOf n c d = a at *
    have hall : ∀ b ∈ l ++ [a], okAge b := fun b hb => by
      rcases List.mem_append.1 hb with hb | hb
      · exact hok b hb
      · cases List.mem_singleton.1 hb; exact ha
    dsimp only
    rw [if_pos (by omega)]
    have e := fun K F (hF : 1000 < F) => rstep16_l1_eq n l a K hn hl hall F 0 (by omega) (by omega) (by omega)
    rw [Nat.sub_zero, List.drop_length] at e
    refine Eq.trans (e _ 1000000 (by omega)) ?_
    unfold shv
    by_cases h : 1099511627776 < shw (tail2 n (l ++ [a]))
    · rw [if_pos h, if_neg (by omega)]
    · rw [if_neg h, if_pos (by omega)]
  unfold rstep16 jn
  dsimp only
  unfold ageOf at key ⊢
  by_cases h1 : 0 ≤ d
  · by_cases h2 : d ≤ 1099511627776
    · rw [if_pos h1, if_pos h2]
      by_cases h3 : 0 ≤ c
      · by_cases h4 : c ≤ 1099511627776
        · rw [if_pos h3, if_pos h4, if_pos (by omega), if_pos (by omega)]
          by_cases h5 : 1099511627776 < c + 2 * n
          · rw [if_pos h5]; exact key _ (by rw [if_pos ⟨h3, h4⟩, if_neg (by omega)])
          · rw [if_neg h5]; exact key _ (by rw [if_pos ⟨h3, h4⟩, if_pos (by omega)])
        · rw [if_pos h3, if_neg h4]; exact key _ (by rw [if_neg (by omega), if_pos ⟨h1, h2⟩])
      · rw [if_neg h3]; exact key _ (by rw [if_neg (by omega), if_pos ⟨h1, h2⟩])
    · rw [if_pos h1, if_neg h2]
      by_cases h3 : 0 ≤ c
      · by_cases h4 : c ≤ 1099511627776
        · rw [if_pos h3, if_pos h4, if_pos (by omega), if_pos (by omega)]
          by_cases h5 : 1099511627776 < c + 2 * n
          · rw [if_pos h5]; exact key _ (by rw [if_pos ⟨h3, h4⟩, if_neg (by omega)])
          · rw [if_neg h5]; exact key _ (by rw [if_pos ⟨h3, h4⟩, if_pos (by omega)])
        · rw [if_pos h3, if_neg h4]; exact key _ (by rw [if_neg (by omega), if_neg (by omega)])
      · rw [if_neg h3]; exact key _ (by rw [if_neg (by omega), if_neg (by omega)])
  · rw [if_neg h1]
    by_cases h3 : 0 ≤ c
    · by_cases h4 : c ≤ 1099511627776
      · rw [if_pos h3, if_pos h4, if_pos (by omega), if_pos (by omega)]
        by_cases h5 : 1099511627776 < c + 2 * n
        · rw [if_pos h5]; exact key _ (by rw [if_pos ⟨h3, h4⟩, if_neg (by omega)])
        · rw [if_neg h5]; exact key _ (by rw [if_pos ⟨h3, h4⟩, if_pos (by omega)])
      · rw [if_pos h3, if_neg h4]; exact key _ (by rw [if_neg (by omega), if_neg (by omega)])
    · rw [if_neg h3]; exact key _ (by rw [if_neg (by omega), if_neg (by omega)])

theorem tail2_snoc {n : Int} (hn : 0 ≤ n) (L : List Int) (a : Int) : tail2 n (tail2 n L ++ [a]) = tail2 n (L ++ [a]) := by
  unfold tail2
  rw [show L.drop (L.length - (2 * n).toNat) ++ [a] = (L ++ [a]).drop (L.length - (2 * n).toNat) by rw [List.drop_append_of_le_length (by omega)], List.drop_drop]
  congr 1
  simp only [List.length_drop, List.length_append, List.length_singleton]
  omega

theorem aplay16_l4_eq (p1 : List (Int × Int)) (n : Int) (hn : 4 ≤ n ∧ n ≤ 16) (K : Unit → Option Bool) (hK : K () = some true) (hp : p1.length ≤ 300) :
    ∀ (k i : Nat) (L : List Int), p1.length < k + i → i ≤ p1.length → L.length = i → (∀ a ∈ L, okAge a) → aplay16_l4 p1 K k ((i : Nat) : Int) n n (tail2 n L) L = some true := by
  intro k
  induction k with
  | zero => intro i L h1 h2; omega
  | succ k ih =>
    intro i L h1 h2 h3 h4
    rw [aplay16_l4]
    by_cases hi : i < p1.length
    · have h5 := ageOf_ok (n := n) (by omega) (p1[i]).1 (p1[i]).2
      rw [if_pos (by omega), rd_get hi, ob_some, astep16_eq (l := tail2 n L) _ _ hn (by rw [tail2_length]; omega) (fun a ha => h4 a (List.mem_of_mem_drop ha)), ob_some,
        rstep16_eq (l := L) _ _ hn (by omega) h4, ob_some, tail2_snoc (by omega)]
      dsimp only
      rw [if_pos rfl, if_pos rfl, if_pos (by omega), succI]
      exact ih (i + 1) _ (by omega) (by omega) (by simp [h3]) (fun a ha => by
        rcases List.mem_append.1 ha with ha | ha
        · exact h4 a ha
        · cases List.mem_singleton.1 ha; exact h5)
    · rw [if_neg (by omega)]; exact hK

theorem aplay16_eq (n : Int) (p1 : List (Int × Int)) : aplay16 n p1 = some true := by
  by_cases h : 300 < ((p1.length : Nat) : Int)
  · unfold aplay16; rw [if_pos h, bsome]; exact lives16_true
  · have hF : p1.length < 1000000 := by omega
    by_cases h4 : 4 ≤ n ∧ n ≤ 16
    · unfold aplay16
      revert hF
      generalize 1000000 = F
      intro hF
      rw [if_neg h, anew16_in h4, ob_some]
      show oc (some (n, [])) _ _ = _
      rw [oc_some, rnew16_in h4, ob_some]
      show oc (some (n, [])) _ _ = _
      rw [oc_some, if_pos rfl, if_pos rfl]
      have e := aplay16_l4_eq p1 n h4 (fun _ => Option.bind lives16 fun y => some y) (by rw [bsome]; exact lives16_true) (by omega) F 0 [] (by omega) (by omega) rfl (fun a ha => by cases ha)
      rw [show tail2 n [] = [] by simp [tail2]] at e
      exact e
    · unfold aplay16
      rw [if_neg h, anew16_out h4, ob_some]
      show oc none _ _ = _
      rw [oc_none, rnew16_out h4, ob_some]
      show oc none _ _ = _
      rw [oc_none, if_pos rfl, if_neg (by decide), bsome]
      exact lives16_true
end Go.Proofs.Ytckcldimnelklaa
