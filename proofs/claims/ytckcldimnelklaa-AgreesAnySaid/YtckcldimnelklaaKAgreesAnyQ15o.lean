/- AgreesOne, plain. -/
import Derived.Test.YtckcldimnelklaaPAgreesAnyD0
import Derived.Test.YtckcldimnelklaaKAgreesAnyQ15
namespace Go.Proofs.Ytckcldimnelklaa
open Go
set_option linter.unusedVariables false
set_option linter.unusedSimpArgs false

theorem lives15_eq : lives15 = some true := by decide +kernel

section
variable (z : Int × Int) (cells : List Cl) (x : List Rw × List Hd)
/-- How many nodes; which one is faulty. -/
def nodes15 : Nat := 4 + (z.1 % 13).toNat
def bad15 : Nat := (z.2 % (nodes15 z : Int)).toNat

theorem n15 : (4 + z.1 % 13 : Int) = ((nodes15 z : Nat) : Int) := by unfold nodes15; omega
theorem n15le : 4 ≤ nodes15 z ∧ nodes15 z ≤ 16 := by unfold nodes15; omega
theorem bad15lt : bad15 z < nodes15 z := by
  have := n15le z
  have h1 := Int.emod_lt_of_pos z.2 (show (0 : Int) < ((nodes15 z : Nat) : Int) by omega)
  have h2 := Int.emod_nonneg z.2 (show ((nodes15 z : Nat) : Int) ≠ 0 by omega)
  unfold bad15; omega
theorem b15 : z.2 % ((nodes15 z : Nat) : Int) = ((bad15 z : Nat) : Int) := by
  have := n15le z
  have h2 := Int.emod_nonneg z.2 (show ((nodes15 z : Nat) : Int) ≠ 0 by omega)
  unfold bad15; omega

/-- The truth of a node. -/
def truth15 (s : Nat) : Hd := if cells.length = 0 then Hd.none else ⟨true, cells.getD (s % cells.length) Cl.zero⟩

theorem one15_l1_eq (h1 : ¬ 40 < cells.length) (K : List Hd → Option Bool) : ∀ (F i : Nat) (l : List Hd), l.length = nodes15 z → i ≤ nodes15 z → nodes15 z - i < F → (cells.length = 0 → ∀ j, i ≤ j → l.drop j = (List.replicate (nodes15 z) Hd.none).drop j) →
    one15_l1 z cells K F ((i : Nat) : Int) l = K (l.take i ++ ((List.range (nodes15 z)).drop i).map (truth15 cells)) := by
  intro F
  induction F with
  | zero => intro i l hl hi hF; omega
  | succ F ih =>
    intro i l hl hi hF h0
    have hn := n15le z
    rw [one15_l1, n15]
    by_cases hlt : i < nodes15 z
    · rw [if_pos (by omega)]
      have hd : (List.range (nodes15 z)).drop i = i :: (List.range (nodes15 z)).drop (i + 1) := by rw [List.drop_eq_getElem_cons (by simpa using hlt)]; simp
      by_cases hc : 0 < cells.length
      · rw [if_pos (by omega), if_pos (by omega)]
        have hm : ((i : Nat) : Int) % ((cells.length : Nat) : Int) = ((i % cells.length : Nat) : Int) := by omega
        have hml : i % cells.length < cells.length := Nat.mod_lt _ hc
        rw [hm, rd_get hml, ob_some, rd_get (by omega), ob_some, if_pos (by omega), Int.toNat_natCast]
        have := ih (i + 1) (l.set i ⟨true, cells[i % cells.length]⟩) (by simpa using hl) (by omega) (by omega) (fun h => by omega)
        rw [succI, this, hd, List.map_cons]
        have h2 : (l.set i (⟨true, cells[i % cells.length]⟩ : Hd)).take (i + 1) = l.take i ++ [truth15 cells i] := by
          rw [List.take_succ_eq_append_getElem (by simp; omega), List.take_set_of_le (Nat.le_refl i)]
          simp [truth15, show ¬ cells.length = 0 by omega, List.getD_eq_getElem?_getD, hml]
        rw [h2, List.append_assoc]; rfl
      · have hc0 : cells.length = 0 := by omega
        rw [if_neg (by omega)]
        congr 1
        have h3 := h0 hc0 i (Nat.le_refl _)
        have h4 : ∀ s, truth15 cells s = Hd.none := fun s => by rw [truth15, if_pos hc0]
        conv => lhs; rw [← List.take_append_drop i l, h3]
        congr 1
        apply List.ext_getElem
        · simp
        · intro k h5 h6
          simp [h4]
    · rw [if_neg (by omega)]
      congr 1
      rw [List.take_of_length_le (by omega), List.drop_eq_nil_of_le (by simp; omega)]; simp

/-- The row of a node. -/
def row15 (k : Nat) : Rw := ⟨true, (truth15 cells k).cell, ((List.range (nodes15 z)).map (truth15 cells)).set (bad15 z) (if x.2.length = 0 then Hd.none else x.2.getD (k % x.2.length) Hd.none)⟩

theorem one15_l2_eq (h2 : ¬ 40 < x.2.length) (K : List Hd → List Rw → Option Bool) (r : Option Bool)
    (hK : K ((List.range (nodes15 z)).map (truth15 cells)) ((List.range (nodes15 z)).map (row15 z cells x)) = r) : ∀ (F i : Nat), i ≤ nodes15 z → nodes15 z - i < F →
    one15_l2 z x K F ((List.range (nodes15 z)).map (truth15 cells)) ((i : Nat) : Int) ((List.range i).map (row15 z cells x)) = r := by
  intro F
  induction F with
  | zero => intro i hi hF; omega
  | succ F ih =>
    intro i hi hF
    have hn := n15le z
    have hb := bad15lt z
    rw [one15_l2, n15, b15]
    by_cases hlt : i < nodes15 z
    · rw [if_pos (by omega)]
      unfold jn
      dsimp only
      have hlen : ((List.range (nodes15 z)).map (truth15 cells)).length = nodes15 z := by simp
      have hov : (-9223372036854775808 : Int) ≤ ((i : Nat) : Int) + 1 ∧ ((i : Nat) : Int) + 1 ≤ 9223372036854775807 := by omega
      have hnext := ih (i + 1) (by omega) (by omega)
      rw [List.range_succ, List.map_append] at hnext
      have hcell : (((List.range (nodes15 z)).map (truth15 cells))[i]'(by rw [hlen]; exact hlt)).cell = (truth15 cells i).cell := by simp
      rw [rd_get (by rw [hlen]; exact hlt), ob_some, if_pos (by rw [hlen]; omega), rd_get (by rw [hlen]; exact hb), ob_some, hcell]
      by_cases hc : 0 < x.2.length
      · have hm : ((i : Nat) : Int) % ((x.2.length : Nat) : Int) = ((i % x.2.length : Nat) : Int) := by omega
        have hml : i % x.2.length < x.2.length := Nat.mod_lt _ hc
        rw [if_pos (by omega), if_pos (by omega), hm, rd_get hml, ob_some, Int.toNat_natCast, rd_get (by rw [List.length_set, hlen]; exact hb), ob_some, if_pos (by simp; omega), if_pos hov, succI]
        rw [List.set_set]
        have : row15 z cells x i = ⟨true, (truth15 cells i).cell, ((List.range (nodes15 z)).map (truth15 cells)).set (bad15 z) x.2[i % x.2.length]⟩ := by
          rw [row15, if_neg (by omega), List.getD_eq_getElem?_getD, List.getElem?_eq_getElem hml]; rfl
        simp only [List.map_cons, List.map_nil, this] at hnext
        exact hnext
      · have : row15 z cells x i = ⟨true, (truth15 cells i).cell, ((List.range (nodes15 z)).map (truth15 cells)).set (bad15 z) Hd.none⟩ := by
          rw [row15, if_pos (by omega)]
        rw [if_neg (by omega), if_pos (by simp; omega), if_pos hov, succI, Int.toNat_natCast]
        simp only [List.map_cons, List.map_nil, this] at hnext
        exact hnext
    · rw [if_neg (by omega)]
      have : i = nodes15 z := by omega
      subst this
      exact hK

/-- What all agree on. -/
def agreed15 : List Hd := (List.range (nodes15 z)).map fun s => if s = bad15 z then mostR (nodes15 z) (bad15 z) ((List.range (nodes15 z)).map (row15 z cells x)) 0 [] else truth15 cells s

theorem row15_tab (k s : Nat) (hs : s < nodes15 z) (hb : s ≠ bad15 z) : (row15 z cells x k).table[s]? = some (truth15 cells s) := by
  have : ¬ bad15 z = s := fun h => hb h.symm
  simp [row15, List.getElem?_set, this, hs]

theorem agree15_W (r : Rw) : agreeL (nodes15 z) (((List.range (nodes15 z)).map (row15 z cells x)).set (bad15 z) r) = agreed15 z cells x := by
  have hn := n15le z
  have hb := bad15lt z
  have hlen : (((List.range (nodes15 z)).map (row15 z cells x)).set (bad15 z) r).length = nodes15 z := by simp
  have hget : ∀ (k : Nat) (q : Rw), (((List.range (nodes15 z)).map (row15 z cells x)).set (bad15 z) r)[k]? = some q → k ≠ bad15 z → q = row15 z cells x k := by
    intro k q hq hk
    rw [List.getElem?_set_ne (fun h => hk h.symm), List.getElem?_map] at hq
    obtain ⟨k', h1, rfl⟩ := Option.map_eq_some_iff.1 hq
    have := (List.getElem?_eq_some_iff.1 h1).2
    simp at this
    rw [this]
  rw [agreeL, agreed15, List.take_of_length_le (by omega)]
  apply List.map_congr_left
  intro s hs
  have hsn : s < nodes15 z := by simpa using hs
  by_cases hsb : s = bad15 z
  · rw [if_pos hsb, hsb, mostR_eq, mostR_eq]
    congr 1
    refine votesL_congr _ _ _ 0 (by simp) fun k a b h1 h2 => ?_
    by_cases hk : k = bad15 z
    · rw [vote, vote, if_pos (by omega), if_pos (by omega)]
    · rw [hget k a h1 hk]
      rw [List.getElem?_map] at h2
      obtain ⟨k', h3, rfl⟩ := Option.map_eq_some_iff.1 h2
      have := (List.getElem?_eq_some_iff.1 h3).2
      simp at this
      rw [this]
  · rw [if_neg hsb, mostR_eq]
    have hv : ∀ k q, (((List.range (nodes15 z)).map (row15 z cells x)).set (bad15 z) r)[k]? = some q → 0 + k ≠ s → 0 + k ≠ bad15 z → vote s (0 + k) q = (if (truth15 cells s).is = true then some (truth15 cells s).cell else none) := by
      intro k q hq h1 h2
      rw [hget k q hq (by omega), vote, if_neg h1, if_pos (show (row15 z cells x k).is = true from rfl), row15_tab z cells x k s hsn hsb]
    by_cases hc : cells.length = 0
    · have ht : truth15 cells s = Hd.none := by rw [truth15, if_pos hc]
      rw [ht]
      refine maj_none _ (by omega) _ ?_
      refine Nat.le_trans (votesL_none s (bad15 z) _ 0 fun k q hq hk => ?_) (by split <;> omega)
      by_cases h1 : 0 + k = s
      · rw [vote, if_pos h1]
      · rw [hv k q hq h1 hk, ht]; rfl
    · have ht : (truth15 cells s).is = true := by rw [truth15, if_neg hc]
      have he : truth15 cells s = ⟨true, (truth15 cells s).cell⟩ := by rw [← ht]
      rw [he]
      have h1 := votesL_count s (bad15 z) (truth15 cells s).cell _ 0 (fun k q hq h1 h2 => by rw [hv k q hq h1 h2, if_pos ht])
      have h2 := votesL_len s (((List.range (nodes15 z)).map (row15 z cells x)).set (bad15 z) r) 0
      rw [hlen, if_pos (by omega), if_pos (by omega)] at h1
      rw [hlen, if_pos (by omega)] at h2
      exact maj _ (by omega) _ _ (by omega) (by omega)

theorem one15_l4_eq (K : Unit → Option Bool) : ∀ (F i : Nat), i ≤ nodes15 z → nodes15 z - i < F →
    one15_l4 z (agreed15 z cells x) (agreed15 z cells x) ((List.range (nodes15 z)).map (truth15 cells)) K F ((i : Nat) : Int) = K () := by
  intro F
  induction F with
  | zero => intro i hi hF; omega
  | succ F ih =>
    intro i hi hF
    have hn := n15le z
    rw [one15_l4, n15, b15]
    by_cases hlt : i < nodes15 z
    · have hl : (agreed15 z cells x).length = nodes15 z := by simp [agreed15]
      rw [if_pos (by omega), rd_get (by rw [hl]; exact hlt), ob_some, ob_some, if_neg (by simp)]
      by_cases hb : i = bad15 z
      · rw [if_pos (by omega), if_pos (by omega)]
        exact ih (i + 1) (by omega) (by omega)
      · rw [if_neg (by omega), rd_get (by simpa using hlt), ob_some]
        have : (agreed15 z cells x)[i]'(by rw [hl]; exact hlt) = ((List.range (nodes15 z)).map (truth15 cells))[i]'(by simpa using hlt) := by simp [agreed15, hb]
        rw [this, if_neg (by simp), if_pos (by omega)]
        exact ih (i + 1) (by omega) (by omega)
    · rw [if_neg (by omega)]

theorem one15_l3_eq (h2 : ¬ 40 < x.1.length) (K : Unit → Option Bool) : ∀ (F i : Nat) (l : List Hd), (l = [] ∨ l = agreed15 z cells x) → i ≤ nodes15 z → nodes15 z - i < F →
    one15_l3 z ((List.range (nodes15 z)).map (truth15 cells)) x K F ((List.range (nodes15 z)).map (row15 z cells x)) l ((i : Nat) : Int) = K () := by
  intro F
  induction F with
  | zero => intro i l _ hi hF; omega
  | succ F ih =>
    intro i l hl hi hF
    have hn := n15le z
    have hb := bad15lt z
    rw [one15_l3, n15, b15]
    by_cases hlt : i < nodes15 z
    · rw [if_pos (by omega)]
      by_cases hib : i = bad15 z
      · rw [if_pos (by omega), if_pos (by omega)]
        exact ih (i + 1) l hl (by omega) (by omega)
      · rw [if_neg (by omega), if_pos (by simp; omega), List.nil_append, rd_get (by simpa using hb), ob_some]
        unfold jn
        dsimp only
        have main : ∀ r : Rw, (Option.bind (agree15 ((nodes15 z : Nat) : Int) (((List.range (nodes15 z)).map (row15 z cells x)).set (bad15 z) r)) fun (y2858 : (List Hd)) => (if ((y2858.length : Nat) : Int) = ((nodes15 z : Nat) : Int) then
            (if l = [] then (one15_l4 z y2858 y2858 ((List.range (nodes15 z)).map (truth15 cells)) (fun (_ : Unit) => (if (-9223372036854775808 : Int) ≤ ((i : Nat) : Int) + 1 ∧ ((i : Nat) : Int) + 1 ≤ 9223372036854775807 then (one15_l3 z ((List.range (nodes15 z)).map (truth15 cells)) x K F ((List.range (nodes15 z)).map (row15 z cells x)) y2858 (((i : Nat) : Int) + 1)) else none)) 1000000 0)
             else (one15_l4 z y2858 l ((List.range (nodes15 z)).map (truth15 cells)) (fun (_ : Unit) => (if (-9223372036854775808 : Int) ≤ ((i : Nat) : Int) + 1 ∧ ((i : Nat) : Int) + 1 ≤ 9223372036854775807 then (one15_l3 z ((List.range (nodes15 z)).map (truth15 cells)) x K F ((List.range (nodes15 z)).map (row15 z cells x)) l (((i : Nat) : Int) + 1)) else none)) 1000000 0)) else some false)) = K () := by
          intro r
          have hF : 100 < 1000000 := by decide
          revert hF
          generalize 1000000 = G
          intro hG
          rw [agree15_eq _ _ hn, ob_some, agree15_W, if_pos (by simp [agreed15])]
          have h4 := fun K' => one15_l4_eq z cells x K' G 0 (by omega) (by omega)
          rw [show ((0 : Nat) : Int) = 0 from rfl] at h4
          rcases hl with rfl | rfl
          · rw [if_pos rfl, h4, if_pos (by omega)]
            exact ih (i + 1) _ (.inr rfl) (by omega) (by omega)
          · have hne : ¬ agreed15 z cells x = [] := fun h => by have := congrArg List.length h; simp [agreed15] at this; omega
            rw [if_neg hne, h4, if_pos (by omega)]
            exact ih (i + 1) _ (.inr rfl) (by omega) (by omega)
        by_cases hc : 0 < x.1.length
        · have hm : ((i : Nat) : Int) % ((x.1.length : Nat) : Int) = ((i % x.1.length : Nat) : Int) := by omega
          have hml : i % x.1.length < x.1.length := Nat.mod_lt _ hc
          rw [if_pos (by omega), if_pos (by omega), hm, rd_get hml, ob_some, Int.toNat_natCast, rd_get (by simpa using hb), ob_some, List.set_set]
          exact main _
        · rw [if_neg (by omega), Int.toNat_natCast]
          exact main _
    · rw [if_neg (by omega)]

theorem one15_eq (hz : 0 ≤ z.1 ∧ z.1 ≤ 255 ∧ 0 ≤ z.2 ∧ z.2 ≤ 255) : one15 z cells x = some true := by
  have hn := n15le z
  have hb := bad15lt z
  rw [one15, lives15_eq]
  have hF : 100 < 1000000 := by decide
  revert hF
  generalize 1000000 = F
  intro hF
  by_cases h1 : (40 : Int) < ((cells.length : Nat) : Int)
  · rw [if_pos h1]; rfl
  by_cases h2 : (40 : Int) < ((x.1.length : Nat) : Int)
  · rw [if_neg h1, if_pos h2]; rfl
  by_cases h3 : (40 : Int) < ((x.2.length : Nat) : Int)
  · rw [if_neg h1, if_neg h2, if_pos h3]; rfl
  rw [if_neg h1, if_neg h2, if_neg h3, if_pos (by omega), if_pos (by omega), n15, if_pos (by omega), if_pos (by omega), if_pos (by omega), if_pos (by omega), Int.toNat_natCast]
  rw [show (0 : Int) = ((0 : Nat) : Int) from rfl, one15_l1_eq z cells (by omega) _ F 0 _ (by simp) (by omega) (by omega) (fun _ _ _ => rfl)]
  rw [List.take_zero, List.nil_append, List.drop_zero]
  refine one15_l2_eq z cells x (by omega) _ _ ?_ F 0 (by omega) (by omega)
  show one15_l3 z _ x _ F _ [] ((0 : Nat) : Int) = _
  rw [one15_l3_eq z cells x (by omega) _ F 0 [] (.inl rfl) (by omega) (by omega)]
  rfl
end
end Go.Proofs.Ytckcldimnelklaa
