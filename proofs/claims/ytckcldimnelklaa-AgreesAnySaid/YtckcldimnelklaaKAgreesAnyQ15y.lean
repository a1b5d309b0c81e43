/- AgreesAny, plain. -/
import Derived.Test.YtckcldimnelklaaPAgreesAnyD0
import Derived.Test.YtckcldimnelklaaKAgreesAnyQ13g
import Derived.Test.YtckcldimnelklaaKAgreesAnyQ13r
import Derived.Test.YtckcldimnelklaaKAgreesAnyQ15o
namespace Go.Proofs.Ytckcldimnelklaa
open Go
set_option linter.unusedVariables false
set_option linter.unusedSimpArgs false

/-! ### Lists that are gone through -/
theorem great13_l1_le (p0 : List Rw) (K : Int → Option Bool) (hl0 : p0.length ≤ 140737488355328) (hz : ∀ r ∈ p0, r.table.length ≤ 140737488355328) : ∀ (k i : Nat) (m : Int), p0.length < k + i → i ≤ p0.length → 0 ≤ m → m ≤ 1000000000000000 →
    ∃ m', great13_l1 p0 K k m ((i : Nat) : Int) = K m' ∧ m ≤ m' ∧ (m' ≤ 800 → ∀ j, i ≤ j → ∀ h : j < p0.length, p0[j].table.length ≤ 800) := by
  intro k
  induction k with
  | zero => intro i m h1 h2; omega
  | succ k ih =>
    intro i m h1 h2 h3 h4
    rw [great13_l1]
    by_cases hlt : i < p0.length
    · rw [if_pos (by omega)]
      by_cases h9 : m < 900
      · have hl := hz p0[i] (List.getElem_mem hlt)
        rw [if_pos h9, rd_get hlt, ob_some, if_pos (by omega)]
        have hw : IntKind.wrap .i64 (m + ((p0[i].table.length : Nat) : Int)) = m + ((p0[i].table.length : Nat) : Int) := w64 (by omega) (by omega)
        rw [hw, succI]
        obtain ⟨m', h5, h6, h7⟩ := ih (i + 1) (m + ((p0[i].table.length : Nat) : Int)) (by omega) (by omega) (by omega) (by omega)
        refine ⟨m', h5, by omega, fun h8 j hj h => ?_⟩
        by_cases hji : j = i
        · subst hji; omega
        · exact h7 h8 j (by omega) h
      · rw [if_neg h9]
        exact ⟨m, rfl, by omega, fun h => by omega⟩
    · rw [if_neg (by omega)]
      exact ⟨m, rfl, by omega, fun _ j hj h => by omega⟩

theorem great13_le (p0 : List Rw) (hl : p0.length ≤ 140737488355328) (hz : ∀ r ∈ p0, r.table.length ≤ 140737488355328) : ∃ b, great13 p0 = some b ∧ (b = false → p0.length ≤ 800 ∧ ∀ r ∈ p0, r.table.length ≤ 800) := by
  unfold great13
  have hF : 10000 < 1000000 := by decide
  revert hF
  generalize 1000000 = F
  intro hF
  by_cases hL : p0.length ≤ 1000
  · obtain ⟨m', h5, h6, h7⟩ := great13_l1_le p0 (fun (i182 : Int) => (if 800 < i182 then (some true) else (some false))) hl hz F 0 ((p0.length : Nat) : Int) (by omega) (by omega) (by omega) (by omega)
    rw [show (0 : Int) = ((0 : Nat) : Int) from rfl, h5]
    by_cases h8 : 800 < m'
    · exact ⟨true, by rw [if_pos h8], fun h => by cases h⟩
    · refine ⟨false, by rw [if_neg h8], fun _ => ⟨by omega, fun r hr => ?_⟩⟩
      obtain ⟨j, hj, rfl⟩ := List.mem_iff_getElem.1 hr
      exact h7 (by omega) j (Nat.zero_le _) hj
  · obtain ⟨G, rfl⟩ : ∃ G, F = G + 1 := ⟨F - 1, by omega⟩
    rw [great13_l1, if_pos (by omega), if_neg (by omega), if_pos (by omega)]
    exact ⟨true, rfl, fun h => by cases h⟩

section
variable (p0 : List Rw) (hL : p0.length ≤ 800) (hz : ∀ r ∈ p0, r.table.length ≤ 800)
include hL hz
theorem others13_l1_eq (K : List Rw → Option (List Rw)) : ∀ (k i : Nat), p0.length < k + i → i ≤ p0.length → others13_l1 p0 K k ((i : Nat) : Int) (p0.take i) = K p0 := by
  intro k
  induction k with
  | zero => intro i h1 h2; omega
  | succ k ih =>
    intro i h1 h2
    rw [others13_l1]
    by_cases hlt : i < p0.length
    · rw [if_pos (by omega), rd_get hlt, ob_some, other13_eq _ (by have := hz p0[i] (List.getElem_mem hlt); omega), ob_some, if_pos (by rw [List.length_take]; omega), if_pos (by omega), succI, take_snoc (List.getElem?_eq_getElem hlt)]
      exact ih (i + 1) (by omega) (by omega)
    · rw [if_neg (by omega), List.take_of_length_le (by omega)]
theorem others13_eq : others13 p0 = some p0 := by
  unfold others13
  have hF : 10000 < 1000000 := by decide
  revert hF
  generalize 1000000 = F
  intro hF
  exact others13_l1_eq p0 hL hz _ F 0 (by omega) (by omega)
theorem twinword13_l1_eq (K : List Rw → Option (List Rw)) : ∀ (k i : Nat), p0.length < k + i → i ≤ p0.length → twinword13_l1 p0 K k ((i : Nat) : Int) (p0.take i) = K p0 := by
  intro k
  induction k with
  | zero => intro i h1 h2; omega
  | succ k ih =>
    intro i h1 h2
    rw [twinword13_l1]
    by_cases hlt : i < p0.length
    · rw [if_pos (by omega), rd_get hlt, ob_some, twin13_eq _ (by have := hz p0[i] (List.getElem_mem hlt); omega), ob_some, if_pos (by rw [List.length_take]; omega), if_pos (by omega), succI, take_snoc (List.getElem?_eq_getElem hlt)]
      exact ih (i + 1) (by omega) (by omega)
    · rw [if_neg (by omega), List.take_of_length_le (by omega)]
theorem twinword13_eq : twinword13 p0 = some p0 := by
  unfold twinword13
  have hF : 10000 < 1000000 := by decide
  revert hF
  generalize 1000000 = F
  intro hF
  exact twinword13_l1_eq p0 hL hz _ F 0 (by omega) (by omega)
theorem leftword13_l1_eq (K : Unit → Option Bool) : ∀ (k i : Nat), p0.length < k + i → i ≤ p0.length → leftword13_l1 p0 p0 K k ((i : Nat) : Int) = K () := by
  intro k
  induction k with
  | zero => intro i h1 h2; omega
  | succ k ih =>
    intro i h1 h2
    rw [leftword13_l1]
    by_cases hlt : i < p0.length
    · rw [if_pos (by omega), rd_get hlt, ob_some, ob_some, left13_eq _ (by have := hz p0[i] (List.getElem_mem hlt); omega), ob_some, if_pos rfl, if_pos (by omega), succI]
      exact ih (i + 1) (by omega) (by omega)
    · rw [if_neg (by omega)]
theorem leftword13_eq : leftword13 p0 p0 = some true := by
  unfold leftword13
  have hF : 10000 < 1000000 := by decide
  revert hF
  generalize 1000000 = F
  intro hF
  rw [if_pos rfl]
  exact leftword13_l1_eq p0 hL hz _ F 0 (by omega) (by omega)
omit hz
theorem tableo15_l1_eq (K : List Hd → Option (List Hd)) : ∀ (k i : Nat), p0.length < k + i → i ≤ p0.length →
    tableo15_l1 p0 K k ((i : Nat) : Int) ((p0.map fun r => (⟨r.is, r.cell⟩ : Hd)).take i ++ List.replicate (p0.length - i) Hd.none) = K (p0.map fun r => ⟨r.is, r.cell⟩) := by
  intro k
  induction k with
  | zero => intro i h1 h2; omega
  | succ k ih =>
    intro i h1 h2
    rw [tableo15_l1]
    by_cases hlt : i < p0.length
    · have hrep : List.replicate (p0.length - i) Hd.none = Hd.none :: List.replicate (p0.length - (i + 1)) Hd.none := by rw [← List.replicate_succ]; congr 1; omega
      have hlen : ((p0.map fun r => (⟨r.is, r.cell⟩ : Hd)).take i).length = i := by simp; omega
      rw [if_pos (by omega), rd_get hlt, ob_some, rd_get (by simp; omega), ob_some, if_pos (by omega), succI, Int.toNat_natCast, hrep]
      have : ((p0.map fun r => (⟨r.is, r.cell⟩ : Hd)).take i ++ Hd.none :: List.replicate (p0.length - (i + 1)) Hd.none).set i ⟨p0[i].is, p0[i].cell⟩ = (p0.map fun r => (⟨r.is, r.cell⟩ : Hd)).take (i + 1) ++ List.replicate (p0.length - (i + 1)) Hd.none := by
        rw [List.set_append_right _ _ (by omega), hlen, Nat.sub_self, List.set_cons_zero, List.take_succ_eq_append_getElem (by simpa using hlt)]
        simp
      rw [this]
      exact ih (i + 1) (by omega) (by omega)
    · rw [if_neg (by omega), List.take_of_length_le (by simp; omega), show p0.length - i = 0 by omega]; simp
theorem tableo15_eq : tableo15 p0 = some (p0.map fun r => ⟨r.is, r.cell⟩) := by
  unfold tableo15
  have hF : 10000 < 1000000 := by decide
  revert hF
  generalize 1000000 = F
  intro hF
  rw [if_pos (by omega), Int.toNat_natCast]
  have := tableo15_l1_eq p0 hL (fun l => some l) F 0 (by omega) (by omega)
  rw [List.take_zero, List.nil_append] at this
  exact this
theorem rtable15_l1_eq (K : List Hd → Option (List Hd)) : ∀ (k i : Nat), p0.length < k + i → i ≤ p0.length → rtable15_l1 p0 K k ((i : Nat) : Int) ((p0.map fun r => (⟨r.is, r.cell⟩ : Hd)).take i) = K (p0.map fun r => ⟨r.is, r.cell⟩) := by
  intro k
  induction k with
  | zero => intro i h1 h2; omega
  | succ k ih =>
    intro i h1 h2
    rw [rtable15_l1]
    by_cases hlt : i < p0.length
    · rw [if_pos (by omega), rd_get hlt, ob_some, if_pos (by rw [List.length_take]; omega), if_pos (by omega), succI]
      have := take_snoc (L := p0.map fun r => (⟨r.is, r.cell⟩ : Hd)) (i := i) (x := ⟨p0[i].is, p0[i].cell⟩) (by rw [List.getElem?_map, List.getElem?_eq_getElem hlt]; rfl)
      rw [this]
      exact ih (i + 1) (by omega) (by omega)
    · rw [if_neg (by omega), List.take_of_length_le (by simp; omega)]
theorem rtable15_eq : rtable15 p0 = some (p0.map fun r => ⟨r.is, r.cell⟩) := by
  unfold rtable15
  have hF : 10000 < 1000000 := by decide
  revert hF
  generalize 1000000 = F
  intro hF
  exact rtable15_l1_eq p0 hL _ F 0 (by omega) (by omega)
end

section
variable (x : List Hd) (hL : x.length ≤ 1000)
include hL
theorem same15_l1_eq (K : Unit → Option Bool) : ∀ (k i : Nat), x.length < k + i → i ≤ x.length → same15_l1 x x K k ((i : Nat) : Int) = K () := by
  intro k
  induction k with
  | zero => intro i h1 h2; omega
  | succ k ih =>
    intro i h1 h2
    rw [same15_l1]
    by_cases hlt : i < x.length
    · rw [if_pos (by omega), rd_get hlt, ob_some, ob_some]
      have hn := ih (i + 1) (by omega) (by omega)
      cases x[i].is with
      | true => rw [if_pos rfl, if_pos rfl, if_neg (by simp), if_pos (by omega)]; exact hn
      | false => rw [if_neg (by simp), if_neg (by simp), if_neg (by simp), if_pos (by omega)]; exact hn
    · rw [if_neg (by omega)]
theorem same15_eq : same15 x x = some true := by
  unfold same15
  have hF : 10000 < 1000000 := by decide
  revert hF
  generalize 1000000 = F
  intro hF
  rw [if_pos rfl]
  exact same15_l1_eq x hL _ F 0 (by omega) (by omega)
end
theorem spoil15_l1_eq (K : Unit → Option Unit) : ∀ (k i : Nat) (x : List Hd), x.length ≤ 1000 → x.length < k + i → i ≤ x.length → spoil15_l1 K k ((i : Nat) : Int) x = K () := by
  intro k
  induction k with
  | zero => intro i x hL h1 h2; omega
  | succ k ih =>
    intro i x hL h1 h2
    rw [spoil15_l1]
    by_cases hlt : i < x.length
    · rw [if_pos (by omega), rd_get hlt, ob_some, rd_get (by simpa using hlt), ob_some, ob_some, if_pos (by omega)]
      exact ih (i + 1) _ (by simpa using hL) (by simp; omega) (by simp; omega)
    · rw [if_neg (by omega)]
theorem spoil15_eq (x : List Hd) (hL : x.length ≤ 1000) : spoil15 x = some () := by
  unfold spoil15
  have hF : 10000 < 1000000 := by decide
  revert hF
  generalize 1000000 = F
  intro hF
  exact spoil15_l1_eq _ F 0 x hL (by omega) (by omega)

theorem agreeo15_l1_eq (p0 : Int) (p1 : List Rw) (hp : 0 ≤ p0 ∧ p0 ≤ 16) : ∀ (F i : Nat) (l : List Hd), l.length = p0.toNat → i ≤ p0.toNat → p0.toNat - i < F →
    agreeo15_l1 p0 p1 (fun l => some l) F ((i : Nat) : Int) l = agree15_l1 p0 p1 (fun l => some l) F ((i : Nat) : Int) l := by
  intro F
  induction F with
  | zero => intro i l hl hi hF; omega
  | succ F ih =>
    intro i l hl hi hF
    rw [agreeo15_l1, agree15_l1, List.length_replicate]
    by_cases hlt : i < p0.toNat
    · rw [if_pos (by omega), if_pos (by omega), most15_eq p0 i p1 hp, ob_some, ob_some, rd_get (by omega), ob_some, ob_some, if_pos (by omega), if_pos (by omega)]
      exact ih (i + 1) _ (by simpa using hl) (by omega) (by omega)
    · rw [if_neg (by omega), if_neg (by omega)]
/-- What is agreed, of whatever number. -/
def agreeI (n : Int) (hs : List Rw) : List Hd := if 4 ≤ n ∧ n ≤ 16 then agreeL n.toNat hs else []
theorem agreeI_len (n : Int) (hs : List Rw) : (agreeI n hs).length ≤ 16 := by
  unfold agreeI; split
  · simp [agreeL]; omega
  · simp
theorem agreeo15_eq (n : Int) (p1 : List Rw) : agreeo15 n p1 = some (agreeI n p1) := by
  by_cases h4 : n < 4
  · rw [agreeo15, if_pos h4, agreeI, if_neg (by omega)]
  by_cases h16 : 16 < n
  · rw [agreeo15, if_neg h4, if_pos h16, agreeI, if_neg (by omega)]
  have h : agreeo15 n p1 = agree15 n p1 := by
    rw [agreeo15, agree15, if_neg h4, if_neg h16, if_neg h4, if_neg h16]
    have hF : 10000 < 1000000 := by decide
    revert hF
    generalize 1000000 = F
    intro hF
    rw [if_pos (by omega), if_pos (by omega)]
    exact agreeo15_l1_eq n p1 (by omega) F 0 _ (by simp) (by omega) (by omega)
  rw [h, agreeI, if_pos (by omega)]
  have := agree15_eq n.toNat p1 (by omega)
  rwa [Int.toNat_of_nonneg (by omega)] at this

/-! ### The reference's majority -/
def hasD (p0 : List Rw) (k s : Nat) : Hd := match p0[k]? with
  | none => Hd.none
  | some r => if r.is = true then (match r.table[s]? with | none => Hd.none | some h => h) else Hd.none
theorem rhas15_eq (p0 : List Rw) (k s : Nat) : rhas15 p0 ((k : Nat) : Int) ((s : Nat) : Int) = some (hasD p0 k s) := by
  rw [rhas15, hasD]
  by_cases hk : k < p0.length
  · rw [if_neg (by omega), rd_get hk, ob_some, List.getElem?_eq_getElem hk]
    simp only
    cases p0[k].is with
    | true =>
      rw [if_pos rfl, if_pos rfl]
      by_cases hs : s < p0[k].table.length
      · rw [if_neg (by omega), rd_get hs, ob_some, List.getElem?_eq_getElem hs]
      · rw [if_pos (by omega), List.getElem?_eq_none (by omega)]
    | false => rw [if_neg (by simp), if_neg (by simp)]
  · rw [if_pos (by omega), List.getElem?_eq_none (by omega)]
/-- The votes, place by place. -/
def vv (p0 : List Rw) (s k : Nat) : Option Cl := if k = s then none else if (hasD p0 k s).is = true then some (hasD p0 k s).cell else none

theorem ragree15_l3_eq (n : Nat) (s : Nat) (p1 : List Rw) (y : Hd) (hy : y.is = true) (hn : n ≤ 16) (K : Int → Option (List Hd)) : ∀ (F j m : Nat), j ≤ n → n - j < F → m ≤ j →
    ragree15_l3 ((n : Nat) : Int) ((s : Nat) : Int) p1 y K F ((m : Nat) : Int) ((j : Nat) : Int) = K (((m + (((List.range n).drop j).map (vv p1 s)).count (some y.cell) : Nat) : Int)) := by
  intro F
  induction F with
  | zero => intro j m h1 h2; omega
  | succ F ih =>
    intro j m h1 h2 h3
    rw [ragree15_l3]
    by_cases hlt : j < n
    · have hd : (List.range n).drop j = j :: (List.range n).drop (j + 1) := by rw [List.drop_eq_getElem_cons (by simpa using hlt)]; simp
      rw [if_pos (by omega), hd, List.map_cons]
      by_cases hs : j = s
      · rw [if_pos (by omega), if_pos (by omega), succI, ih (j + 1) m (by omega) (by omega) (by omega)]
        have : vv p1 s j = none := by rw [vv, if_pos hs]
        rw [this, List.count_cons_of_ne (by simp)]
      · rw [if_neg (by omega), rhas15_eq, ob_some]
        by_cases he : hasD p1 j s = y
        · rw [if_pos he, if_pos (by omega), if_pos (by omega), succI, succI, ih (j + 1) (m + 1) (by omega) (by omega) (by omega)]
          have : vv p1 s j = some y.cell := by rw [vv, if_neg hs, he, if_pos hy]
          rw [this, List.count_cons_self]
          congr 2; omega
        · rw [if_neg he, if_pos (by omega), succI, ih (j + 1) m (by omega) (by omega) (by omega)]
          have : vv p1 s j ≠ some y.cell := by
            rw [vv, if_neg hs]
            intro h
            by_cases hi : (hasD p1 j s).is = true
            · rw [if_pos hi] at h
              have h2 := Option.some.inj h
              apply he
              cases hq : hasD p1 j s with
              | mk is cell =>
                rw [hq] at hi h2
                cases y with
                | mk yis ycell => simp only at hi h2 hy; rw [hi, h2, hy]
            · rw [if_neg hi] at h; cases h
          rw [List.count_cons_of_ne this]
    · rw [if_neg (by omega), List.drop_eq_nil_of_le (by simp; omega)]; simp

def pick15 (n : Int) (os : List (Option Cl)) (d : Hd) (o : Option Cl) : Hd := match o with
  | none => d
  | some c => if n - 1 < 2 * ((os.count (some c) : Nat) : Int) then ⟨true, c⟩ else d

theorem ragree15_l2_eq (n : Nat) (s : Nat) (p1 : List Rw) (hn : n ≤ 16) (K : Hd → Option (List Hd)) : ∀ (F k : Nat) (d : Hd), k ≤ n → n - k < F →
    ragree15_l2 ((n : Nat) : Int) p1 ((s : Nat) : Int) K F ((k : Nat) : Int) d = K ((((List.range n).drop k).map (vv p1 s)).foldl (pick15 n ((List.range n).map (vv p1 s))) d) := by
  intro F
  induction F with
  | zero => intro k d h1 h2; omega
  | succ F ih =>
    intro k d h1 h2
    rw [ragree15_l2]
    by_cases hlt : k < n
    · have hd : (List.range n).drop k = k :: (List.range n).drop (k + 1) := by rw [List.drop_eq_getElem_cons (by simpa using hlt)]; simp
      rw [if_pos (by omega), rhas15_eq, ob_some, hd, List.map_cons, List.foldl_cons]
      by_cases hs : k = s
      · rw [if_pos (by omega), if_pos (by omega), succI, ih (k + 1) d (by omega) (by omega)]
        have : vv p1 s k = none := by rw [vv, if_pos hs]
        rw [this]; rfl
      · rw [if_neg (by omega)]
        by_cases hi : (hasD p1 k s).is = true
        · have hv : vv p1 s k = some (hasD p1 k s).cell := by rw [vv, if_neg hs, if_pos hi]
          rw [if_pos hi]
          have hG : 100 < 1000000 := by decide
          revert hG
          generalize 1000000 = G
          intro hG
          rw [show (0 : Int) = ((0 : Nat) : Int) from rfl, ragree15_l3_eq n s p1 _ hi hn _ G 0 0 (by omega) (by omega) (by omega)]
          simp only [List.drop_zero, Nat.zero_add]
          have hc : ((List.range n).map (vv p1 s)).count (some (hasD p1 k s).cell) ≤ n := by
            have := List.count_le_length (a := some (hasD p1 k s).cell) (l := (List.range n).map (vv p1 s))
            simpa using this
          rw [if_pos (by omega), if_pos (by omega), hv, pick15]
          by_cases hm : ((n : Nat) : Int) - 1 < 2 * ((((List.range n).map (vv p1 s)).count (some (hasD p1 k s).cell) : Nat) : Int)
          · rw [if_pos hm, if_pos (by omega), succI, ih (k + 1) _ (by omega) (by omega), if_pos hm]
            have : hasD p1 k s = ⟨true, (hasD p1 k s).cell⟩ := by rw [← hi]
            rw [← this]
          · rw [if_neg hm, if_pos (by omega), succI, ih (k + 1) _ (by omega) (by omega), if_neg hm]
        · have hv : vv p1 s k = none := by rw [vv, if_neg hs, if_neg hi]
          rw [if_neg hi, if_pos (by omega), succI, ih (k + 1) d (by omega) (by omega), hv]; rfl
    · rw [if_neg (by omega), List.drop_eq_nil_of_le (by simp; omega)]; rfl

theorem votesL_vv (p0 : List Rw) (s : Nat) : ∀ (rs : List Rw) (i : Nat), (∀ k, rs[k]? = p0[i + k]? ∨ (rs.length ≤ k)) → votesL s rs i = ((List.range' i rs.length).map (vv p0 s)).filterMap id
  | [], i, _ => rfl
  | r :: rs, i, h => by
    have h0 : p0[i]? = some r := by rcases h 0 with h | h; simpa using h.symm; simp at h
    have ih := votesL_vv p0 s rs (i + 1) (fun k => by
      rcases h (k + 1) with h | h
      · left; rw [show i + 1 + k = i + (k + 1) by omega, ← h]; simp
      · right; simpa using h)
    rw [votesL, List.length_cons, List.range'_succ, List.map_cons, List.filterMap_cons]
    have hv : vv p0 s i = vote s i r := by
      rw [vv, vote, hasD, h0]
      by_cases hs : i = s
      · rw [if_pos hs, if_pos hs]
      · rw [if_neg hs, if_neg hs]
        simp only
        cases r.is with
        | true =>
          simp only [if_true]
          cases r.table[s]? with
          | none => rfl
          | some h => rfl
        | false => simp only [Bool.false_eq_true, if_false]; rfl
    rw [hv]
    cases vote s i r with
    | none => exact ih
    | some c => simp only [id]; rw [ih]

theorem count_some (c : Cl) : ∀ os : List (Option Cl), (os.filterMap id).count c = os.count (some c)
  | [] => rfl
  | none :: os => by rw [List.filterMap_cons]; simp only [id]; rw [count_some c os, List.count_cons_of_ne (by simp)]
  | some d :: os => by
    rw [List.filterMap_cons]; simp only [id]
    by_cases h : d = c
    · subst h; rw [List.count_cons_self, List.count_cons_self, count_some d os]
    · rw [List.count_cons_of_ne h, List.count_cons_of_ne (by simpa using h), count_some c os]

theorem foldl_pick (n : Int) (os : List (Option Cl)) (x : Cl) (hx : ∀ c, n - 1 < 2 * ((os.count (some c) : Nat) : Int) → c = x) : ∀ (qs : List (Option Cl)) (d : Hd),
    qs.foldl (pick15 n os) d = if n - 1 < 2 * ((os.count (some x) : Nat) : Int) ∧ some x ∈ qs then ⟨true, x⟩ else d
  | [], d => by simp
  | none :: qs, d => by
    rw [List.foldl_cons, show pick15 n os d none = d from rfl, foldl_pick n os x hx qs d]
    simp
  | some c :: qs, d => by
    rw [List.foldl_cons, foldl_pick n os x hx qs, pick15]
    by_cases hm : n - 1 < 2 * ((os.count (some c) : Nat) : Int)
    · have := hx c hm
      subst this
      simp [hm]
    · rw [if_neg hm]
      by_cases hcx : c = x
      · subst hcx; simp [hm]
      · have : ¬ some x = some c := fun h => hcx (Option.some.inj h).symm
        simp [this]

theorem maj_same (n : Nat) (hn : 0 < n) (s : Nat) (hs : s < n) (p1 : List Rw) : ((List.range n).map (vv p1 s)).foldl (pick15 n ((List.range n).map (vv p1 s))) Hd.none = mostR n s (p1.take n) 0 [] := by
  rw [mostR_eq]
  have hvl : votesL s (p1.take n) 0 = ((List.range n).map (vv p1 s)).filterMap id := by
    rw [votesL_vv p1 s (p1.take n) 0 (fun k => by
      by_cases hk : k < n
      · left; rw [Nat.zero_add, List.getElem?_take, if_pos hk]
      · right; rw [List.length_take]; omega)]
    have h1 : List.range n = List.range' 0 (p1.take n).length ++ List.range' (p1.take n).length (n - (p1.take n).length) := by
      have hlt := List.length_take (i := n) (l := p1)
      have h := @List.range'_append_1 0 (p1.take n).length (n - (p1.take n).length)
      rw [Nat.zero_add, show (p1.take n).length + (n - (p1.take n).length) = n by omega] at h
      rw [List.range_eq_range', h]
    rw [h1, List.map_append, List.filterMap_append]
    have h2 : ((List.range' (p1.take n).length (n - (p1.take n).length)).map (vv p1 s)).filterMap id = [] := by
      rw [List.filterMap_eq_nil_iff]
      intro o ho
      obtain ⟨k, hk, rfl⟩ := List.mem_map.1 ho
      have hk2 := List.mem_range'_1.1 hk
      have : p1[k]? = none := List.getElem?_eq_none (by rw [List.length_take] at hk2; omega)
      show vv p1 s k = none
      rw [vv, hasD, this]
      split
      · rfl
      · rw [if_neg (by simp [Hd.none])]
    rw [h2, List.append_nil]
  have hlen := votesL_len s (p1.take n) 0
  generalize hcs : votesL s (p1.take n) 0 = cs at *
  have hcount : ∀ c, ((List.range n).map (vv p1 s)).count (some c) = cs.count c := fun c => by rw [hvl, count_some]
  -- the votes are fewer than n
  have hl2 : cs.length ≤ n - 1 := by
    have hlt := List.length_take (i := n) (l := p1)
    split at hlen <;> omega
  by_cases hex : ∃ x, ((n : Nat) : Int) - 1 < 2 * ((cs.count x : Nat) : Int)
  · obtain ⟨x, hx⟩ := hex
    rw [foldl_pick _ _ x (fun c hc => by
      rw [hcount] at hc
      apply Classical.byContradiction
      intro h
      have := count_two c x h cs
      omega)]
    rw [hcount, if_pos ⟨hx, by
      have : 0 < ((List.range n).map (vv p1 s)).count (some x) := by rw [hcount]; omega
      exact List.count_pos_iff.1 this⟩, maj _ (by omega) x cs hx (by omega)]
  · rw [foldl_pick _ _ Cl.zero (fun c hc => absurd ⟨c, by rw [hcount] at hc; exact hc⟩ hex), if_neg (fun h => hex ⟨_, by rw [hcount] at h; exact h.1⟩)]
    cases hi : (mostV n cs []).is with
    | true =>
      have := mostV_sound n cs [] [] (fun c => rfl) hi
      exact absurd ⟨_, by simpa using this⟩ hex
    | false => exact (mostV_none n cs [] hi).symm

theorem ragree15_l1_eq (n : Nat) (p1 : List Rw) (hn : n ≤ 16) (K : List Hd → Option (List Hd)) : ∀ (F s : Nat), s ≤ n → n - s < F →
    ragree15_l1 ((n : Nat) : Int) p1 K F ((s : Nat) : Int) ((List.range s).map fun s => mostR n s (p1.take n) 0 []) = K ((List.range n).map fun s => mostR n s (p1.take n) 0 []) := by
  intro F
  induction F with
  | zero => intro s h1 h2; omega
  | succ F ih =>
    intro s h1 h2
    rw [ragree15_l1]
    by_cases hlt : s < n
    · rw [if_pos (by omega)]
      have hG : 100 < 1000000 := by decide
      revert hG
      generalize 1000000 = G
      intro hG
      rw [show (0 : Int) = ((0 : Nat) : Int) from rfl, ragree15_l2_eq n s p1 hn _ G 0 Hd.none (by omega) (by omega)]
      simp only [List.drop_zero]
      rw [maj_same n (by omega) s hlt p1, if_pos (by simp; omega), if_pos (by omega), succI]
      have := ih (s + 1) (by omega) (by omega)
      rw [List.range_succ, List.map_append, List.map_cons, List.map_nil] at this
      exact this
    · have : s = n := by omega
      subst this
      rw [if_neg (by omega)]

theorem ragree15_eq (n : Int) (p1 : List Rw) : ragree15 n p1 = some (agreeI n p1) := by
  rw [ragree15]
  by_cases h4 : n < 4
  · rw [if_pos h4, agreeI, if_neg (by omega)]
  by_cases h16 : 16 < n
  · rw [if_neg h4, if_pos h16, agreeI, if_neg (by omega)]
  rw [if_neg h4, if_neg h16, agreeI, if_pos (by omega)]
  obtain ⟨m, rfl⟩ : ∃ m : Nat, n = ((m : Nat) : Int) := ⟨n.toNat, by omega⟩
  have hG : 100 < 1000000 := by decide
  revert hG
  generalize 1000000 = G
  intro hG
  rw [show (0 : Int) = ((0 : Nat) : Int) from rfl, show ([] : List Hd) = (List.range 0).map (fun s => mostR m s (p1.take m) 0 []) from rfl, ragree15_l1_eq m p1 (by omega) _ G 0 (by omega) (by omega)]
  rfl

theorem any15_eq (n : Int) (p1 : List Rw) (hl : p1.length ≤ 140737488355328) (hz : ∀ r ∈ p1, r.table.length ≤ 140737488355328) : any15 n p1 = some true := by
  unfold any15
  obtain ⟨b, hb, hb2⟩ := great13_le p1 hl hz
  rw [hb, ob_some]
  cases b with
  | true => rw [if_pos rfl, lives15_eq]; rfl
  | false =>
    obtain ⟨h1, h2⟩ := hb2 rfl
    have ha := agreeI_len n p1
    have hm : (p1.map fun r => (⟨r.is, r.cell⟩ : Hd)).length ≤ 1000 := by simp; omega
    rw [if_neg (by simp), twinword13_eq p1 h1 h2, ob_some, tableo15_eq p1 h1, ob_some, agreeo15_eq, ob_some, others13_eq p1 h1 h2, ob_some, rtable15_eq p1 h1, ob_some, ob_some, ragree15_eq, ob_some,
      same15_eq _ hm, ob_some, if_pos rfl, same15_eq _ (by omega), ob_some, if_pos rfl, leftword13_eq p1 h1 h2, ob_some, if_pos rfl, spoil15_eq _ hm, ob_some, spoil15_eq _ (by omega), ob_some, ob_some, ob_some, same15_eq _ hm, ob_some, if_pos rfl, same15_eq _ (by omega), ob_some, if_pos rfl, ob_some, if_pos rfl, lives15_eq]
    rfl
end Go.Proofs.Ytckcldimnelklaa
