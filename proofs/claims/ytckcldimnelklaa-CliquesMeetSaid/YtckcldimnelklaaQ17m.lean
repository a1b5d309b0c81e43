/- Cliques, plain: two vectors that differ at one place alone are not even for two ages. -/
import Derived.Test.YtckcldimnelklaaQ17
import Derived.Test.YtckcldimnelklaaQ16c
import Derived.Test.YtckcldimnelklaaD17m
namespace Go.Proofs.Ytckcldimnelklaa
open Go
set_option linter.unusedVariables false
set_option linter.unusedSimpArgs false

/-- What one node may show: all but one entry are as they are, or not there. -/
def VW (n bad : Nat) (ages : List Int) (v : List Hd) : Prop :=
  v.length = n ∧ ∀ (i : Nat) (h : i < v.length), i ≠ bad → v[i].is = false ∨ v[i].cell.age = ages.getD (i % ages.length) 0
theorem VW.rep (n bad : Nat) (ages : List Int) : VW n bad ages (List.replicate n Hd.none) := ⟨by simp, fun i h _ => .inl (by rw [List.getElem_replicate]; rfl)⟩
theorem VW.setAge {n bad : Nat} {ages : List Int} {v : List Hd} (h : VW n bad ages v) {i : Nat} {y : Hd} (hy : y.cell.age = ages.getD (i % ages.length) 0) : VW n bad ages (v.set i y) :=
  ⟨by rw [List.length_set]; exact h.1, fun j hj hb => by
    by_cases e : i = j
    · subst e; rw [List.getElem_set_self]; exact .inr hy
    · rw [List.getElem_set_ne e]; exact h.2 j (by simpa using hj) hb⟩
theorem VW.setBad {n bad : Nat} {ages : List Int} {v : List Hd} (h : VW n bad ages v) {y : Hd} : VW n bad ages (v.set bad y) :=
  ⟨by rw [List.length_set]; exact h.1, fun j hj hb => by
    rw [List.getElem_set_ne (fun e => hb e.symm)]; exact h.2 j (by simpa using hj) hb⟩

theorem view17_l1_eq (n bad : Nat) (ages : List Int) (hid : Int) (K : List Hd → Option (List Hd)) (hn : n ≤ 1000) (ha : 0 < ages.length) (ha2 : ages.length ≤ 1000) : ∀ (k i : Nat) (l : List Hd), n < k + i → i ≤ n → VW n bad ages l →
    ∃ v, VW n bad ages v ∧ view17_l1 (n : Int) (bad : Int) hid ages K k ((i : Nat) : Int) l = K v := by
  intro k
  induction k with
  | zero => intro i l h1 h2; omega
  | succ k ih =>
    intro i l h1 h2 hv
    rw [view17_l1]
    by_cases hi : i < n
    · have hl : i < l.length := by rw [hv.1]; exact hi
      have g : -9223372036854775808 ≤ ((i : Nat) : Int) + 1 ∧ ((i : Nat) : Int) + 1 ≤ 9223372036854775807 := by omega
      rw [if_pos (by omega)]
      by_cases e1 : i = bad
      · rw [if_pos (by omega), if_pos g, succI]
        exact ih (i + 1) l (by omega) (by omega) hv
      · rw [if_neg (by omega), if_pos (by omega)]
        by_cases e2 : andI .u16 (shrI .u16 hid ((i : Nat) : Int)) 1 = 0
        · have hm : i % ages.length < ages.length := Nat.mod_lt _ ha
          have em : ((i : Nat) : Int) % ((ages.length : Nat) : Int) = ((i % ages.length : Nat) : Int) := rfl
          rw [if_pos e2, if_pos (by omega), em, rd_get hm, ob_some, rd_get hl, ob_some, if_pos g, succI, Int.toNat_natCast]
          exact ih (i + 1) _ (by omega) (by omega) (hv.setAge (by rw [List.getD_eq_getElem?_getD, List.getElem?_eq_getElem hm]; rfl))
        · rw [if_neg e2, if_pos g, succI]
          exact ih (i + 1) l (by omega) (by omega) hv
    · rw [if_neg (by omega)]
      exact ⟨l, hv, rfl⟩
theorem view17_eq (n bad : Nat) (ages : List Int) (hid : Int) (h : Hd) (hn : n ≤ 1000) (hb : bad < n) (ha : 0 < ages.length) (ha2 : ages.length ≤ 1000) :
    ∃ v, VW n bad ages v ∧ view17 (n : Int) (bad : Int) ages hid h = some v := by
  have hF : 10000 < 1000000 := by omega
  unfold view17
  rw [if_pos (by omega)]
  generalize 1000000 = F at *
  obtain ⟨v, h1, h2⟩ := view17_l1_eq n bad ages hid (fun (l227 : List Hd) => (Option.bind (rd l227 (bad : Int)) fun (x305 : Hd) => (some ((l227).set ((bad : Int)).toNat h)))) hn ha ha2 F 0 (List.replicate n Hd.none) (by omega) (by omega) (VW.rep n bad ages)
  have hl : bad < v.length := by rw [h1.1]; exact hb
  refine ⟨v.set bad h, h1.setBad, ?_⟩
  rw [rd_get hl, ob_some, Int.toNat_natCast] at h2
  exact h2

/-- How many show both. -/
theorem VW.two (c0 c1 : Int) (bad : Nat) : ∀ (a b : List Hd) (s : Nat), a.length = b.length → (∀ (i : Nat) (h : i < a.length) (h' : i < b.length), s + i ≠ bad → one c0 a[i] + one c1 b[i] ≤ 1) →
    cnt a c0 + cnt b c1 ≤ a.length + (if s ≤ bad then 1 else 0)
  | [], [], s, _, _ => by rw [cnt_nil, cnt_nil]; simp; split <;> omega
  | x :: a, y :: b, s, hl, h => by
    have ih := VW.two c0 c1 bad a b (s + 1) (by simpa using hl) (fun i h1 h2 hb => by
      have := h (i + 1) (by simpa using h1) (by simpa using h2) (by omega)
      simpa using this)
    have o1 : ∀ (c : Int) (z : Hd), one c z ≤ 1 := fun c z => by unfold one; split <;> (try split) <;> omega
    have h0 := h 0 (by simp) (by simp)
    simp only [List.getElem_cons_zero] at h0
    rw [cnt_cons, cnt_cons, List.length_cons]
    have e0 : (if x.is = true then (if x.cell.age = c0 then 1 else 0) else 0 : Int) = one c0 x := rfl
    have e1 : (if y.is = true then (if y.cell.age = c1 then 1 else 0) else 0 : Int) = one c1 y := rfl
    rw [e0, e1]
    have a1 := o1 c0 x; have a2 := o1 c1 y
    by_cases hs : s = bad
    · rw [if_neg (by omega)] at ih; rw [if_pos (by omega)]; omega
    · have h3 := h0 (by omega)
      by_cases hs2 : s ≤ bad
      · rw [if_pos (by omega)] at ih; rw [if_pos hs2]; omega
      · rw [if_neg (by omega)] at ih; rw [if_neg hs2]; omega
  | [], y :: b, _, hl, _ => by simp at hl
  | x :: a, [], _, hl, _ => by simp at hl

theorem even_out {n : Nat} {v : List Hd} {c : Int} (hl : v.length = n) (h : evenB (n : Int) v c = true) : 4 ≤ n ∧ n ≤ 16 ∧ 0 ≤ c ∧ c ≤ 1099511627776 ∧ (n : Int) - 1 ≤ cnt v c := by
  have h := of_decide_eq_true h
  rw [List.take_of_length_le (by rw [Int.toNat_natCast]; omega)] at h
  omega
theorem even_meet {n bad : Nat} {ages : List Int} {a b : List Hd} (ha : VW n bad ages a) (hb : VW n bad ages b) {c0 c1 : Int} (h0 : evenB (n : Int) a c0 = true) (h1 : evenB (n : Int) b c1 = true) : c0 = c1 := by
  obtain ⟨g1, g2, g3, g4, g5⟩ := even_out ha.1 h0
  obtain ⟨_, _, _, _, k5⟩ := even_out hb.1 h1
  by_cases hne : c0 = c1
  · exact hne
  have := VW.two c0 c1 bad a b 0 (by rw [ha.1, hb.1]) (fun i hi hi' hbd => by
    have p1 := ha.2 i hi (by omega)
    have p2 := hb.2 i hi' (by omega)
    unfold one
    rcases p1 with p1 | p1
    · rw [p1]; simp; split <;> (try split) <;> omega
    · rcases p2 with p2 | p2
      · rw [p2]; simp; split <;> (try split) <;> omega
      · rw [p1, p2]; split <;> split <;> (try split) <;> (try split) <;> omega)
  rw [if_pos (by omega), ha.1] at this
  omega
theorem cnt_cEq {c : Int} (hc : 0 ≤ c ∧ c ≤ 1099511627776) : ∀ xs : List Hd, cnt xs c = cEq (agesOf xs) c
  | [] => by rw [cnt_nil]; rfl
  | x :: xs => by
    have ih := cnt_cEq hc xs
    rw [cnt_cons, agesOf_cons, ih]
    by_cases h1 : x.is = true
    · by_cases h2 : x.cell.age = c
      · rw [if_pos h1, if_pos h2, if_pos (by simp [validAge, h1, h2]; omega), cEq_cons, if_pos h2]; omega
      · rw [if_pos h1, if_neg h2]
        split
        · rw [cEq_cons, if_neg h2]; omega
        · omega
    · rw [if_neg h1, if_neg (by simp [validAge, h1])]; omega
theorem even_common {n : Nat} {v : List Hd} {c : Int} (hl : v.length = n) (h : evenB (n : Int) v c = true) : common (n : Int) v = c := by
  obtain ⟨g1, g2, g3, g4, g5⟩ := even_out hl h
  have ht : v.take ((n : Nat) : Int).toNat = v := List.take_of_length_le (by rw [Int.toNat_natCast]; omega)
  have e := cnt_cEq ⟨g3, g4⟩ v
  have e2 := cLe_eq (agesOf v) c
  have e3 : cLe (agesOf v) c ≤ (agesOf v).length := List.countP_le_length
  have e4 := agesOf_length v
  unfold common
  rw [if_pos (by omega), ht, if_neg (by omega)]
  exact (middle_uniq (by omega) (by omega) (by omega)).symm

theorem meet17_l3_eq (p0 : Int × Int) (p2 : ((List Hd) × Int) × ((List Hd) × Int)) (n bad : Nat) (ages : List Int) (a b : List Hd) (hn : 4 + p0.1 % 13 = (n : Int)) (hn2 : n ≤ 16) (ha : VW n bad ages a) (hb : VW n bad ages b) (x : Nat) (hx : x < n) (K : Unit → Option Bool) (hK : K () = some true) :
    ∀ (k i : Nat), n < k + i → i ≤ n → meet17_l3 p0 a ((x : Nat) : Int) b p2 K k ((i : Nat) : Int) = some true := by
  intro k
  induction k with
  | zero => intro i h1 h2; omega
  | succ k ih =>
    intro i h1 h2
    rw [meet17_l3, hn]
    by_cases hi : i < n
    · have hx' : x < a.length := by rw [ha.1]; exact hx
      have hi' : i < b.length := by rw [hb.1]; exact hi
      have g : -9223372036854775808 ≤ ((i : Nat) : Int) + 1 ∧ ((i : Nat) : Int) + 1 ≤ 9223372036854775807 := by omega
      have hih := ih (i + 1) (by omega) (by omega)
      rw [if_pos (by omega), rd_get hx', ob_some, rd_get hi', ob_some]
      have all : ∀ c0 c1 : Int, (Option.bind (even17 (n : Int) a c0) fun (y1813 : Bool) => (if y1813 = true then (Option.bind (common16 (n : Int) a) fun (y1823 : Int) => (if y1823 = c0 then (Option.bind (even17 (n : Int) b c1) fun (y1834 : Bool) => (if y1834 = true then (if c0 = c1 then (if -9223372036854775808 ≤ ((i : Nat) : Int) + 1 ∧ ((i : Nat) : Int) + 1 ≤ 9223372036854775807 then (meet17_l3 p0 a ((x : Nat) : Int) b p2 K k (((i : Nat) : Int) + 1)) else none) else (some false)) else (if -9223372036854775808 ≤ ((i : Nat) : Int) + 1 ∧ ((i : Nat) : Int) + 1 ≤ 9223372036854775807 then (meet17_l3 p0 a ((x : Nat) : Int) b p2 K k (((i : Nat) : Int) + 1)) else none))) else (some false))) else (if -9223372036854775808 ≤ ((i : Nat) : Int) + 1 ∧ ((i : Nat) : Int) + 1 ≤ 9223372036854775807 then (meet17_l3 p0 a ((x : Nat) : Int) b p2 K k (((i : Nat) : Int) + 1)) else none))) = some true := by
        intro c0 c1
        rw [even17_eq, ob_some]
        by_cases w1 : evenB (n : Int) a c0 = true
        · rw [if_pos w1, common16_eq, ob_some, if_pos (even_common ha.1 w1), even17_eq, ob_some]
          by_cases w2 : evenB (n : Int) b c1 = true
          · rw [if_pos w2, if_pos (even_meet ha hb w1 w2), if_pos g]; exact hih
          · rw [if_neg w2, if_pos g]; exact hih
        · rw [if_neg w1, if_pos g]; exact hih
      unfold jn
      dsimp only
      by_cases e1 : ((x : Nat) : Int) = 0
      · rw [if_pos e1]
        by_cases e2 : ((i : Nat) : Int) = 0
        · rw [if_pos e2]; exact all _ _
        · rw [if_neg e2]; exact all _ _
      · rw [if_neg e1]; exact all _ _
    · rw [if_neg (by omega)]; exact hK

theorem meet17_l2_eq (p0 : Int × Int) (p2 : ((List Hd) × Int) × ((List Hd) × Int)) (n bad : Nat) (ages : List Int) (a b : List Hd) (hn : 4 + p0.1 % 13 = (n : Int)) (hn2 : n ≤ 16) (ha : VW n bad ages a) (hb : VW n bad ages b) (K : Unit → Option Bool) (hK : K () = some true) :
    ∀ (k i : Nat), n < k + i → i ≤ n → meet17_l2 p0 a b p2 K k ((i : Nat) : Int) = some true := by
  intro k
  induction k with
  | zero => intro i h1 h2; omega
  | succ k ih =>
    intro i h1 h2
    have hF : 100 < 1000000 := by omega
    rw [meet17_l2, hn]
    revert hF
    generalize 1000000 = F
    intro hF
    by_cases hi : i < n
    · rw [if_pos (by omega)]
      refine meet17_l3_eq p0 p2 n bad ages a b hn hn2 ha hb i hi _ ?_ F 0 (by omega) (by omega)
      show (if -9223372036854775808 ≤ ((i : Nat) : Int) + 1 ∧ ((i : Nat) : Int) + 1 ≤ 9223372036854775807 then _ else none) = _
      rw [if_pos (by omega), succI]
      exact ih (i + 1) (by omega) (by omega)
    · rw [if_neg (by omega)]; exact hK

theorem meet17_l1_eq (p2 : ((List Hd) × Int) × ((List Hd) × Int)) (p0 : Int × Int) (p1 : List Int) (n bad : Nat) (hn : 4 + p0.1 % 13 = (n : Int)) (hn2 : n ≤ 16) (hb : p0.2 % (n : Int) = (bad : Int)) (hb2 : bad < n) (ha : 0 < p1.length) (ha2 : p1.length ≤ 1000) (K : (List Hd) → (List Hd) → Option Bool)
    (hK : ∀ a b, VW n bad p1 a → VW n bad p1 b → K a b = some true) (F : Nat) (l0 l1 : List Hd) : meet17_l1 p2 p0 p1 K (F + 3) 0 l0 l1 = some true := by
  have s2 : ∀ a b, VW n bad p1 a → VW n bad p1 b → meet17_l1 p2 p0 p1 K (F + 1) 2 a b = some true := fun a b h1 h2 => by
    rw [meet17_l1, if_neg (by decide)]; exact hK a b h1 h2
  have s1 : ∀ a, VW n bad p1 a → meet17_l1 p2 p0 p1 K (F + 2) 1 a l1 = some true := fun a h1 => by
    rw [meet17_l1, if_pos (by decide), if_neg (by decide), if_pos rfl, hn, hb]
    by_cases h : 0 < ((p2.2.1.length : Nat) : Int)
    · have h' : 0 < p2.2.1.length := by omega
      rw [if_pos h, show (0 : Int) = ((0 : Nat) : Int) from rfl, rd_get h', ob_some]
      obtain ⟨v, h3, h4⟩ := view17_eq n bad p1 (IntKind.wrap .u16 p2.2.1[0].cell.offer.value) p2.2.1[0] (by omega) hb2 ha ha2
      rw [h4, ob_some, if_pos (by decide)]
      exact s2 a v h1 h3
    · rw [if_neg h]
      obtain ⟨v, h3, h4⟩ := view17_eq n bad p1 0 Hd.none (by omega) hb2 ha ha2
      rw [h4, ob_some, if_pos (by decide)]
      exact s2 a v h1 h3
  rw [meet17_l1, if_pos (by decide), if_pos rfl, hn, hb]
  by_cases h : 0 < ((p2.1.1.length : Nat) : Int)
  · have h' : 0 < p2.1.1.length := by omega
    rw [if_pos h, show rd p2.1.1 0 = rd p2.1.1 ((0 : Nat) : Int) from rfl, rd_get h', ob_some]
    obtain ⟨v, h3, h4⟩ := view17_eq n bad p1 (IntKind.wrap .u16 p2.1.1[0].cell.offer.value) p2.1.1[0] (by omega) hb2 ha ha2
    rw [h4, ob_some, if_pos (by decide)]
    exact s1 v h3
  · rw [if_neg h]
    obtain ⟨v, h3, h4⟩ := view17_eq n bad p1 0 Hd.none (by omega) hb2 ha ha2
    rw [h4, ob_some, if_pos (by decide)]
    exact s1 v h3

theorem meet17_eq (p0 : Int × Int) (p1 : List Int) (p2 : ((List Hd) × Int) × ((List Hd) × Int)) (h : inK .u8 p0.1 ∧ inK .u8 p0.2) : meet17 p0 p1 p2 = some true := by
  have h1 : 0 ≤ p0.1 ∧ p0.1 ≤ 255 := h.1
  have h2 : 0 ≤ p0.2 ∧ p0.2 ≤ 255 := h.2
  have hF : ∃ F, 1000000 = F + 3 ∧ 100 < F + 3 := ⟨999997, rfl, by omega⟩
  unfold meet17
  obtain ⟨F, hF, hF2⟩ := hF
  rw [hF]
  clear hF
  by_cases g1 : ((p1.length : Nat) : Int) = 0
  · rw [if_pos g1, bsome]; exact lives17_true
  · rw [if_neg g1]
    by_cases g2 : 40 < ((p1.length : Nat) : Int)
    · rw [if_pos g2, bsome]; exact lives17_true
    · rw [if_neg g2]
      obtain ⟨n, hn⟩ : ∃ n : Nat, 4 + p0.1 % 13 = (n : Int) := ⟨(4 + p0.1 % 13).toNat, by omega⟩
      obtain ⟨bad, hb⟩ : ∃ bad : Nat, p0.2 % (n : Int) = (bad : Int) := ⟨(p0.2 % (n : Int)).toNat, (Int.toNat_of_nonneg (Int.emod_nonneg _ (by omega))).symm⟩
      have r4 : p0.2 % (n : Int) < n := Int.emod_lt_of_pos _ (by omega)
      rw [if_pos (by omega), if_pos (by omega), if_pos (by omega), if_pos (by omega), if_pos (by omega)]
      refine meet17_l1_eq p2 p0 p1 n bad hn (by omega) hb (by omega) (by omega) (by omega) _ (fun a b ha hb' => ?_) F [] []
      exact meet17_l2_eq p0 p2 n bad p1 a b hn (by omega) ha hb' _ (by rw [bsome]; exact lives17_true) (F + 3) 0 (by omega) (by omega)
end Go.Proofs.Ytckcldimnelklaa
