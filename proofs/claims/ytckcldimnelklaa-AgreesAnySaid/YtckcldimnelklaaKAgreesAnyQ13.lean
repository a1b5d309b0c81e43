/- Words, plain: the plain form of a plain form is it. -/
import Derived.Test.YtckcldimnelklaaPU
import Derived.Test.YtckcldimnelklaaPAgreesAnyD0
namespace Go.Proofs.Ytckcldimnelklaa
open Go
set_option linter.unusedVariables false
set_option linter.unusedSimpArgs false

theorem lives13_true : lives13 = some true := by decide +kernel

/-! ### A cell -/
def okS (s : Sd) : Prop := s.is = true ∧ 0 ≤ s.at_ ∧ s.at_ ≤ 1099511627776 ∧ (s.kind = 1 ∨ s.kind = 2)
instance (s : Sd) : Decidable (okS s) := by unfold okS; infer_instance
def sdN (s : Sd) : Sd := if okS s then s else Sd.none
theorem not_okS_none : ¬ okS Sd.none := by decide
theorem sdN_idem (s : Sd) : sdN (sdN s) = sdN s := by
  unfold sdN
  by_cases h : okS s
  · rw [if_pos h, if_pos h]
  · rw [if_neg h, if_neg not_okS_none]
theorem said13_eq (s : Sd) : said13 s = some (sdN s) := by
  unfold said13 sdN
  by_cases h1 : s.is = true
  · rw [if_pos h1]
    by_cases h2 : s.at_ < 0
    · rw [if_pos h2, if_neg (fun h : okS s => by unfold okS at h; omega)]
    · rw [if_neg h2]
      by_cases h3 : 1099511627776 < s.at_
      · rw [if_pos h3, if_neg (fun h : okS s => by unfold okS at h; omega)]
      · rw [if_neg h3]
        by_cases h4 : s.kind = 1
        · rw [if_pos h4, if_pos (show okS s from ⟨h1, by omega, by omega, .inl h4⟩)]
        · rw [if_neg h4]
          by_cases h5 : s.kind = 2
          · rw [if_pos h5, if_pos (show okS s from ⟨h1, by omega, by omega, .inr h5⟩)]
          · rw [if_neg h5, if_neg (fun h : okS s => by unfold okS at h; omega)]
  · rw [if_neg h1, if_neg (fun h : okS s => h1 h.1)]

def ageN (a : Int) : Int := if 0 ≤ a ∧ a ≤ 1099511627776 then a else -1
def comN (a : Int) : Int := if 0 ≤ a ∧ a < 8 then a else -1
def modN (a : Int) : Int := if a ≤ 7 then a else 0
def vwN (v : Vw) : Vw := { v with command := comN v.command, mode := modN v.mode }
def cellN (c : Cl) : Cl := ⟨ageN c.age, sdN c.offer, sdN c.report, vwN c.view⟩
theorem ageN_idem (a : Int) : ageN (ageN a) = ageN a := by unfold ageN; split <;> (try split) <;> omega
theorem comN_idem (a : Int) : comN (comN a) = comN a := by unfold comN; split <;> (try split) <;> omega
theorem modN_idem (a : Int) : modN (modN a) = modN a := by unfold modN; split <;> (try split) <;> omega
theorem vwN_idem (v : Vw) : vwN (vwN v) = vwN v := by
  cases v; simp only [vwN, comN_idem, modN_idem]
theorem cellN_idem (c : Cl) : cellN (cellN c) = cellN c := by
  simp only [cellN, ageN_idem, sdN_idem, vwN_idem]
theorem c1_eq (c : Cl) : c1_13 c = some ⟨ageN c.age, c.offer, c.report, c.view⟩ := by
  unfold c1_13 ageN
  by_cases h1 : c.age < 0
  · rw [if_pos h1, if_neg (by omega)]
  · rw [if_neg h1]
    by_cases h2 : 1099511627776 < c.age
    · rw [if_pos h2, if_neg (by omega)]
    · rw [if_neg h2, if_pos (by omega)]
theorem c2_eq (c : Cl) : c2_13 c = some ⟨c.age, sdN c.offer, sdN c.report, c.view⟩ := by
  unfold c2_13
  rw [said13_eq, ob_some, said13_eq, ob_some]
theorem c3_eq (c : Cl) : c3_13 c = some ⟨c.age, c.offer, c.report, { c.view with command := comN c.view.command }⟩ := by
  unfold c3_13 comN
  by_cases h1 : c.view.command < 0
  · rw [if_pos h1, if_neg (by omega)]
  · rw [if_neg h1]
    by_cases h2 : 8 ≤ c.view.command
    · rw [if_pos h2, if_neg (by omega)]
    · rw [if_neg h2, if_pos (by omega)]
theorem c4_eq (c : Cl) : c4_13 c = some ⟨c.age, c.offer, c.report, { c.view with mode := modN c.view.mode }⟩ := by
  unfold c4_13 modN
  by_cases h1 : 7 < c.view.mode
  · rw [if_pos h1, if_neg (by omega)]
  · rw [if_neg h1, if_pos (by omega)]
theorem cell13_eq (c : Cl) : cell13 c = some (cellN c) := by
  show Option.bind (c1_13 c) _ = _
  rw [c1_eq, ob_some, c2_eq, ob_some, c3_eq, ob_some, c4_eq]
  rfl

def heldN (h : Hd) : Hd := if h.is = true then ⟨true, cellN h.cell⟩ else Hd.none
theorem held13_eq (h : Hd) : held13 h = some (heldN h) := by
  unfold held13 heldN
  by_cases h1 : h.is = true
  · rw [if_pos h1, if_pos h1, cell13_eq]; rfl
  · rw [if_neg h1, if_neg h1]
theorem heldN_none : heldN Hd.none = Hd.none := rfl
theorem heldN_idem (h : Hd) : heldN (heldN h) = heldN h := by
  unfold heldN
  by_cases h1 : h.is = true
  · simp only [h1, if_true, cellN_idem]
  · simp only [if_neg h1]; rfl

/-! ### A table -/
def fillG {α : Type} (f : α → α) (z : α) (n : Nat) (xs : List α) : List α := (xs.take n).map f ++ List.replicate (n - xs.length) z
theorem fillG_length {α : Type} (f : α → α) (z : α) (n : Nat) (xs : List α) : (fillG f z n xs).length = n := by
  simp [fillG]; omega
theorem fillG_get {α : Type} (f : α → α) (z : α) {n : Nat} (xs : List α) {i : Nat} (hi : i < n) : (fillG f z n xs)[i]? = some (if h : i < xs.length then f xs[i] else z) := by
  unfold fillG
  by_cases h : i < xs.length
  · rw [List.getElem?_append_left (by simp; omega), dif_pos h, List.getElem?_map, List.getElem?_take_of_lt hi, List.getElem?_eq_getElem h]; rfl
  · rw [List.getElem?_append_right (by simp; omega), dif_neg h, List.getElem?_replicate, if_pos (by simp; omega)]
theorem fillG_idem {α : Type} {f : α → α} {z : α} (hf : ∀ x, f (f x) = f x) (hz : f z = z) (n : Nat) (xs : List α) : fillG f z n (fillG f z n xs) = fillG f z n xs := by
  have hl := fillG_length f z n xs
  have e : ∀ ys : List α, ys.length = n → fillG f z n ys = ys.map f := fun ys hy => by
    unfold fillG; rw [List.take_of_length_le (by omega), show n - ys.length = 0 by omega]; simp
  rw [e _ hl]
  have hff : f ∘ f = f := funext hf
  unfold fillG
  simp [hff, hz]
theorem fill_step {α : Type} (f : α → α) (z : α) {n i : Nat} (xs : List α) (hi : i < n) (hl : i < xs.length) :
    ((xs.take i).map f ++ List.replicate (n - i) z).set i (f xs[i]) = (xs.take (i + 1)).map f ++ List.replicate (n - (i + 1)) z := by
  have e1 : n - i = (n - (i + 1)) + 1 := by omega
  have e2 : ((xs.take i).map f).length = i := by simp; omega
  rw [e1, List.replicate_succ, List.set_append_right _ _ (by omega), e2, Nat.sub_self, List.set_cons_zero, List.take_succ_eq_append_getElem hl, List.map_append]
  simp
theorem fill_end {α : Type} (f : α → α) (z : α) {n i : Nat} (xs : List α) (hi : i = min n xs.length) : (xs.take i).map f ++ List.replicate (n - i) z = fillG f z n xs := by
  unfold fillG
  rcases Nat.le_total n xs.length with h | h
  · have : i = n := by omega
    rw [this, Nat.sub_self, show n - xs.length = 0 by omega]
  · have : i = xs.length := by omega
    rw [this, List.take_of_length_le (Nat.le_refl _), List.take_of_length_le h]

def rowN (n : Nat) (r : Rw) : Rw := if r.is = true then ⟨true, cellN r.cell, fillG heldN Hd.none n r.table⟩ else Rw.none
theorem rowN_none (n : Nat) : rowN n Rw.none = Rw.none := rfl
theorem rowN_idem (n : Nat) (r : Rw) : rowN n (rowN n r) = rowN n r := by
  unfold rowN
  by_cases h1 : r.is = true
  · simp only [h1, if_true, cellN_idem, fillG_idem heldN_idem heldN_none]
  · simp only [if_neg h1]; rfl


theorem filledH13_l1_eq (n : Nat) (xs : List Hd) (K : List Hd → Option (List Hd)) (hn : n ≤ 1000) : ∀ (k i : Nat), n < k + i → i ≤ min n xs.length →
    filledH13_l1 (n : Int) xs K k ((i : Nat) : Int) ((xs.take i).map heldN ++ List.replicate (n - i) Hd.none) = K (fillG heldN Hd.none n xs) := by
  intro k
  induction k with
  | zero => intro i h1 h2; omega
  | succ k ih =>
    intro i h1 h2
    rw [filledH13_l1]
    by_cases hi : i < min n xs.length
    · have hi' : i < xs.length := by omega
      have hl : i < ((xs.take i).map heldN ++ List.replicate (n - i) Hd.none).length := by simp; omega
      rw [if_pos (by omega), rd_get hi', ob_some, held13_eq, ob_some, rd_get hl, ob_some, if_pos (by omega), succI, Int.toNat_natCast, fill_step heldN Hd.none xs (by omega) hi']
      exact ih (i + 1) (by omega) (by omega)
    · rw [if_neg (by omega), fill_end heldN Hd.none xs (by omega)]
theorem filledH13_eq (n : Nat) (xs : List Hd) (hn : n ≤ 1000) : filledH13 (n : Int) xs = some (fillG heldN Hd.none n xs) := by
  have hF : 10000 < 1000000 := by omega
  unfold filledH13
  rw [if_pos (by omega)]
  generalize 1000000 = F at *
  have e := filledH13_l1_eq n xs (fun l => some l) hn F 0 (by omega) (by omega)
  rw [Int.toNat_natCast]
  exact e

theorem may13_eq (n : Nat) (hn : n ≤ 16) : may13 (n : Int) = some true := by
  unfold may13
  rw [if_pos (by omega), if_pos (by omega)]
theorem plain13_eq {n : Nat} (hn : n ≤ 16) (r : Rw) : plain13 (n : Int) r = some (rowN n r) := by
  unfold plain13 rowN
  by_cases h1 : r.is = true
  · rw [if_pos h1, if_pos h1, may13_eq n hn, ob_some, if_pos rfl, cell13_eq, ob_some, filledH13_eq n r.table (by omega), ob_some]
  · rw [if_neg h1, if_neg h1]
theorem norm1_eq {n : Nat} (hn : n ≤ 16) (r : Rw) : norm1_13 r (n : Int) = some (rowN n r) := by
  unfold norm1_13
  rw [plain13_eq hn]; rfl

theorem filledR13_l1_eq (n : Nat) (xs : List Rw) (K : List Rw → Option (List Rw)) (hn : n ≤ 1000) (hn16 : n ≤ 16) : ∀ (k i : Nat), n < k + i → i ≤ min n xs.length →
    filledR13_l1 (n : Int) xs (n : Int) K k ((i : Nat) : Int) ((xs.take i).map (rowN n) ++ List.replicate (n - i) Rw.none) = K (fillG (rowN n) Rw.none n xs) := by
  intro k
  induction k with
  | zero => intro i h1 h2; omega
  | succ k ih =>
    intro i h1 h2
    rw [filledR13_l1]
    by_cases hi : i < min n xs.length
    · have hi' : i < xs.length := by omega
      have hl : i < ((xs.take i).map (rowN n) ++ List.replicate (n - i) Rw.none).length := by simp; omega
      rw [if_pos (by omega), rd_get hi', ob_some, (norm1_eq hn16), ob_some, rd_get hl, ob_some, if_pos (by omega), succI, Int.toNat_natCast, fill_step (rowN n) Rw.none xs (by omega) hi']
      exact ih (i + 1) (by omega) (by omega)
    · rw [if_neg (by omega), fill_end (rowN n) Rw.none xs (by omega)]
theorem filledR13_eq (n : Nat) (xs : List Rw) (hn : n ≤ 1000) (hn16 : n ≤ 16) : filledR13 (n : Int) xs (n : Int) = some (fillG (rowN n) Rw.none n xs) := by
  have hF : 10000 < 1000000 := by omega
  unfold filledR13
  rw [if_pos (by omega)]
  generalize 1000000 = F at *
  have e := filledR13_l1_eq n xs (fun l => some l) hn hn16 F 0 (by omega) (by omega)
  rw [Int.toNat_natCast]
  exact e

theorem norm13_eq {n : Nat} (hn : n ≤ 16) (xs : List Rw) : norm13 (n : Int) xs = some (fillG (rowN n) Rw.none n xs) := by
  unfold norm13
  rw [may13_eq n hn, ob_some, if_pos rfl, filledR13_eq n xs (by omega) hn, ob_some]

/-! ### Alike -/
theorem equal13_l1_self (xs : List Hd) (K : Unit → Option Bool) (hL : xs.length ≤ 1000) : ∀ (k i : Nat), xs.length < k + i → i ≤ xs.length → equal13_l1 xs xs K k ((i : Nat) : Int) = K () := by
  intro k
  induction k with
  | zero => intro i h1 h2; omega
  | succ k ih =>
    intro i h1 h2
    rw [equal13_l1]
    by_cases hi : i < xs.length
    · rw [if_pos (by omega), rd_get hi, ob_some, ob_some, if_neg (fun h => h rfl), if_pos (by omega), succI]
      exact ih (i + 1) (by omega) (by omega)
    · rw [if_neg (by omega)]
theorem same13_self (x : Rw) (h : x.table.length ≤ 1000) : same13 x x = some true := by
  have e : equal13 x.table x.table = some true := by
    have hF : 10000 < 1000000 := by omega
    unfold equal13
    generalize 1000000 = F at *
    rw [if_pos rfl]
    exact equal13_l1_self x.table _ h F 0 (by omega) (by omega)
  unfold same13
  by_cases h1 : x.is = true
  · rw [if_pos h1, if_pos h1, if_pos rfl, e]; rfl
  · rw [if_neg h1, if_neg h1, if_pos rfl, e]; rfl

/-! ### What may be -/
def fineS (s : Sd) : Prop := 0 ≤ s.at_ ∧ s.at_ ≤ 1099511627776 ∧ (if s.is = true then s.kind = 1 ∨ s.kind = 2 else s = Sd.none)
def fineC (c : Cl) : Prop := fineS c.offer ∧ fineS c.report ∧ -1 ≤ c.age ∧ c.age ≤ 1099511627776 ∧ -1 ≤ c.view.command ∧ c.view.command < 8 ∧ c.view.mode < 8
theorem fineS_sdN (s : Sd) : fineS (sdN s) := by
  unfold sdN
  by_cases h : okS s
  · rw [if_pos h]; obtain ⟨h1, h2, h3, h4⟩ := h
    exact ⟨h2, h3, by rw [if_pos h1]; exact h4⟩
  · rw [if_neg h]; exact ⟨by decide, by decide, rfl⟩
theorem fineS_eq {s : Sd} (h : fineS s) : sdN s = s := by
  obtain ⟨h1, h2, h3⟩ := h
  unfold sdN
  by_cases h4 : s.is = true
  · rw [if_pos h4] at h3; rw [if_pos ⟨h4, h1, h2, h3⟩]
  · rw [if_neg h4] at h3; rw [h3]; rfl
theorem fineC_cellN (c : Cl) : fineC (cellN c) := by
  refine ⟨fineS_sdN _, fineS_sdN _, ?_⟩
  show -1 ≤ ageN c.age ∧ ageN c.age ≤ 1099511627776 ∧ -1 ≤ comN c.view.command ∧ comN c.view.command < 8 ∧ modN c.view.mode < 8
  unfold ageN comN modN
  refine ⟨?_, ?_, ?_, ?_, ?_⟩ <;> split <;> omega
theorem fineC_eq {c : Cl} (h : fineC c) : cellN c = c := by
  obtain ⟨h1, h2, h3, h4, h5, h6, h7⟩ := h
  have a1 : ageN c.age = c.age := by unfold ageN; split <;> omega
  have a2 : comN c.view.command = c.view.command := by unfold comN; split <;> omega
  have a3 : modN c.view.mode = c.view.mode := by unfold modN; split <;> omega
  unfold cellN vwN
  rw [a1, a2, a3, fineS_eq h1, fineS_eq h2]
theorem fine13_l1_end (p0 : Cl) (K : Unit → Option Bool) (F : Nat) : fine13_l1 p0 K (F + 1) 2 = K () := by
  rw [fine13_l1, if_neg (by decide)]

theorem fine13_l1_one (p0 : Cl) (K : Unit → Option Bool) (F : Nat) : (fineS p0.report → fine13_l1 p0 K (F + 2) 1 = fine13_l1 p0 K (F + 1) 2) ∧ (¬ fineS p0.report → fine13_l1 p0 K (F + 2) 1 = some false) := by
  rw [fine13_l1, if_pos (by decide), if_neg (by decide), if_pos rfl]
  by_cases h1 : p0.report.at_ < 0
  · rw [if_pos h1]; exact ⟨fun h => absurd h.1 (by omega), fun _ => rfl⟩
  · rw [if_neg h1]
    by_cases h2 : 1099511627776 < p0.report.at_
    · rw [if_pos h2]; exact ⟨fun h => absurd h.2.1 (by omega), fun _ => rfl⟩
    · rw [if_neg h2]
      by_cases h3 : p0.report.is = true
      · rw [if_pos h3]
        by_cases h4 : p0.report.kind = 1
        · rw [if_pos h4, if_pos (by decide)]; exact ⟨fun _ => rfl, fun h => absurd ⟨by omega, by omega, by rw [if_pos h3]; exact .inl h4⟩ h⟩
        · rw [if_neg h4]
          by_cases h5 : p0.report.kind = 2
          · rw [if_pos h5, if_pos (by decide)]; exact ⟨fun _ => rfl, fun h => absurd ⟨by omega, by omega, by rw [if_pos h3]; exact .inr h5⟩ h⟩
          · rw [if_neg h5]; exact ⟨fun h => by have q := h.2.2; rw [if_pos h3] at q; omega, fun _ => rfl⟩
      · rw [if_neg h3]
        by_cases h4 : p0.report = Sd.none
        · rw [if_neg (fun h => h h4), if_pos (by decide)]; exact ⟨fun _ => rfl, fun h => absurd ⟨by omega, by omega, by rw [if_neg h3]; exact h4⟩ h⟩
        · rw [if_pos h4]; exact ⟨fun h => by have q := h.2.2; rw [if_neg h3] at q; exact absurd q h4, fun _ => rfl⟩
theorem fine13_l1_zero (p0 : Cl) (K : Unit → Option Bool) (F : Nat) : (fineS p0.offer → fine13_l1 p0 K (F + 3) 0 = fine13_l1 p0 K (F + 2) 1) ∧ (¬ fineS p0.offer → fine13_l1 p0 K (F + 3) 0 = some false) := by
  rw [fine13_l1, if_pos (by decide), if_pos rfl]
  by_cases h1 : p0.offer.at_ < 0
  · rw [if_pos h1]; exact ⟨fun h => absurd h.1 (by omega), fun _ => rfl⟩
  · rw [if_neg h1]
    by_cases h2 : 1099511627776 < p0.offer.at_
    · rw [if_pos h2]; exact ⟨fun h => absurd h.2.1 (by omega), fun _ => rfl⟩
    · rw [if_neg h2]
      by_cases h3 : p0.offer.is = true
      · rw [if_pos h3]
        by_cases h4 : p0.offer.kind = 1
        · rw [if_pos h4, if_pos (by decide)]; exact ⟨fun _ => rfl, fun h => absurd ⟨by omega, by omega, by rw [if_pos h3]; exact .inl h4⟩ h⟩
        · rw [if_neg h4]
          by_cases h5 : p0.offer.kind = 2
          · rw [if_pos h5, if_pos (by decide)]; exact ⟨fun _ => rfl, fun h => absurd ⟨by omega, by omega, by rw [if_pos h3]; exact .inr h5⟩ h⟩
          · rw [if_neg h5]; exact ⟨fun h => by have q := h.2.2; rw [if_pos h3] at q; omega, fun _ => rfl⟩
      · rw [if_neg h3]
        by_cases h4 : p0.offer = Sd.none
        · rw [if_neg (fun h => h h4), if_pos (by decide)]; exact ⟨fun _ => rfl, fun h => absurd ⟨by omega, by omega, by rw [if_neg h3]; exact h4⟩ h⟩
        · rw [if_pos h4]; exact ⟨fun h => by have q := h.2.2; rw [if_neg h3] at q; exact absurd q h4, fun _ => rfl⟩

theorem fine13_some (c : Cl) : (fineC c → fine13 c = some true) ∧ (¬ fineC c → fine13 c = some false) := by
  unfold fine13 fineC
  have hF : ∃ F, 1000000 = F + 3 := ⟨999997, rfl⟩
  obtain ⟨F, hF⟩ := hF
  rw [hF]
  clear hF
  obtain ⟨a1, a2⟩ := fine13_l1_zero c (fun (_ : Unit) => (if (-1) ≤ c.age then (if c.age ≤ 1099511627776 then (if (-1) ≤ c.view.command then (if c.view.command < 8 then (if c.view.mode < 8 then (some true) else (some false)) else (some false)) else (some false)) else (some false)) else (some false))) F
  obtain ⟨b1, b2⟩ := fine13_l1_one c (fun (_ : Unit) => (if (-1) ≤ c.age then (if c.age ≤ 1099511627776 then (if (-1) ≤ c.view.command then (if c.view.command < 8 then (if c.view.mode < 8 then (some true) else (some false)) else (some false)) else (some false)) else (some false)) else (some false))) F
  by_cases h1 : fineS c.offer
  · rw [a1 h1]
    by_cases h2 : fineS c.report
    · rw [b1 h2, fine13_l1_end]
      by_cases h3 : -1 ≤ c.age
      · rw [if_pos h3]
        by_cases h4 : c.age ≤ 1099511627776
        · rw [if_pos h4]
          by_cases h5 : -1 ≤ c.view.command
          · rw [if_pos h5]
            by_cases h6 : c.view.command < 8
            · rw [if_pos h6]
              by_cases h7 : c.view.mode < 8
              · rw [if_pos h7]; exact ⟨fun _ => rfl, fun h => absurd ⟨h1, h2, h3, h4, h5, h6, h7⟩ h⟩
              · rw [if_neg h7]; exact ⟨fun h => absurd h.2.2.2.2.2.2 h7, fun _ => rfl⟩
            · rw [if_neg h6]; exact ⟨fun h => absurd h.2.2.2.2.2.1 h6, fun _ => rfl⟩
          · rw [if_neg h5]; exact ⟨fun h => absurd h.2.2.2.2.1 h5, fun _ => rfl⟩
        · rw [if_neg h4]; exact ⟨fun h => absurd h.2.2.2.1 h4, fun _ => rfl⟩
      · rw [if_neg h3]; exact ⟨fun h => absurd h.2.2.1 h3, fun _ => rfl⟩
    · rw [b2 h2]; exact ⟨fun h => absurd h.2.1 h2, fun _ => rfl⟩
  · rw [a2 h1]; exact ⟨fun h => absurd h.1 h1, fun _ => rfl⟩


theorem idle13_l2_eq (p0 : Int) (p1 : List Rw) (n i : Nat) (r : Rw) (hn : p0 % 17 = (n : Int)) (hn16 : n ≤ 16) (hi : rd p1 ((i : Nat) : Int) = some r) (hr : r.is = true) (K : Unit → Option Bool) (hK : K () = some true) :
    ∀ (k j : Nat), n < k + j → j ≤ n → idle13_l2 p0 (rowN n r) p1 ((i : Nat) : Int) K k ((j : Nat) : Int) = some true := by
  intro k
  induction k with
  | zero => intro j h1 h2; omega
  | succ k ih =>
    intro j h1 h2
    rw [idle13_l2, hn]
    by_cases hj : j < n
    · have htb : (rowN n r).table = fillG heldN Hd.none n r.table := by unfold rowN; rw [if_pos hr]
      have g : -9223372036854775808 ≤ ((j : Nat) : Int) + 1 ∧ ((j : Nat) : Int) + 1 ≤ 9223372036854775807 := by omega
      have hih := ih (j + 1) (by omega) (by omega)
      have all : ∀ d : Hd, ((if (heldN d).is = true then (if d.is = true then (Option.bind (fine13 (heldN d).cell) fun (y3982 : Bool) => (if y3982 = true then (Option.bind (fine13 d.cell) fun (y3994 : Bool) => (if y3994 = true then (if ¬ ((heldN d) = d) then (some false) else (if -9223372036854775808 ≤ ((j : Nat) : Int) + 1 ∧ ((j : Nat) : Int) + 1 ≤ 9223372036854775807 then (idle13_l2 p0 (rowN n r) p1 ((i : Nat) : Int) K k (((j : Nat) : Int) + 1)) else none)) else (if -9223372036854775808 ≤ ((j : Nat) : Int) + 1 ∧ ((j : Nat) : Int) + 1 ≤ 9223372036854775807 then (idle13_l2 p0 (rowN n r) p1 ((i : Nat) : Int) K k (((j : Nat) : Int) + 1)) else none))) else (some false))) else (some false)) else (if d.is = true then (some false) else (if ¬ ((heldN d).cell = Cl.zero) then (some false) else (if -9223372036854775808 ≤ ((j : Nat) : Int) + 1 ∧ ((j : Nat) : Int) + 1 ≤ 9223372036854775807 then (idle13_l2 p0 (rowN n r) p1 ((i : Nat) : Int) K k (((j : Nat) : Int) + 1)) else none))))) = some true := by
        intro d
        by_cases w1 : d.is = true
        · have e1 : heldN d = ⟨true, cellN d.cell⟩ := by unfold heldN; rw [if_pos w1]
          rw [e1, if_pos rfl, if_pos w1, (fine13_some _).1 (fineC_cellN d.cell), ob_some, if_pos rfl]
          by_cases w2 : fineC d.cell
          · rw [(fine13_some _).1 w2, ob_some, if_pos rfl, if_neg (fun h => h (by rw [fineC_eq w2]; cases d; simp at w1; rw [w1])), if_pos g]
            exact hih
          · rw [(fine13_some _).2 w2, ob_some, if_neg (by decide), if_pos g]
            exact hih
        · have e1 : heldN d = Hd.none := by unfold heldN; rw [if_neg w1]
          rw [e1, if_neg (by decide), if_neg w1, if_neg (fun h => h rfl), if_pos g]
          exact hih
      have hrd : rd (rowN n r).table ((j : Nat) : Int) = some (if h : j < r.table.length then heldN r.table[j] else Hd.none) := by rw [rd_nat, htb, fillG_get heldN Hd.none r.table hj]
      rw [if_pos (by omega), hrd, ob_some]
      unfold jn
      dsimp only
      rw [hi, ob_some]
      by_cases w : j < r.table.length
      · rw [dif_pos w, if_pos (by omega), rd_get w, ob_some]; exact all _
      · rw [dif_neg w, if_neg (by omega)]; exact all Hd.none
    · rw [if_neg (by omega)]; exact hK

theorem idle13_l3_eq (p0 : Int) (p1 : List Rw) (n i : Nat) (r : Rw) (hn : p0 % 17 = (n : Int)) (hn16 : n ≤ 16) (hi : rd p1 ((i : Nat) : Int) = some r) (hr : r.is = true) (K : Unit → Option Bool) (hK : K () = some true) :
    ∀ (k j : Nat), n < k + j → j ≤ n → idle13_l3 p0 (rowN n r) p1 ((i : Nat) : Int) K k ((j : Nat) : Int) = some true := by
  intro k
  induction k with
  | zero => intro j h1 h2; omega
  | succ k ih =>
    intro j h1 h2
    rw [idle13_l3, hn]
    by_cases hj : j < n
    · have htb : (rowN n r).table = fillG heldN Hd.none n r.table := by unfold rowN; rw [if_pos hr]
      have g : -9223372036854775808 ≤ ((j : Nat) : Int) + 1 ∧ ((j : Nat) : Int) + 1 ≤ 9223372036854775807 := by omega
      have hih := ih (j + 1) (by omega) (by omega)
      have all : ∀ d : Hd, ((if (heldN d).is = true then (if d.is = true then (Option.bind (fine13 (heldN d).cell) fun (y4667 : Bool) => (if y4667 = true then (Option.bind (fine13 d.cell) fun (y4679 : Bool) => (if y4679 = true then (if ¬ ((heldN d) = d) then (some false) else (if -9223372036854775808 ≤ ((j : Nat) : Int) + 1 ∧ ((j : Nat) : Int) + 1 ≤ 9223372036854775807 then (idle13_l3 p0 (rowN n r) p1 ((i : Nat) : Int) K k (((j : Nat) : Int) + 1)) else none)) else (if -9223372036854775808 ≤ ((j : Nat) : Int) + 1 ∧ ((j : Nat) : Int) + 1 ≤ 9223372036854775807 then (idle13_l3 p0 (rowN n r) p1 ((i : Nat) : Int) K k (((j : Nat) : Int) + 1)) else none))) else (some false))) else (some false)) else (if d.is = true then (some false) else (if ¬ ((heldN d).cell = Cl.zero) then (some false) else (if -9223372036854775808 ≤ ((j : Nat) : Int) + 1 ∧ ((j : Nat) : Int) + 1 ≤ 9223372036854775807 then (idle13_l3 p0 (rowN n r) p1 ((i : Nat) : Int) K k (((j : Nat) : Int) + 1)) else none))))) = some true := by
        intro d
        by_cases w1 : d.is = true
        · have e1 : heldN d = ⟨true, cellN d.cell⟩ := by unfold heldN; rw [if_pos w1]
          rw [e1, if_pos rfl, if_pos w1, (fine13_some _).1 (fineC_cellN d.cell), ob_some, if_pos rfl]
          by_cases w2 : fineC d.cell
          · rw [(fine13_some _).1 w2, ob_some, if_pos rfl, if_neg (fun h => h (by rw [fineC_eq w2]; cases d; simp at w1; rw [w1])), if_pos g]
            exact hih
          · rw [(fine13_some _).2 w2, ob_some, if_neg (by decide), if_pos g]
            exact hih
        · have e1 : heldN d = Hd.none := by unfold heldN; rw [if_neg w1]
          rw [e1, if_neg (by decide), if_neg w1, if_neg (fun h => h rfl), if_pos g]
          exact hih
      have hrd : rd (rowN n r).table ((j : Nat) : Int) = some (if h : j < r.table.length then heldN r.table[j] else Hd.none) := by rw [rd_nat, htb, fillG_get heldN Hd.none r.table hj]
      rw [if_pos (by omega), hrd, ob_some]
      unfold jn
      dsimp only
      rw [hi, ob_some]
      by_cases w : j < r.table.length
      · rw [dif_pos w, if_pos (by omega), rd_get w, ob_some]; exact all _
      · rw [dif_neg w, if_neg (by omega)]; exact all Hd.none
    · rw [if_neg (by omega)]; exact hK

theorem idle13_l1_eq (p0 : Int) (p1 : List Rw) (n : Nat) (hn : p0 % 17 = (n : Int)) (hn16 : n ≤ 16) (K : Unit → Option Bool) (hK : K () = some true) :
    ∀ (k i : Nat), n < k + i → i ≤ n → idle13_l1 p0 (fillG (rowN n) Rw.none n p1) (fillG (rowN n) Rw.none n p1) p1 K k ((i : Nat) : Int) = some true := by
  intro k
  induction k with
  | zero => intro i h1 h2; omega
  | succ k ih =>
    intro i h1 h2
    have hF : 10000 < 1000000 := by omega
    rw [idle13_l1, hn]
    revert hF
    generalize 1000000 = F
    intro hF
    by_cases hi : i < n
    · have g : -9223372036854775808 ≤ ((i : Nat) : Int) + 1 ∧ ((i : Nat) : Int) + 1 ≤ 9223372036854775807 := by omega
      have hih := ih (i + 1) (by omega) (by omega)
      have hrd : rd (fillG (rowN n) Rw.none n p1) ((i : Nat) : Int) = some (if h : i < p1.length then rowN n p1[i] else Rw.none) := by rw [rd_nat, fillG_get (rowN n) Rw.none p1 hi]
      have hlen : ∀ r : Rw, (rowN n r).table.length ≤ 1000 := fun r => by
        unfold rowN; split
        · rw [fillG_length]; omega
        · exact Nat.zero_le _
      rw [if_pos (by omega), hrd, ob_some, ob_some]
      by_cases w : i < p1.length
      · rw [dif_pos w, same13_self _ (hlen _), ob_some, if_pos rfl, if_pos (by omega), rd_get w, ob_some]
        by_cases w1 : p1[i].is = true
        · have e1 : (rowN n p1[i]).is = true := by unfold rowN; rw [if_pos w1]
          have e2 : (rowN n p1[i]).cell = cellN p1[i].cell := by unfold rowN; rw [if_pos w1]
          have e3 : (rowN n p1[i]).table.length = n := by unfold rowN; rw [if_pos w1, fillG_length]
          rw [if_pos e1, if_pos w1, e3, if_pos rfl, e2, (fine13_some _).1 (fineC_cellN _), ob_some, if_pos rfl]
          by_cases w2 : fineC p1[i].cell
          · rw [(fine13_some _).1 w2, ob_some, if_pos rfl, if_neg (fun h => h (fineC_eq w2))]
            exact idle13_l2_eq p0 p1 n i p1[i] hn hn16 (rd_get w) w1 _ (by rw [if_pos g]; exact hih) F 0 (by omega) (by omega)
          · rw [(fine13_some _).2 w2, ob_some, if_neg (by decide)]
            exact idle13_l3_eq p0 p1 n i p1[i] hn hn16 (rd_get w) w1 _ (by rw [if_pos g]; exact hih) F 0 (by omega) (by omega)
        · have e1 : rowN n p1[i] = Rw.none := by unfold rowN; rw [if_neg w1]
          rw [e1, if_neg (by decide), if_neg w1, if_pos (show ((Rw.none.table.length : Nat) : Int) = 0 from rfl), if_neg (show ¬ ¬ (Rw.none.cell = Cl.zero) from fun h => h rfl), if_pos g]
          exact hih
      · rw [dif_neg w, same13_self _ (by decide), ob_some, if_pos rfl, if_neg (by omega), if_neg (by decide), if_pos (show ((Rw.none.table.length : Nat) : Int) = 0 from rfl), if_neg (show ¬ ¬ (Rw.none.cell = Cl.zero) from fun h => h rfl), if_pos g]
        exact hih
    · rw [if_neg (by omega)]; exact hK

theorem great13_l1_some (p0 : List Rw) (K : Int → Option Bool) (hL : p0.length ≤ 1000) : ∀ (k i : Nat) (m : Int), p0.length < k + i → i ≤ p0.length → ∃ m', great13_l1 p0 K k m ((i : Nat) : Int) = K m' := by
  intro k
  induction k with
  | zero => intro i m h1 h2; omega
  | succ k ih =>
    intro i m h1 h2
    rw [great13_l1]
    by_cases hi : i < p0.length
    · rw [if_pos (by omega)]
      by_cases h9 : m < 900
      · rw [if_pos h9, rd_get hi, ob_some, if_pos (by omega), succI]
        exact ih (i + 1) _ (by omega) (by omega)
      · rw [if_neg h9]; exact ⟨m, rfl⟩
    · rw [if_neg (by omega)]; exact ⟨m, rfl⟩
theorem great13_some (p0 : List Rw) : ∃ b, great13 p0 = some b := by
  have hF : ∃ F, 1000000 = F + 1 ∧ 10000 < F := ⟨999999, rfl, by omega⟩
  unfold great13
  obtain ⟨F, hF, hF2⟩ := hF
  rw [hF]
  clear hF
  have fin : ∀ m : Int, ∃ b, (if 800 < m then (some true) else (some false) : Option Bool) = some b := fun m => by split; exact ⟨_, rfl⟩; exact ⟨_, rfl⟩
  by_cases hL : p0.length ≤ 1000
  · obtain ⟨m, hm⟩ := great13_l1_some p0 (fun (i182 : Int) => (if 800 < i182 then (some true) else (some false))) hL (F + 1) 0 ((p0.length : Nat) : Int) (by omega) (by omega)
    obtain ⟨b, hb⟩ := fin m
    exact ⟨b, Eq.trans hm hb⟩
  · rw [great13_l1, if_pos (by omega), if_neg (by omega)]
    exact fin _

theorem idle13_eq (p0 : Int) (p1 : List Rw) (h0 : 0 ≤ p0 ∧ p0 ≤ 255) : idle13 p0 p1 = some true := by
  have hF : 10000 < 1000000 := by omega
  unfold idle13
  revert hF
  generalize 1000000 = F
  intro hF
  obtain ⟨b, hb⟩ := great13_some p1
  rw [hb, ob_some]
  cases b with
  | true => rw [if_pos rfl, bsome]; exact lives13_true
  | false =>
    obtain ⟨n, hn⟩ : ∃ n : Nat, p0 % 17 = (n : Int) := ⟨(p0 % 17).toNat, by omega⟩
    have h16 : n ≤ 16 := by omega
    rw [if_neg (by decide), if_pos (by omega), if_pos (by omega), hn, norm13_eq h16, ob_some, norm13_eq h16, ob_some, fillG_idem (rowN_idem n) (rowN_none n), fillG_length, if_pos rfl, if_pos rfl]
    exact idle13_l1_eq p0 p1 n hn h16 _ (by rw [bsome]; exact lives13_true) F 0 (by omega) (by omega)
end Go.Proofs.Ytckcldimnelklaa
