/- Words, plain: rows, their plain forms, whether they are the same, and a copy. -/
import Derived.Test.YtckcldimnelklaaKAgreesAnyQ13g
import Derived.Test.YtckcldimnelklaaPAgreesAnyD0
namespace Go.Proofs.Ytckcldimnelklaa
open Go
set_option linter.unusedVariables false
set_option linter.unusedSimpArgs false

theorem rsaid13_eq (s : Sd) : rsaid13 s = some (sdN s) := by
  unfold rsaid13 sdN
  by_cases h1 : s.is = true
  · rw [if_pos h1]
    by_cases h2 : 0 ≤ s.at_
    · rw [if_pos h2]
      by_cases h3 : s.at_ ≤ 1099511627776
      · rw [if_pos h3]
        by_cases h4 : s.kind = 1
        · rw [if_pos h4, if_pos (show okS s from ⟨h1, h2, h3, .inl h4⟩)]
        · rw [if_neg h4]
          by_cases h5 : s.kind = 2
          · rw [if_pos h5, if_pos (show okS s from ⟨h1, h2, h3, .inr h5⟩)]
          · rw [if_neg h5, if_neg (fun h : okS s => by unfold okS at h; omega)]
      · rw [if_neg h3, if_neg (fun h : okS s => by unfold okS at h; omega)]
    · rw [if_neg h2, if_neg (fun h : okS s => by unfold okS at h; omega)]
  · rw [if_neg h1, if_neg (fun h : okS s => h1 h.1)]

theorem rcell_in (p0 : Cl) (a : Int) : ((Option.bind (rsaid13 p0.offer) fun (y151 : Sd) => (Option.bind (rsaid13 p0.report) fun (y162 : Sd) => (if p0.view.command < 0 then (if 7 < p0.view.mode then (some (⟨a, y151, y162, (⟨p0.view.i0, p0.view.i1, p0.view.i2, p0.view.i3, p0.view.i4, p0.view.i5, p0.view.i6, p0.view.i7, p0.view.m0, p0.view.m1, p0.view.m2, p0.view.m3, p0.view.m4, p0.view.m5, p0.view.m6, p0.view.m7, p0.view.g0, p0.view.g1, p0.view.g2, p0.view.g3, p0.view.g4, p0.view.g5, p0.view.g6, p0.view.g7, p0.view.s0, p0.view.s1, p0.view.s2, p0.view.s3, p0.view.s4, p0.view.s5, p0.view.s6, p0.view.s7, p0.view.t0, p0.view.t1, p0.view.t2, p0.view.t3, p0.view.t4, p0.view.t5, p0.view.t6, p0.view.t7, -1, 0⟩ : Vw)⟩ : Cl)) else (some (⟨a, y151, y162, (⟨p0.view.i0, p0.view.i1, p0.view.i2, p0.view.i3, p0.view.i4, p0.view.i5, p0.view.i6, p0.view.i7, p0.view.m0, p0.view.m1, p0.view.m2, p0.view.m3, p0.view.m4, p0.view.m5, p0.view.m6, p0.view.m7, p0.view.g0, p0.view.g1, p0.view.g2, p0.view.g3, p0.view.g4, p0.view.g5, p0.view.g6, p0.view.g7, p0.view.s0, p0.view.s1, p0.view.s2, p0.view.s3, p0.view.s4, p0.view.s5, p0.view.s6, p0.view.s7, p0.view.t0, p0.view.t1, p0.view.t2, p0.view.t3, p0.view.t4, p0.view.t5, p0.view.t6, p0.view.t7, -1, p0.view.mode⟩ : Vw)⟩ : Cl))) else (if 7 < p0.view.command then (if 7 < p0.view.mode then (some (⟨a, y151, y162, (⟨p0.view.i0, p0.view.i1, p0.view.i2, p0.view.i3, p0.view.i4, p0.view.i5, p0.view.i6, p0.view.i7, p0.view.m0, p0.view.m1, p0.view.m2, p0.view.m3, p0.view.m4, p0.view.m5, p0.view.m6, p0.view.m7, p0.view.g0, p0.view.g1, p0.view.g2, p0.view.g3, p0.view.g4, p0.view.g5, p0.view.g6, p0.view.g7, p0.view.s0, p0.view.s1, p0.view.s2, p0.view.s3, p0.view.s4, p0.view.s5, p0.view.s6, p0.view.s7, p0.view.t0, p0.view.t1, p0.view.t2, p0.view.t3, p0.view.t4, p0.view.t5, p0.view.t6, p0.view.t7, -1, 0⟩ : Vw)⟩ : Cl)) else (some (⟨a, y151, y162, (⟨p0.view.i0, p0.view.i1, p0.view.i2, p0.view.i3, p0.view.i4, p0.view.i5, p0.view.i6, p0.view.i7, p0.view.m0, p0.view.m1, p0.view.m2, p0.view.m3, p0.view.m4, p0.view.m5, p0.view.m6, p0.view.m7, p0.view.g0, p0.view.g1, p0.view.g2, p0.view.g3, p0.view.g4, p0.view.g5, p0.view.g6, p0.view.g7, p0.view.s0, p0.view.s1, p0.view.s2, p0.view.s3, p0.view.s4, p0.view.s5, p0.view.s6, p0.view.s7, p0.view.t0, p0.view.t1, p0.view.t2, p0.view.t3, p0.view.t4, p0.view.t5, p0.view.t6, p0.view.t7, -1, p0.view.mode⟩ : Vw)⟩ : Cl))) else (if 7 < p0.view.mode then (some (⟨a, y151, y162, (⟨p0.view.i0, p0.view.i1, p0.view.i2, p0.view.i3, p0.view.i4, p0.view.i5, p0.view.i6, p0.view.i7, p0.view.m0, p0.view.m1, p0.view.m2, p0.view.m3, p0.view.m4, p0.view.m5, p0.view.m6, p0.view.m7, p0.view.g0, p0.view.g1, p0.view.g2, p0.view.g3, p0.view.g4, p0.view.g5, p0.view.g6, p0.view.g7, p0.view.s0, p0.view.s1, p0.view.s2, p0.view.s3, p0.view.s4, p0.view.s5, p0.view.s6, p0.view.s7, p0.view.t0, p0.view.t1, p0.view.t2, p0.view.t3, p0.view.t4, p0.view.t5, p0.view.t6, p0.view.t7, p0.view.command, 0⟩ : Vw)⟩ : Cl)) else (some (⟨a, y151, y162, p0.view⟩ : Cl)))))))) = some (⟨a, sdN p0.offer, sdN p0.report, vwN p0.view⟩ : Cl) := by
  rw [rsaid13_eq, ob_some, rsaid13_eq, ob_some]
  by_cases b1 : p0.view.command < 0
  · have e2 : comN p0.view.command = -1 := by unfold comN; rw [if_neg (by omega)]
    rw [if_pos b1]
    by_cases m1 : 7 < p0.view.mode
    · have e3 : modN p0.view.mode = 0 := by unfold modN; rw [if_neg (by omega)]
      rw [if_pos m1]; unfold vwN; rw [e2, e3]
    · have e3 : modN p0.view.mode = p0.view.mode := by unfold modN; rw [if_pos (by omega)]
      rw [if_neg m1]; unfold vwN; rw [e2, e3]
  · rw [if_neg b1]
    by_cases b2 : 7 < p0.view.command
    · have e2 : comN p0.view.command = -1 := by unfold comN; rw [if_neg (by omega)]
      rw [if_pos b2]
      by_cases m1 : 7 < p0.view.mode
      · have e3 : modN p0.view.mode = 0 := by unfold modN; rw [if_neg (by omega)]
        rw [if_pos m1]; unfold vwN; rw [e2, e3]
      · have e3 : modN p0.view.mode = p0.view.mode := by unfold modN; rw [if_pos (by omega)]
        rw [if_neg m1]; unfold vwN; rw [e2, e3]
    · have e2 : comN p0.view.command = p0.view.command := by unfold comN; rw [if_pos (by omega)]
      rw [if_neg b2]
      by_cases m1 : 7 < p0.view.mode
      · have e3 : modN p0.view.mode = 0 := by unfold modN; rw [if_neg (by omega)]
        rw [if_pos m1]; unfold vwN; rw [e2, e3]
      · have e3 : modN p0.view.mode = p0.view.mode := by unfold modN; rw [if_pos (by omega)]
        rw [if_neg m1]; unfold vwN; rw [e2, e3]
theorem rcell13_eq (c : Cl) : rcell13 c = some (cellN c) := by
  unfold rcell13 jn
  dsimp only
  unfold cellN ageN
  by_cases a1 : c.age < 0
  · rw [if_pos a1, if_neg (show ¬ (0 ≤ c.age ∧ c.age ≤ 1099511627776) by omega)]; exact rcell_in c _
  · rw [if_neg a1]
    by_cases a2 : 1099511627776 < c.age
    · rw [if_pos a2, if_neg (show ¬ (0 ≤ c.age ∧ c.age ≤ 1099511627776) by omega)]; exact rcell_in c _
    · rw [if_neg a2, if_pos (show 0 ≤ c.age ∧ c.age ≤ 1099511627776 by omega)]; exact rcell_in c _

theorem filledHo13_l1_eq (n : Nat) (xs : List Hd) (K : List Hd → Option (List Hd)) (hn : n ≤ 1000) : ∀ (k i : Nat), n < k + i → i ≤ min n xs.length →
    filledHo13_l1 (n : Int) xs K k ((i : Nat) : Int) ((xs.take i).map heldN ++ List.replicate (n - i) Hd.none) = K (fillG heldN Hd.none n xs) := by
  intro k
  induction k with
  | zero => intro i h1 h2; omega
  | succ k ih =>
    intro i h1 h2
    rw [filledHo13_l1]
    by_cases hi : i < min n xs.length
    · have hi' : i < xs.length := by omega
      have hl : i < ((xs.take i).map heldN ++ List.replicate (n - i) Hd.none).length := by simp; omega
      rw [if_pos (by omega), rd_get hi', ob_some, held13_eq, ob_some, rd_get hl, ob_some, if_pos (by omega), succI, Int.toNat_natCast, fill_step heldN Hd.none xs (by omega) hi']
      exact ih (i + 1) (by omega) (by omega)
    · rw [if_neg (by omega), fill_end heldN Hd.none xs (by omega)]
theorem filledHo13_eq (n : Nat) (xs : List Hd) (hn : n ≤ 1000) : filledHo13 (n : Int) xs = some (fillG heldN Hd.none n xs) := by
  have hF : 10000 < 1000000 := by omega
  unfold filledHo13
  rw [if_pos (by omega)]
  generalize 1000000 = F at *
  have e := filledHo13_l1_eq n xs (fun l => some l) hn F 0 (by omega) (by omega)
  rw [Int.toNat_natCast]
  exact e


def rowI (n : Int) (r : Rw) : Rw := if 0 ≤ n ∧ n ≤ 16 then rowN n.toNat r else Rw.none
theorem plaino13_eq (n : Int) (r : Rw) : plaino13 n r = some (rowI n r) := by
  unfold plaino13 rowI
  by_cases h1 : r.is = true
  · rw [if_pos h1]
    by_cases h2 : 0 ≤ n ∧ n ≤ 16
    · obtain ⟨m, rfl⟩ : ∃ m : Nat, n = (m : Int) := ⟨n.toNat, by omega⟩
      rw [if_pos h2, may13_eq m (by omega), ob_some, if_pos rfl, cell13_eq, ob_some, filledHo13_eq m r.table (by omega), ob_some, Int.toNat_natCast]
      unfold rowN; rw [if_pos h1]
    · have e : may13 n = some false := by
        unfold may13
        by_cases h3 : 0 ≤ n
        · rw [if_pos h3, if_neg (by omega)]
        · rw [if_neg h3]
      rw [if_neg h2, e, ob_some, if_neg (by decide)]; rfl
  · rw [if_neg h1]
    split
    · unfold rowN; rw [if_neg h1]; rfl
    · rfl
theorem take_snoc {α : Type} {L : List α} {i : Nat} {x : α} (h : L[i]? = some x) : L.take i ++ [x] = L.take (i + 1) := by
  rw [List.take_add_one, h]; rfl

theorem othero13_l1_eq (p0 : Rw) (K : List Hd → Option Rw) (hL : p0.table.length ≤ 1000) : ∀ (k i : Nat), p0.table.length < k + i → i ≤ p0.table.length → othero13_l1 p0 K k ((i : Nat) : Int) (p0.table.take i) = K p0.table := by
  intro k
  induction k with
  | zero => intro i h1 h2; omega
  | succ k ih =>
    intro i h1 h2
    rw [othero13_l1]
    by_cases hi : i < p0.table.length
    · rw [if_pos (by omega), rd_get hi, ob_some, if_pos (by simp; omega), if_pos (by omega), succI]
      have e := take_snoc (L := p0.table) (i := i) (x := (⟨p0.table[i].is, p0.table[i].cell⟩ : Hd)) (by rw [List.getElem?_eq_getElem hi])
      rw [e]
      exact ih (i + 1) (by omega) (by omega)
    · rw [if_neg (by omega), List.take_of_length_le (by omega)]
theorem othero13_eq (p0 : Rw) (hL : p0.table.length ≤ 1000) : othero13 p0 = some p0 := by
  have hF : 10000 < 1000000 := by omega
  unfold othero13
  generalize 1000000 = F at *
  exact othero13_l1_eq p0 _ hL F 0 (by omega) (by omega)

theorem other13_l1_eq (p0 : Rw) (K : List Hd → Option Rw) (hL : p0.table.length ≤ 1000) : ∀ (k i : Nat), p0.table.length < k + i → i ≤ p0.table.length → other13_l1 p0 K k ((i : Nat) : Int) (p0.table.take i) = K p0.table := by
  intro k
  induction k with
  | zero => intro i h1 h2; omega
  | succ k ih =>
    intro i h1 h2
    rw [other13_l1]
    by_cases hi : i < p0.table.length
    · rw [if_pos (by omega), rd_get hi, ob_some, if_pos (by simp; omega), if_pos (by omega), succI]
      have e := take_snoc (L := p0.table) (i := i) (x := (⟨p0.table[i].is, p0.table[i].cell⟩ : Hd)) (by rw [List.getElem?_eq_getElem hi])
      rw [e]
      exact ih (i + 1) (by omega) (by omega)
    · rw [if_neg (by omega), List.take_of_length_le (by omega)]
theorem other13_eq (p0 : Rw) (hL : p0.table.length ≤ 1000) : other13 p0 = some p0 := by
  have hF : 10000 < 1000000 := by omega
  unfold other13
  generalize 1000000 = F at *
  exact other13_l1_eq p0 _ hL F 0 (by omega) (by omega)

theorem rsame13_l1_eq (x y : Rw) (K : Unit → Option Bool) (hL : x.table.length ≤ 1000) (he : x.table.length = y.table.length) : ∀ (k i : Nat), x.table.length < k + i → i ≤ x.table.length →
    rsame13_l1 x y K k ((i : Nat) : Int) = if x.table.drop i = y.table.drop i then K () else some false := by
  intro k
  induction k with
  | zero => intro i h1 h2; omega
  | succ k ih =>
    intro i h1 h2
    rw [rsame13_l1]
    by_cases hi : i < x.table.length
    · have hi' : i < y.table.length := by omega
      rw [if_pos (by omega), rd_get hi, ob_some, rd_get hi', ob_some, List.drop_eq_getElem_cons hi, List.drop_eq_getElem_cons hi']
      by_cases e : x.table[i] = y.table[i]
      · rw [if_neg (fun h => h e), if_pos (by omega), succI, ih (i + 1) (by omega) (by omega)]
        by_cases e2 : x.table.drop (i + 1) = y.table.drop (i + 1)
        · rw [if_pos e2, if_pos (by rw [e, e2])]
        · rw [if_neg e2, if_neg (fun h => e2 (List.cons.inj h).2)]
      · rw [if_pos e, if_neg (fun h => e (List.cons.inj h).1)]
    · rw [if_neg (by omega), List.drop_eq_nil_of_le (by omega), List.drop_eq_nil_of_le (by omega), if_pos rfl]

theorem rsame13_l2_eq (x y : Rw) (K : Unit → Option Bool) (hL : x.table.length ≤ 1000) (he : x.table.length = y.table.length) : ∀ (k i : Nat), x.table.length < k + i → i ≤ x.table.length →
    rsame13_l2 x y K k ((i : Nat) : Int) = if x.table.drop i = y.table.drop i then K () else some false := by
  intro k
  induction k with
  | zero => intro i h1 h2; omega
  | succ k ih =>
    intro i h1 h2
    rw [rsame13_l2]
    by_cases hi : i < x.table.length
    · have hi' : i < y.table.length := by omega
      rw [if_pos (by omega), rd_get hi, ob_some, rd_get hi', ob_some, List.drop_eq_getElem_cons hi, List.drop_eq_getElem_cons hi']
      by_cases e : x.table[i] = y.table[i]
      · rw [if_neg (fun h => h e), if_pos (by omega), succI, ih (i + 1) (by omega) (by omega)]
        by_cases e2 : x.table.drop (i + 1) = y.table.drop (i + 1)
        · rw [if_pos e2, if_pos (by rw [e, e2])]
        · rw [if_neg e2, if_neg (fun h => e2 (List.cons.inj h).2)]
      · rw [if_pos e, if_neg (fun h => e (List.cons.inj h).1)]
    · rw [if_neg (by omega), List.drop_eq_nil_of_le (by omega), List.drop_eq_nil_of_le (by omega), if_pos rfl]

theorem rsame13_eq (x y : Rw) (hL : x.table.length ≤ 1000) : rsame13 x y = some (decide (x = y)) := by
  have hF : 10000 < 1000000 := by omega
  have fin : x.is = y.is → x.cell = y.cell → (if x.table = y.table then (some true : Option Bool) else some false) = some (decide (x = y)) := fun h1 h2 => by
    by_cases h3 : x.table = y.table
    · rw [if_pos h3, decide_eq_true (by cases x; cases y; simp_all)]
    · rw [if_neg h3, decide_eq_false (fun h => h3 (by rw [h]))]
  have no : ∀ {q : Prop}, (x = y → q) → ¬ q → some false = some (decide (x = y)) := fun h h' => by rw [decide_eq_false (fun e => h' (h e))]
  unfold rsame13
  generalize 1000000 = F at *
  by_cases h1 : x.is = true
  · rw [if_pos h1]
    by_cases h2 : y.is = true
    · rw [if_pos h2]
      by_cases h3 : x.cell = y.cell
      · rw [if_neg (fun h => h h3)]
        by_cases h4 : x.table.length = y.table.length
        · rw [if_pos (by omega)]
          refine Eq.trans (rsame13_l1_eq x y _ hL h4 F 0 (by omega) (by omega)) ?_
          exact fin (by rw [h1, h2]) h3
        · rw [if_neg (by omega)]; exact no (fun e => by rw [e]) h4
      · rw [if_pos h3]; exact no (fun e => by rw [e]) h3
    · rw [if_neg h2]; exact no (fun e => by rw [← e]; exact h1) h2
  · rw [if_neg h1]
    by_cases h2 : y.is = true
    · rw [if_pos h2]; exact no (fun e => by rw [e]; exact h2) h1
    · rw [if_neg h2]
      by_cases h3 : x.cell = y.cell
      · rw [if_neg (fun h => h h3)]
        by_cases h4 : x.table.length = y.table.length
        · rw [if_pos (by omega)]
          refine Eq.trans (rsame13_l2_eq x y _ hL h4 F 0 (by omega) (by omega)) ?_
          exact fin (by simp at h1 h2; rw [h1, h2]) h3
        · rw [if_neg (by omega)]; exact no (fun e => by rw [e]) h4
      · rw [if_pos h3]; exact no (fun e => by rw [e]) h3
theorem same13_dec (x y : Rw) (hL : x.table.length ≤ 1000) : same13 x y = some (decide (x = y)) := by
  by_cases h : x = y
  · subst h; rw [same13_self x hL, decide_eq_true rfl]
  · rw [same13_ne hL h, decide_eq_false h]

theorem rplaino13_l1_eq (n : Nat) (r : Rw) (K : List Hd → Option Rw) (hn : n ≤ 16) : ∀ (k i : Nat), n < k + i → i ≤ n →
    rplaino13_l1 (n : Int) r K k ((i : Nat) : Int) ((fillG heldN Hd.none n r.table).take i) = K (fillG heldN Hd.none n r.table) := by
  have hl := fillG_length heldN Hd.none n r.table
  intro k
  induction k with
  | zero => intro i h1 h2; omega
  | succ k ih =>
    intro i h1 h2
    rw [rplaino13_l1]
    by_cases hi : i < n
    · have hg := fillG_get heldN Hd.none r.table hi
      have e := take_snoc hg
      have hlen : ((fillG heldN Hd.none n r.table).take i).length < 1000000 := by simp; omega
      have hih := ih (i + 1) (by omega) (by omega)
      rw [← e] at hih
      rw [if_pos (by omega)]
      by_cases h : i < r.table.length
      · rw [dif_pos h] at hih
        rw [if_pos (by omega), rd_get h, ob_some]
        by_cases h3 : r.table[i].is = true
        · have e3 : heldN r.table[i] = ⟨true, cellN r.table[i].cell⟩ := by unfold heldN; rw [if_pos h3]
          rw [e3] at hih
          rw [if_pos h3, rcell13_eq, ob_some, if_pos hlen, if_pos (by omega), succI]; exact hih
        · have e3 : heldN r.table[i] = Hd.none := by unfold heldN; rw [if_neg h3]
          rw [e3] at hih
          rw [if_neg h3, if_pos hlen, if_pos (by omega), succI]; exact hih
      · rw [dif_neg h] at hih
        rw [if_neg (by omega), if_pos hlen, if_pos (by omega), succI]; exact hih
    · rw [if_neg (by omega), List.take_of_length_le (by omega)]
theorem rplaino13_eq (n : Int) (r : Rw) : rplaino13 n r = some (rowI n r) := by
  have hF : 10000 < 1000000 := by omega
  unfold rplaino13 rowI
  generalize 1000000 = F at *
  by_cases h0 : n < 0
  · rw [if_pos h0, if_neg (by omega)]; rfl
  · rw [if_neg h0]
    by_cases h1 : 16 < n
    · rw [if_pos h1, if_neg (by omega)]; rfl
    · obtain ⟨m, rfl⟩ : ∃ m : Nat, n = (m : Int) := ⟨n.toNat, by omega⟩
      rw [if_neg h1, if_pos (show 0 ≤ (m : Int) ∧ (m : Int) ≤ 16 by omega), Int.toNat_natCast]
      by_cases h2 : r.is = true
      · have e : rowN m r = ⟨true, cellN r.cell, fillG heldN Hd.none m r.table⟩ := by unfold rowN; rw [if_pos h2]
        rw [if_pos h2, rcell13_eq, ob_some, e]
        exact rplaino13_l1_eq m r _ (by omega) F 0 (by omega) (by omega)
      · have e : rowN m r = Rw.none := by unfold rowN; rw [if_neg h2]
        rw [if_neg h2, e]; rfl

theorem twin13_eq (x : Rw) (hL : x.table.length ≤ 1000) : twin13 x = some x := by
  unfold twin13
  have e : ((([] : List Hd) ++ x.table) ++ [mkH, mkH]).take (((x.table.length : Nat) : Int)).toNat = x.table := by simp
  rw [if_pos (by omega), if_pos (by omega), if_pos (by simp only [List.length_nil]; omega), if_pos (by simp only [List.nil_append]; omega), if_pos (by simp only [List.nil_append, List.length_append, List.length_cons, List.length_nil]; omega)]
  show some (⟨x.is, x.cell, ((([] : List Hd) ++ x.table) ++ [mkH, mkH]).take (((x.table.length : Nat) : Int)).toNat⟩ : Rw) = some x
  rw [e]
theorem left13_l1_eq (x : Rw) (K : Unit → Option Bool) (hL : x.table.length ≤ 1000) (F : Nat) : left13_l1 x K (F + 3) ((x.table.length : Nat) : Int) = K () := by
  have r0 : rd (x.table ++ [mkH, mkH]) ((x.table.length : Nat) : Int) = some mkH := by rw [rd_nat, List.getElem?_append_right (by omega)]; simp
  have r1 : rd (x.table ++ [mkH, mkH]) ((x.table.length + 1 : Nat) : Int) = some mkH := by rw [rd_nat, List.getElem?_append_right (by omega)]; simp
  rw [left13_l1, if_pos (by omega), if_pos (by omega), r0, ob_some, if_neg (fun h => h rfl), if_pos (by omega), succI]
  rw [left13_l1, if_pos (by omega), if_pos (by omega), r1, ob_some, if_neg (fun h => h rfl), if_pos (by omega), succI]
  rw [left13_l1, if_pos (by omega), if_neg (by omega)]
theorem left13_eq (x : Rw) (hL : x.table.length ≤ 1000) : left13 x x = some true := by
  have hF : ∃ F, 1000000 = F + 3 := ⟨999997, rfl⟩
  unfold left13
  obtain ⟨F, hF⟩ := hF
  rw [hF]
  clear hF
  rw [other13_eq x hL, ob_some, ob_some, rsame13_eq x x hL, ob_some, decide_eq_true rfl, if_pos rfl]
  exact left13_l1_eq x _ hL F

theorem rows13_eq (n : Int) (x y : Rw) : rows13 n x y = some true := by
  unfold rows13
  by_cases g1 : 400 < ((x.table.length : Nat) : Int)
  · rw [if_pos g1, bsome]; exact lives13_true
  rw [if_neg g1]
  by_cases g2 : 400 < ((y.table.length : Nat) : Int)
  · rw [if_pos g2, bsome]; exact lives13_true
  rw [if_neg g2]
  have hx : x.table.length ≤ 1000 := by omega
  have hy : y.table.length ≤ 1000 := by omega
  have hr : (rowI n x).table.length ≤ 1000 := by
    unfold rowI; split
    · unfold rowN; split
      · show (fillG _ _ _ _).length ≤ _
        rw [fillG_length]; omega
      · exact Nat.zero_le _
    · exact Nat.zero_le _
  simp only [twin13_eq x hx, twin13_eq y hy, ob_some, copy13_eq x hx, plaino13_eq, othero13_eq x hx, othero13_eq y hy, othero13_eq _ hr, rplaino13_eq, rsame13_eq x x hx, rsame13_eq x y hx, rsame13_eq _ (rowI n x) hr, same13_dec x y hx, same13_dec x x hx, cell13_eq, rcell13_eq, left13_eq x hx, left13_eq y hy, lives13_true, decide_true, if_true]
  by_cases h : x = y
  · simp [h]
  · simp [h]
end Go.Proofs.Ytckcldimnelklaa
