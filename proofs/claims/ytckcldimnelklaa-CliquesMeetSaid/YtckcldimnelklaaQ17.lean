/- Cliques, plain: what is even, and how long it was, is what the chapter says. -/
import Derived.Test.YtckcldimnelklaaPU
import Derived.Test.YtckcldimnelklaaD17
namespace Go.Proofs.Ytckcldimnelklaa
open Go
set_option linter.unusedVariables false
set_option linter.unusedSimpArgs false

theorem lives17_true : lives17 = some true := by decide +kernel

/-- How many are there, and have this age. -/
def cnt (xs : List Hd) (c : Int) : Int := (((xs.filter fun h => h.is && decide (h.cell.age = c)).length : Nat) : Int)
theorem cnt_cons (x : Hd) (xs : List Hd) (c : Int) : cnt (x :: xs) c = (if x.is = true then (if x.cell.age = c then 1 else 0) else 0) + cnt xs c := by
  unfold cnt
  by_cases h1 : x.is = true <;> by_cases h2 : x.cell.age = c <;> simp [h1, h2] <;> omega
theorem cnt_nil (c : Int) : cnt [] c = 0 := rfl
theorem cnt_le (xs : List Hd) (c : Int) : 0 ≤ cnt xs c ∧ cnt xs c ≤ xs.length := by
  unfold cnt
  have := List.length_filter_le (fun h : Hd => h.is && decide (h.cell.age = c)) xs
  omega
theorem drop_cons {α : Type} {xs : List α} {i : Nat} (h : i < xs.length) : xs.drop i = xs[i] :: xs.drop (i + 1) := List.drop_eq_getElem_cons h

/-- Is a vector even? -/
def evenB (n : Int) (xs : List Hd) (c : Int) : Bool := decide (4 ≤ n ∧ n ≤ 16 ∧ 0 ≤ c ∧ c ≤ 1099511627776 ∧ n - 1 ≤ cnt (xs.take n.toNat) c)

theorem cmay17_eq (n : Int) : cmay17 n = some (decide (4 ≤ n ∧ n ≤ 16)) := by
  unfold cmay17
  by_cases h1 : 4 ≤ n <;> by_cases h2 : n ≤ 16 <;> simp [h1, h2]

theorem even17_l1_eq (p1 : List Hd) (p0 p2 : Int) (K : Int → Option Bool) (hL : (p1.take (min p0 ((p1.length : Nat) : Int)).toNat).length ≤ 1000) : ∀ (k i : Nat) (m : Int), (p1.take (min p0 ((p1.length : Nat) : Int)).toNat).length < k + i → i ≤ (p1.take (min p0 ((p1.length : Nat) : Int)).toNat).length → 0 ≤ m → m ≤ i →
    even17_l1 p1 p0 p2 K k m ((i : Nat) : Int) = K (m + cnt ((p1.take (min p0 ((p1.length : Nat) : Int)).toNat).drop i) p2) := by
  generalize hxs : p1.take (min p0 ((p1.length : Nat) : Int)).toNat = xs at *
  intro k
  induction k with
  | zero => intro i m h1 h2; omega
  | succ k ih =>
    intro i m h1 h2 h3 h4
    rw [even17_l1, hxs]
    by_cases hi : i < xs.length
    · rw [if_pos (by omega), rd_get hi, ob_some, drop_cons hi, cnt_cons]
      have e := fun m h3 h4 => ih (i + 1) m (by omega) (by omega) h3 h4
      simp only [succI]
      by_cases g1 : xs[i].is = true
      · by_cases g2 : xs[i].cell.age = p2
        · rw [if_pos g1, if_pos g2, if_pos (by omega), if_pos (by omega), e (m + 1) (by omega) (by omega), if_pos g1, if_pos g2]
          congr 1; omega
        · rw [if_pos g1, if_neg g2, if_pos (by omega), e m (by omega) (by omega), if_pos g1, if_neg g2]
          congr 1; omega
      · rw [if_neg g1, if_pos (by omega), e m (by omega) (by omega), if_neg g1]
        congr 1; omega
    · rw [if_neg (by omega), List.drop_eq_nil_of_le (by omega), cnt_nil]
      congr 1; omega

theorem even17_eq (n : Int) (xs : List Hd) (c : Int) : even17 n xs c = some (evenB n xs c) := by
  unfold even17
  rw [cmay17_eq, ob_some]
  by_cases h : 4 ≤ n ∧ n ≤ 16
  · rw [if_pos (decide_eq_true h)]
    by_cases h1 : c < 0
    · rw [if_pos h1]; congr 1; symm; apply decide_eq_false; omega
    · rw [if_neg h1]
      by_cases h2 : 1099511627776 < c
      · rw [if_pos h2]; congr 1; symm; apply decide_eq_false; omega
      · have hl : (xs.take (min n ((xs.length : Nat) : Int)).toNat).length ≤ 1000 := by rw [List.length_take]; omega
        have e := even17_l1_eq xs n c (fun i => (if -9223372036854775808 ≤ n - 1 ∧ n - 1 ≤ 9223372036854775807 then (if (n - 1) ≤ i then (some true) else (some false)) else none)) hl 1000000 0 0 (by omega) (by omega) (by omega) (by omega)
        rw [if_neg h2, if_pos (by omega)]
        refine Eq.trans e ?_
        have hc : cnt ((xs.take (min n ((xs.length : Nat) : Int)).toNat).drop 0) c = cnt (xs.take n.toNat) c := by
          rw [List.drop_zero]
          congr 1
          rcases Int.le_total n xs.length with h3 | h3
          · rw [Int.min_eq_left h3]
          · rw [Int.min_eq_right h3, List.take_of_length_le (by omega), List.take_of_length_le (by omega)]
        rw [hc]
        simp only [Int.zero_add]
        rw [if_pos (by omega)]
        by_cases h3 : n - 1 ≤ cnt (xs.take n.toNat) c
        · rw [if_pos h3]; congr 1; symm; apply decide_eq_true; omega
        · rw [if_neg h3]; congr 1; symm; apply decide_eq_false; omega
  · rw [if_neg (by simpa using h)]
    congr 1; symm; apply decide_eq_false; omega

theorem reven17_l1_eq (n : Int) (xs : List Hd) (c : Int) (K : Int → Option Bool) (hL : xs.length ≤ 1000) : ∀ (k i : Nat) (m : Int), xs.length < k + i → i ≤ xs.length → 0 ≤ m → m ≤ i →
    reven17_l1 n xs c K k m ((i : Nat) : Int) = K (m + cnt ((xs.take n.toNat).drop i) c) := by
  intro k
  induction k with
  | zero => intro i m h1 h2; omega
  | succ k ih =>
    intro i m h1 h2 h3 h4
    rw [reven17_l1]
    by_cases hn : ((i : Nat) : Int) < n
    · rw [if_pos hn]
      by_cases hi : i < xs.length
      · have hi2 : i < (xs.take n.toNat).length := by rw [List.length_take]; omega
        rw [if_pos (by omega), rd_get hi, ob_some, drop_cons hi2, cnt_cons]
        have e := fun m h3 h4 => ih (i + 1) m (by omega) (by omega) h3 h4
        simp only [succI, List.getElem_take]
        by_cases g1 : xs[i].is = true
        · by_cases g2 : xs[i].cell.age = c
          · rw [if_pos g1, if_pos g2, if_pos (by omega), if_pos (by omega), e (m + 1) (by omega) (by omega), if_pos g1, if_pos g2]
            congr 1; omega
          · rw [if_pos g1, if_neg g2, if_pos (by omega), e m (by omega) (by omega), if_pos g1, if_neg g2]
            congr 1; omega
        · rw [if_neg g1, if_pos (by omega), e m (by omega) (by omega), if_neg g1]
          congr 1; omega
      · rw [if_neg (by omega), List.drop_eq_nil_of_le (by rw [List.length_take]; omega), cnt_nil]
        congr 1; omega
    · rw [if_neg hn, List.drop_eq_nil_of_le (by rw [List.length_take]; omega), cnt_nil]
      congr 1; omega

theorem reven17_eq (n : Int) (xs : List Hd) (c : Int) (hn : -1000 ≤ n) (hL : xs.length ≤ 1000) : reven17 n xs c = some (evenB n xs c) := by
  unfold reven17
  refine Eq.trans (reven17_l1_eq n xs c _ hL 1000000 0 0 (by omega) (by omega) (by omega) (by omega)) ?_
  simp only [Int.zero_add, List.drop_zero]
  by_cases h1 : 4 ≤ n
  · by_cases h2 : n ≤ 16
    · by_cases h3 : 0 ≤ c
      · by_cases h4 : c ≤ 1099511627776
        · rw [if_pos h1, if_pos h2, if_pos h3, if_pos h4, if_pos (by omega)]
          by_cases h5 : n - 1 ≤ cnt (xs.take n.toNat) c
          · rw [if_pos h5]; congr 1; symm; apply decide_eq_true; omega
          · rw [if_neg h5]; congr 1; symm; apply decide_eq_false; omega
        · rw [if_pos h1, if_pos h2, if_pos h3, if_neg h4]; congr 1; symm; apply decide_eq_false; omega
      · rw [if_pos h1, if_pos h2, if_neg h3]; congr 1; symm; apply decide_eq_false; omega
    · rw [if_pos h1, if_neg h2]; congr 1; symm; apply decide_eq_false; omega
  · rw [if_neg h1]; congr 1; symm; apply decide_eq_false; omega

theorem cnew17_in {n : Int} (h : 4 ≤ n ∧ n ≤ 16) : cnew17 n = some (some ((0, 2 * n), n), 0) := by
  unfold cnew17
  rw [cmay17_eq, ob_some, if_pos (decide_eq_true h), if_pos (by omega)]
theorem cnew17_out {n : Int} (h : ¬ (4 ≤ n ∧ n ≤ 16)) : cnew17 n = some (none, 1) := by
  unfold cnew17
  rw [cmay17_eq, ob_some, if_neg (by simpa using h)]
theorem rnew17_in {n : Int} (h : 4 ≤ n ∧ n ≤ 16) : rnew17 n = some (some (n, []), 0) := by
  unfold rnew17
  rw [if_neg (by omega), if_neg (by omega)]
theorem rnew17_out {n : Int} (h : ¬ (4 ≤ n ∧ n ≤ 16)) : rnew17 n = some (none, 1) := by
  unfold rnew17
  by_cases h1 : n < 4
  · rw [if_pos h1]
  · rw [if_neg h1, if_pos (by omega)]

/-- A clique steps. -/
def Nxt (long en : Int) (e : Bool) : Int := if e = true then min (long + 1) en else 0
theorem step17_eq {long en n : Int} (xs : List Hd) (c : Int) (hn : ¬ n = 0) (h0 : 0 ≤ long) (h1 : long ≤ 1000000) : step17 ((long, en), n) xs c = some (evenB n xs c && decide (Nxt long en (evenB n xs c) = en), ((Nxt long en (evenB n xs c), en), n)) := by
  unfold step17
  rw [if_neg hn, even17_eq, ob_some]
  unfold on17 Nxt
  cases h : evenB n xs c
  · simp [ob_some]
  · simp only [if_true, ob_some]
    rw [if_pos (by omega)]
    by_cases h2 : min (long + 1) en = en
    · rw [if_pos h2, ob_some, h2]; simp
    · rw [if_neg h2, ob_some]; simp [h2]

theorem void17_eq (x : (List Hd) × Int) : void17 x = some true := by
  unfold void17
  simp [step17, stepN17, ob_some, lives17_true]

theorem others17_l1_eq (xs : List Hd) (K : List Hd → Option (List Hd)) (hL : xs.length ≤ 1000) : ∀ (k i : Nat), xs.length < k + i → i ≤ xs.length → others17_l1 xs K k ((i : Nat) : Int) (xs.take i) = K xs := by
  intro k
  induction k with
  | zero => intro i h1 h2; omega
  | succ k ih =>
    intro i h1 h2
    rw [others17_l1]
    by_cases hi : i < xs.length
    · rw [if_pos (by omega), rd_get hi, ob_some, if_pos (by rw [List.length_take]; omega), if_pos (by omega), succI]
      have e : xs.take i ++ [(⟨xs[i].is, xs[i].cell⟩ : Hd)] = xs.take (i + 1) := by rw [List.take_succ_eq_append_getElem hi]
      rw [e]; exact ih (i + 1) (by omega) (by omega)
    · rw [if_neg (by omega), List.take_of_length_le (by omega)]
theorem others17_eq (xs : List Hd) (hL : xs.length ≤ 1000) : others17 xs = some xs := others17_l1_eq xs _ hL 1000000 0 (by omega) (by omega)

/-- How many stand at the end, one behind the other. -/
def trail : List Bool → Nat
  | [] => 0
  | b :: l => if trail l = l.length ∧ b = true then l.length + 1 else trail l
theorem trail_le : ∀ l : List Bool, trail l ≤ l.length
  | [] => Nat.le_refl _
  | b :: l => by
    have := trail_le l
    simp only [trail, List.length_cons]
    split <;> omega
theorem trail_snoc (l : List Bool) (e : Bool) : trail (l ++ [e]) = if e = true then trail l + 1 else 0 := by
  induction l with
  | nil => cases e <;> rfl
  | cons b l ih =>
    have h := trail_le l
    rw [List.cons_append, trail, ih]
    simp only [trail, List.length_append, List.length_singleton]
    cases e
    · simp
    · simp only [if_true]
      by_cases h1 : trail l = l.length ∧ b = true
      · rw [if_pos ⟨by omega, h1.2⟩, if_pos h1]
      · rw [if_neg (fun h2 => h1 ⟨by omega, h2.2⟩), if_neg h1]
theorem trail_get : ∀ (l : List Bool) (d : Nat), (d < trail l → d < l.length ∧ l[l.length - 1 - d]? = some true) ∧ (d = trail l → d < l.length → l[l.length - 1 - d]? = some false) := by
  intro l
  induction l with
  | nil => intro d; exact ⟨fun h => absurd h (Nat.not_lt_zero _), fun _ h => absurd h (Nat.not_lt_zero _)⟩
  | cons b l ih =>
    intro d
    have hl := trail_le l
    simp only [trail, List.length_cons]
    by_cases h1 : trail l = l.length ∧ b = true
    · rw [if_pos h1]
      refine ⟨fun h => ⟨by omega, ?_⟩, fun h h2 => by omega⟩
      rcases Nat.lt_or_ge d l.length with h2 | h2
      · have h3 := (ih d).1 (by omega)
        rw [show l.length + 1 - 1 - d = (l.length - 1 - d) + 1 by omega, List.getElem?_cons_succ]; exact h3.2
      · rw [show l.length + 1 - 1 - d = 0 by omega]; simp [h1.2]
    · rw [if_neg h1]
      refine ⟨fun h => ⟨by omega, ?_⟩, fun h h2 => ?_⟩
      · have h3 := (ih d).1 h
        rw [show l.length + 1 - 1 - d = (l.length - 1 - d) + 1 by omega, List.getElem?_cons_succ]; exact h3.2
      · rcases Nat.lt_or_ge d l.length with h3 | h3
        · rw [show l.length + 1 - 1 - d = (l.length - 1 - d) + 1 by omega, List.getElem?_cons_succ]; exact (ih d).2 h h3
        · rw [show l.length + 1 - 1 - d = 0 by omega]
          have : b = false := by cases b <;> first | rfl | (exfalso; exact h1 ⟨by omega, rfl⟩)
          simp [this]

theorem rstep17_l1_eq (n : Int) (l : List Bool) (e : Bool) (K : Unit → Option (Bool × (Int × (List Bool)))) (hn : 0 ≤ n) (hn2 : n ≤ 1000) (hl : l.length ≤ 1000) : ∀ (k i : Nat), 2 * n < k + i → (i : Int) ≤ 2 * n → i ≤ trail (l ++ [e]) →
    rstep17_l1 (n, l) e K k ((i : Nat) : Int) = if 2 * n ≤ trail (l ++ [e]) then K () else some (false, (n, l ++ [e])) := by
  have hlen : (l ++ [e]).length ≤ 1001 := by simp; omega
  have htl := trail_le (l ++ [e])
  have htg := trail_get (l ++ [e])
  generalize hL : l ++ [e] = L at *
  intro k
  induction k with
  | zero => intro i h1 h2; omega
  | succ k ih =>
    intro i h1 h2 h3
    rw [rstep17_l1, hL, if_pos (by dsimp only; omega)]
    by_cases h4 : ((i : Nat) : Int) < 2 * n
    · rw [if_pos h4]
      by_cases h5 : L.length ≤ i
      · rw [if_pos (by omega), if_neg (by omega)]
      · rw [if_neg (by omega), if_pos (by omega), if_pos (by omega)]
        have h6 : ((L.length : Nat) : Int) - 1 - ((i : Nat) : Int) = ((L.length - 1 - i : Nat) : Int) := by omega
        have h7 : L.length - 1 - i < L.length := by omega
        rw [h6, rd_get h7, ob_some]
        rcases Nat.lt_or_ge i (trail L) with h8 | h8
        · have h9 := ((htg i).1 h8).2
          rw [List.getElem?_eq_getElem h7] at h9
          injection h9 with h9
          rw [if_pos h9, if_pos (by omega), succI]
          exact ih (i + 1) (by omega) (by omega) (by omega)
        · have h9 := (htg i).2 (by omega) (by omega)
          rw [List.getElem?_eq_getElem h7] at h9
          injection h9 with h9
          rw [if_neg (by rw [h9]; decide), if_neg (by omega)]
    · rw [if_neg h4, if_pos (by omega)]
theorem rstep17_eq {n : Int} {l : List Bool} (xs : List Hd) (c : Int) (hn : 0 ≤ n) (hn2 : n ≤ 1000) (hl : l.length ≤ 1000) (hx : xs.length ≤ 1000) :
    rstep17 (n, l) xs c = some (decide (2 * n ≤ trail (l ++ [evenB n xs c])), (n, l ++ [evenB n xs c])) := by
  unfold rstep17
  rw [reven17_eq n xs c (by omega) hx, ob_some, if_pos (by show l.length < 1000000; omega)]
  refine Eq.trans (rstep17_l1_eq n l _ _ hn hn2 hl 1000000 0 (by omega) (by omega) (by omega)) ?_
  by_cases h : 2 * n ≤ trail (l ++ [evenB n xs c])
  · rw [if_pos h, decide_eq_true h]
  · rw [if_neg h, decide_eq_false h]

/-- Both count alike. -/
theorem nxt_trail {n : Int} {l : List Bool} {long : Int} (hn : 4 ≤ n) (h : long = min ((trail l : Nat) : Int) (2 * n)) (e : Bool) :
    Nxt long (2 * n) e = min ((trail (l ++ [e]) : Nat) : Int) (2 * n) ∧ (e && decide (Nxt long (2 * n) e = 2 * n)) = decide (2 * n ≤ trail (l ++ [e])) := by
  subst h
  rw [trail_snoc]
  cases e
  · simp [Nxt]; omega
  · simp only [Nxt, if_true, Bool.true_and]
    refine ⟨by omega, ?_⟩
    congr 1
    apply propext
    omega

theorem play17_l4_eq (p1 : List ((List Hd) × Int)) (n : Int) (y : (Option ((Int × Int) × Int)) × Int) (hy : y.2 = 0) (hn : 4 ≤ n ∧ n ≤ 16) (K : Int → Int → Int → Option Bool) (hK : ∀ a b c, K a b c = some true) (hp : p1.length ≤ 120) :
    ∀ (k i : Nat) (long : Int) (l : List Bool), p1.length < k + i → i ≤ p1.length → l.length = i → long = min ((trail l : Nat) : Int) (2 * n) → play17_l4 p1 n y K k ((i : Nat) : Int) long (2 * n) n n l = some true := by
  intro k
  induction k with
  | zero => intro i long l h1 h2; omega
  | succ k ih =>
    intro i long l h1 h2 h3 h4
    rw [play17_l4]
    by_cases hi : i < p1.length
    · rw [if_pos (by omega), rd_get hi, ob_some]
      by_cases h40 : 40 < (((p1[i]).1.length : Nat) : Int)
      · rw [if_pos h40, bsome]; exact lives17_true
      · have ht := trail_le l
        have hx : (p1[i]).1.length ≤ 1000 := by omega
        obtain ⟨ha, hb⟩ := nxt_trail hn.1 h4 (evenB n (p1[i]).1 (p1[i]).2)
        rw [if_neg h40, others17_eq _ hx, ob_some, even17_eq, ob_some, reven17_eq _ _ _ (by omega) hx, ob_some,
          step17_eq _ _ (by omega) (by omega) (by omega), rstep17_eq _ _ (by omega) (by omega) (by omega) hx, hb]
        simp only [ob_some, hy, if_true]
        have e := ih (i + 1) (Nxt long (2 * n) (evenB n (p1[i]).1 (p1[i]).2)) (l ++ [evenB n (p1[i]).1 (p1[i]).2]) (by omega) (by omega) (by simp [h3]) ha
        generalize evenB n (p1[i]).1 (p1[i]).2 = ev at *
        have g : -9223372036854775808 ≤ ((i : Nat) : Int) + 1 ∧ ((i : Nat) : Int) + 1 ≤ 9223372036854775807 := by omega
        cases ev <;> cases decide (2 * n ≤ ((trail (l ++ [_]) : Nat) : Int)) <;> simp [g] <;> exact e
    · rw [if_neg (by omega)]; exact hK _ _ _

theorem play17_l1_eq (p1 : List ((List Hd) × Int)) (n : Int) (y : (Option ((Int × Int) × Int)) × Int) (hy : y.2 = 1) (hn : -9223372036854775808 ≤ n) (hn2 : ¬ (4 ≤ n ∧ n ≤ 16)) (K : Unit → Option Bool) (hK : K () = some true) (hp : p1.length ≤ 120)
    (hev : ∀ x ∈ p1, x.1.length ≤ 40 → reven17 n x.1 x.2 = some (evenB n x.1 x.2)) :
    ∀ (k i : Nat), p1.length < k + i → i ≤ p1.length → play17_l1 p1 n y K k ((i : Nat) : Int) = some true := by
  intro k
  induction k with
  | zero => intro i h1 h2; omega
  | succ k ih =>
    intro i h1 h2
    rw [play17_l1]
    by_cases hi : i < p1.length
    · rw [if_pos (by omega), rd_get hi, ob_some]
      by_cases h40 : 40 < (((p1[i]).1.length : Nat) : Int)
      · rw [if_pos h40, bsome]; exact lives17_true
      · have hx : (p1[i]).1.length ≤ 1000 := by omega
        rw [if_neg h40, others17_eq _ hx, ob_some, even17_eq, ob_some, hev _ (List.getElem_mem hi) (by omega), ob_some]
        have e := ih (i + 1) (by omega) (by omega)
        generalize evenB n (p1[i]).1 (p1[i]).2 = ev at *
        have g : -9223372036854775808 ≤ ((i : Nat) : Int) + 1 ∧ ((i : Nat) : Int) + 1 ≤ 9223372036854775807 := by omega
        cases ev <;> simp [hy, g] <;> exact e
    · rw [if_neg (by omega)]; exact hK

theorem reven17_out (n : Int) (xs : List Hd) (c : Int) (hn : ¬ (4 ≤ n ∧ n ≤ 16)) (hL : xs.length ≤ 1000) : reven17 n xs c = some (evenB n xs c) := by
  unfold reven17
  refine Eq.trans (reven17_l1_eq n xs c _ hL 1000000 0 0 (by omega) (by omega) (by omega) (by omega)) ?_
  have h : evenB n xs c = false := decide_eq_false (by omega)
  rw [h]
  by_cases h1 : 4 ≤ n
  · rw [if_pos h1, if_neg (by omega)]
  · rw [if_neg h1]

theorem play17_in (n : Int) (p1 : List ((List Hd) × Int)) (h4 : 4 ≤ n ∧ n ≤ 16) (h : ¬ 120 < ((p1.length : Nat) : Int)) : play17 n p1 = some true := by
  have hF : p1.length < 1000000 := by omega
  unfold play17
  revert hF
  generalize 1000000 = F
  intro hF
  rw [if_neg h, cnew17_in h4, ob_some]
  show oc (some ((0, 2 * n), n)) _ _ = _
  rw [oc_some, rnew17_in h4, ob_some]
  show oc (some (n, [])) _ _ = _
  rw [oc_some, if_pos rfl]
  exact play17_l4_eq p1 n (some ((0, 2 * n), n), 0) rfl h4 _ (fun _ _ _ => by rw [if_pos rfl, bsome]; exact lives17_true) (by omega) F 0 0 [] (by omega) (by omega) rfl (by simp [trail]; omega)
theorem play17_out (n : Int) (p1 : List ((List Hd) × Int)) (hn : -9223372036854775808 ≤ n) (h4 : ¬ (4 ≤ n ∧ n ≤ 16)) (h : ¬ 120 < ((p1.length : Nat) : Int)) : play17 n p1 = some true := by
  unfold play17
  rw [if_neg h, cnew17_out h4, rnew17_out h4]
  simp only [ob_some, oc_none, if_true]
  have hF : p1.length < 1000000 := by omega
  revert hF
  generalize 1000000 = F
  intro hF
  exact play17_l1_eq p1 n _ rfl hn h4 _ (by rw [if_neg (by decide), bsome]; exact lives17_true) (by omega) (fun x _ hx => reven17_out n _ _ h4 (by omega)) F 0 (by omega) (by omega)
theorem play17_eq (n : Int) (p1 : List ((List Hd) × Int)) (hn : -9223372036854775808 ≤ n) : play17 n p1 = some true := by
  by_cases h : 120 < ((p1.length : Nat) : Int)
  · unfold play17; rw [if_pos h, bsome]; exact lives17_true
  · by_cases h4 : 4 ≤ n ∧ n ≤ 16
    · exact play17_in n p1 h4 h
    · exact play17_out n p1 hn h4 h

def one (c : Int) (x : Hd) : Int := if x.is = true then (if x.cell.age = c then 1 else 0) else 0
theorem cnt_set (c : Int) : ∀ (xs : List Hd) (j : Nat) (hj : j < xs.length) (y : Hd), cnt (xs.set j y) c = cnt xs c - one c xs[j] + one c y
  | x :: xs, 0, _, y => by
    rw [List.set_cons_zero, cnt_cons, cnt_cons]; simp only [List.getElem_cons_zero, one]; omega
  | x :: xs, j + 1, hj, y => by
    have := cnt_set c xs j (by simpa using hj) y
    rw [List.set_cons_succ, cnt_cons, cnt_cons, this]; simp only [List.getElem_cons_succ]; omega
theorem cnt_replicate (c : Int) (x : Hd) (m : Nat) : cnt (List.replicate m x) c = m * one c x := by
  induction m with
  | zero => simp [cnt]
  | succ m ih =>
    rw [List.replicate_succ, cnt_cons, ih]
    have : ((m + 1 : Nat) : Int) * one c x = one c x + m * one c x := by
      rw [show ((m + 1 : Nat) : Int) = (m : Int) + 1 from rfl, Int.add_mul, Int.one_mul]; omega
    rw [this]; rfl

def aH (a : Int) : Hd := ⟨true, ⟨a, Cl.zero.offer, Cl.zero.report, Cl.zero.view⟩⟩
theorem run17_l4_eq (p0 c : Int) (K : (List Hd) → Option Bool) (m : Nat) (hm : (m : Int) = 4 + p0 % 13) (hm2 : m ≤ 1000) : ∀ (k i : Nat), m < k + i → i ≤ m →
    run17_l4 p0 c K k ((i : Nat) : Int) (List.replicate i (aH c) ++ List.replicate (m - i) Hd.none) = K (List.replicate m (aH c)) := by
  intro k
  induction k with
  | zero => intro i h1 h2; omega
  | succ k ih =>
    intro i h1 h2
    rw [run17_l4]
    by_cases hi : i < m
    · have hl : i < (List.replicate i (aH c) ++ List.replicate (m - i) Hd.none).length := by simp; omega
      rw [if_pos (by omega), rd_get hl, ob_some, if_pos (by omega), succI]
      have e : (List.replicate i (aH c) ++ List.replicate (m - i) Hd.none).set ((i : Nat) : Int).toNat (aH c) = List.replicate (i + 1) (aH c) ++ List.replicate (m - (i + 1)) Hd.none := by
        have e1 : m - i = (m - (i + 1)) + 1 := by omega
        rw [Int.toNat_natCast, e1, List.replicate_succ, List.set_append_right _ _ (by simp)]
        simp [List.replicate_succ']
      have e2 := ih (i + 1) (by omega) (by omega)
      rw [← e] at e2
      exact e2
    · have : i = m := by omega
      subst this
      rw [if_neg (by omega)]
      simp

/-- What is even, of a tick. -/
theorem run17_even {n c : Int} {m j j2 : Nat} (hn : (m : Int) = n) (h4 : 4 ≤ n ∧ n ≤ 16) (hc : 0 ≤ c ∧ c ≤ 1000) (hj : j < m) (hj2 : j2 < m) (hne : j ≠ j2) (y z : Hd) (hy : one c y = 0) (hz : one c z = 0) :
    evenB n ((List.replicate m (aH c)).set j y) c = true ∧ evenB n (((List.replicate m (aH c)).set j y).set j2 z) c = false := by
  have h1 : one c (aH c) = 1 := by simp [one, aH]
  have l1 : ((List.replicate m (aH c)).set j y).take n.toNat = (List.replicate m (aH c)).set j y := List.take_of_length_le (by simp; omega)
  have l2 : (((List.replicate m (aH c)).set j y).set j2 z).take n.toNat = ((List.replicate m (aH c)).set j y).set j2 z := List.take_of_length_le (by simp; omega)
  have c1 : cnt ((List.replicate m (aH c)).set j y) c = m - 1 := by
    rw [cnt_set c _ j (by simpa using hj), cnt_replicate, List.getElem_replicate, h1, hy]; omega
  have c2 : cnt (((List.replicate m (aH c)).set j y).set j2 z) c = m - 2 := by
    have hl : j2 < ((List.replicate m (aH c)).set j y).length := by simpa using hj2
    rw [cnt_set c _ j2 hl, c1, List.getElem_set_ne hne, List.getElem_replicate, h1, hz]; omega
  constructor
  · unfold evenB; rw [l1, c1]; apply decide_eq_true; omega
  · unfold evenB; rw [l2, c2]; apply decide_eq_false; omega

theorem run17_l4_eq0 (p0 c : Int) (K : (List Hd) → Option Bool) (h0 : 0 ≤ p0) (F : Nat) (hF : 1000 ≤ F) :
    run17_l4 p0 c K F 0 (List.replicate (4 + p0 % 13).toNat Hd.none) = K (List.replicate (4 + p0 % 13).toNat (aH c)) := by
  have e := run17_l4_eq p0 c K (4 + p0 % 13).toNat (by omega) (by omega) F 0 (by omega) (by omega)
  simpa using e

theorem run17_l3_eq (p1 : List Bool) (p0 : Int) (h0 : 0 ≤ p0) (K : Unit → Option Bool) (hK : K () = some true) (hp : p1.length ≤ 200) :
    ∀ (k i : Nat) (run long : Int), p1.length < k + i → i ≤ p1.length → 0 ≤ run → run ≤ i → long = min run (2 * (4 + p0 % 13)) →
    run17_l3 p1 p0 K k run ((i : Nat) : Int) long (2 * (4 + p0 % 13)) (4 + p0 % 13) = some true := by
  have hn : 4 ≤ 4 + p0 % 13 ∧ 4 + p0 % 13 ≤ 16 := by omega
  have hm : (((4 + p0 % 13).toNat : Nat) : Int) = 4 + p0 % 13 := by omega
  generalize hnn : 4 + p0 % 13 = n at *
  intro k
  induction k with
  | zero => intro i run long h1 h2; omega
  | succ k ih =>
    intro i run long h1 h2 h3 h4 h5
    rw [run17_l3, hnn]
    by_cases hi : i < p1.length
    · rw [if_pos (by omega), if_pos (by omega)]
      have e4 := fun K => run17_l4_eq0 p0 ((i : Nat) : Int) K h0 1000000 (by omega)
      rw [hnn] at e4
      rw [e4]
      have r1 : 0 ≤ ((i : Nat) : Int) % n := Int.emod_nonneg _ (by omega)
      have r2 : ((i : Nat) : Int) % n < n := Int.emod_lt_of_pos _ (by omega)
      have r3 : 0 ≤ (((i : Nat) : Int) + 1) % n := Int.emod_nonneg _ (by omega)
      have r4 : (((i : Nat) : Int) + 1) % n < n := Int.emod_lt_of_pos _ (by omega)
      have r5 : ((i : Nat) : Int) % n ≠ (((i : Nat) : Int) + 1) % n := by
        intro he
        have h7 := Int.emod_emod_of_dvd (((i : Nat) : Int) + 1 - ((i : Nat) : Int)) (Int.dvd_refl n)
        have h8 : ((((i : Nat) : Int) + 1) - ((i : Nat) : Int)) % n = 0 := by rw [Int.sub_emod, ← he]; simp
        have h9 : ((((i : Nat) : Int) + 1) - ((i : Nat) : Int)) % n = 1 := by rw [show (((i : Nat) : Int) + 1) - ((i : Nat) : Int) = 1 by omega]; exact Int.emod_eq_of_lt (by omega) (by omega)
        omega
      generalize hj : ((i : Nat) : Int) % n = j at *
      generalize hj2 : (((i : Nat) : Int) + 1) % n = j2 at *
      have hl : j.toNat < (List.replicate n.toNat (aH ((i : Nat) : Int))).length := by simp; omega
      rw [if_pos (by omega), if_pos (by omega), rd_getI r1 hl, ob_some, if_pos (by omega), rd_get hi, ob_some]
      simp only [List.getElem_replicate]
      have hl2 : j2.toNat < ((List.replicate n.toNat (aH ((i : Nat) : Int))).set j.toNat (⟨(aH ((i : Nat) : Int)).is, ⟨((i : Nat) : Int) + 7, (aH ((i : Nat) : Int)).cell.offer, (aH ((i : Nat) : Int)).cell.report, (aH ((i : Nat) : Int)).cell.view⟩⟩ : Hd)).length := by simp; omega
      obtain ⟨ev1, ev2⟩ := run17_even (n := n) (c := ((i : Nat) : Int)) (m := n.toNat) (j := j.toNat) (j2 := j2.toNat) hm hn (by omega) (by omega) (by omega) (by omega)
        (⟨(aH ((i : Nat) : Int)).is, ⟨((i : Nat) : Int) + 7, (aH ((i : Nat) : Int)).cell.offer, (aH ((i : Nat) : Int)).cell.report, (aH ((i : Nat) : Int)).cell.view⟩⟩ : Hd) (⟨false, (aH ((i : Nat) : Int)).cell⟩ : Hd) (by simp [one, aH]; omega) (by simp [one])
      by_cases hb : p1[i] = true
      · rw [if_pos hb, if_pos (by omega), if_pos (by omega), rd_getI r3 hl2, ob_some, List.getElem_set_ne (by omega), List.getElem_replicate,
          step17_eq _ _ (by omega) (by omega) (by omega), ev2, ob_some, if_pos (by omega), if_neg (by omega)]
        simp only [Bool.false_and, Bool.false_eq_true, if_false, succI]
        exact ih (i + 1) 0 _ (by omega) (by omega) (by omega) (by omega) (by simp [Nxt]; omega)
      · rw [if_neg hb, step17_eq _ _ (by omega) (by omega) (by omega), ev1, ob_some, if_pos (by omega)]
        simp only [Bool.true_and, Nxt, if_true]
        by_cases h6 : 2 * n ≤ run + 1
        · rw [if_pos h6, if_pos (by apply decide_eq_true; omega), if_pos (by omega), succI]
          exact ih (i + 1) (run + 1) _ (by omega) (by omega) (by omega) (by omega) (by omega)
        · rw [if_neg h6, if_neg (by simp; omega), if_pos (by omega), succI]
          exact ih (i + 1) (run + 1) _ (by omega) (by omega) (by omega) (by omega) (by omega)
    · rw [if_neg (by omega)]; exact hK

theorem run17_eq (p0 : Int) (p1 : List Bool) (h0 : 0 ≤ p0 ∧ p0 ≤ 255) : run17 p0 p1 = some true := by
  by_cases h : 200 < ((p1.length : Nat) : Int)
  · unfold run17; rw [if_pos h, bsome]; exact lives17_true
  · have hF : p1.length < 1000000 := by omega
    have h4 : 4 ≤ 4 + p0 % 13 ∧ 4 + p0 % 13 ≤ 16 := by omega
    unfold run17
    revert hF
    generalize 1000000 = F
    intro hF
    rw [if_neg h, if_pos (by omega), if_pos (by omega), if_pos (by omega), cnew17_in h4, ob_some]
    show oc (some ((0, 2 * (4 + p0 % 13)), 4 + p0 % 13)) _ _ = _
    rw [oc_some, if_pos rfl]
    exact run17_l3_eq p1 p0 h0.1 _ (by rw [bsome]; exact lives17_true) (by omega) F 0 0 0 (by omega) (by omega) (by omega) (by omega) (by omega)
end Go.Proofs.Ytckcldimnelklaa
