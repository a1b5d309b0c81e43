/- Words, plain: rows are the same just if nothing of them is another one. -/
import Derived.Test.YtckcldimnelklaaKAgreesAnyQ13
import Derived.Test.YtckcldimnelklaaPAgreesAnyD0
namespace Go.Proofs.Ytckcldimnelklaa
open Go
set_option linter.unusedVariables false
set_option linter.unusedSimpArgs false

theorem wrap_ne64 (v : Int) : v ≠ IntKind.wrap .i64 (v + 1) := by
  have e : IntKind.wrap .i64 (v + 1) = (if (v + 1) % 18446744073709551616 ≥ 9223372036854775808 then (v + 1) % 18446744073709551616 - 18446744073709551616 else (v + 1) % 18446744073709551616) := by simp [IntKind.wrap, IntKind.bits, IntKind.signed]
  rw [e]; split <;> omega
theorem wrap_ne32 (v : Int) : v ≠ IntKind.wrap .u32 (v + 1) := by
  have e : IntKind.wrap .u32 (v + 1) = (v + 1) % 4294967296 := by simp [IntKind.wrap, IntKind.bits, IntKind.signed]
  rw [e]; omega
theorem wrap_ne16 (v : Int) : v ≠ IntKind.wrap .u16 (v + 1) := by
  have e : IntKind.wrap .u16 (v + 1) = (v + 1) % 65536 := by simp [IntKind.wrap, IntKind.bits, IntKind.signed]
  rw [e]; omega
theorem wrap_ne8 (v : Int) : v ≠ IntKind.wrap .u8 (v + 1) := by
  have e : IntKind.wrap .u8 (v + 1) = (v + 1) % 256 := by simp [IntKind.wrap, IntKind.bits, IntKind.signed]
  rw [e]; omega

theorem equal13_l1_eq (xs ys : List Hd) (K : Unit → Option Bool) (hL : xs.length ≤ 1000) (he : xs.length = ys.length) : ∀ (k i : Nat), xs.length < k + i → i ≤ xs.length →
    equal13_l1 xs ys K k ((i : Nat) : Int) = if xs.drop i = ys.drop i then K () else some false := by
  intro k
  induction k with
  | zero => intro i h1 h2; omega
  | succ k ih =>
    intro i h1 h2
    rw [equal13_l1]
    by_cases hi : i < xs.length
    · have hi' : i < ys.length := by omega
      rw [if_pos (by omega), rd_get hi, ob_some, rd_get hi', ob_some, List.drop_eq_getElem_cons hi, List.drop_eq_getElem_cons hi']
      by_cases e : xs[i] = ys[i]
      · rw [if_neg (fun h => h e), if_pos (by omega), succI, ih (i + 1) (by omega) (by omega)]
        by_cases e2 : xs.drop (i + 1) = ys.drop (i + 1)
        · rw [if_pos e2, if_pos (by rw [e, e2])]
        · rw [if_neg e2, if_neg (fun h => e2 (List.cons.inj h).2)]
      · rw [if_pos e, if_neg (fun h => e (List.cons.inj h).1)]
    · rw [if_neg (by omega), List.drop_eq_nil_of_le (by omega), List.drop_eq_nil_of_le (by omega), if_pos rfl]
theorem equal13_eq (xs ys : List Hd) (hL : xs.length ≤ 1000) : equal13 xs ys = some (decide (xs = ys)) := by
  have hF : 10000 < 1000000 := by omega
  unfold equal13
  generalize 1000000 = F at *
  by_cases he : xs.length = ys.length
  · rw [if_pos (by omega)]
    have e := equal13_l1_eq xs ys (fun _ => some true) hL he F 0 (by omega) (by omega)
    refine Eq.trans e ?_
    rw [List.drop_zero, List.drop_zero]
    by_cases h : xs = ys
    · rw [if_pos h, decide_eq_true h]
    · rw [if_neg h, decide_eq_false h]
  · rw [if_neg (by omega), decide_eq_false (fun h => he (by rw [h]))]
theorem same13_ne {x y : Rw} (hL : x.table.length ≤ 1000) (h : x ≠ y) : same13 x y = some false := by
  unfold same13
  rw [equal13_eq _ _ hL]
  have ht : x.is = y.is → x.cell = y.cell → decide (x.table = y.table) = false := fun h1 h2 => decide_eq_false fun h3 => h (by cases x; cases y; simp_all)
  by_cases h1 : x.is = true
  · rw [if_pos h1]
    by_cases h2 : y.is = true
    · rw [if_pos h2]
      by_cases h3 : x.cell = y.cell
      · rw [if_pos h3, ht (by rw [h1, h2]) h3]; rfl
      · rw [if_neg h3]
    · rw [if_neg h2]
  · rw [if_neg h1]
    by_cases h2 : y.is = true
    · rw [if_pos h2]
    · rw [if_neg h2]
      by_cases h3 : x.cell = y.cell
      · rw [if_pos h3, ht (by simp at h1 h2; rw [h1, h2]) h3]; rfl
      · rw [if_neg h3]
theorem copy13_eq (x : Rw) (h : x.table.length ≤ 1000) : copy13 x = some x := by
  unfold copy13 clone13
  rw [if_pos (by simp only [List.length_nil]; omega), ob_some, List.nil_append]

theorem change_fin {p0 Y : Rw} (hne : p0 ≠ Y) (h1 : p0.table.length ≤ 1000) (h2 : Y.table.length ≤ 1000) :
    (Option.bind (same13 p0 Y) fun (y : Bool) => (if y = true then (some false) else (Option.bind (same13 Y p0) fun (z : Bool) => (if z = true then (some false) else (Option.bind lives13 fun (u : Bool) => (some u)))))) = some true := by
  rw [same13_ne h1 hne, ob_some, if_neg (by decide), same13_ne h2 (fun h => hne h.symm), ob_some, if_neg (by decide), bsome]
  exact lives13_true
theorem set_ne {xs : List Hd} {i : Nat} {x y : Hd} (hi : i < xs.length) (hx : xs[i] = x) (hne : x ≠ y) : xs ≠ xs.set i y := fun h => by
  have h2 : xs[i]? = (xs.set i y)[i]? := congrArg (fun l => l[i]?) h
  rw [List.getElem?_eq_getElem hi, List.getElem?_set_self hi, hx] at h2
  exact hne (Option.some.inj h2)

theorem change13_eq (p0 : Rw) (p1 p2 : Int) (h1 : 0 ≤ p1 ∧ p1 ≤ 255) (h2 : 0 ≤ p2 ∧ p2 ≤ 255) : change13 p0 p1 p2 = some true := by
  unfold change13
  by_cases g1 : 40 < ((p0.table.length : Nat) : Int)
  · rw [if_pos g1, bsome]; exact lives13_true
  · have hL : p0.table.length ≤ 1000 := by omega
    rw [if_neg g1, copy13_eq p0 hL, ob_some, same13_self p0 hL, ob_some, if_pos rfl, ob_some, if_pos rfl]
    unfold jn
    dsimp only
    rw [if_pos (by omega)]
    by_cases c0 : p1 % 7 = 0
    · rw [if_pos c0]
      exact change_fin (fun h => wrap_ne64 _ (congrArg (fun r : Rw => r.cell.age) h)) hL hL
    rw [if_neg c0]
    by_cases c1 : p1 % 7 = 1
    · rw [if_pos c1]
      exact change_fin (fun h => wrap_ne32 _ (congrArg (fun r : Rw => r.cell.offer.value) h)) hL hL
    rw [if_neg c1]
    by_cases c2 : p1 % 7 = 2
    · rw [if_pos c2]
      exact change_fin (fun h => wrap_ne32 _ (congrArg (fun r : Rw => r.cell.report.seq) h)) hL hL
    rw [if_neg c2]
    by_cases c3 : p1 % 7 = 3
    · rw [if_pos c3, if_pos (by omega)]
      by_cases d0 : p2 % 8 = 0
      · rw [if_pos d0]
        exact change_fin (fun h => wrap_ne8 _ (congrArg (fun r : Rw => r.cell.view.m0) h)) hL hL
      rw [if_neg d0]
      by_cases d1 : p2 % 8 = 1
      · rw [if_pos d1]
        exact change_fin (fun h => wrap_ne8 _ (congrArg (fun r : Rw => r.cell.view.m1) h)) hL hL
      rw [if_neg d1]
      by_cases d2 : p2 % 8 = 2
      · rw [if_pos d2]
        exact change_fin (fun h => wrap_ne8 _ (congrArg (fun r : Rw => r.cell.view.m2) h)) hL hL
      rw [if_neg d2]
      by_cases d3 : p2 % 8 = 3
      · rw [if_pos d3]
        exact change_fin (fun h => wrap_ne8 _ (congrArg (fun r : Rw => r.cell.view.m3) h)) hL hL
      rw [if_neg d3]
      by_cases d4 : p2 % 8 = 4
      · rw [if_pos d4]
        exact change_fin (fun h => wrap_ne8 _ (congrArg (fun r : Rw => r.cell.view.m4) h)) hL hL
      rw [if_neg d4]
      by_cases d5 : p2 % 8 = 5
      · rw [if_pos d5]
        exact change_fin (fun h => wrap_ne8 _ (congrArg (fun r : Rw => r.cell.view.m5) h)) hL hL
      rw [if_neg d5]
      by_cases d6 : p2 % 8 = 6
      · rw [if_pos d6]
        exact change_fin (fun h => wrap_ne8 _ (congrArg (fun r : Rw => r.cell.view.m6) h)) hL hL
      rw [if_neg d6]
      rw [if_pos (by omega)]
      exact change_fin (fun h => wrap_ne8 _ (congrArg (fun r : Rw => r.cell.view.m7) h)) hL hL
    rw [if_neg c3]
    by_cases c4 : p1 % 7 = 4
    · rw [if_pos c4]
      exact change_fin (fun h => by
        have := congrArg (fun r : Rw => r.is) h
        cases hb : p0.is <;> simp [hb] at this) hL hL
    rw [if_neg c4]
    by_cases c5 : p1 % 7 = 5
    · rw [if_pos c5, if_pos (by omega)]
      exact change_fin (fun h => by
        have := congrArg (fun r : Rw => r.table.length) h
        simp at this) hL (by simp; omega)
    rw [if_neg c5]
    by_cases g2 : ((p0.table.length : Nat) : Int) = 0
    · rw [if_pos g2, bsome]; exact lives13_true
    · obtain ⟨i, hi⟩ : ∃ i : Nat, p2 % ((p0.table.length : Nat) : Int) = (i : Int) := ⟨(p2 % ((p0.table.length : Nat) : Int)).toNat, (Int.toNat_of_nonneg (Int.emod_nonneg _ g2)).symm⟩
      have hlt : p2 % ((p0.table.length : Nat) : Int) < ((p0.table.length : Nat) : Int) := Int.emod_lt_of_pos _ (by omega)
      have hil : i < p0.table.length := by omega
      rw [if_neg g2, if_pos (by omega), if_pos (by omega), if_pos (by omega), hi, rd_get hil, ob_some, Int.toNat_natCast]
      by_cases d0 : p2 % 8 = 0
      · rw [if_pos d0]
        rw [ob_some]
        exact change_fin (fun h => set_ne hil rfl (fun h' => wrap_ne16 _ (congrArg (fun z : Hd => z.cell.view.s0) h')) (congrArg (fun r : Rw => r.table) h)) hL (by rw [List.length_set]; exact hL)
      rw [if_neg d0]
      by_cases d1 : p2 % 8 = 1
      · rw [if_pos d1]
        rw [ob_some]
        exact change_fin (fun h => set_ne hil rfl (fun h' => wrap_ne16 _ (congrArg (fun z : Hd => z.cell.view.s1) h')) (congrArg (fun r : Rw => r.table) h)) hL (by rw [List.length_set]; exact hL)
      rw [if_neg d1]
      by_cases d2 : p2 % 8 = 2
      · rw [if_pos d2]
        rw [ob_some]
        exact change_fin (fun h => set_ne hil rfl (fun h' => wrap_ne16 _ (congrArg (fun z : Hd => z.cell.view.s2) h')) (congrArg (fun r : Rw => r.table) h)) hL (by rw [List.length_set]; exact hL)
      rw [if_neg d2]
      by_cases d3 : p2 % 8 = 3
      · rw [if_pos d3]
        rw [ob_some]
        exact change_fin (fun h => set_ne hil rfl (fun h' => wrap_ne16 _ (congrArg (fun z : Hd => z.cell.view.s3) h')) (congrArg (fun r : Rw => r.table) h)) hL (by rw [List.length_set]; exact hL)
      rw [if_neg d3]
      by_cases d4 : p2 % 8 = 4
      · rw [if_pos d4]
        rw [ob_some]
        exact change_fin (fun h => set_ne hil rfl (fun h' => wrap_ne16 _ (congrArg (fun z : Hd => z.cell.view.s4) h')) (congrArg (fun r : Rw => r.table) h)) hL (by rw [List.length_set]; exact hL)
      rw [if_neg d4]
      by_cases d5 : p2 % 8 = 5
      · rw [if_pos d5]
        rw [ob_some]
        exact change_fin (fun h => set_ne hil rfl (fun h' => wrap_ne16 _ (congrArg (fun z : Hd => z.cell.view.s5) h')) (congrArg (fun r : Rw => r.table) h)) hL (by rw [List.length_set]; exact hL)
      rw [if_neg d5]
      by_cases d6 : p2 % 8 = 6
      · rw [if_pos d6]
        rw [ob_some]
        exact change_fin (fun h => set_ne hil rfl (fun h' => wrap_ne16 _ (congrArg (fun z : Hd => z.cell.view.s6) h')) (congrArg (fun r : Rw => r.table) h)) hL (by rw [List.length_set]; exact hL)
      rw [if_neg d6]
      rw [if_pos (by omega)]
      rw [ob_some]
      exact change_fin (fun h => set_ne hil rfl (fun h' => wrap_ne16 _ (congrArg (fun z : Hd => z.cell.view.s7) h')) (congrArg (fun r : Rw => r.table) h)) hL (by rw [List.length_set]; exact hL)
end Go.Proofs.Ytckcldimnelklaa
