/- Ages, plain: a clock that runs shows one more each tick. -/
import Derived.Test.YtckcldimnelklaaQ16c
namespace Go.Proofs.Ytckcldimnelklaa
open Go
set_option linter.unusedVariables false
set_option linter.unusedSimpArgs false

theorem and39 (x : Int) : 0 ≤ andI .i64 x 549755813887 ∧ andI .i64 x 549755813887 ≤ 549755813887 := by
  have h : (BitVec.ofInt 64 x &&& BitVec.ofInt 64 549755813887).toNat ≤ 549755813887 := by
    rw [BitVec.toNat_and]
    exact Nat.le_trans Nat.and_le_right (by decide)
  have e : andI .i64 x 549755813887 = IntKind.i64.wrap ((BitVec.ofInt 64 x &&& BitVec.ofInt 64 549755813887).toNat : Nat) := rfl
  rw [e, w64 (by omega) (by omega)]
  omega

theorem shw_snoc : ∀ {l : List Int} {y : Int}, (∀ a ∈ l, 0 ≤ a) → 0 ≤ y → shw (l ++ [y]) = max (shw l + 1) y
  | [], y, _, hy => by simp [shw]; rw [if_neg (by omega)]; omega
  | a :: l, y, h, hy => by
    have ha := h a (List.mem_cons_self ..)
    have ih := shw_snoc (l := l) (y := y) (fun b hb => h b (List.mem_cons_of_mem _ hb)) hy
    rw [List.cons_append, shw, ih, shw, if_neg (by omega), if_neg (by omega)]
    simp only [List.length_append, List.length_singleton]
    omega
theorem shw_turn {x : Int} {l : List Int} (h : ∀ a ∈ x :: l, 0 ≤ a) : shw (l ++ [x + ((l.length : Nat) : Int) + 1]) = shw (x :: l) + 1 := by
  have hx := h x (List.mem_cons_self ..)
  rw [shw_snoc (fun a ha => h a (List.mem_cons_of_mem _ ha)) (by omega), shw, if_neg (by omega)]
  omega
theorem shw_last {l : List Int} {y : Int} (h : ∀ a ∈ l, 0 ≤ a) (hy : 0 ≤ y) : y ≤ shw (l ++ [y]) := by
  rw [shw_snoc h hy]; omega
theorem shw_bound {l : List Int} {m : Int} (hm : 0 ≤ m) (h : ∀ a ∈ l, a ≤ m) : shw l ≤ m + l.length := by
  induction l with
  | nil => simp [shw]; omega
  | cons a l ih =>
    have h1 := ih (fun b hb => h b (List.mem_cons_of_mem _ hb))
    have h2 := h a (List.mem_cons_self ..)
    simp only [shw, List.length_cons]
    split <;> omega

theorem arun16_l4_eq (p0 : Int) (n : Int) (hn : 4 + p0 % 13 = n) (h4 : 4 ≤ n ∧ n ≤ 16) (K : Unit → Option Bool) (hK : K () = some true) : ∀ (k i : Nat) (last : Int) (W : List Int),
    5 * n < k + i → (i : Int) ≤ 5 * n → (W.length : Int) = 2 * n + i → (∀ a ∈ tail2 n W, 0 ≤ a ∧ a ≤ 549755813920 + 32 * (i : Int)) → (0 < i → last = shw (tail2 n W)) →
    arun16_l4 p0 K k last ((i : Nat) : Int) n W (tail2 n W) = some true := by
  intro k
  induction k with
  | zero => intro i last W h1 h2; omega
  | succ k ih =>
    intro i last W h1 h2 h3 h5 h6
    rw [arun16_l4, hn, if_pos (by omega)]
    by_cases hi : ((i : Nat) : Int) < 5 * n
    · have hiW : i < W.length := by omega
      have hd : tail2 n W = W[i] :: W.drop (i + 1) := by
        unfold tail2
        rw [show W.length - (2 * n).toNat = i by omega]; exact drop_consH hiW
      have hx := h5 W[i] (by rw [hd]; exact List.mem_cons_self ..)
      have hdl : (W.drop (i + 1)).length = W.length - (i + 1) := List.length_drop
      have hage : ageOf n W[i] (-1) = W[i] + 2 * n := by unfold ageOf; rw [if_pos (by omega), if_pos (by omega)]
      have hok : ∀ a ∈ tail2 n W, okAge a := fun a ha => by have := h5 a ha; unfold okAge; omega
      have hiW2 : i < (W ++ [W[i] + 2 * n]).length := by simp; omega
      have hW2 : (W ++ [W[i] + 2 * n])[i] = W[i] := List.getElem_append_left hiW
      have hnew : tail2 n (W ++ [W[i] + 2 * n]) = W.drop (i + 1) ++ [W[i] + 2 * n] := by
        unfold tail2
        rw [List.length_append, List.length_singleton, show W.length + 1 - (2 * n).toNat = i + 1 by omega, List.drop_append_of_le_length (by omega)]
      have hnn : ∀ a ∈ W[i] :: W.drop (i + 1), 0 ≤ a := fun a ha => (h5 a (by rw [hd]; exact ha)).1
      have hs1 : shw (tail2 n (W ++ [W[i] + 2 * n])) = shw (tail2 n W) + 1 := by
        rw [hnew, hd, ← shw_turn hnn, hdl]
        congr 3; omega
      have hs2 : W[i] + 2 * n ≤ shw (tail2 n (W ++ [W[i] + 2 * n])) := by
        rw [hnew]; exact shw_last (fun a ha => hnn a (List.mem_cons_of_mem _ ha)) (by omega)
      have hb : ∀ a ∈ tail2 n (W ++ [W[i] + 2 * n]), 0 ≤ a ∧ a ≤ 549755813920 + 32 * ((i + 1 : Nat) : Int) := fun a ha => by
        rw [hnew] at ha
        rcases List.mem_append.1 ha with ha | ha
        · have := h5 a (by rw [hd]; exact List.mem_cons_of_mem _ ha); omega
        · cases List.mem_singleton.1 ha; omega
      have hs3 : shw (tail2 n (W ++ [W[i] + 2 * n])) ≤ 1099511627776 := by
        have := shw_bound (m := 549755813920 + 32 * ((i + 1 : Nat) : Int)) (by omega) (fun a ha => (hb a ha).2)
        rw [tail2_length] at this
        omega
      rw [if_pos hi, rd_get hiW, ob_some, astep16_eq (l := tail2 n W) _ _ h4 (by rw [tail2_length]; omega) hok, ob_some, hage, tail2_snoc (by omega)]
      dsimp only
      rw [if_pos (by omega), rd_get hiW2, ob_some, hW2, if_pos (by omega), if_pos (by omega), if_pos rfl]
      have hv : shv (shw (tail2 n (W ++ [W[i] + 2 * n]))) = shw (tail2 n (W ++ [W[i] + 2 * n])) := by unfold shv; rw [if_pos hs3]
      rw [hv, if_neg (by omega)]
      have e := ih (i + 1) (shw (tail2 n (W ++ [W[i] + 2 * n]))) (W ++ [W[i] + 2 * n]) (by omega) (by omega) (by simp; omega) hb (fun _ => rfl)
      by_cases h0 : 0 < ((i : Nat) : Int)
      · have hl := h6 (by omega)
        have hl2 := shw_ge (tail2 n W)
        rw [if_pos h0, if_pos (by omega), if_pos (by omega), if_pos (by omega), succI]
        exact e
      · rw [if_neg h0, if_pos (by omega), succI]
        exact e
    · rw [if_neg hi]; exact hK

theorem arun16_l3_eq (p0 : Int) (p1 : List (Int × Int)) (n : Int) (hn : 4 + p0 % 13 = n) (h4 : 4 ≤ n ∧ n ≤ 16) (K : Int → List Int → List Int → Option Bool) (hK : ∀ W : List Int, (W.length : Int) = 2 * n → (∀ a ∈ W, 0 ≤ a ∧ a ≤ 549755813920) → K n W W = some true) :
    ∀ (k i : Nat) (W : List Int), 2 * n < k + i → (i : Int) ≤ 2 * n → W.length = i → (∀ a ∈ W, 0 ≤ a ∧ a ≤ 549755813920) → arun16_l3 p0 p1 K k ((i : Nat) : Int) n W W = some true := by
  intro k
  induction k with
  | zero => intro i W h1 h2; omega
  | succ k ih =>
    intro i W h1 h2 h3 h5
    rw [arun16_l3, hn, if_pos (by omega)]
    by_cases hi : ((i : Nat) : Int) < 2 * n
    · rw [if_pos hi]
      have key : ∀ c, 0 ≤ c → c ≤ 549755813887 → (fun (i1201 : Int) => (Option.bind (astep16 (n, W) i1201 (-1)) fun (y1237 : Int × Int × (Int × (List Int))) => (if -9223372036854775808 ≤ i1201 + (2 * n) ∧ i1201 + (2 * n) ≤ 9223372036854775807 then (if y1237.1 = (i1201 + (2 * n)) then (if W.length < 1000000 then (if -9223372036854775808 ≤ ((i : Nat) : Int) + 1 ∧ ((i : Nat) : Int) + 1 ≤ 9223372036854775807 then (arun16_l3 p0 p1 K k (((i : Nat) : Int) + 1) y1237.2.2.1 (W ++ [y1237.1]) y1237.2.2.2) else none) else none) else (some false)) else none))) c = some true := by
        intro c c0 c1
        have hage : ageOf n c (-1) = c + 2 * n := by unfold ageOf; rw [if_pos (by omega), if_pos (by omega)]
        have hok : ∀ a ∈ W, okAge a := fun a ha => by have := h5 a ha; unfold okAge; omega
        have ht : tail2 n (W ++ [c + 2 * n]) = W ++ [c + 2 * n] := by
          unfold tail2
          rw [List.length_append, List.length_singleton, show W.length + 1 - (2 * n).toNat = 0 by omega, List.drop_zero]
        dsimp only
        rw [astep16_eq (l := W) _ _ h4 (by omega) hok, ob_some, hage, ht]
        dsimp only
        rw [if_pos (by omega), if_pos rfl, if_pos (by omega), if_pos (by omega), succI]
        exact ih (i + 1) (W ++ [c + 2 * n]) (by omega) (by omega) (by simp; omega) (fun a ha => by
          rcases List.mem_append.1 ha with ha | ha
          · exact h5 a ha
          · cases List.mem_singleton.1 ha; omega)
      unfold jn
      dsimp only
      by_cases hp : ((i : Nat) : Int) < ((p1.length : Nat) : Int)
      · rw [if_pos hp, rd_get (by omega), ob_some]
        exact key _ (and39 _).1 (and39 _).2
      · rw [if_neg hp]
        exact key _ (by omega) (by omega)
    · rw [if_neg hi]
      exact hK W (by omega) h5

theorem arun16_eq (p0 : Int) (p1 : List (Int × Int)) (h0 : 0 ≤ p0 ∧ p0 ≤ 255) : arun16 p0 p1 = some true := by
  by_cases h : 40 < ((p1.length : Nat) : Int)
  · unfold arun16; rw [if_pos h, bsome]; exact lives16_true
  · have hF : 1000 < 1000000 := by omega
    have h4 : 4 ≤ 4 + p0 % 13 ∧ 4 + p0 % 13 ≤ 16 := by omega
    unfold arun16
    revert hF
    generalize 1000000 = F
    intro hF
    rw [if_neg h, if_pos (by omega), if_pos (by omega), if_pos (by omega), anew16_in h4, ob_some]
    show oc (some (4 + p0 % 13, [])) _ _ = _
    rw [oc_some, if_pos rfl]
    refine arun16_l3_eq p0 p1 (4 + p0 % 13) rfl h4 _ (fun W hW hb => ?_) F 0 [] (by omega) (by omega) rfl (fun a ha => by cases ha)
    have ht : tail2 (4 + p0 % 13) W = W := by
      unfold tail2
      rw [show W.length - (2 * (4 + p0 % 13)).toNat = 0 by omega, List.drop_zero]
    have e := arun16_l4_eq p0 (4 + p0 % 13) rfl h4 (fun _ => Option.bind lives16 fun y => some y) (by rw [bsome]; exact lives16_true) F 0 (-1) W (by omega) (by omega) (by omega) (fun a ha => by rw [ht] at ha; have := hb a ha; omega) (fun h => absurd h (by omega))
    rw [ht] at e
    exact e
end Go.Proofs.Ytckcldimnelklaa
