/- What the printed walks lean on: a function's Lean twin answers, or not; what is read, whatever else turns; joins of ways. -/
import Derived.Test.YtckcldimnelklaaLF
import Derived.Test.YtckcldimnelklaaLS
import Derived.Laws.Cover3
namespace Go.Proofs.Ytckcldimnelklaa
open Go
set_option linter.unusedVariables false
set_option linter.unusedSimpArgs false

/-! ### The Lean twins -/
theorem ifT {α : Type} {c : Prop} [Decidable c] {A B : Option α} {r : α} (hc : c) (h : (if c then A else B) = some r) : A = some r := by rwa [if_pos hc] at h
theorem ifF {α : Type} {c : Prop} [Decidable c] {A B : Option α} {r : α} (hc : ¬ c) (h : (if c then A else B) = some r) : B = some r := by rwa [if_neg hc] at h
theorem ckE {α : Type} {c : Prop} [Decidable c] {A : Option α} {r : α} (h : (if c then A else none) = some r) : c ∧ A = some r := by
  by_cases hc : c
  · exact ⟨hc, ifT hc h⟩
  · rw [if_neg hc] at h; cases h
theorem ob {α β : Type} {o : Option α} {f : α → Option β} {r : β} (h : o.bind f = some r) : ∃ x, o = some x ∧ f x = some r := by
  cases o with
  | none => cases h
  | some x => exact ⟨x, rfl, h⟩
/-- A join of ways. -/
def jn {J R : Type} (j : J) (f : J → Option R) : Option R := f j
theorem jnE {J R : Type} {j : J} {f : J → Option R} {r : R} (h : jn j f = some r) : ∃ k, k = j ∧ f k = some r := ⟨j, rfl, h⟩
theorem kE {J R : Type} {G : J → Option R} {j : J} {r : R} (h : G j = some r) : ∃ k, k = j ∧ G k = some r := ⟨j, rfl, h⟩
/-- An element, if it is there. -/
def rd {α : Type} (xs : List α) (i : Int) : Option α := if 0 ≤ i then xs[i.toNat]? else none
theorem rdE {α : Type} {xs : List α} {i : Int} {x : α} (h : rd xs i = some x) : 0 ≤ i ∧ xs[i.toNat]? = some x ∧ i.toNat < xs.length ∧ i = (i.toNat : Int) := by
  unfold rd at h
  by_cases hi : 0 ≤ i
  · rw [if_pos hi] at h
    exact ⟨hi, h, (List.getElem?_eq_some_iff.1 h).1, (Int.toNat_of_nonneg hi).symm⟩
  · rw [if_neg hi] at h; cases h
theorem rd_eq {α : Type} {xs : List α} {i : Int} {x : α} (h0 : 0 ≤ i) (h : xs[i.toNat]? = some x) : rd xs i = some x := by rw [rd, if_pos h0, h]
theorem rd_nat {α : Type} (xs : List α) (i : Nat) : rd xs (i : Int) = xs[i]? := by rw [rd, if_pos (by omega)]; rfl

/-! ### What is read -/
/-- Blocks that may be read: given to be read, or laid since, or given to be written; and not written to by now. -/
def In (ok : Nat → Prop) (w0 : World) (L0 L : List Ent) (b : Nat) : Prop := (ok b ∨ w0.heap.size ≤ b ∨ ¬ out L0 b) ∧ out L b

theorem In.of {ok : Nat → Prop} {w0 : World} {L0 : List Ent} (hok : ∀ b, ok b → out L0 b) : ∀ b, ok b → In ok w0 L0 L0 b := fun b h => ⟨.inl h, hok b h⟩

theorem elems_keep {α : Type} {k : Kd α} {w w' : World} {ok ok' : Nat → Prop} {a : Option Addr} {xs : List α} (hk : ∀ b, b < w.heap.size → ok b → w'.heap[b]? = w.heap[b]? ∧ ok' b) (hz : w.heap.size ≤ w'.heap.size)
    (h : elems k w ok a xs) : elems k w' ok' a xs := fun i x hx => by
  obtain ⟨ad, e, h3, h4, h5, h6⟩ := h i x hx
  exact ⟨ad, e, h3, h4, h5.keep hk hz, k.keep hk hz h6⟩

/-- What is read at the beginning. -/
theorem el0 {α : Type} {k : Kd α} {w : World} {ok : Nat → Prop} {L0 : List Ent} {a : Option Addr} {xs : List α} (hok : ∀ b, ok b → out L0 b) (h : elems k w ok a xs) : elems k w (In ok w L0 L0) a xs :=
  elems_keep (fun b _ ho => ⟨rfl, In.of hok b ho⟩) (Nat.le_refl _) h

theorem tr_hk {ok : Nat → Prop} {w0 w w' : World} {L0 L L' : List Ent} (t : St L w w' L') : ∀ b, b < w.heap.size → In ok w0 L0 L b → w'.heap[b]? = w.heap[b]? ∧ In ok w0 L0 L' b :=
  fun b hb ⟨h1, h2⟩ => ⟨t.kept.block b hb h2, h1, fun E hE hF => t.sub E hE b hF hb h2⟩

/-- .. and behind a step. -/
theorem elT {α : Type} {k : Kd α} {ok : Nat → Prop} {w0 w w' : World} {L0 L L' : List Ent} {a : Option Addr} {xs : List α} (t : St L w w' L') (h : elems k w (In ok w0 L0 L) a xs) : elems k w' (In ok w0 L0 L') a xs :=
  elems_keep (tr_hk t) t.size h
theorem Kd.trT {α : Type} (k : Kd α) {ok : Nat → Prop} {w0 w w' : World} {L0 L L' : List Ent} {x : α} {cs : List Value} (t : St L w w' L') (h : k.rd w (In ok w0 L0 L) x cs) : k.rd w' (In ok w0 L0 L') x cs :=
  k.keep (tr_hk t) t.size h
theorem At.trT {ok : Nat → Prop} {w0 w w' : World} {L0 L L' : List Ent} {a : Addr} {cs : List Value} (t : St L w w' L') (h : At w (In ok w0 L0 L) a cs) : At w' (In ok w0 L0 L') a cs :=
  h.keep (tr_hk t) t.size
theorem elX {α : Type} {k : Kd α} {w w' : World} {ok : Nat → Prop} {a : Option Addr} {xs : List α} (t : Ext w w') (h : elems k w ok a xs) : elems k w' ok a xs :=
  elems_keep (fun b hb ho => ⟨t.block b hb (out_nil b), ho⟩) t.size h
theorem At.exT {ok : Nat → Prop} {w w' : World} {a : Addr} {cs : List Value} (t : Ext w w') (h : At w ok a cs) : At w' ok a cs :=
  h.keep (fun b hb ho => ⟨t.block b hb (out_nil b), ho⟩) t.size

/-- Other things of one's own: in another order, or fewer. -/
theorem St.perm {L0 L L' G : List Ent} {w0 w : World} (h : St L0 w0 w L) (hp : L.Perm (L' ++ G)) : St L0 w0 w L' := by
  have hd : (L' ++ G).Pairwise fun E E' => ∀ b, E.F b → ¬ E'.F b := (hp.pairwise_iff (R := fun E E' : Ent => ∀ b, E.F b → ¬ E'.F b) (fun {x y} h b h1 h2 => h b h2 h1)).1 h.disj
  have hm : ∀ E ∈ L', E ∈ L := fun E hE => hp.symm.subset (List.mem_append_left _ hE)
  exact ⟨h.kept, fun E hE => h.holds E (hm E hE), fun E hE => h.inr E (hm E hE), (List.pairwise_append.1 hd).1, fun E hE => h.sub E (hm E hE)⟩

theorem permE {L L' : List Ent} (hp : L.Perm L') : L.Perm (L' ++ []) := by rwa [List.append_nil]

theorem elP {α : Type} {k : Kd α} {ok : Nat → Prop} {w0 w : World} {L0 L L' G : List Ent} {a : Option Addr} {xs : List α} (hp : L.Perm (L' ++ G)) (h : elems k w (In ok w0 L0 L) a xs) : elems k w (In ok w0 L0 L') a xs :=
  elems_keep (fun b _ ho => ⟨rfl, ho.1, fun E hE => ho.2 E (hp.symm.subset (List.mem_append_left _ hE))⟩) (Nat.le_refl _) h

/-- A callee had some of what is owned, and gives back others. -/
theorem St.call {L0 L M N M' : List Ent} {w0 w w' : World} (h : St L0 w0 w L) (hp : L.Perm (M ++ N)) (c : St M w w' M') : St L w w' (M' ++ N) := by
  have h1 : St L w w (M ++ N) := by
    have h2 : St L w w L := h.here
    exact h2.perm (permE hp)
  have hd := List.pairwise_append.1 h1.disj
  have hNM : ∀ E ∈ N, ∀ b, E.F b → out M b := fun E hE b hb D hD hF => hd.2.2 D hD E hE b hF hb
  have hNb : ∀ E ∈ N, ∀ b, E.F b → w'.heap[b]? = w.heap[b]? := fun E hE b hb => c.kept.block b (h1.inr E (List.mem_append_right _ hE) b hb) (hNM E hE b hb)
  have hM'N : ∀ E ∈ M', ∀ D ∈ N, ∀ b, E.F b → ¬ D.F b := fun E hE D hD b hb hF =>
    c.sub E hE b hb (h1.inr D (List.mem_append_right _ hD) b hF) (hNM D hD b hF)
  refine ⟨⟨c.kept.os, c.kept.tape, c.kept.output, c.kept.size, fun b hb ho => c.kept.block b hb fun E hE hF => ho E (hp.symm.subset (List.mem_append_left _ hE)) hF⟩, ?_, ?_, ?_, ?_⟩
  · intro E hE
    rcases List.mem_append.1 hE with hE | hE
    · exact c.holds E hE
    · exact E.st (hNb E hE) (h1.holds E (List.mem_append_right _ hE))
  · intro E hE b hb
    rcases List.mem_append.1 hE with hE | hE
    · exact c.inr E hE b hb
    · exact Nat.lt_of_lt_of_le (h1.inr E (List.mem_append_right _ hE) b hb) c.kept.size
  · exact List.pairwise_append.2 ⟨c.disj, hd.2.1, hM'N⟩
  · intro E hE b hb hlt ho
    rcases List.mem_append.1 hE with hE | hE
    · exact c.sub E hE b hb hlt fun D hD hF => ho D (hp.symm.subset (List.mem_append_left _ hD)) hF
    · exact ho E (hp.symm.subset (List.mem_append_right _ hE)) hb

/-- What a callee's answer leads to may be read. -/
theorem elC {α : Type} {k : Kd α} {ok : Nat → Prop} {L0 L M N M' : List Ent} {w0 w w' : World} {a : Option Addr} {xs : List α} (h : St L0 w0 w L) (hp : L.Perm (M ++ N)) (c : St M w w' M')
    (he : elems k w' (In (In ok w0 L0 L) w M M') a xs) : elems k w' (In ok w0 L0 (M' ++ N)) a xs := by
  refine elems_keep (fun b _ ho => ⟨rfl, ?_⟩) (Nat.le_refl _) he
  obtain ⟨h1, h2⟩ := ho
  have h4 : St L w w (M ++ N) := h.here.perm (permE hp)
  have hd := List.pairwise_append.1 h4.disj
  have hj : ∀ {X : Prop}, X → out N b → (X ∧ out (M' ++ N) b) := fun hx hn => ⟨hx, fun E hE => (List.mem_append.1 hE).elim (h2 E) (hn E)⟩
  rcases h1 with h1 | h1 | h1
  · exact hj h1.1 fun E hE => h1.2 E (hp.symm.subset (List.mem_append_right _ hE))
  · exact hj (.inr (.inl (Nat.le_trans h.size h1))) fun E hE hF => by
      have := h4.inr E (List.mem_append_right _ hE) b hF
      omega
  · have : ∃ E ∈ M, E.F b := Classical.byContradiction fun hc => h1 fun E hE hF => hc ⟨E, hE, hF⟩
    obtain ⟨E, hE, hF⟩ := this
    have hEL : E ∈ L := hp.symm.subset (List.mem_append_left _ hE)
    refine hj ?_ fun D hD hF' => hd.2.2 E hE D hD b hF hF'
    rcases Nat.lt_or_ge b w0.heap.size with hlt | hge
    · exact .inr (.inr (h.sub E hEL b hF hlt))
    · exact .inr (.inl hge)

/-- A slice of one's own is given up for reading. -/
theorem el_freeze {α : Type} {k : Kd α} {E : TypeId} {e : Enc α} {v : Value} {xs : List α} {ok : Nat → Prop} {L0 L L' : List Ent} {w0 w : World} (h : St L0 w0 w L) (hp : L.Perm (gsl E e v xs :: L'))
    (hsz : k.sz = e.n) (hrd : ∀ x w ok, k.rd w ok x (e.enc x)) : ∃ a c, v = .slice a xs.length c ∧ xs.length ≤ c ∧ elems k w (In ok w0 L0 L') a xs := by
  have hE : gsl E e v xs ∈ L := hp.symm.subset (List.mem_cons_self ..)
  obtain ⟨a, c, h1, h2, h3⟩ := gsl_elems (k := k) (h.holds _ hE) hsz (fun x _ w ok => hrd x w ok)
  have h4 : St L w w (gsl E e v xs :: L') := h.here.perm (permE hp)
  refine ⟨a, c, h1, h2, elems_keep (fun b _ hF => ⟨rfl, ?_, fun D hD hF' => (List.pairwise_cons.1 h4.disj).1 D hD b hF hF'⟩) (Nat.le_refl _) h3⟩
  rcases Nat.lt_or_ge b w0.heap.size with hlt | hge
  · exact .inr (.inr (h.sub _ hE b hF hlt))
  · exact .inr (.inl hge)

theorem elems_nil {α : Type} {k : Kd α} {w : World} {ok : Nat → Prop} {a : Option Addr} : elems k w ok a [] := fun i x hx => by simp at hx

/-! ### Joins of ways -/
def joinQ (n : Nat) (J : (Nat → Value) → World → Prop) (Q : Exit → Act → World → Prop) : Exit → Act → World → Prop
  | .normal, a, w => ∃ σ, a = fr n σ ∧ J σ w
  | e, a, w => Q e a w

section
variable {P : Program} {n : Nat} {Q : Exit → Act → World → Prop} {σ : Nat → Value} {w : World}
theorem joinI {J : (Nat → Value) → World → Prop} (h : J σ w) : joinQ n J Q .normal (fr n σ) w := ⟨σ, rfl, h⟩
theorem joinX {J : (Nat → Value) → World → Prop} {id : Nat} {a : Act} (h : Q (.exit id) a w) : joinQ n J Q (.exit id) a w := h
theorem joinR {J : (Nat → Value) → World → Prop} {a : Act} (h : Q .ret a w) : joinQ n J Q .ret a w := h
theorem NP.join {J : (Nat → Value) → World → Prop} (h : NP Q) : NP (joinQ n J Q) := h
theorem WC.mono {c : Code} {Q Q' : Exit → Act → World → Prop} (h : WC P n c Q σ w) (hq : ∀ e a w, Q e a w → Q' e a w) : WC P n c Q' σ w := ⟨Code.wp_mono hq h.out⟩
/-- What comes out normally of a code is said once. -/
theorem WC.join {c : Code} (J : (Nat → Value) → World → Prop) (h : WC P n c (joinQ n J Q) σ w) (k : ∀ σ w, J σ w → Q .normal (fr n σ) w) : WC P n c Q σ w :=
  WC.mono h fun e a w hx => by
    cases e with
    | normal => obtain ⟨σ, rfl, hj⟩ := hx; exact k σ w hj
    | _ => exact hx
end

/-! ### Kinds without bounds -/
def intW (k : IntKind) : Kd Int := flatK (fun x => [.int k x]) (fun _ => True) 1 (fun _ => rfl) (fun _ => rfl)
def boolW : Kd Bool := flatK (fun x => [.bool x]) (fun _ => True) 1 (fun _ => rfl) (fun _ => rfl)
def cellW : Kd Cl := flatK encC (fun _ => True) 55 (fun _ => rfl) (fun _ => rfl)
def heldW : Kd Hd := flatK encH (fun _ => True) 56 (fun _ => rfl) (fun _ => rfl)
def slW {α : Type} (k : Kd α) : Kd (List α) where
  sz := 1
  rd := fun w ok xs cs => ∃ a c, cs = [.slice a xs.length c] ∧ xs.length ≤ c ∧ elems k w ok a xs
  len := fun ⟨_, _, h, _⟩ => by subst h; rfl
  leaf := fun ⟨_, _, h, _⟩ => by subst h; rfl
  keep := fun hk hz ⟨a, c, h, h1, h2⟩ => ⟨a, c, h, h1, elems_keep hk hz h2⟩
def rowW : Kd Rw where
  sz := 57
  rd := fun w ok r cs => ∃ t, cs = encR r t ∧ (slW heldW).rd w ok r.table [t]
  len := fun ⟨_, h, _⟩ => by subst h; rfl
  leaf := fun ⟨t, h, h2⟩ => by
    subst h
    obtain ⟨a, c, h3, _⟩ := h2
    cases h3
    rfl
  keep := fun hk hz ⟨t, h, h2⟩ => ⟨t, h, (slW heldW).keep hk hz h2⟩

/-- Elements whose kind says more. -/
theorem elems_imp {α β : Type} {k : Kd α} {l : Kd β} {f : α → β} {w : World} {ok : Nat → Prop} {a : Option Addr} {xs : List α} (hsz : l.sz = k.sz) (h : ∀ x cs, k.rd w ok x cs → l.rd w ok (f x) cs) (he : elems k w ok a xs) : elems l w ok a (xs.map f) := fun i x hx => by
  rw [List.getElem?_map] at hx
  obtain ⟨y, hy, rfl⟩ := Option.map_eq_some_iff.1 hx
  obtain ⟨ad, e, h3, h4, h5, h6⟩ := he i y hy
  exact ⟨ad, e, h3, h4, by rw [hsz]; exact h5, h _ _ h6⟩

/-! ### Slices of one's own whose elements lead on -/
abbrev Raw (n : Nat) : Type := { l : List Value // l.length = n ∧ l.all leafB = true }
def rawE (n : Nat) : Enc (Raw n) := ⟨n, fun r => r.1, fun r => r.2.1⟩
/-- What is said of such a slice's elements. -/
def readsL {α : Type} {n : Nat} (k : Kd α) (w : World) (ok : Nat → Prop) (xs : List α) (rs : List (Raw n)) : Prop :=
  xs.length = rs.length ∧ ∀ (i : Nat) (x : α) (r : Raw n), xs[i]? = some x → rs[i]? = some r → k.rd w ok x r.1

theorem readsL_keep {α : Type} {n : Nat} {k : Kd α} {w w' : World} {ok ok' : Nat → Prop} {xs : List α} {rs : List (Raw n)} (hk : ∀ b, b < w.heap.size → ok b → w'.heap[b]? = w.heap[b]? ∧ ok' b) (hz : w.heap.size ≤ w'.heap.size)
    (h : readsL k w ok xs rs) : readsL k w' ok' xs rs := ⟨h.1, fun i x r hx hr => k.keep hk hz (h.2 i x r hx hr)⟩
theorem rlT {α : Type} {n : Nat} {k : Kd α} {ok : Nat → Prop} {w0 w w' : World} {L0 L L' : List Ent} {xs : List α} {rs : List (Raw n)} (t : St L w w' L') (h : readsL k w (In ok w0 L0 L) xs rs) : readsL k w' (In ok w0 L0 L') xs rs :=
  readsL_keep (tr_hk t) t.size h
theorem rlX {α : Type} {n : Nat} {k : Kd α} {w w' : World} {ok : Nat → Prop} {xs : List α} {rs : List (Raw n)} (t : Ext w w') (h : readsL k w ok xs rs) : readsL k w' ok xs rs :=
  readsL_keep (fun b hb ho => ⟨t.block b hb (out_nil b), ho⟩) t.size h
theorem rlP {α : Type} {n : Nat} {k : Kd α} {ok : Nat → Prop} {w0 w : World} {L0 L L' G : List Ent} {xs : List α} {rs : List (Raw n)} (hp : L.Perm (L' ++ G)) (h : readsL k w (In ok w0 L0 L) xs rs) : readsL k w (In ok w0 L0 L') xs rs :=
  readsL_keep (fun b _ ho => ⟨rfl, ho.1, fun E hE => ho.2 E (hp.symm.subset (List.mem_append_left _ hE))⟩) (Nat.le_refl _) h
theorem readsL_nil {α : Type} {n : Nat} {k : Kd α} {w : World} {ok : Nat → Prop} : readsL (n := n) k w ok [] [] := ⟨rfl, fun i x r hx => by simp at hx⟩
theorem readsL_snoc {α : Type} {n : Nat} {k : Kd α} {w : World} {ok : Nat → Prop} {xs : List α} {rs : List (Raw n)} {x : α} {cs : List Value} (h : readsL k w ok xs rs) (hx : k.rd w ok x cs) (hn : k.sz = n) :
    ∃ r : Raw n, r.1 = cs ∧ readsL k w ok (xs ++ [x]) (rs ++ [r]) := by
  refine ⟨⟨cs, (k.len hx).trans hn, k.leaf hx⟩, rfl, by simp [h.1], fun i y r hy hr => ?_⟩
  rcases Nat.lt_trichotomy i xs.length with hi | hi | hi
  · rw [List.getElem?_append_left hi] at hy
    rw [List.getElem?_append_left (by rw [← h.1]; exact hi)] at hr
    exact h.2 i y r hy hr
  · subst hi
    rw [List.getElem?_append_right (Nat.le_refl _), Nat.sub_self] at hy
    rw [List.getElem?_append_right (by rw [h.1]; exact Nat.le_refl _), h.1, Nat.sub_self] at hr
    cases hy; cases hr; exact hx
  · rw [List.getElem?_eq_none (by simp; omega)] at hy; cases hy
theorem readsL_set {α : Type} {n : Nat} {k : Kd α} {w : World} {ok : Nat → Prop} {xs : List α} {rs : List (Raw n)} {x : α} {cs : List Value} {j : Nat} (h : readsL k w ok xs rs) (hx : k.rd w ok x cs) (hn : k.sz = n) :
    ∃ r : Raw n, r.1 = cs ∧ readsL k w ok (xs.set j x) (rs.set j r) := by
  refine ⟨⟨cs, (k.len hx).trans hn, k.leaf hx⟩, rfl, by simp [h.1], fun i y r hy hr => ?_⟩
  by_cases hij : j = i
  · subst hij
    rw [List.getElem?_set_self'] at hy hr
    obtain ⟨y0, hy0, rfl⟩ := Option.map_eq_some_iff.1 hy
    obtain ⟨r0, hr0, rfl⟩ := Option.map_eq_some_iff.1 hr
    exact hx
  · rw [List.getElem?_set_ne hij] at hy hr
    exact h.2 i y r hy hr
theorem readsL_rep {α : Type} {n : Nat} {k : Kd α} {w : World} {ok : Nat → Prop} {x : α} {r : Raw n} (m : Nat) (hx : k.rd w ok x r.1) : readsL k w ok (List.replicate m x) (List.replicate m r) := by
  refine ⟨by simp, fun i y s hy hs => ?_⟩
  rw [List.getElem?_replicate] at hy hs
  split at hy
  · rw [if_pos (by assumption)] at hs; cases hy; cases hs; exact hx
  · cases hy
theorem readsL_at {α : Type} {n : Nat} {k : Kd α} {w : World} {ok : Nat → Prop} {xs : List α} {rs : List (Raw n)} {i : Nat} {x : α} (h : readsL k w ok xs rs) (hx : xs[i]? = some x) : ∃ r : Raw n, rs[i]? = some r ∧ k.rd w ok x r.1 := by
  have hlt := (List.getElem?_eq_some_iff.1 hx).1
  have hr := List.getElem?_eq_getElem (l := rs) (i := i) (by rw [← h.1]; exact hlt)
  exact ⟨_, hr, h.2 i x _ hx hr⟩

/-- Such a slice is given up for reading. -/
theorem el_freezeR {α : Type} {k : Kd α} {n : Nat} {E : TypeId} {v : Value} {xs : List α} {rs : List (Raw n)} {ok : Nat → Prop} {L0 L L' : List Ent} {w0 w : World} (h : St L0 w0 w L) (hp : L.Perm (gsl E (rawE n) v rs :: L'))
    (hsz : k.sz = n) (hrd : readsL k w (In ok w0 L0 L) xs rs) : ∃ a c, v = .slice a xs.length c ∧ xs.length ≤ c ∧ elems k w (In ok w0 L0 L') a xs := by
  have hE : gsl E (rawE n) v rs ∈ L := hp.symm.subset (List.mem_cons_self ..)
  have h4 : St L w w (gsl E (rawE n) v rs :: L') := h.here.perm (permE hp)
  have hin : ∀ b, (gsl E (rawE n) v rs).F b → In ok w0 L0 L' b := fun b hF => by
    refine ⟨?_, fun D hD hF' => (List.pairwise_cons.1 h4.disj).1 D hD b hF hF'⟩
    rcases Nat.lt_or_ge b w0.heap.size with hlt | hge
    · exact .inr (.inr (h.sub _ hE b hF hlt))
    · exact .inr (.inl hge)
  have hlen := hrd.1
  rcases (h.holds _ hE).2 with ⟨h1, h2⟩ | ⟨g, cap, cur, hv, hb, hh, h1, h2, h3, h5⟩
  · have hx : rs = [] := List.eq_nil_of_length_eq_zero (by omega)
    subst hx
    have hx : xs = [] := List.eq_nil_of_length_eq_zero (by simpa using hlen)
    subst hx
    exact ⟨none, 0, by rw [h1]; rfl, Nat.le_refl _, elems_nil⟩
  · refine ⟨some ⟨g, 0, none⟩, cap, by rw [hv, hlen], by omega, fun i x hx => ?_⟩
    obtain ⟨r, hr, hk⟩ := readsL_at hrd hx
    refine ⟨⟨g, 0, none⟩, r.1, rfl, rfl, ?_, k.keep (fun b _ ho => ⟨rfl, ho.1, fun D hD => ho.2 D (hp.symm.subset (List.mem_cons_of_mem _ hD))⟩) (Nat.le_refl _) hk⟩
    obtain ⟨b, c, sp, hv', hh', _, _, _⟩ := gsl_open (h.holds _ hE) hr
    have hbg : b = g := by rw [hv] at hv'; injection hv' with a1 _ _; injection a1 with a1; injection a1 with a1; exact a1.symm
    subst hbg
    refine ⟨rfl, lt_of_some hh', hin _ (by show v.ownBlock = some b; rw [hv]; rfl), fun j u hj => ?_⟩
    have hj' : j < n := by have := (List.getElem?_eq_some_iff.1 hj).1; rw [r.2.1] at this; exact this
    have := flat_get (rawE n) rs sp i r hr
    have hj2 : ((rawE n).enc r)[j]? = some u := hj
    rw [← this] at hj2
    have hj3 : j < (rawE n).n := hj'
    simp only [List.getElem?_take, hj3, if_true, List.getElem?_drop] at hj2
    rw [hsz]
    simp only [World.cell?, hh']
    simpa [rawE] using hj2

/-! ### More operations -/
section
variable {P : Program} {σ : Nat → Value} {w : World} {d : Option Tmp} {ty : TypeId} {pos : String} {af : Array Edge} {g : Option (Nat × Bool)}

theorem wrapIn {k : IntKind} {z m : Int} (h0 : 0 ≤ z) (h1 : z ≤ m) (hk : k.min ≤ 0 ∧ m ≤ k.max) (hw : ∀ z, k.min ≤ z → z ≤ k.max → k.wrap z = z) : k.wrap z = z := hw z (by omega) (by omega)

theorem wrapU8 (z : Int) (h0 : 0 ≤ z) (h1 : z ≤ 255) : IntKind.u8.wrap z = z := by
  have : IntKind.u8.signed = false := rfl
  simp [IntKind.wrap, go_sem, this]; omega
theorem wrapU16 (z : Int) (h0 : 0 ≤ z) (h1 : z ≤ 65535) : IntKind.u16.wrap z = z := by
  have : IntKind.u16.signed = false := rfl
  simp [IntKind.wrap, go_sem, this]; omega

/-- The greatest that a kind has, of those that are asked for here. -/
def topOf : IntKind → Int
  | .u8 => 255
  | .u16 => 65535
  | .i64 => 9223372036854775807
  | _ => 0
theorem wrapTop (k : IntKind) (hk : k = .u8 ∨ k = .u16 ∨ k = .i64) (z : Int) (h0 : 0 ≤ z) (h1 : z ≤ topOf k) : k.wrap z = z := by
  rcases hk with rfl | rfl | rfl
  · exact wrapU8 z h0 h1
  · exact wrapU16 z h0 h1
  · exact w64 (by omega) (by simpa [topOf] using h1)

theorem R.remG {x y : Operand} {T U : TypeId} {k : IntKind} {a b : Int} (hx : ev σ x = .int k a) (hy : ev σ y = .int k b) (h : 0 ≤ a ∧ 0 < b ∧ b ≤ topOf k) (hk : k = .u8 ∨ k = .u16 ∨ k = .i64) :
    Runs P σ ⟨d, .binOp .rem T x y U, ty, pos, af, g⟩ w (.int k (a % b)) w := by
  have h1 := Int.emod_nonneg a (show b ≠ 0 by omega)
  have h2 := Int.emod_lt_of_pos a h.2.1
  exact R.rem hx hy h.1 h.2.1 rfl (wrapTop k hk _ h1 (by omega))

theorem R.quoG {x y : Operand} {T U : TypeId} {k : IntKind} {a b : Int} (hx : ev σ x = .int k a) (hy : ev σ y = .int k b) (h : 0 ≤ a ∧ 0 < b ∧ a ≤ topOf k) (hk : k = .u8 ∨ k = .u16 ∨ k = .i64) :
    Runs P σ ⟨d, .binOp .quo T x y U, ty, pos, af, g⟩ w (.int k (a / b)) w := by
  have hb : b ≠ 0 := by omega
  have ht : a.tdiv b = a / b := Int.tdiv_eq_ediv_of_nonneg h.1
  have h1 : 0 ≤ a / b := Int.ediv_nonneg h.1 (by omega)
  have h2 : a / b ≤ a := Int.ediv_le_self _ h.1
  have hr := wrapTop k hk (a / b) h1 (by omega)
  simp [Runs, execOp, hx, hy, go_sem, hb, ht, hr]

theorem R.lenE {x : Operand} {T E : TypeId} {a : Option Addr} {n c m : Nat} (hT : P.underlying T = some (.slice E)) (h : ev σ x = .slice a n c) (hm : n = m) :
    Runs P σ ⟨d, .call ⟨.builtin .len, #[x], #[T]⟩, ty, pos, af, g⟩ w (.int .i64 ((m : Nat) : Int)) w := by
  subst hm; exact R.len hT h

theorem X.makeSliceN {L0 L : List Ent} {w0 : World} (h : St L0 w0 w L) {α : Type} {T E n bytes N : Nat} {zc : List Value} (hT : SlT P T E n bytes zc) {e : Enc α} {z : α} (hz : e.enc z = zc)
    {x y : Operand} {k k' : IntKind} {a : Int} (hx : ev σ x = .int k a) (hy : ev σ y = .int k' a) (ha : 0 ≤ a ∧ a < 1000000) (hb : bytes * 1000000 ≤ 281474976710656) (hN : N = a.toNat)
    {L' : Nat → List Ent} (hL : ∀ b, L' b = L ++ [gsl E e (.slice (some ⟨b, 0, none⟩) N a.toNat) (List.replicate a.toNat z)]) :
    ∃ b w', Runs P σ ⟨d, .makeSlice T x y, ty, pos, af, g⟩ w (.slice (some ⟨b, 0, none⟩) N a.toNat) w' ∧ St L0 w0 w' (L' b) ∧ Ext w w' ∧ w.heap.size ≤ b := by
  subst hN
  refine X.makeSlice h hT hz hx hy (m := a.toNat) (Int.toNat_of_nonneg ha.1).symm (Nat.le_trans (Nat.mul_le_mul_left bytes (show a.toNat ≤ 1000000 by omega)) hb) (by omega) hL
end

theorem flat_raw {n : Nat} {r : Raw n} {cs : List Value} (h : r.1 = cs) : flat (rawE n) [r] = cs := by simp [flat, rawE, h]
theorem room {α : Type} {xs ys : List α} {n bytes : Nat} (h : xs.length < 1000000) (hy : ys.length = n) (hb : (1000000 + n) * bytes ≤ 140737488355328) : (xs.length + ys.length) * bytes ≤ 140737488355328 :=
  Nat.le_trans (Nat.mul_le_mul_right bytes (by omega)) hb
theorem room63 {α : Type} {xs ys : List α} {n : Nat} (h : xs.length < 1000000) (hy : ys.length = n) (hb : n ≤ 1000000) : xs.length + ys.length ≤ 4611686018427387904 := by omega
theorem roomL {α β : Type} {ds : List β} {xs ys : List α} {n bytes : Nat} (hl : ds.length = xs.length) (h : ds.length < 1000000) (hy : ys.length = n) (hb : (1000000 + n) * bytes ≤ 140737488355328) : (xs.length + ys.length) * bytes ≤ 140737488355328 :=
  room (by omega) hy hb
theorem roomL63 {α β : Type} {ds : List β} {xs ys : List α} {n : Nat} (hl : ds.length = xs.length) (h : ds.length < 1000000) (hy : ys.length = n) (hb : n ≤ 1000000) : xs.length + ys.length ≤ 4611686018427387904 := by omega

theorem gsl_slK {α β : Type} {E : TypeId} {e : Enc α} {v : Value} {xs : List α} {ds : List β} {w : World} (h : (gsl E e v xs).h w) (hl : ds.length = xs.length) : ∃ a c, v = .slice a ds.length c := by
  obtain ⟨a, c, rfl⟩ := gsl_sl h
  exact ⟨a, c, by rw [hl]⟩

theorem readsL_cons {α : Type} {n : Nat} {k : Kd α} {w : World} {ok : Nat → Prop} {xs : List α} {rs : List (Raw n)} {x : α} {r : Raw n} (hx : k.rd w ok x r.1) (h : readsL k w ok xs rs) : readsL k w ok (x :: xs) (r :: rs) := by
  refine ⟨by simp [h.1], fun i y s hy hs => ?_⟩
  cases i with
  | zero => cases hy; cases hs; exact hx
  | succ i => exact h.2 i y s (by simpa using hy) (by simpa using hs)

/-- The same blocks, said in another way. -/
theorem St.conv {L0 L L' : List Ent} {w0 w : World} (h : St L0 w0 w L) {i : Nat} {E E' : Ent} (hi : L[i]? = some E) (hE : E'.h w) (hF : ∀ b, E'.F b → E.F b) (hL : L' = L.set i E') : St L0 w0 w L' :=
  h.set hi rfl rfl rfl (Nat.le_refl _) (fun _ _ _ => rfl) hE (fun b hb => ⟨.inl (hF b hb), h.inr E (List.mem_of_getElem? hi) b (hF b hb)⟩) hL

theorem take_len {α : Type} {xs : List α} {z : Int} (h : 0 ≤ z ∧ z ≤ ((xs.length : Nat) : Int)) : (xs.take z.toNat).length = z.toNat := by
  rw [List.length_take]; omega
theorem toCap {α : Type} {xs : List α} {z : Int} {c : Nat} (h : 0 ≤ z ∧ z ≤ ((xs.length : Nat) : Int)) (hc : xs.length ≤ c) : z.toNat ≤ c := by omega
theorem elems_take {α : Type} {k : Kd α} {w : World} {ok : Nat → Prop} {a : Option Addr} {xs : List α} (m : Nat) (h : elems k w ok a xs) : elems k w ok a (xs.take m) := fun i x hx => by
  rw [List.getElem?_take] at hx
  split at hx
  · exact h i x hx
  · cases hx

section
variable {P : Program} {σ : Nat → Value} {w : World} {d : Option Tmp} {ty : TypeId} {pos : String} {af : Array Edge} {g : Option (Nat × Bool)}
theorem R.sliceToN {T E : TypeId} {n len cap N : Nat} {x h : Operand} {a : Option Addr} {k : IntKind} {z : Int} (hU : P.underlying T = some (.slice E)) (hE : ∀ w, (sizeOf E).run P w = .ok n w)
    (hx : ev σ x = .slice a len cap) (hi : ev σ h = .int k z) (hz : 0 ≤ z ∧ z ≤ ((len : Nat) : Int)) (hN : N = z.toNat) (hc : len ≤ cap) :
    Runs P σ ⟨d, .slice T x none (some h) none, ty, pos, af, g⟩ w (.slice a N cap) w := by
  subst hN
  exact R.sliceTo hU hE hx hi (Int.toNat_of_nonneg hz.1).symm (by omega)
end
theorem R.sliceFromN {P : Program} {T E : TypeId} {n cap : Nat} {α : Type} {k : Kd α} {w : World} {ok : Nat → Prop} {xs : List α} {a : Option Addr} {z : Int} (hU : P.underlying T = some (.slice E)) (hE : ∀ w, (sizeOf E).run P w = .ok n w)
    (hz : 0 ≤ z ∧ z ≤ ((xs.length : Nat) : Int)) (he : elems k w ok a xs) (hc : xs.length ≤ cap) (hsz : k.sz = n := by rfl) :
    ∃ a' c', (∀ (σ : Nat → Value) (w : World) (d : Option Tmp) (ty : TypeId) (pos : String) (af : Array Edge) (g : Option (Nat × Bool)) (x h : Operand) , ev σ x = .slice a xs.length cap → ev σ h = .int .i64 z →
      Runs P σ ⟨d, .slice T x (some h) none none, ty, pos, af, g⟩ w (.slice a' (xs.drop z.toNat).length c') w) ∧ (xs.drop z.toNat).length ≤ c' ∧ elems k w ok a' (xs.drop z.toNat) := by
  refine ⟨if cap - z.toNat = 0 then a else a.map (·.add (z.toNat * n)), cap - z.toNat, fun σ w d ty pos af g x h hx hi => ?_, by rw [List.length_drop]; omega, fun i y hy => ?_⟩
  · have h1 : (0 : Int) ≤ z ∧ z ≤ ((xs.length : Nat) : Int) := hz
    have e1 : ((xs.length : Nat) : Int) - z = (((xs.drop z.toNat).length : Nat) : Int) := by rw [List.length_drop]; omega
    have h2 : 0 ≤ z ∧ z ≤ (cap : Int) := ⟨hz.1, by omega⟩
    have h3 : (xs.drop z.toNat).length = xs.length - z.toNat := List.length_drop
    simp [Runs, execOp, hx, hi, Instr.sliceAt, Instr.slice, Instr.sliceBounds, Instr.sliceBound, asIntOf, run_underlying hU, hE, h1, h2, h3]
    by_cases hq : cap = z.toNat
    · rw [if_pos hq, if_pos (by omega)]
    · rw [if_neg hq, if_neg (by omega)]
  · rw [List.getElem?_drop] at hy
    obtain ⟨ad, e, h1, h2, h3, h4⟩ := he _ y hy
    have hlt := (List.getElem?_eq_some_iff.1 hy).1
    subst hsz
    refine ⟨⟨ad.block, ad.off + z.toNat * k.sz, none⟩, e, ?_, rfl, ?_, h4⟩
    · rw [if_neg (by omega), h1]
      simp [add_flat h2]
    · have : ad.off + z.toNat * k.sz + i * k.sz = ad.off + (z.toNat + i) * k.sz := by rw [Nat.add_mul]; omega
      rw [this]; exact h3

/-! ### Objects -/
/-- An answer that is a pointer: nothing, or an object of one's own. -/
def objR {D : Type} (R : Nat → D → List Ent → Prop) : Option D → Value → List Ent → Prop
  | none, v, L => v = .pointer none ∧ L = []
  | some d, v, L => ∃ b, v = .pointer (some ⟨b, 0, none⟩) ∧ R b d L
def oc {D R : Type} (o : Option D) (n : Option R) (s : D → Option R) : Option R :=
  match o with
  | none => n
  | some d => s d
theorem ocE {D R : Type} {o : Option D} {n : Option R} {s : D → Option R} {r : R} (h : oc o n s = some r) : (o = none ∧ n = some r) ∨ ∃ d, o = some d ∧ s d = some r := by
  cases o with
  | none => exact .inl ⟨rfl, h⟩
  | some d => exact .inr ⟨d, rfl, h⟩
theorem rl0 {α : Type} {n : Nat} {k : Kd α} {w : World} {ok : Nat → Prop} {L0 : List Ent} {xs : List α} {rs : List (Raw n)} (hok : ∀ b, ok b → out L0 b) (h : readsL k w ok xs rs) : readsL k w (In ok w L0 L0) xs rs :=
  readsL_keep (fun b _ ho => ⟨rfl, In.of hok b ho⟩) (Nat.le_refl _) h
theorem In.outM {ok : Nat → Prop} {w0 : World} {L0 L M N : List Ent} (hp : L.Perm (M ++ N)) : ∀ b, In ok w0 L0 L b → out M b :=
  fun b h E hE => h.2 E (hp.symm.subset (List.mem_append_left _ hE))
theorem St.ofM {L0 L M N : List Ent} {w0 w : World} (h : St L0 w0 w L) (hp : L.Perm (M ++ N)) : St M w w M := (h.perm hp).here
theorem inC {ok : Nat → Prop} {L0 L M N M' : List Ent} {w0 w w' : World} (h : St L0 w0 w L) (hp : L.Perm (M ++ N)) (c : St M w w' M') : ∀ b, In (In ok w0 L0 L) w M M' b → In ok w0 L0 (M' ++ N) b := by
  intro b ho
  obtain ⟨h1, h2⟩ := ho
  have h4 : St L w w (M ++ N) := h.here.perm (permE hp)
  have hd := List.pairwise_append.1 h4.disj
  have hj : ∀ {X : Prop}, X → out N b → (X ∧ out (M' ++ N) b) := fun hx hn => ⟨hx, fun E hE => (List.mem_append.1 hE).elim (h2 E) (hn E)⟩
  rcases h1 with h1 | h1 | h1
  · exact hj h1.1 fun E hE => h1.2 E (hp.symm.subset (List.mem_append_right _ hE))
  · exact hj (.inr (.inl (Nat.le_trans h.size h1))) fun E hE hF => by
      have := h4.inr E (List.mem_append_right _ hE) b hF
      omega
  · have : ∃ E ∈ M, E.F b := Classical.byContradiction fun hc => h1 fun E hE hF => hc ⟨E, hE, hF⟩
    obtain ⟨E, hE, hF⟩ := this
    have hEL : E ∈ L := hp.symm.subset (List.mem_append_left _ hE)
    refine hj ?_ fun D hD hF' => hd.2.2 E hE D hD b hF hF'
    rcases Nat.lt_or_ge b w0.heap.size with hlt | hge
    · exact .inr (.inr (h.sub E hEL b hF hlt))
    · exact .inr (.inl hge)
theorem rlC {α : Type} {n : Nat} {k : Kd α} {ok : Nat → Prop} {L0 L M N M' : List Ent} {w0 w w' : World} {xs : List α} {rs : List (Raw n)} (h : St L0 w0 w L) (hp : L.Perm (M ++ N)) (c : St M w w' M')
    (he : readsL k w' (In (In ok w0 L0 L) w M M') xs rs) : readsL k w' (In ok w0 L0 (M' ++ N)) xs rs :=
  readsL_keep (fun b _ ho => ⟨rfl, inC h hp c b ho⟩) (Nat.le_refl _) he

section
variable {P : Program} {σ : Nat → Value} {w : World} {d : Option Tmp} {ty : TypeId} {pos : String} {af : Array Edge} {g : Option (Nat × Bool)}
theorem R.ptrNilN {x y : Operand} {T U e : TypeId} {a : Addr} (hT : P.underlying T = some (.pointer e)) (hx : ev σ x = .pointer (some a)) (hy : ev σ y = .pointer none) :
    Runs P σ ⟨d, .binOp .neq T x y U, ty, pos, af, g⟩ w (.bool true) w := by
  simp [Runs, execOp, hx, hy, go_sem, hT]
theorem R.nilNilN {x y : Operand} {T U e : TypeId} (hT : P.underlying T = some (.pointer e)) (hx : ev σ x = .pointer none) (hy : ev σ y = .pointer none) :
    Runs P σ ⟨d, .binOp .neq T x y U, ty, pos, af, g⟩ w (.bool false) w := by
  simp [Runs, execOp, hx, hy, go_sem, hT]
end

/-! ### Regions that draw, where calls turn what is owned: what is read elsewhere stays -/
structure WK (P : Program) (n : Nat) (l : List Oper) (Q : Exit → Act → World → Prop) (L : List Ent) (fuel : Nat) (listed : Array Bool) (σ : Nat → Value) (w : World) : Prop where
  out : (∀ c a w, ¬ Q (.panic c) a w) → wpAnyK P l.toArray Q fuel (fun x => Kept L w x) listed (fr n σ) w

theorem elK {α : Type} {k : Kd α} {ok : Nat → Prop} {w0 w w' : World} {L0 L : List Ent} {a : Option Addr} {xs : List α} (t : Kept L w w') (h : elems k w (In ok w0 L0 L) a xs) : elems k w' (In ok w0 L0 L) a xs :=
  elems_keep (fun b hb ho => ⟨t.block b hb ho.2, ho⟩) t.size h
theorem At.kK {ok : Nat → Prop} {w0 w w' : World} {L0 L : List Ent} {a : Addr} {cs : List Value} (t : Kept L w w') (h : At w (In ok w0 L0 L) a cs) : At w' (In ok w0 L0 L) a cs :=
  h.keep (fun b hb ho => ⟨t.block b hb ho.2, ho⟩) t.size

section
variable {P : Program} {n : Nat} {Q : Exit → Act → World → Prop} {σ : Nat → Value} {w : World} {l : List Oper} {fuel : Nat} {listed : Array Bool} {L : List Ent}

theorem WC.drawK {id : Nat} (hm : P.follows .mixedOrders = true) (hq : NP Q) (h : WK P n l Q L l.length (Array.replicate l.length false) σ w.drew) :
    WC P n (.region id l.toArray true) Q σ w :=
  ⟨wp_region_any hm (wpAny_of_K _ _ _ _ _ (h.out hq))⟩

theorem WK.take (i : Nat) {o : Oper} {v : Value} (hi : l[i]? = some o) (hs : Region.noSelect l.toArray = true) (hf : Region.free .any l.toArray listed i = true)
    (hr : (Region.ready .any l.toArray listed).contains i = true) (hc : closedB l.toArray listed = true) (hn : okOp n o = true) (hg : o.guard = none) (hy : ∀ x, Kept L w x → Runs P σ o x v x)
    (k : WK P n l Q L fuel (listed.setIfInBounds i true) (updO σ o.dst v) w) : WK P n l Q L (fuel + 1) listed σ w := by
  have hi' : l.toArray[i]? = some o := by simpa using hi
  refine ⟨fun hq => wpAnyK_first (v := v) hi' (Region.noSelect_spec hs) (fun c a w h => (hq c _ w h).elim) fuel _ listed _ w (Region.free_spec hi' hf) (by simpa using hr) (closed_of hc) (.inl ⟨by simp [Region.wanted, hg], fun w hw => ?_⟩) (Kept.refl L w) ?_⟩
  · rw [exec_fr σ hn]; exact hy w hw
  · rw [fr_putO]; exact k.out hq

theorem WK.takeY (i : Nat) {o : Oper} {v : Value} {j e : Nat} {b : Bool} (hi : l[i]? = some o) (hs : Region.noSelect l.toArray = true) (hf : Region.free .any l.toArray listed i = true)
    (hr : (Region.ready .any l.toArray listed).contains i = true) (hc : closedB l.toArray listed = true) (hn : okOp n o = true) (hg : o.guard = some (j, b)) (hd : (l.toArray[j]?).bind (·.dst) = some e) (he : Nat.blt e n = true) (hv : σ e = .bool b)
    (hy : ∀ x, Kept L w x → Runs P σ o x v x)
    (k : WK P n l Q L fuel (listed.setIfInBounds i true) (updO σ o.dst v) w) : WK P n l Q L (fuel + 1) listed σ w := by
  have hi' : l.toArray[i]? = some o := by simpa using hi
  have hy' := yielded_fr (σ := σ) hd he
  rw [hv] at hy'
  refine ⟨fun hq => wpAnyK_first (v := v) hi' (Region.noSelect_spec hs) (fun c a w h => (hq c _ w h).elim) fuel _ listed _ w (Region.free_spec hi' hf) (by simpa using hr) (closed_of hc) (.inl ⟨by simp [Region.wanted, hg, hy'], fun w hw => ?_⟩) (Kept.refl L w) ?_⟩
  · rw [exec_fr σ hn]; exact hy w hw
  · rw [fr_putO]; exact k.out hq

theorem WK.takeN (i : Nat) {o : Oper} {v : Value} {j e : Nat} {b : Bool} (hi : l[i]? = some o) (hs : Region.noSelect l.toArray = true) (hf : Region.free .any l.toArray listed i = true)
    (hr : (Region.ready .any l.toArray listed).contains i = true) (hc : closedB l.toArray listed = true) (hg : o.guard = some (j, b)) (hd : (l.toArray[j]?).bind (·.dst) = some e) (he : Nat.blt e n = true) (hv : σ e = v)
    (hb : (match v with | .bool c => c != b | _ => true) = true)
    (k : WK P n l Q L fuel (listed.setIfInBounds i true) (updO σ o.dst undef) w) : WK P n l Q L (fuel + 1) listed σ w := by
  have hi' : l.toArray[i]? = some o := by simpa using hi
  have hy' := yielded_fr (σ := σ) hd he
  rw [hv] at hy'
  have hw : Region.wanted o (yielded l.toArray (fr n σ).tmps) = false := by
    simp only [Region.wanted, hg]
    rw [hy']
    cases v <;> first | rfl | (rename_i c; cases c <;> cases b <;> first | rfl | (simp at hb))
  refine ⟨fun hq => wpAnyK_first (v := undef) hi' (Region.noSelect_spec hs) (fun c a w h => (hq c _ w h).elim) fuel _ listed _ w (Region.free_spec hi' hf) (by simpa using hr) (closed_of hc) (.inr ⟨hw, rfl⟩) (Kept.refl L w) ?_⟩
  rw [fr_putO]; exact k.out hq

theorem WK.done (hr : Region.ready .any l.toArray listed = []) (h : Q .normal (fr n σ) w) : WK P n l Q L fuel listed σ w := by
  refine ⟨fun _ => ?_⟩
  cases fuel with
  | zero => exact ⟨hr, h⟩
  | succ f => exact ⟨fun _ => h, by rw [hr]; simp⟩

theorem WK.one (i : Nat) {o : Oper} (hr : Region.ready .any l.toArray listed = [i]) (hi : l[i]? = some o) (hn : okOp n o = true) (hw : Region.wanted o (yielded l.toArray (fr n σ).tmps) = true)
    (h : (∀ c a w, ¬ Q (.panic c) a w) → o.upon P (fr n σ) (fun a' w' => (lastB l.toArray i = true ∧ ∃ S' : World → Prop, S' w' ∧ wpAnyK P l.toArray Q fuel S' (listed.setIfInBounds i true) a' w') ∨
      (Kept L w w' ∧ wpAnyK P l.toArray Q fuel (fun x => Kept L w x) (listed.setIfInBounds i true) a' w')) Q ((execOp (ev σ) o).run P w)) :
    WK P n l Q L (fuel + 1) listed σ w := by
  have hi' : l.toArray[i]? = some o := by simpa using hi
  refine ⟨fun hq => ?_⟩
  show _ ∧ _
  refine ⟨fun h0 => (by rw [hr] at h0; cases h0), fun j hj => ?_⟩
  rw [hr] at hj
  have hji := List.mem_singleton.1 hj
  subst hji
  unfold wpOp
  simp only [hi', hw, if_true]
  refine .inl ?_
  unfold Oper.wp
  rw [exec_fr σ hn]
  exact h hq

theorem kept_trans {L' : List Ent} {w' x : World} (t : St L w w' L') (h : Kept L' w' x) : Kept L w x :=
  ⟨h.os.trans t.kept.os, h.tape.trans t.kept.tape, h.output.trans t.kept.output, Nat.le_trans t.size h.size,
   fun b hb ho => (h.block b (Nat.lt_of_lt_of_le hb t.size) (fun E hE hF => t.sub E hE b hF hb ho)).trans (t.kept.block b hb ho)⟩

theorem WK.goes {w' : World} {i : Nat} {σ' : Nat → Value} {L' : List Ent} (hq : ∀ c a w, ¬ Q (.panic c) a w) (t : St L w w' L') (k : WK P n l Q L' fuel listed σ' w') :
    (lastB l.toArray i = true ∧ ∃ S' : World → Prop, S' w' ∧ wpAnyK P l.toArray Q fuel S' listed (fr n σ') w') ∨ (Kept L w w' ∧ wpAnyK P l.toArray Q fuel (fun x => Kept L w x) listed (fr n σ') w') :=
  .inr ⟨t.kept, wpAnyK_mono (fun x hx => kept_trans t hx) _ _ _ _ (k.out hq)⟩

theorem WK.call (i : Nat) {o : Oper} {f : FuncId} {args : List Value} {R : Value → World → Prop} (hr : Region.ready .any l.toArray listed = [i]) (hi : l[i]? = some o) (hn : okOp n o = true) (hg : o.guard = none)
    (hc : Ret P f args w R) (hx : (execOp (ev σ) o).run P w = .ok (.enter f args.toArray) w)
    (k : ∀ v w', R v w' → ∃ L', St L w w' L' ∧ WK P n l Q L' fuel (listed.setIfInBounds i true) (updO σ o.dst v) w') : WK P n l Q L (fuel + 1) listed σ w := by
  refine WK.one i hr hi hn (by simp [Region.wanted, hg]) fun hq => ?_
  rw [hx]
  simp only [Oper.upon, fr_putO]
  refine Calls.mono hc fun e w' ⟨v, he, h⟩ => ?_
  subst he
  obtain ⟨L', h1, h2⟩ := k v w' h
  exact WK.goes hq h1 h2

theorem WK.callY (i : Nat) {o : Oper} {f : FuncId} {args : List Value} {R : Value → World → Prop} {j e : Nat} {b : Bool} (hr : Region.ready .any l.toArray listed = [i]) (hi : l[i]? = some o) (hn : okOp n o = true)
    (hg : o.guard = some (j, b)) (hd : (l.toArray[j]?).bind (·.dst) = some e) (he : Nat.blt e n = true) (hv : σ e = .bool b)
    (hc : Ret P f args w R) (hx : (execOp (ev σ) o).run P w = .ok (.enter f args.toArray) w)
    (k : ∀ v w', R v w' → ∃ L', St L w w' L' ∧ WK P n l Q L' fuel (listed.setIfInBounds i true) (updO σ o.dst v) w') : WK P n l Q L (fuel + 1) listed σ w := by
  have hy' := yielded_fr (σ := σ) hd he
  rw [hv] at hy'
  refine WK.one i hr hi hn (by simp [Region.wanted, hg, hy']) fun hq => ?_
  rw [hx]
  simp only [Oper.upon, fr_putO]
  refine Calls.mono hc fun e w' ⟨v, he, h⟩ => ?_
  subst he
  obtain ⟨L', h1, h2⟩ := k v w' h
  exact WK.goes hq h1 h2
end

section
variable {P : Program} {σ : Nat → Value} {w : World} {d : Option Tmp} {ty : TypeId} {pos : String} {af : Array Edge} {g : Option (Nat × Bool)}
theorem R.fieldV {T q : Nat} {x : Operand} {v r : Value} (hx : ev σ x = v) (h : ∀ w, (Instr.field T v q).run P w = .ok r w) : Runs P σ ⟨d, .field T x q, ty, pos, af, g⟩ w r w := by
  subst hx
  simp [Runs, execOp, h]
theorem R.indexV {T : Nat} {x y : Operand} {v i r : Value} (hx : ev σ x = v) (hy : ev σ y = i) (h : ∀ w, (Instr.index T v i).run P w = .ok r w) : Runs P σ ⟨d, .index T x y, ty, pos, af, g⟩ w r w := by
  subst hx; subst hy
  simp [Runs, execOp, h]
def andI (k : IntKind) (x y : Int) : Int := bits .and k x y
def shrI (k : IntKind) (x y : Int) : Int := x.fdiv (2 ^ (min y.toNat k.bits))
theorem R.and {x y : Operand} {T U : TypeId} {k : IntKind} {a b : Int} (hx : ev σ x = .int k a) (hy : ev σ y = .int k b) :
    Runs P σ ⟨d, .binOp .and T x y U, ty, pos, af, g⟩ w (.int k (andI k a b)) w := by
  simp [Runs, execOp, hx, hy, go_sem, andI]
theorem R.shr {x y : Operand} {T U : TypeId} {k l : IntKind} {a b : Int} (hx : ev σ x = .int k a) (hy : ev σ y = .int l b) (h : 0 ≤ b) :
    Runs P σ ⟨d, .binOp .shr T x y U, ty, pos, af, g⟩ w (.int k (shrI k a b)) w := by
  have hb : ¬ b < 0 := by omega
  simp [Runs, execOp, hx, hy, go_sem, shrI, Op.shift, hb]
theorem R.callF {k : FuncId} {f : Operand} {args : List Operand} {ts : Array TypeId} {fs vs caps : List Value} (hb : Bodied P k) (hf : ev σ f = .func (.func k) fs.toArray caps.toArray)
    (ha : args.map (ev σ) = vs) : (execOp (ev σ) ⟨d, .call ⟨.value f, args.toArray, ts⟩, ty, pos, af, g⟩).run P w = .ok (.enter k ((fs ++ vs) ++ caps).toArray) w := by
  obtain ⟨fn, h1, h2, h3⟩ := hb
  subst ha
  simp [execOp, resolve, hf, Deferred.ofValue, invoke, callFunc, program, Sem.run, h1, h2, h3]
theorem R.sliceNil {x y : Operand} {T U e : TypeId} {n c : Nat} {a : Option Addr} (hT : P.underlying T = some (.slice e)) (hx : ev σ x = .slice a n c) (hy : ev σ y = .slice none 0 0) :
    Runs P σ ⟨d, .binOp .eql T x y U, ty, pos, af, g⟩ w (.bool a.isNone) w := by
  simp [Runs, execOp, hx, hy, binOp, eqGuard, run_equal_slice_nil w T e a n c hT]
end

section
variable {P : Program} {n : Nat} {Q : Exit → Act → World → Prop} {σ : Nat → Value} {w : World} {l : List Oper} {fuel : Nat} {listed : Array Bool} {L : List Ent}
theorem WK.conv {L' : List Ent} (t : St L w w L') (k : WK P n l Q L' fuel listed σ w) : WK P n l Q L fuel listed σ w :=
  ⟨fun hq => wpAnyK_mono (fun x hx => kept_trans t hx) _ _ _ _ (k.out hq)⟩
theorem WK.grow (i : Nat) {o : Oper} {L' : Value → List Ent} (hr : Region.ready .any l.toArray listed = [i]) (hi : l[i]? = some o) (hn : okOp n o = true) (hg : o.guard = none)
    (hx : ∃ v w', Runs P σ o w v w' ∧ St L w w' (L' v)) (k : ∀ v w', St L w w' (L' v) → WK P n l Q (L' v) fuel (listed.setIfInBounds i true) (updO σ o.dst v) w') : WK P n l Q L (fuel + 1) listed σ w := by
  obtain ⟨v, w', h1, h2⟩ := hx
  refine WK.one i hr hi hn (by simp [Region.wanted, hg]) fun hq => ?_
  unfold Runs at h1
  rw [h1]
  simp only [Oper.upon, fr_putO]
  exact WK.goes hq h2 (k v w' h2)
theorem WK.new (i : Nat) {o : Oper} {L' : Nat → List Ent} {f : Nat → Value} (hr : Region.ready .any l.toArray listed = [i]) (hi : l[i]? = some o) (hn : okOp n o = true) (hg : o.guard = none)
    (hx : ∃ b w', Runs P σ o w (f b) w' ∧ St L w w' (L' b) ∧ Ext w w' ∧ w.heap.size ≤ b)
    (k : ∀ b w', St L w w' (L' b) → Ext w w' → w.heap.size ≤ b → WK P n l Q (L' b) fuel (listed.setIfInBounds i true) (updO σ o.dst (f b)) w') : WK P n l Q L (fuel + 1) listed σ w := by
  obtain ⟨b, w', h1, h2, h3, h4⟩ := hx
  refine WK.one i hr hi hn (by simp [Region.wanted, hg]) fun hq => ?_
  unfold Runs at h1
  rw [h1]
  simp only [Oper.upon, fr_putO]
  exact WK.goes hq h2 (k b w' h2 h3 h4)
theorem WK.sto (i : Nat) {o : Oper} {L' : List Ent} (hr : Region.ready .any l.toArray listed = [i]) (hi : l[i]? = some o) (hn : okOp n o = true) (hg : o.guard = none) (hd : o.dst = none)
    (hx : ∃ w', (execOp (ev σ) o).run P w = .ok .skip w' ∧ St L w w' L') (k : ∀ w', St L w w' L' → WK P n l Q L' fuel (listed.setIfInBounds i true) σ w') : WK P n l Q L (fuel + 1) listed σ w := by
  obtain ⟨w', h1, h2⟩ := hx
  refine WK.one i hr hi hn (by simp [Region.wanted, hg]) fun hq => ?_
  rw [h1]
  simp only [Oper.upon, fr_putO, hd]
  exact WK.goes hq h2 (k w' h2)
end
end Go.Proofs.Ytckcldimnelklaa
