/- Appends of what is read: rows too; onto nothing, in either order with a new variable. -/
import Derived.Test.YtckcldimnelklaaTU
import Derived.Test.YtckcldimnelklaaTN
import Derived.Laws.Cover3
namespace Go.Proofs.Ytckcldimnelklaa
open Go
set_option linter.unusedVariables false
set_option linter.unusedSimpArgs false

/-- Cells, whatever they mean. -/
def rawKd (n : Nat) : Kd (Raw n) where
  sz := n
  rd := fun _ _ r cs => cs = r.1
  len := fun {_ _ r _} h => by subst h; exact r.2.1
  leaf := fun {_ _ r _} h => by subst h; exact r.2.2
  keep := fun _ _ h => h

theorem elems_raw {α : Type} {k : Kd α} {n : Nat} {w : World} {ok : Nat → Prop} {a : Option Addr} {xs : List α} (hn : k.sz = n) (h : elems k w ok a xs) :
    ∃ rs : List (Raw n), readsL k w ok xs rs ∧ elems (rawKd n) w ok a rs := by
  subst hn
  have h1 : ∀ i : Fin xs.length, ∃ r : Raw k.sz, k.rd w ok xs[i] r.1 ∧ ∃ ad : Addr, a = some ad ∧ ad.spot = none ∧ At w ok ⟨ad.block, ad.off + i.1 * k.sz, none⟩ r.1 := fun i => by
    obtain ⟨ad, e, h2, h3, h4, h5⟩ := h i.1 xs[i] (List.getElem?_eq_getElem i.2)
    exact ⟨⟨e, k.len h5, k.leaf h5⟩, h5, ad, h2, h3, h4⟩
  have h2 := fun i => Classical.choose_spec (h1 i)
  refine ⟨List.ofFn fun i => Classical.choose (h1 i), ⟨by simp, fun i x r hx hr => ?_⟩, fun i r hr => ?_⟩
  · have hlt := (List.getElem?_eq_some_iff.1 hx).1
    have hxe := (List.getElem?_eq_some_iff.1 hx).2
    rw [List.getElem?_ofFn, dif_pos hlt] at hr
    cases hr
    have := (h2 ⟨i, hlt⟩).1
    simp only [Fin.getElem_fin] at this
    rw [hxe] at this
    exact this
  · have hlt := (List.getElem?_eq_some_iff.1 hr).1
    simp only [List.length_ofFn] at hlt
    rw [List.getElem?_ofFn, dif_pos hlt] at hr
    cases hr
    obtain ⟨ad, h3, h4, h5⟩ := (h2 ⟨i, hlt⟩).2
    exact ⟨ad, _, h3, h4, h5, rfl⟩

theorem raw_leaf (n : Nat) (x : Raw n) : ((rawE n).enc x).all leafB = true := x.2.2
theorem readsL_append {α : Type} {n : Nat} {k : Kd α} {w : World} {ok : Nat → Prop} {xs ys : List α} {rs qs : List (Raw n)} (h : readsL k w ok xs rs) (h2 : readsL k w ok ys qs) : readsL k w ok (xs ++ ys) (rs ++ qs) := by
  refine ⟨by simp [h.1, h2.1], fun i x r hx hr => ?_⟩
  rcases Nat.lt_or_ge i xs.length with hi | hi
  · rw [List.getElem?_append_left hi] at hx
    rw [List.getElem?_append_left (by rw [← h.1]; exact hi)] at hr
    exact h.2 i x r hx hr
  · rw [List.getElem?_append_right hi] at hx
    rw [List.getElem?_append_right (by rw [← h.1]; exact hi), ← h.1] at hr
    exact h2.2 _ x r hx hr
theorem rs_len {α : Type} {n : Nat} {k : Kd α} {w : World} {ok : Nat → Prop} {xs : List α} {rs : List (Raw n)} {c : Nat} (h : readsL k w ok xs rs) (hc : xs.length ≤ c) : rs.length ≤ c := by rw [← h.1]; exact hc
theorem roomK {α β : Type} {n m : Nat} {k : Kd α} {l : Kd β} {w w2 : World} {ok ok2 : Nat → Prop} {xs : List α} {ys : List β} {rs : List (Raw n)} {qs : List (Raw m)} {bytes : Nat} (h1 : readsL k w ok xs rs) (h2 : readsL l w2 ok2 ys qs) (h : xs.length + ys.length < 1000000)
    (hb : 1000000 * bytes ≤ 140737488355328) : (rs.length + qs.length) * bytes ≤ 140737488355328 := by
  rw [← h1.1, ← h2.1]; exact Nat.le_trans (Nat.mul_le_mul_right bytes (by omega)) hb
theorem roomK63 {α β : Type} {n m : Nat} {k : Kd α} {l : Kd β} {w w2 : World} {ok ok2 : Nat → Prop} {xs : List α} {ys : List β} {rs : List (Raw n)} {qs : List (Raw m)} (h1 : readsL k w ok xs rs) (h2 : readsL l w2 ok2 ys qs) (h : xs.length + ys.length < 1000000) :
    rs.length + qs.length ≤ 4611686018427387904 := by
  rw [← h1.1, ← h2.1]; omega

section
variable {P : Program} {σ : Nat → Value} {w : World} {d : Option Tmp} {ty : TypeId} {pos : String} {af : Array Edge} {g : Option (Nat × Bool)}
/-- append, onto nothing: new blocks alone. -/
theorem X.appendFresh {α : Type} {k : Kd α} {T E n bytes c : Nat} {zc : List Value} (hT : SlT P T E n bytes zc) {e : Enc α} {ys : List α}
    {x y : Operand} {a : Option Addr} {ok : Nat → Prop} (hn : e.n = n) (hx : ev σ x = .slice none 0 0) (hy : ev σ y = .slice a ys.length c)
    (hsz : k.sz = e.n) (henc : ∀ {w ok x cs}, k.rd w ok x cs → cs = e.enc x) (hlf : ∀ x, (e.enc x).all leafB = true) (he : elems k w ok a ys) (hb : (0 + ys.length) * bytes ≤ 140737488355328) (h63 : 0 + ys.length ≤ 4611686018427387904) :
    ∃ v' w', Runs P σ ⟨d, .call ⟨.builtin .append, #[x, y], #[T, T]⟩, ty, pos, af, g⟩ w v' w' ∧ St [] w w' [gsl E e v' ys] := by
  have h := (St.start w).addNil E e rfl
  exact X.appendRd (i := 0) (xs := ([] : List α)) (L' := fun v' => [gsl E e v' ys]) h hT rfl hn hx hy hsz henc hlf he hb h63 (fun _ => rfl)
end

/-! ### Two that may come up -/
/-- One operation of a region that draws, taken now. -/
structure WI (P : Program) (n : Nat) (l : List Oper) (Q : Exit → Act → World → Prop) (fuel : Nat) (listed : Array Bool) (i : Nat) (σ : Nat → Value) (w : World) : Prop where
  out : (∀ c a w, ¬ Q (.panic c) a w) → wpOp P l.toArray Q i (fun a' w' => (lastB l.toArray i = true ∧ ∃ S' : World → Prop, S' w' ∧ wpAnyK P l.toArray Q fuel S' (listed.setIfInBounds i true) a' w') ∨
      (Ext w w' ∧ wpAnyK P l.toArray Q fuel (fun x => Ext w x) (listed.setIfInBounds i true) a' w')) (fr n σ) w

section
variable {P : Program} {n : Nat} {Q : Exit → Act → World → Prop} {σ : Nat → Value} {w : World} {l : List Oper} {fuel : Nat} {listed : Array Bool}
theorem WE.two (i j : Nat) (hr : Region.ready .any l.toArray listed = [i, j]) (h1 : WI P n l Q fuel listed i σ w) (h2 : WI P n l Q fuel listed j σ w) : WE P n l Q (fuel + 1) listed σ w := by
  refine ⟨fun hq => ?_⟩
  show _ ∧ _
  refine ⟨fun h0 => (by rw [hr] at h0; cases h0), fun k hk => ?_⟩
  rw [hr] at hk
  rcases List.mem_cons.1 hk with rfl | hk
  · exact h1.out hq
  · cases List.mem_singleton.1 hk; exact h2.out hq
theorem WI.one (i : Nat) {o : Oper} (hi : l[i]? = some o) (hn : okOp n o = true) (hw : Region.wanted o (yielded l.toArray (fr n σ).tmps) = true)
    (h : (∀ c a w, ¬ Q (.panic c) a w) → o.upon P (fr n σ) (fun a' w' => (lastB l.toArray i = true ∧ ∃ S' : World → Prop, S' w' ∧ wpAnyK P l.toArray Q fuel S' (listed.setIfInBounds i true) a' w') ∨
      (Ext w w' ∧ wpAnyK P l.toArray Q fuel (fun x => Ext w x) (listed.setIfInBounds i true) a' w')) Q ((execOp (ev σ) o).run P w)) :
    WI P n l Q fuel listed i σ w := by
  have hi' : l.toArray[i]? = some o := by simpa using hi
  refine ⟨fun hq => ?_⟩
  unfold wpOp
  simp only [hi', hw, if_true]
  refine .inl ?_
  unfold Oper.wp
  rw [exec_fr σ hn]
  exact h hq
theorem WI.val (i : Nat) {o : Oper} {v : Value} {w' : World} (hi : l[i]? = some o) (hn : okOp n o = true) (hg : o.guard = none)
    (hx : Runs P σ o w v w') (hE : goesOn l i w w') (k : WE P n l Q fuel (listed.setIfInBounds i true) (updO σ o.dst v) w') : WI P n l Q fuel listed i σ w := by
  refine WI.one i hi hn (by simp [Region.wanted, hg]) fun hq => ?_
  unfold Runs at hx
  rw [hx]
  simp only [Oper.upon, fr_putO]
  exact WE.goes hq hE k
variable {L0 : List Ent} {w0 : World}
theorem WI.new (i : Nat) {o : Oper} {L' : Nat → List Ent} {f : Nat → Value} (hi : l[i]? = some o) (hn : okOp n o = true) (hg : o.guard = none)
    (hx : ∃ b w', Runs P σ o w (f b) w' ∧ St L0 w0 w' (L' b) ∧ Ext w w' ∧ w.heap.size ≤ b)
    (k : ∀ b w', St L0 w0 w' (L' b) → Ext w w' → w.heap.size ≤ b → WE P n l Q fuel (listed.setIfInBounds i true) (updO σ o.dst (f b)) w') : WI P n l Q fuel listed i σ w :=
  let ⟨b, w', h1, h2, h3, h4⟩ := hx
  WI.val i hi hn hg h1 (.inr h3) (k b w' h2 h3 h4)
/-- Something new, by an append. -/
theorem WI.fresh (i : Nat) {o : Oper} {N : Value → List Ent} {L : List Ent} (hs : St L0 w0 w L) (hi : l[i]? = some o) (hn : okOp n o = true) (hg : o.guard = none)
    (hx : ∃ v w', Runs P σ o w v w' ∧ St [] w w' (N v)) (k : ∀ v w', St L w w' (N v ++ L) → WE P n l Q fuel (listed.setIfInBounds i true) (updO σ o.dst v) w') : WI P n l Q fuel listed i σ w :=
  let ⟨v, w', h1, h2⟩ := hx
  WI.val i hi hn hg h1 (.inr h2.kept) (k v w' (hs.call (List.Perm.refl _) h2))
theorem WE.fresh (i : Nat) {o : Oper} {N : Value → List Ent} {L : List Ent} (hs : St L0 w0 w L) (hr : Region.ready .any l.toArray listed = [i]) (hi : l[i]? = some o) (hn : okOp n o = true) (hg : o.guard = none)
    (hx : ∃ v w', Runs P σ o w v w' ∧ St [] w w' (N v)) (k : ∀ v w', St L w w' (N v ++ L) → WE P n l Q fuel (listed.setIfInBounds i true) (updO σ o.dst v) w') : WE P n l Q (fuel + 1) listed σ w :=
  let ⟨v, w', h1, h2⟩ := hx
  WE.val i hr hi hn hg h1 (.inr h2.kept) (k v w' (hs.call (List.Perm.refl _) h2))
end
end Go.Proofs.Ytckcldimnelklaa
namespace Go.Proofs.Ytckcldimnelklaa
open Go
theorem elems_some {α : Type} {k : Kd α} {w : World} {ok : Nat → Prop} {a : Option Addr} {xs : List α} (h : elems k w ok a xs) (hx : ¬ xs = []) : a.isNone = false := by
  cases xs with
  | nil => exact absurd rfl hx
  | cons x xs => obtain ⟨ad, e, h1, _⟩ := h 0 x rfl; rw [h1]; rfl
theorem run_eqlS {P : Program} {w : World} {t e : TypeId} {a : Option Addr} {l c : Nat} (h : P.underlying t = some (.slice e)) : (binOp .eql t (.slice a l c) (.slice none 0 0)).run P w = .ok (.bool a.isNone) w := by
  simp only [binOp]
  simp [run_equal_slice_nil w t e a l c h]
theorem R.nilSl {P : Program} {σ : Nat → Value} {w : World} {d : Option Tmp} {ty : TypeId} {pos : String} {af : Array Edge} {g : Option (Nat × Bool)} {x y : Operand} {T U E : TypeId} {a : Option Addr} {n c : Nat} {b : Bool}
    (hT : P.underlying T = some (.slice E)) (hx : ev σ x = .slice a n c) (hy : ev σ y = .slice none 0 0) (hb : a.isNone = b) : Runs P σ ⟨d, .binOp .eql T x y U, ty, pos, af, g⟩ w (.bool b) w := by
  subst hb
  simp [Runs, execOp, hx, hy, go_sem, run_eqlS (w := w) (a := a) (l := n) (c := c) hT]
end Go.Proofs.Ytckcldimnelklaa
namespace Go.Proofs.Ytckcldimnelklaa
open Go
theorem flat_raw2 {n : Nat} {r q : Raw n} {cs ds : List Value} (h : r.1 = cs) (h2 : q.1 = ds) : flat (rawE n) [r, q] = cs ++ ds := by simp [flat, rawE, h, h2]
theorem raw_of {α : Type} {k : Kd α} {n : Nat} {w : World} {ok : Nat → Prop} {x : α} {cs : List Value} (h : k.rd w ok x cs) (hn : k.sz = n) : ∃ r : Raw n, r.1 = cs ∧ k.rd w ok x r.1 := ⟨⟨cs, (k.len h).trans hn, k.leaf h⟩, rfl, h⟩
theorem at0 {w : World} {ok : Nat → Prop} {L0 : List Ent} {a : Addr} {cs : List Value} (hok : ∀ b, ok b → out L0 b) (h : At w ok a cs) : At w (In ok w L0 L0) a cs :=
  h.keep (fun b _ ho => ⟨rfl, In.of hok b ho⟩) (Nat.le_refl _)
theorem At.all {w : World} {ok : Nat → Prop} {a : Addr} {cs : List Value} (h : At w ok a cs) : At w (fun _ => True) a cs := h.keep (fun _ _ _ => ⟨rfl, trivial⟩) (Nat.le_refl _)
theorem rlAll {α : Type} {n : Nat} {k : Kd α} {w : World} {ok : Nat → Prop} {xs : List α} {rs : List (Raw n)} (h : readsL k w ok xs rs) : readsL k w (fun _ => True) xs rs := readsL_keep (fun _ _ _ => ⟨rfl, trivial⟩) (Nat.le_refl _) h
/-- Such a slice, lent. -/
theorem el_lendK {α : Type} {k : Kd α} {n : Nat} {E : TypeId} {a : Option Addr} {m c : Nat} {xs : List α} {rs : List (Raw n)} {w : World} (h : (gsl E (rawE n) (.slice a m c) rs).h w) (hrd : readsL k w (fun _ => True) xs rs) (hsz : k.sz = n := by rfl) :
    xs.length ≤ c ∧ elems k w (fun _ => True) a xs := by
  have hL : St [] w w [] := St.start w
  rcases h.2 with ⟨h1, h2⟩ | ⟨g, cap, cur, hv, hb, hh, h1, h2, h3, h5⟩
  · injection h1 with e1 e2 e3
    have hx : rs = [] := List.eq_nil_of_length_eq_zero (by omega)
    subst hx
    have hx : xs = [] := List.eq_nil_of_length_eq_zero (by have := hrd.1; simpa using this)
    subst hx
    exact ⟨by simp, elems_nil⟩
  · injection hv with e1 e2 e3
    subst e1; subst e3
    refine ⟨by have := hrd.1; omega, fun i x hx => ?_⟩
    obtain ⟨r, hr, hk⟩ := readsL_at hrd hx
    refine ⟨⟨g, 0, none⟩, r.1, rfl, rfl, ?_, hk⟩
    obtain ⟨b, c', sp, hv', hh', _, _, _⟩ := gsl_open h hr
    injection hv' with a1 _ _
    injection a1 with a1
    injection a1 with a1
    subst a1
    refine ⟨rfl, lt_of_some hh', trivial, fun j u hj => ?_⟩
    have hj' : j < n := by have := (List.getElem?_eq_some_iff.1 hj).1; rw [r.2.1] at this; exact this
    have := flat_get (rawE n) rs sp i r hr
    have hj2 : ((rawE n).enc r)[j]? = some u := hj
    rw [← this] at hj2
    have hj3 : j < (rawE n).n := hj'
    simp only [List.getElem?_take, hj3, if_true, List.getElem?_drop] at hj2
    rw [hsz]
    simp only [World.cell?, hh']
    simpa [rawE] using hj2
section
variable {P : Program} {n : Nat} {Q : Exit → Act → World → Prop} {σ : Nat → Value} {w : World} {l : List Oper} {fuel : Nat} {listed : Array Bool}
theorem WI.call (i : Nat) {o : Oper} {f : FuncId} {args : List Value} {R : Value → World → Prop} (hi : l[i]? = some o) (hn : okOp n o = true) (hg : o.guard = none)
    (hc : Ret P f args w R) (hx : (execOp (ev σ) o).run P w = .ok (.enter f args.toArray) w)
    (k : ∀ v w', R v w' → goesOn l i w w' ∧ WE P n l Q fuel (listed.setIfInBounds i true) (updO σ o.dst v) w') : WI P n l Q fuel listed i σ w := by
  refine WI.one i hi hn (by simp [Region.wanted, hg]) fun hq => ?_
  rw [hx]
  simp only [Oper.upon, fr_putO]
  refine Calls.mono hc fun e w' ⟨v, he, h⟩ => ?_
  subst he
  exact WE.goes hq (k v w' h).1 (k v w' h).2
end
end Go.Proofs.Ytckcldimnelklaa
namespace Go.Proofs.Ytckcldimnelklaa
open Go
/-- A thing of one's own of which no more is said than where it lies. -/
def hole (E : Ent) : Ent where
  F := E.F
  h := fun _ => True
  st := fun _ _ => trivial
theorem Kept.up {E : Ent} {N : List Ent} {w x : World} (h : Kept [E] w x) : Kept (E :: N) w x :=
  ⟨h.os, h.tape, h.output, h.size, fun b hb ho => h.block b hb fun D hD => by cases List.mem_singleton.1 hD; exact ho E (List.mem_cons_self ..)⟩
theorem St.holeK {L0 N : List Ent} {E : Ent} {w0 w x : World} (h : St L0 w0 w (E :: N)) (hq : Kept [E] w x) : St (hole E :: N) x x (hole E :: N) := by
  have hd := List.pairwise_cons.1 h.disj
  refine ⟨Kept.refl _ _, fun D hD => ?_, fun D hD b hb => ?_, List.pairwise_cons.2 ⟨fun D hD b hb => hd.1 D hD b hb, hd.2⟩, fun D hD b hb _ ho => ho D hD hb⟩
  · rcases List.mem_cons.1 hD with rfl | hD
    · exact trivial
    · exact D.st (fun b hb => hq.block b (h.inr D (List.mem_cons_of_mem _ hD) b hb) fun D' hD' hF => by
        cases List.mem_singleton.1 hD'
        exact hd.1 D hD b hF hb) (h.holds D (List.mem_cons_of_mem _ hD))
  · rcases List.mem_cons.1 hD with rfl | hD
    · exact Nat.lt_of_lt_of_le (h.inr E (List.mem_cons_self ..) b hb) hq.size
    · exact Nat.lt_of_lt_of_le (h.inr D (List.mem_cons_of_mem _ hD) b hb) hq.size
section
variable {P : Program} {n : Nat} {Q : Exit → Act → World → Prop} {σ : Nat → Value} {w : World} {l : List Oper} {fuel : Nat} {listed : Array Bool} {T L0 : List Ent} {w0 : World}
theorem WK.stoN (i : Nat) {o : Oper} {L' : List Ent} (hr : Region.ready .any l.toArray listed = [i]) (hl : lastB l.toArray i = true) (hi : l[i]? = some o) (hn : okOp n o = true) (hg : o.guard = none) (hd : o.dst = none)
    (hx : ∃ w', (execOp (ev σ) o).run P w = .ok .skip w' ∧ St L0 w0 w' L') (k : ∀ w', St L0 w0 w' L' → WK P n l Q L' fuel (listed.setIfInBounds i true) σ w') : WK P n l Q T (fuel + 1) listed σ w := by
  obtain ⟨w', h1, h2⟩ := hx
  refine WK.one i hr hi hn (by simp [Region.wanted, hg]) fun hq => ?_
  rw [h1]
  simp only [Oper.upon, fr_putO, hd]
  exact .inl ⟨hl, fun x => Kept L' w' x, Kept.refl _ _, (k w' h2).out hq⟩
end
end Go.Proofs.Ytckcldimnelklaa
