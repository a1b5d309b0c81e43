/- A slice of one's own, or one that is full to its capacity: what is appended to it is one's own. -/
import Derived.Test.YtckcldimnelklaaTA
namespace Go.Proofs.Ytckcldimnelklaa
open Go
set_option linter.unusedVariables false
set_option linter.unusedSimpArgs false

/-- One's own, or full. -/
def gslU {α : Type} (E : TypeId) (e : Enc α) (v : Value) (xs : List α) : Ent where
  F := fun b => v.ownBlock = some b
  h := fun w => (gsl E e v xs).h w ∨ ∃ a : Addr, v = .slice (some a) xs.length xs.length ∧ a.spot = none ∧ a.block < w.heap.size ∧ ∀ j u, (flat e xs)[j]? = some u → w.cell? ⟨a.block, a.off + j, none⟩ = some u
  st := fun {w w'} hs h => by
    rcases h with h | ⟨a, hv, h1, h2, h3⟩
    · exact .inl ((gsl E e v xs).st hs h)
    · have hb : w'.heap[a.block]? = w.heap[a.block]? := hs a.block (by rw [hv]; rfl)
      refine .inr ⟨a, hv, h1, ?_, fun j u hj => ?_⟩
      · obtain ⟨o, ho⟩ : ∃ o, w.heap[a.block]? = some o := ⟨_, Array.getElem?_eq_getElem h2⟩
        rw [ho] at hb; exact lt_of_some hb
      · have := h3 j u hj
        simp only [World.cell?] at this ⊢
        rw [hb]; exact this

theorem gslU_of {α : Type} {E : TypeId} {e : Enc α} {v : Value} {xs : List α} {w : World} (h : (gsl E e v xs).h w) : (gslU E e v xs).h w := .inl h

theorem gslU_sl {α : Type} {E : TypeId} {e : Enc α} {v : Value} {xs : List α} {w : World} (h : (gslU E e v xs).h w) : ∃ a c, v = .slice a xs.length c := by
  rcases h with h | ⟨a, hv, _⟩
  · exact gsl_sl h
  · exact ⟨_, _, hv⟩

theorem gslU_elems {α : Type} {k : Kd α} {E : TypeId} {e : Enc α} {a : Option Addr} {n c : Nat} {xs : List α} {w : World} (h : (gslU E e (.slice a n c) xs).h w) (hsz : k.sz = e.n) (hrd : ∀ x w ok, k.rd w ok x (e.enc x)) :
    n = xs.length ∧ xs.length ≤ c ∧ elems k w (fun b => (gslU E e (.slice a n c) xs).F b) a xs := by
  rcases h with h | ⟨ad, hv, h1, h2, h3⟩
  · exact gsl_elemsV h hsz (fun x _ w ok => hrd x w ok)
  · injection hv with e1 e2 e3
    subst e1; subst e2; subst e3
    refine ⟨rfl, Nat.le_refl _, fun i x hx => ⟨ad, e.enc x, rfl, h1, ⟨rfl, h2, rfl, fun j u hj => ?_⟩, hrd x _ _⟩⟩
    obtain ⟨h4, h5⟩ := flat_split e xs i x hx
    have hj2 : (flat e xs)[i * e.n + j]? = some u := by
      have hjl := (List.getElem?_eq_some_iff.1 hj).1
      rw [h4, List.getElem?_append_right (by omega), h5, show i * e.n + j - i * e.n = j by omega, List.getElem?_append_left hjl]
      exact hj
    have := h3 _ u hj2
    rw [hsz]
    show w.cell? ⟨ad.block, ad.off + i * e.n + j, none⟩ = some u
    rw [Nat.add_assoc]; exact this

theorem el_freezeU {α : Type} {k : Kd α} {E : TypeId} {e : Enc α} {a : Option Addr} {n c : Nat} {xs : List α} {ok : Nat → Prop} {L0 L L' : List Ent} {w0 w : World} (h : St L0 w0 w L) (hp : L.Perm (gslU E e (.slice a n c) xs :: L'))
    (hsz : k.sz = e.n) (hrd : ∀ x w ok, k.rd w ok x (e.enc x)) : ∃ a' c', Value.slice a n c = .slice a' xs.length c' ∧ xs.length ≤ c' ∧ elems k w (In ok w0 L0 L') a' xs := by
  have hE : gslU E e (.slice a n c) xs ∈ L := hp.symm.subset (List.mem_cons_self ..)
  obtain ⟨h1, h2, h3⟩ := gslU_elems (k := k) (h.holds _ hE) hsz hrd
  have h4 : St L w w (gslU E e (.slice a n c) xs :: L') := h.here.perm (permE hp)
  refine ⟨a, c, by rw [h1], h2, elems_keep (fun b _ hF => ⟨rfl, ?_, fun D hD hF' => (List.pairwise_cons.1 h4.disj).1 D hD b hF hF'⟩) (Nat.le_refl _) h3⟩
  rcases Nat.lt_or_ge b w0.heap.size with hlt | hge
  · exact .inr (.inr (h.sub _ hE b hF hlt))
  · exact .inr (.inl hge)

section
variable {P : Program} {σ : Nat → Value} {w : World} {d : Option Tmp} {ty : TypeId} {pos : String} {af : Array Edge} {g : Option (Nat × Bool)}

theorem X.appendU {L0 L : List Ent} {w0 : World} (h : St L0 w0 w L) {α : Type} {T E n bytes i m c : Nat} {zc : List Value} (hT : SlT P T E n bytes zc) {e : Enc α} {v : Value} {xs ys : List α}
    {x y : Operand} {ad : Addr} {ok : Nat → Prop} (hi : L[i]? = some (gslU E e v xs)) (hn : e.n = n) (hx : ev σ x = v) (hy : ev σ y = .slice (some ad) m c)
    (hat : At w ok ad (flat e ys)) (hm : m = ys.length) (hl : (flat e ys).all leafB = true) (hb : (xs.length + ys.length) * bytes ≤ 140737488355328) (h63 : xs.length + ys.length ≤ 4611686018427387904) (h0 : 0 < m)
    {L' : Value → List Ent} (hL : ∀ v', L' v' = L.set i (gsl E e v' (xs ++ ys))) :
    ∃ v' w', Runs P σ ⟨d, .call ⟨.builtin .append, #[x, y], #[T, T]⟩, ty, pos, af, g⟩ w v' w' ∧ St L0 w0 w' (L' v') := by
  have hlt : i < L.length := (List.getElem?_eq_some_iff.1 hi).1
  rcases h.get hi with hg | ⟨a, hv, h1, h2, h3⟩
  · have h5 := h.conv (E' := gsl E e v xs) hi hg (fun b hb => hb) rfl
    exact X.append h5 hT (List.getElem?_set_self hlt) hn hx hy hat hm hl hb h63 (fun v' => by rw [hL, List.set_set])
  · obtain ⟨i0, zv, k1, k2, k3, k4, k5⟩ := hT.el
    subst hm
    have hsz : 0 < i0.size := by rw [k3]; exact hT.pos
    have hr := run_append_grow (P := P) w T ty E i0 zv hT.und k1 k2 a xs.length xs.length (flat e xs) (by rw [flat_length, hn, k3]) (fun j u hj => by rw [add_flat h1]; exact h3 j u hj)
      ad ys.length c (flat e ys) (by rw [flat_length, hn, k3]) (fun j u hj => by rw [add_flat hat.spot]; exact hat.cell j u hj) (by omega) (by omega) (growslice_fits (by omega) (by rw [k4]; exact hb))
    have hge := grownCap_ge w (xs.length + ys.length) xs.length E
    have hcm : grownCap w (xs.length + ys.length) xs.length E ≤ maxLen := grownCap_le_maxLen w (xs.length + ys.length) xs.length E (by unfold maxLen; omega)
    refine ⟨.slice (some ⟨w.heap.size, 0, none⟩) (xs.length + ys.length) (grownCap w (xs.length + ys.length) xs.length E), w.drew.alloc (.cells ((flat e xs).toArray ++ (flat e ys).toArray ++ Builtin.zeroCells zv.cells (grownCap w (xs.length + ys.length) xs.length E - (xs.length + ys.length))) E), ?_, ?_⟩
    · simp only [Runs, execOp, resolve, invoke, builtin, Sem.run_bind, Sem.run_pure, Result.andThen_ok, List.map_toArray, List.map_cons, List.map_nil, hx, hy]
      rw [hv, hr]
      rfl
    · have hnew : (gsl E e (.slice (some ⟨w.heap.size, 0, none⟩) (xs.length + ys.length) (grownCap w (xs.length + ys.length) xs.length E)) (xs ++ ys)).h
          (w.drew.alloc (.cells ((flat e xs).toArray ++ (flat e ys).toArray ++ Builtin.zeroCells zv.cells (grownCap w (xs.length + ys.length) xs.length E - (xs.length + ys.length))) E)) := by
        have hlen : (flat e xs ++ flat e ys).length = (xs.length + ys.length) * e.n := by rw [List.length_append, flat_length, flat_length, Nat.add_mul]
        refine ⟨by rw [flat_length], .inr ⟨w.heap.size, _, _, by rw [List.length_append], Nat.zero_le _, heap_alloc_new w.drew _, by rw [List.length_append]; exact hge, hcm, ?_, ?_⟩⟩
        · have hz : zv.cells.size = e.n := by rw [k5, hn]; simpa using hT.len
          simp only [Array.size_append, List.size_toArray, size_zeroCells, hz, flat_length, ← Nat.add_mul]
          congr 1
          omega
        · rw [flat_append]
          simp only [Array.toList_append, List.append_assoc]
          rw [← List.append_assoc, List.length_append, ← hlen]
          exact List.take_left
      refine h.set (E := gslU E e v xs) hi (w' := w.drew.alloc _) rfl rfl rfl (by simp) (fun b hb _ => heap_alloc_old w.drew _ hb) hnew (fun b hb => ?_) (hL _)
      have hb' : w.heap.size = b := Option.some.inj hb
      subst hb'
      exact ⟨.inr (Nat.le_refl _), by simp⟩

theorem run_slice3 {T E : TypeId} {n len cap m : Nat} {a : Option Addr} {k k2 k3 : IntKind} (hU : P.underlying T = some (.slice E)) (hE : ∀ w, (sizeOf E).run P w = .ok n w) (hm : m ≤ len) (hc : len ≤ cap) :
    (Instr.slice T (.slice a len cap) (some (.int k (m : Int))) (some (.int k2 (len : Int))) (some (.int k3 (len : Int)))).run P w = .ok (.slice (if len = m then a else a.map (·.add (m * n))) (len - m) (len - m)) w := by
  have h1 : (0 : Int) ≤ len ∧ (len : Int) ≤ cap := ⟨by omega, by omega⟩
  have h2 : (0 : Int) ≤ m ∧ (m : Int) ≤ len := ⟨by omega, by omega⟩
  simp [Instr.slice, Instr.sliceBounds, Instr.sliceBound, asIntOf, run_underlying hU, hE, h1, h2, hm, hc]
end

theorem gslU_data {α : Type} {E : TypeId} {e : Enc α} {a : Option Addr} {n c : Nat} {xs : List α} {w : World} (h : (gslU E e (.slice a n c) xs).h w) :
    n = xs.length ∧ xs.length ≤ c ∧ ((a = none ∧ xs = [] ∧ c = 0) ∨ ∃ ad, a = some ad ∧ ad.spot = none ∧ ad.block < w.heap.size ∧ ∀ j u, (flat e xs)[j]? = some u → w.cell? ⟨ad.block, ad.off + j, none⟩ = some u) := by
  rcases h with h | ⟨ad, hv, h1, h2, h3⟩
  · have ho : w.ownsRow 0 E e.n (.slice a n c) xs.length (flat e xs) := h
    rcases ho.2 with ⟨h1, h2⟩ | ⟨g, cap, cur, hv, hb, hh, k1, k2, k3, k4⟩
    · have hx : xs = [] := List.eq_nil_of_length_eq_zero h2
      subst hx
      injection h1 with e1 e2 e3
      exact ⟨e2, by simp, .inl ⟨e1, rfl, e3⟩⟩
    · have hv' := hv
      injection hv with e1 e2 e3
      subst e1; subst e2; subst e3
      refine ⟨rfl, k1, .inr ⟨_, rfl, rfl, lt_of_some hh, fun j u hj => ?_⟩⟩
      have := ho.cells (g := g) rfl j u hj
      rw [add_flat rfl] at this
      exact this
  · injection hv with e1 e2 e3
    subst e1; subst e2; subst e3
    exact ⟨rfl, Nat.le_refl _, .inr ⟨ad, rfl, h1, h2, h3⟩⟩

/-- The end of such a slice, full. -/
theorem U.slice3 {P : Program} {T E : TypeId} {n c : Nat} {α : Type} {e : Enc α} {w : World} {xs : List α} {a : Option Addr} {z : Int} (hU : P.underlying T = some (.slice E)) (hE : ∀ w, (sizeOf E).run P w = .ok n w) (hn : e.n = n)
    (hz : 0 ≤ z ∧ z ≤ ((xs.length : Nat) : Int)) (h : (gslU E e (.slice a xs.length c) xs).h w) :
    ∃ a', (∀ (σ : Nat → Value) (w : World) (d : Option Tmp) (ty : TypeId) (pos : String) (af : Array Edge) (g : Option (Nat × Bool)) (x l hi mx : Operand), ev σ x = .slice a xs.length c → ev σ l = .int .i64 z → ev σ hi = .int .i64 ((xs.length : Nat) : Int) → ev σ mx = .int .i64 ((xs.length : Nat) : Int) →
      Runs P σ ⟨d, .slice T x (some l) (some hi) (some mx), ty, pos, af, g⟩ w (.slice a' (xs.drop z.toNat).length (xs.drop z.toNat).length) w) ∧
      (gslU E e (.slice a' (xs.drop z.toNat).length (xs.drop z.toNat).length) (xs.drop z.toNat)).h w ∧ ∀ b, (gslU E e (.slice a' (xs.drop z.toNat).length (xs.drop z.toNat).length) (xs.drop z.toNat)).F b → (gslU E e (.slice a xs.length c) xs).F b := by
  have hm : z.toNat ≤ xs.length := by omega
  have hz' : z = ((z.toNat : Nat) : Int) := (Int.toNat_of_nonneg hz.1).symm
  have hd : (xs.drop z.toNat).length = xs.length - z.toNat := List.length_drop
  obtain ⟨-, hc, hdat⟩ := gslU_data h
  refine ⟨if xs.length = z.toNat then a else a.map (·.add (z.toNat * n)), fun σ w' d ty pos af g x l hi mx hx hl hh hmx => ?_, ?_, ?_⟩
  · have hr := run_slice3 (P := P) (w := w') (T := T) (E := E) (n := n) (len := xs.length) (cap := c) (m := z.toNat) (a := a) (k := .i64) (k2 := .i64) (k3 := .i64) hU hE hm hc
    rw [← hz'] at hr
    have hat : (Instr.sliceAt T (.slice a xs.length c) (some (.int .i64 z)) (some (.int .i64 ((xs.length : Nat) : Int))) (some (.int .i64 ((xs.length : Nat) : Int)))).run P w' = .ok (.slice (if xs.length = z.toNat then a else a.map (·.add (z.toNat * n))) (xs.length - z.toNat) (xs.length - z.toNat)) w' := by
      simp only [Instr.sliceAt, Sem.run_bind, run_underlying hU, Result.andThen]
      exact hr
    rw [hd]
    simp only [Runs, execOp, hx, hl, hh, hmx, Option.map_some, Sem.run_bind, hat, Result.andThen, Sem.run_pure]
  · rcases hdat with ⟨h1, h2, h3⟩ | ⟨ad, h1, h2, h3, h4⟩
    · subst h2
      refine .inl ?_
      have : (gsl E e (.slice none 0 0) ([] : List α)).h w := ⟨by simp [flat], .inl ⟨rfl, rfl⟩⟩
      have e0 : z.toNat = 0 := by simpa using hm
      simpa [h1, e0] using this
    · subst h1
      by_cases hq : xs.length = z.toNat
      · rw [if_pos hq]
        refine .inr ⟨ad, rfl, h2, h3, fun j u hj => ?_⟩
        rw [List.drop_of_length_le (by omega)] at hj
        simp [flat] at hj
      · rw [if_neg hq]
        refine .inr ⟨⟨ad.block, ad.off + z.toNat * n, none⟩, by simp [add_flat h2], rfl, h3, fun j u hj => ?_⟩
        have h5 : (flat e xs)[z.toNat * n + j]? = some u := by
          have h6 : flat e xs = flat e (xs.take z.toNat) ++ flat e (xs.drop z.toNat) := by rw [← flat_append, List.take_append_drop]
          have h7 : (flat e (xs.take z.toNat)).length = z.toNat * n := by rw [flat_length, List.length_take, Nat.min_eq_left hm, hn]
          rw [h6, List.getElem?_append_right (by omega), h7, show z.toNat * n + j - z.toNat * n = j by omega]
          exact hj
        have h8 := h4 _ u h5
        show w.cell? ⟨ad.block, ad.off + z.toNat * n + j, none⟩ = some u
        rw [Nat.add_assoc]; exact h8
  · intro b hb
    have hb' : (Value.slice (if xs.length = z.toNat then a else a.map (·.add (z.toNat * n))) (xs.drop z.toNat).length (xs.drop z.toNat).length).ownBlock = some b := hb
    show (Value.slice a xs.length c).ownBlock = some b
    cases a with
    | none => split at hb' <;> cases hb'
    | some ad =>
      split at hb'
      · exact hb'
      · simp only [Option.map_some, Value.ownBlock] at hb' ⊢
        rw [← hb']
        unfold Addr.add
        split <;> rfl

/-! ### append of what is read -/
theorem flat_at {α : Type} (e : Enc α) (xs : List α) {j : Nat} {u : Value} (h : (flat e xs)[j]? = some u) : ∃ i x r, xs[i]? = some x ∧ j = i * e.n + r ∧ (e.enc x)[r]? = some u := by
  have hj : j < xs.length * e.n := by have := (List.getElem?_eq_some_iff.1 h).1; rwa [flat_length] at this
  have hn : 0 < e.n := by rcases Nat.eq_zero_or_pos e.n with h0 | h0; · rw [h0] at hj; omega
                          · exact h0
  have hi : j / e.n < xs.length := (Nat.div_lt_iff_lt_mul hn).2 hj
  have hx : xs[j / e.n]? = some xs[j / e.n] := List.getElem?_eq_getElem hi
  have hjj : j = j / e.n * e.n + j % e.n := by rw [Nat.mul_comm]; exact (Nat.div_add_mod j e.n).symm
  refine ⟨j / e.n, xs[j / e.n], j % e.n, hx, hjj, ?_⟩
  obtain ⟨h1, h2⟩ := flat_split e xs _ _ hx
  have hr : j % e.n < (e.enc xs[j / e.n]).length := by rw [e.len]; exact Nat.mod_lt _ hn
  rw [h1, List.getElem?_append_right (by omega), h2, show j - j / e.n * e.n = j % e.n by omega, List.getElem?_append_left hr] at h
  exact h

theorem flat_leaf {α : Type} (e : Enc α) (xs : List α) (hl : ∀ x, (e.enc x).all leafB = true) : (flat e xs).all leafB = true := by
  induction xs with
  | nil => rfl
  | cons x xs ih => simp only [flat, List.map_cons, List.flatten_cons, List.all_append, hl, Bool.true_and] at *; exact ih

section
variable {P : Program} {σ : Nat → Value} {w : World} {d : Option Tmp} {ty : TypeId} {pos : String} {af : Array Edge} {g : Option (Nat × Bool)}

theorem run_append_none {T E : TypeId} {i0 : TypeInfo} {s : Value} {ad : Addr} {c : Nat} (hU : P.underlying T = some (.slice E)) (h1 : P.info? E = some i0) {a : Option Addr} {n q : Nat} (hs : s = .slice a n q) (hnq : n ≤ q) :
    (Builtin.append_ #[T, T] ty #[s, .slice none 0 c]).run P w = (Builtin.append_ #[T, T] ty #[s, .slice (some ad) 0 c]).run P w := by
  subst hs
  simp [Builtin.append_, run_underlying hU, sizeOf, typeInfo, h1, Builtin.lenOf, Builtin.firstCells, loadCells, loadCellsFrom, hnq]

/-- append, onto a slice of one's own, of what is read. -/
theorem X.appendRd {L0 L : List Ent} {w0 : World} (h : St L0 w0 w L) {α : Type} {k : Kd α} {T E n bytes i c : Nat} {zc : List Value} (hT : SlT P T E n bytes zc) {e : Enc α} {v : Value} {xs ys : List α}
    {x y : Operand} {a : Option Addr} {ok : Nat → Prop} (hi : L[i]? = some (gsl E e v xs)) (hn : e.n = n) (hx : ev σ x = v) (hy : ev σ y = .slice a ys.length c)
    (hsz : k.sz = e.n) (henc : ∀ {w ok x cs}, k.rd w ok x cs → cs = e.enc x) (hlf : ∀ x, (e.enc x).all leafB = true) (he : elems k w ok a ys) (hb : (xs.length + ys.length) * bytes ≤ 140737488355328) (h63 : xs.length + ys.length ≤ 4611686018427387904)
    {L' : Value → List Ent} (hL : ∀ v', L' v' = L.set i (gsl E e v' (xs ++ ys))) :
    ∃ v' w', Runs P σ ⟨d, .call ⟨.builtin .append, #[x, y], #[T, T]⟩, ty, pos, af, g⟩ w v' w' ∧ St L0 w0 w' (L' v') := by
  obtain ⟨i0, zv, h1, h2, h3, h4, h5⟩ := hT.el
  obtain ⟨ad, hcell, heq⟩ : ∃ ad : Addr, (∀ j u, (flat e ys)[j]? = some u → w.cell? (ad.add j) = some u) ∧ (Builtin.append_ #[T, T] ty #[v, .slice a ys.length c]).run P w = (Builtin.append_ #[T, T] ty #[v, .slice (some ad) ys.length c]).run P w := by
    cases ys with
    | nil =>
      cases a with
      | some ad => exact ⟨ad, fun j u hj => by simp [flat] at hj, rfl⟩
      | none =>
        obtain ⟨a', c', hv⟩ := gsl_sl (h.get hi)
        have hg := h.get hi
        rw [hv] at hg
        exact ⟨⟨0, 0, none⟩, fun j u hj => by simp [flat] at hj, run_append_none hT.und h1 hv (gslU_data (.inl hg)).2.1⟩
    | cons y0 ys =>
      obtain ⟨ad, e0, ha, hsp, hat, hrd⟩ := he 0 y0 rfl
      refine ⟨ad, fun j u hj => ?_, by rw [ha]⟩
      obtain ⟨i', x', r, hx', rfl, hr⟩ := flat_at e _ hj
      obtain ⟨ad', e', ha', hsp', hat', hrd'⟩ := he i' x' hx'
      rw [ha] at ha'
      cases ha'
      rw [add_flat hsp]
      have := hat'.cell r u (by rw [henc hrd']; exact hr)
      rw [hsz] at this
      rw [← Nat.add_assoc]; exact this
  obtain ⟨v', w', hr, ho, hg, hnil⟩ := run_append_own (P := P) w 0 T ty E i0 zv n bytes hT.und h1 h2 h3 h4 (by rw [h5]; simpa using hT.len) hT.pos v xs.length (flat e xs)
    (by have := h.get hi; rw [← hn]; exact this) ad ys.length c (flat e ys) (by rw [flat_length, hn]) hcell (oneCell_of_leaf (flat_leaf e ys hlf)) (by unfold maxLen; omega) hb (Nat.zero_le _)
  refine ⟨v', w', ?_, grown_st h hi hg (by
      show w'.ownsRow 0 E e.n v' (xs ++ ys).length (flat e (xs ++ ys))
      rw [List.length_append, flat_append, hn]; exact ho) ?_ (hL v')⟩
  · simp only [Runs, execOp, resolve, invoke, builtin, Sem.run_bind, Sem.run_pure, Result.andThen_ok, List.map_toArray, List.map_cons, List.map_nil, hx, hy, heq, hr]
  · exact append_block (ad := ad) (c := c) (news := flat e ys) hT.und h1 h2 (by rw [h4]; exact hb) (h.get hi) hr (by rw [flat_length, hn, h3]) hcell (oneCell_of_leaf (flat_leaf e ys hlf)) h63 (by rw [h3, hn])
end
theorem roomR {α : Type} {xs ys : List α} {bytes : Nat} (h : xs.length + ys.length < 1000000) (hb : 1000000 * bytes ≤ 140737488355328) : (xs.length + ys.length) * bytes ≤ 140737488355328 :=
  Nat.le_trans (Nat.mul_le_mul_right bytes (by omega)) hb
theorem roomR63 {α : Type} {xs ys : List α} (h : xs.length + ys.length < 1000000) : xs.length + ys.length ≤ 4611686018427387904 := by omega
end Go.Proofs.Ytckcldimnelklaa
