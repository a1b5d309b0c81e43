/- What an argument's reading says, as kinds. -/
import Derived.Test.YtckcldimnelklaaPb
import Derived.Test.YtckcldimnelklaaLD
import Derived.SizedLaws
namespace Go.Proofs.Ytckcldimnelklaa
open Go Go.RowKit Go.ChangeShapes Go.WideShapes
set_option linter.unusedVariables false

def Reads {α : Type} (P : Program) (t : TypeId) (K : Kd α) : Prop :=
  ∀ {H : Type} {enc : TypeId × Value → H} {w : World} {base : Nat} {spare : Nat → Bool} {held : Bool} {fuel : Nat} {cs : List Value} {x : DataW H × List MemPlace},
    DataW.trod enc P w base spare held fuel t cs = some x → (∀ n ∈ x.1.weights P t, n ≤ reachBytes) → ∃ v, K.rd w (fun _ => True) v cs

variable {α β : Type} {P : Program}

theorem reads_int {t : TypeId} {k : IntKind} (ht : P.underlying t = some (.int k)) : Reads P t (intK k) := by
  intro H enc w base spare held fuel cs x h hwt
  obtain ⟨n, rfl, -, hw⟩ := DataW.trod_int ht h
  simp only [Lit.wf, Bool.and_eq_true, decide_eq_true_eq] at hw
  exact ⟨n, hw, rfl⟩

theorem reads_bool {t : TypeId} (ht : P.underlying t = some .bool) : Reads P t boolK := by
  intro H enc w base spare held fuel cs x h hwt
  obtain ⟨b, rfl, -⟩ := DataW.trod_bool ht h
  exact ⟨b, trivial, rfl⟩

theorem Reads.to {t : TypeId} {K : Kd α} {L : Kd β} (h : Reads P t K) (f : ∀ w v cs, K.rd w (fun _ => True) v cs → ∃ u, L.rd w (fun _ => True) u cs) : Reads P t L := by
  intro H enc w base spare held fuel cs x hx hwt
  obtain ⟨v, hv⟩ := h hx hwt
  exact f w v cs hv

theorem list_of {Q : Nat → α → Prop} (n : Nat) (h : ∀ i, i < n → ∃ v, Q i v) : ∃ xs : List α, xs.length = n ∧ ∀ i x, xs[i]? = some x → Q i x := by
  induction n with
  | zero => exact ⟨[], rfl, fun i x hx => by simp at hx⟩
  | succ n ih =>
    obtain ⟨xs, hl, hx⟩ := ih fun i hi => h i (by omega)
    obtain ⟨v, hv⟩ := h n (by omega)
    refine ⟨xs ++ [v], by simp [hl], fun i x hi => ?_⟩
    rcases Nat.lt_or_ge i xs.length with hlt | hge
    · rw [List.getElem?_append_left hlt] at hi
      exact hx i x hi
    · rw [List.getElem?_append_right hge] at hi
      have h0 : i - xs.length = 0 := by
        have := (List.getElem?_eq_some_iff.1 hi).1
        simp at this; omega
      rw [h0] at hi
      have : i = n := by omega
      subst this
      simp at hi
      subst hi
      exact hv

theorem cells?_get {w : World} {base n : Nat} {a : Addr} {cs : List Value} (h : w.cells? base a n = some cs) : cs.length = n ∧ ∀ i, i < n → w.cell? (a.add i) = cs[i]? := by
  unfold World.cells? at h
  split at h
  · exact ⟨by simpa using mapM_some_length h, fun i hi => mapM_some_get h i i (by simp [hi])⟩
  · cases h

theorem addB (a : Addr) (n : Nat) : (a.add n).block = a.block := by unfold Addr.add; split <;> rfl
theorem addN {a : Addr} {n : Nat} (h : a.spot = none) : a.add n = ⟨a.block, a.off + n, none⟩ := by
  unfold Addr.add; split
  · rename_i h0; subst h0; cases a; simp_all
  · rfl

theorem lt_of_cell {w : World} {a : Addr} {v : Value} (h : w.cell? a = some v) : a.block < w.heap.size := by
  unfold World.cell? at h
  cases hh : w.heap[a.block]? with
  | none => simp [hh] at h
  | some o => exact (Array.getElem?_eq_some_iff.1 hh).1

theorem weightsAll_mem {H : Type} {P : Program} {e : TypeId} : ∀ {ds : List (DataW H)} {d : DataW H}, d ∈ ds → ∀ n ∈ d.weights P e, n ∈ DataW.weightsAll P e ds
  | d0 :: ds, d, hd, n, hn => by
    simp only [DataW.weightsAll, List.mem_append]
    rcases List.mem_cons.1 hd with rfl | hd
    · exact .inl hn
    · exact .inr (weightsAll_mem hd n hn)

theorem reads_slice {t e : TypeId} {K : Kd α} (ht : P.underlying t = some (.slice e)) (hc : P.cellsOf e = K.sz) (hz : 0 < K.sz) (hK : Reads P e K) (hby : Nat.blt 0 (P.bytesOf e) = true := by kernel_rfl) : Reads P t (sliceK K) := by
  intro H enc w base spare held fuel cs x h hwt
  rcases DataW.trod_slice ht h with ⟨rfl, -⟩ | ⟨a, len, cap, elems, rest, n, -, rfl, hx0, -, hl, hm, hlen, hel, -, -⟩
  · exact ⟨[], none, 0, rfl, Nat.le_refl _, by simp, fun i x hx => by simp at hx⟩
  · have hs : a.spot = none ∨ len = 0 := by
      rcases Nat.eq_zero_or_pos len with h0 | h0
      · exact .inr h0
      · left
        have h1 := hel 0 h0
        have h2 : elems[0]? = some elems[0] := List.getElem?_eq_getElem (by omega)
        rw [h2, Option.bind_eq_some_iff] at h1
        obtain ⟨ds, hd, -⟩ := h1
        rw [hc] at hd
        obtain ⟨hdl, hdc⟩ := cells?_get hd
        have hu : w.cell? ((a.add (0 * K.sz)).add 0) = some (ds[0]'(by omega)) := by rw [hdc 0 hz]; exact List.getElem?_eq_getElem (by omega)
        simpa [Addr.add] using World.cell?_spot hu
    obtain ⟨xs, hxl, hxs⟩ := list_of (Q := fun i v => ∃ e, At w (fun _ => True) ⟨a.block, a.off + i * K.sz, none⟩ e ∧ K.rd w (fun _ => True) v e ∧ a.spot = none) len (by
      intro i hi
      have hs : a.spot = none := hs.elim id (fun h => absurd hi (by omega))
      have h1 := hel i hi
      have h2 : elems[i]? = some elems[i] := List.getElem?_eq_getElem (by omega)
      rw [h2, Option.bind_eq_some_iff] at h1
      obtain ⟨ds, hd, ht'⟩ := h1
      obtain ⟨v, hv⟩ := hK ht' (fun n hn => hwt n (by
        rw [hx0]; simp only [DataW.weights, ht, List.mem_cons, List.mem_append]
        exact .inr (.inl (weightsAll_mem (List.mem_map.2 ⟨elems[i], List.getElem_mem _, rfl⟩) n hn))))
      rw [hc] at hd
      obtain ⟨hdl, hdc⟩ := cells?_get hd
      refine ⟨v, ds, ⟨rfl, ?_, trivial, fun j z hj => ?_⟩, hv, hs⟩
      · exact lt_of_cell (w := w) (a := (a.add (i * K.sz)).add 0) (v := ds[0]'(by omega)) (by rw [hdc 0 hz]; exact List.getElem?_eq_getElem (by omega)) |> fun h => by simpa [addB] using h
      · have hjl : j < K.sz := by rw [← hdl]; exact (List.getElem?_eq_some_iff.1 hj).1
        have := hdc j hjl
        rw [hj, addN hs, addN rfl] at this
        exact this)
    refine ⟨xs, some a, cap, by rw [hxl], by omega, by
      have h9 := hwt ((elems.length + rest.length) * P.bytesOf e) (by rw [hx0]; simp [DataW.weights, ht])
      have h8 : 0 < P.bytesOf e := by simpa using hby
      have h7 : (elems.length + rest.length) * 1 ≤ (elems.length + rest.length) * P.bytesOf e := Nat.mul_le_mul_left _ h8
      have h6 : reachBytes = 140737488351232 := rfl
      omega, fun i x hx => ?_⟩
    obtain ⟨e', h1, h2, h3⟩ := hxs i x hx
    exact ⟨a, e', rfl, h3, h1, h2⟩

/-- Fields (type, offset), from an offset on. -/
def ReadsFs (P : Program) (fs : List (TypeId × Nat)) (off : Nat) (K : Kd α) : Prop :=
  ∀ {H : Type} {enc : TypeId × Value → H} {w : World} {base : Nat} {spare : Nat → Bool} {held : Bool} {n : Nat} {cs : List Value}, cs.length = off + K.sz →
    (∀ f ∈ fs, ∃ y, DataW.trod enc P w base spare held n f.1 ((cs.drop f.2).take (P.cellsOf f.1)) = some y ∧ ∀ n ∈ y.1.weights P f.1, n ≤ reachBytes) → ∃ v, K.rd w (fun _ => True) v (cs.drop off)

theorem fs_one {t : TypeId} {off : Nat} {K : Kd α} (h : Reads P t K) (hc : P.cellsOf t = K.sz) : ReadsFs P [(t, off)] off K := by
  intro H enc w base spare held n cs hl hf
  obtain ⟨y, hy, hyw⟩ := hf (t, off) (by simp)
  obtain ⟨v, hv⟩ := h hy hyw
  have e : (cs.drop off).take (P.cellsOf t) = cs.drop off := List.take_of_length_le (by simp; omega)
  rw [show (t, off).2 = off from rfl, show (t, off).1 = t from rfl, e] at hv
  exact ⟨v, hv⟩

theorem fs_cons {t : TypeId} {off off' : Nat} {K : Kd α} {L : Kd β} {fs : List (TypeId × Nat)} (h : Reads P t K) (hc : P.cellsOf t = K.sz) (ho : off' = off + K.sz) (h2 : ReadsFs P fs off' L) : ReadsFs P ((t, off) :: fs) off (pairK K L) := by
  intro H enc w base spare held n cs hl hf
  subst ho
  have hl' : cs.length = off + (K.sz + L.sz) := hl
  obtain ⟨y, hy, hyw⟩ := hf (t, off) (by simp)
  obtain ⟨v, hv⟩ := h hy hyw
  obtain ⟨u, hu⟩ := h2 (H := H) (enc := enc) (w := w) (base := base) (spare := spare) (held := held) (n := n) (cs := cs) (by omega) (fun f hf' => hf f (List.mem_cons_of_mem _ hf'))
  rw [show (t, off).2 = off from rfl, show (t, off).1 = t from rfl, hc] at hv
  exact ⟨(v, u), _, _, by rw [← List.drop_drop, List.take_append_drop], hv, hu⟩

def fieldsOf (P : Program) (t : TypeId) : List (TypeId × Nat) := match P.underlying t with | some (.struct fs) => fs.toList.map fun f => (f.type, f.offset) | _ => []

theorem reads_struct {t : TypeId} {K : Kd α} {fs : List (TypeId × Nat)} (he : fieldsOf P t = fs) (hne : fs ≠ []) (hc : P.cellsOf t = K.sz) (h : ReadsFs P fs 0 K) : Reads P t K := by
  intro H enc w base spare held fuel cs x hx hwt
  unfold fieldsOf at he
  split at he
  · rename_i gs hg
    obtain ⟨xs, n, -, hx0, hl, hlen, hf⟩ := DataW.trod_struct hg hx
    obtain ⟨v, hv⟩ := h (H := H) (enc := enc) (w := w) (base := base) (spare := spare) (held := held) (n := n) (cs := cs) (by omega) (fun f hf' => by
      rw [← he] at hf'
      obtain ⟨g, hg', rfl⟩ := List.mem_map.1 hf'
      obtain ⟨i, hi, hgi⟩ := List.getElem_of_mem hg'
      have hi' : i < gs.size := by simpa using hi
      have hgi' : gs[i]? = some g := by rw [Array.getElem?_eq_getElem hi']; simpa using hgi
      refine ⟨xs[i]'(by omega), by rw [hf i g hgi']; exact List.getElem?_eq_getElem (by omega), fun n hn => hwt n ?_⟩
      rw [hx0]; simp only [DataW.weights, hg]
      exact DataW.weights_mem_each (j := i) (t := g.type) (d := (xs[i]'(by omega)).1) (by rw [List.getElem?_map, Array.getElem?_toList, hgi']; rfl) (by rw [List.getElem?_map, List.getElem?_eq_getElem (by omega)]; rfl) n hn)
    exact ⟨v, by simpa using hv⟩
  · exact absurd he.symm hne

theorem reads_array {t e : TypeId} {m : Nat} {K : Kd α} {fs : List (TypeId × Nat)} (ht : P.underlying t = some (.array m e)) (he : (List.range m).map (fun i => (e, i * P.cellsOf e)) = fs) (hc : P.cellsOf t = K.sz) (h : ReadsFs P fs 0 K) : Reads P t K := by
  intro H enc w base spare held fuel cs x hx hwt
  obtain ⟨xs, n, -, hx0, hl, hlen, hf⟩ := DataW.trod_array ht hx
  obtain ⟨v, hv⟩ := h (H := H) (enc := enc) (w := w) (base := base) (spare := spare) (held := held) (n := n) (cs := cs) (by omega) (fun f hf' => by
    rw [← he] at hf'
    obtain ⟨i, hi, rfl⟩ := List.mem_map.1 hf'
    have hi' : i < m := by simpa using hi
    refine ⟨xs[i]'(by omega), by rw [hf i hi']; exact List.getElem?_eq_getElem (by omega), fun n hn => hwt n ?_⟩
    rw [hx0]; simp only [DataW.weights, ht]
    exact weightsAll_mem (List.mem_map.2 ⟨xs[i]'(by omega), List.getElem_mem _, rfl⟩) n hn)
  exact ⟨v, by simpa using hv⟩

/-- An argument that is a slice. -/
theorem open_slice {H : Type} {enc : TypeId × Value → H} {w : World} {base : Nat} {spare : Nat → Bool} {held : Bool} {t : TypeId} {K : Kd α} {v : Value} {d : DataW H} {ps : List MemPlace} (h : Reads P t (sliceK K))
    (ho : ∃ (a : Option Addr) (len cap : Nat), v = .slice a len cap) (hd : DataW.Trod enc P w base spare held t v d ps) (hwt : ∀ n ∈ d.weights P t, n ≤ reachBytes) :
    ∃ (a : Option Addr) (xs : List α) (cap : Nat), v = .slice a xs.length cap ∧ xs.length ≤ cap ∧ xs.length ≤ 140737488355328 ∧ elems K w (fun _ => True) a xs := by
  obtain ⟨fuel, hf⟩ := hd
  obtain ⟨a, len, cap, rfl⟩ := ho
  obtain ⟨xs, a', c, he, hcp, hl, hel⟩ := h hf hwt
  have e : [Value.slice a len cap] = [Value.slice a' xs.length c] := he
  injection e with e1 e2
  exact ⟨a', xs, c, e1, hcp, hl, hel⟩

theorem open_int {H : Type} {enc : TypeId × Value → H} {w : World} {r : Reach} {b0 : Nat} {base : Nat} {spare : Nat → Bool} {held : Bool} {t : TypeId} {k : IntKind} {v : Value} {d : DataW H} {ps : List MemPlace} (ht : P.underlying t = some (.int k))
    (hval : Value.okWide P w r b0 t v) (hd : DataW.Trod enc P w base spare held t v d ps) : ∃ n : Int, v = .int k n ∧ k.min ≤ n ∧ n ≤ k.max := by
  obtain ⟨n, rfl⟩ := okWide_int ht hval
  obtain ⟨fuel, hf⟩ := hd
  obtain ⟨m, hw, e⟩ : ∃ m : Int, (k.min ≤ m ∧ m ≤ k.max) ∧ [Value.int k n] = [Value.int k m] := by
    obtain ⟨m, he, -, hw⟩ := DataW.trod_int ht hf
    simp only [Lit.wf, Bool.and_eq_true, decide_eq_true_eq] at hw
    exact ⟨m, hw, he⟩
  have e' : [Value.int k n] = [Value.int k m] := e
  cases e'
  exact ⟨n, rfl, hw⟩

/-- The arguments read behind the call as they did. -/
theorem args_below {H : Type} {enc : TypeId × Value → H} {P : Program} (hl : laidOutB P = true) {W W' : World} (hb : Below W.heap.size W W') (sp : Nat → Bool) :
    ∀ {ts : List TypeId} {vs : List Value} {ds : List (DataW H)} {p : List MemPlace}, (ts.all fun t => P.readableRec t && decide (t < P.types.size)) = true →
      DataW.TrodAll enc P W 0 (fun _ => true) true ts vs ds p → (∀ x ∈ p, x.block < W.heap.size) → (∀ x ∈ p, sp x.block = true) → DataW.TrodAll enc P W' 0 sp true ts vs ds p
  | [], [], [], p, _, h, _, _ => h
  | t :: ts, v :: vs, d :: ds, p, ht, h, hlt, hsp => by
    obtain ⟨p1, q1, h1, h2, rfl⟩ := h
    simp only [List.all_cons, Bool.and_eq_true, decide_eq_true_eq] at ht
    exact ⟨p1, q1, WideElems.Trod_stays hl ht.1.1 ht.1.2 h1 (fun x hx => hb.same (hlt x (List.mem_append_left _ hx))) (fun x hx => hsp x (List.mem_append_left _ hx)),
      args_below hl hb sp ht.2 h2 (fun x hx => hlt x (List.mem_append_right _ hx)) (fun x hx => hsp x (List.mem_append_right _ hx)), rfl⟩
  | [], _ :: _, _, _, _, h, _, _ => h.elim
  | [], [], _ :: _, _, _, h, _, _ => h.elim
  | _ :: _, [], _, _, _, h, _, _ => h.elim
  | _ :: _, _ :: _, [], _, _, h, _, _ => h.elim

end Go.Proofs.Ytckcldimnelklaa
