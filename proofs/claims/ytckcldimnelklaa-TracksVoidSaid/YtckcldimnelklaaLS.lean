/- More operations: slices of slices. -/
import Derived.Test.YtckcldimnelklaaLE
namespace Go.Proofs.Ytckcldimnelklaa
open Go
set_option linter.unusedVariables false
set_option linter.unusedSimpArgs false
variable {P : Program} {σ : Nat → Value} {w : World} {d : Option Tmp} {ty : TypeId} {pos : String} {af : Array Edge} {g : Option (Nat × Bool)}

theorem R.sliceTo {T E : TypeId} {n m len cap : Nat} {x h : Operand} {a : Option Addr} {k : IntKind} {z : Int} (hU : P.underlying T = some (.slice E)) (hE : ∀ w, (sizeOf E).run P w = .ok n w)
    (hx : ev σ x = .slice a len cap) (hi : ev σ h = .int k z) (hm : z = (m : Int)) (hle : m ≤ cap) :
    Runs P σ ⟨d, .slice T x none (some h) none, ty, pos, af, g⟩ w (.slice a m cap) w := by
  subst hm
  have e : (if cap = 0 then a else a.map (·.add 0)) = a := by
    split
    · rfl
    · cases a <;> simp [Addr.add]
  have h1 : (0 : Int) ≤ m ∧ (m : Int) ≤ cap := ⟨by omega, by omega⟩
  simp [Runs, execOp, hx, hi, Instr.sliceAt, Instr.slice, Instr.sliceBounds, Instr.sliceBound, asIntOf, run_underlying hU, hE, h1, e]
  try omega

/-- What was handed in still reads as it did. -/
theorem elems_stay {α : Type} {k : Kd α} {L0 L : List Ent} {w0 w : World} {ok : Nat → Prop} {a : Option Addr} {xs : List α} (h : St L0 w0 w L) (hok : ∀ b, ok b → out L0 b) (he : elems k w0 ok a xs) : elems k w ok a xs := fun i x hx => by
  obtain ⟨ad, e, h1, h2, h3, h4⟩ := he i x hx
  exact ⟨ad, e, h1, h2, h.atR hok h3, k.keep (fun b hb ho => ⟨h.kept.block b hb (hok b ho), ho⟩) h.size h4⟩

/-- A slice of one's own, read. -/
theorem gsl_elems {α : Type} {k : Kd α} {E : TypeId} {e : Enc α} {v : Value} {xs : List α} {w : World} (h : (gsl E e v xs).h w) (hsz : k.sz = e.n) (hrd : ∀ x ∈ xs, ∀ w ok, k.rd w ok x (e.enc x)) :
    ∃ a c, v = .slice a xs.length c ∧ xs.length ≤ c ∧ elems k w (fun b => (gsl E e v xs).F b) a xs := by
  rcases h.2 with ⟨h1, h2⟩ | ⟨g, cap, cur, hv, hb, hh, h1, h2, h3, h4⟩
  · have hx : xs = [] := List.eq_nil_of_length_eq_zero (by omega)
    subst hx
    exact ⟨none, 0, by simp_all, Nat.le_refl _, fun i x hx => by simp at hx⟩
  · refine ⟨some ⟨g, 0, none⟩, cap, hv, h1, fun i x hx => ⟨⟨g, 0, none⟩, e.enc x, rfl, rfl, ?_, hrd x (List.mem_of_getElem? hx) _ _⟩⟩
    obtain ⟨b, c, sp, hv', hh', _, _, _⟩ := gsl_open h hx
    have hbg : b = g := by rw [hv] at hv'; injection hv' with a1 _ _; injection a1 with a1; injection a1 with a1; exact a1.symm
    subst hbg
    refine ⟨rfl, lt_of_some hh', by show v.ownBlock = some b; rw [hv]; rfl, fun j u hj => ?_⟩
    have hj' : j < e.n := by have := (List.getElem?_eq_some_iff.1 hj).1; rw [e.len] at this; exact this
    have := flat_get e xs sp i x hx
    rw [← this] at hj
    simp only [List.getElem?_take, hj', if_true, List.getElem?_drop] at hj
    rw [hsz]
    simp only [World.cell?, hh']
    simpa using hj

/-- A literal slice is one of one's own. -/
theorem arr_gsl {α : Type} {E : TypeId} {e : Enc α} {xs : List α} {w : World} {b : Nat} (h : w.heap[b]? = some (.cells (flat e xs).toArray E (0, 0))) (hl : xs.length ≤ maxLen) : (gsl E e (.slice (some ⟨b, 0, none⟩) xs.length xs.length) xs).h w := by
  have hf : (flat e xs).length = xs.length * e.n := flat_length e xs
  exact ⟨hf, .inr ⟨b, xs.length, (flat e xs).toArray, rfl, Nat.zero_le _, h, Nat.le_refl _, hl, by simpa using hf, by rw [← hf]; simp⟩⟩

theorem arr_elems {α : Type} {k : Kd α} {E : TypeId} {e : Enc α} {xs : List α} {w : World} {b : Nat} (h : w.heap[b]? = some (.cells (flat e xs).toArray E (0, 0))) (hl : xs.length ≤ maxLen) (hsz : k.sz = e.n) (hrd : ∀ x ∈ xs, ∀ w ok, k.rd w ok x (e.enc x)) :
    elems k w (fun x => x = b) (some ⟨b, 0, none⟩) xs := by
  obtain ⟨a, c, hv, _, he⟩ := gsl_elems (arr_gsl h hl) hsz hrd
  injection hv with h1 _ _
  subst h1
  intro i x hx
  obtain ⟨ad, cs, h2, h3, h4, h5⟩ := he i x hx
  have hF : ∀ y, (gsl E e (.slice (some ⟨b, 0, none⟩) xs.length xs.length) xs).F y → y = b := fun y hy => by
    have : some b = some y := hy
    injection this with this; exact this.symm
  exact ⟨ad, cs, h2, h3, ⟨h4.spot, h4.lt, hF _ h4.ok, h4.cell⟩, k.weak (fun y _ hy => hF y hy) h5⟩

/-- A slice that a callee has laid anew is one's own. -/
theorem St.addG {α : Type} {E : TypeId} {e : Enc α} {v : Value} {xs : List α} {L0 L : List Ent} {w0 w w' : World} (h : St L0 w0 w L) (hk : Ext w w') (hg : (gsl E e v xs).h w') (hF : ∀ b, (gsl E e v xs).F b → w.heap.size ≤ b) :
    St L0 w0 w' (L ++ [gsl E e v xs]) := by
  refine h.add hk hg (fun b hb => ⟨hF b hb, ?_⟩) rfl
  have hb' : v.ownBlock = some b := hb
  rcases hg.2 with ⟨h1, _⟩ | ⟨g, cap, cur, hv, _, hh, _⟩
  · rw [h1] at hb'; cases hb'
  · rw [hv] at hb'
    have : some g = some b := hb'
    injection this with this
    subst this
    exact lt_of_some hh

theorem gsl_elemsV {α : Type} {k : Kd α} {E : TypeId} {e : Enc α} {a : Option Addr} {n c : Nat} {xs : List α} {w : World} (h : (gsl E e (.slice a n c) xs).h w) (hsz : k.sz = e.n) (hrd : ∀ x ∈ xs, ∀ w ok, k.rd w ok x (e.enc x)) :
    n = xs.length ∧ xs.length ≤ c ∧ elems k w (fun b => (gsl E e (.slice a n c) xs).F b) a xs := by
  obtain ⟨a', c', hv, hc, he⟩ := gsl_elems h hsz hrd
  injection hv with h1 h2 h3
  subst h1 h3
  exact ⟨h2, hc, he⟩

/-- Two things that are owned lie apart. -/
theorem St.apart {L0 L : List Ent} {w0 w : World} (h : St L0 w0 w L) {i j : Nat} {E E' : Ent} (hi : L[i]? = some E) (hj : L[j]? = some E') (hij : i ≠ j) : ∀ b, E.F b → out [E'] b := by
  intro b hb D hD hF
  have hD' : D = E' := by simpa using hD
  subst hD'
  obtain ⟨li, ei⟩ := List.getElem?_eq_some_iff.1 hi
  obtain ⟨lj, ej⟩ := List.getElem?_eq_some_iff.1 hj
  have hp := List.pairwise_iff_getElem.1 h.disj
  rcases Nat.lt_or_gt_of_ne hij with h1 | h1
  · have := hp i j li lj h1
    rw [ei, ej] at this
    exact this b hb hF
  · have := hp j i lj li h1
    rw [ei, ej] at this
    exact this b hF hb

end Go.Proofs.Ytckcldimnelklaa
