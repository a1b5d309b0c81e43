/- A slice of one's own that was clipped: its room ends where it ends, the block behind may be greater. -/
import Derived.Test.YtckcldimnelklaaTU
namespace Go.Proofs.Ytckcldimnelklaa
open Go
set_option linter.unusedVariables false
set_option linter.unusedSimpArgs false

def gslC {α : Type} (E : TypeId) (e : Enc α) (v : Value) (xs : List α) : Ent where
  F := fun b => v.ownBlock = some b
  h := fun w => ∃ a c, v = .slice a xs.length xs.length ∧ (gsl E e (.slice a xs.length c) xs).h w
  st := fun {w w'} hs h => by
    obtain ⟨a, c, hv, h⟩ := h
    refine ⟨a, c, hv, (gsl E e (.slice a xs.length c) xs).st (fun b hb => hs b ?_) h⟩
    rw [hv]
    cases a with
    | none => exact absurd (show (none : Option Nat) = some b from hb) (by simp)
    | some ad => exact hb
theorem gslC_F {α : Type} {E : TypeId} {e : Enc α} {a : Option Addr} {n m c : Nat} {xs ys : List α} : ∀ b, (gslC E e (.slice a n m) ys).F b → (gsl E e (.slice a n c) xs).F b := fun b hb => by
  cases a with
  | none => exact absurd (show (none : Option Nat) = some b from hb) (by simp)
  | some ad => exact hb
theorem gslC_of {α : Type} {E : TypeId} {e : Enc α} {a : Option Addr} {c : Nat} {xs : List α} {w : World} (h : (gsl E e (.slice a xs.length c) xs).h w) : (gslC E e (.slice a xs.length xs.length) xs).h w := ⟨a, c, rfl, h⟩

theorem clip_of {α : Type} {E : TypeId} {e : Enc α} {a : Option Addr} {n c : Nat} {xs : List α} {w : World} (h : (gsl E e (.slice a n c) xs).h w) :
    n ≤ c ∧ (∀ ad, a = some ad → ad.spot = none) := by
  obtain ⟨h1, h2, h3⟩ := gslU_data (.inl h)
  subst h1
  refine ⟨h2, fun ad hd => ?_⟩
  rcases h3 with ⟨h4, -, -⟩ | ⟨ad', h4, h5, -, -⟩
  · rw [h4] at hd; cases hd
  · rw [h4] at hd; cases hd; exact h5

theorem gslC_U {α : Type} {E : TypeId} {e : Enc α} {v : Value} {xs : List α} {w : World} (h : (gslC E e v xs).h w) : (gslU E e v xs).h w := by
  obtain ⟨a, c, hv, h⟩ := h
  obtain ⟨h1, h2, h3⟩ := gslU_data (.inl h)
  subst hv
  rcases h3 with ⟨h4, h5, h6⟩ | ⟨ad', h4, h5, h6, h7⟩
  · have e0 : c = xs.length := by rw [h5, h6]; rfl
    rw [e0] at h; exact .inl h
  · exact .inr ⟨ad', by rw [h4], h5, h6, h7⟩
theorem elAll {α : Type} {k : Kd α} {w : World} {ok : Nat → Prop} {a : Option Addr} {xs : List α} (h : elems k w ok a xs) : elems k w (fun _ => True) a xs :=
  elems_keep (fun b _ hF => ⟨rfl, trivial⟩) (Nat.le_refl _) h

/-- Such a thing, seen as one with all its room. -/
theorem St.unclip {α : Type} {L0 L : List Ent} {w0 w : World} (h : St L0 w0 w L) {i : Nat} {E : TypeId} {e : Enc α} {v : Value} {xs : List α} (hi : L[i]? = some (gslC E e v xs)) :
    ∃ a c, v = .slice a xs.length xs.length ∧ St L0 w0 w (L.set i (gsl E e (.slice a xs.length c) xs)) := by
  obtain ⟨a, c, hv, hg⟩ := h.get hi
  refine ⟨a, c, hv, h.conv hi hg (fun b hb => ?_) rfl⟩
  rw [hv]
  cases a with
  | none => exact absurd (show (none : Option Nat) = some b from hb) (by simp)
  | some ad => exact hb
theorem set_get {L : List Ent} {i : Nat} {E E' : Ent} (hi : L[i]? = some E) : (L.set i E')[i]? = some E' := by
  have := (List.getElem?_eq_some_iff.1 hi).1
  simp [this]

theorem St.gslAtC {α : Type} {L0 L : List Ent} {w0 w : World} (h : St L0 w0 w L) {i j : Nat} {E : TypeId} {e : Enc α} {v : Value} {xs : List α} {x : α} (hi : L[i]? = some (gslC E e v xs)) (hx : xs[j]? = some x) :
    ∃ b c, v = .slice (some ⟨b, 0, none⟩) xs.length c ∧ At w (fun _ => True) ⟨b, 0 + j * e.n, none⟩ (e.enc x) := by
  obtain ⟨a, c, hv, hs⟩ := h.unclip hi
  obtain ⟨b, c', hv', hat⟩ := hs.gslAt (set_get hi) hx
  injection hv' with e1 e2 e3
  subst e1
  exact ⟨b, _, hv, hat⟩
theorem St.gslAtVC {α : Type} {L0 L : List Ent} {w0 w : World} (h : St L0 w0 w L) {i j : Nat} {E : TypeId} {e : Enc α} {v : Value} {xs : List α} {x : α} {b n c : Nat} (hi : L[i]? = some (gslC E e v xs)) (hx : xs[j]? = some x) (hv : v = .slice (some ⟨b, 0, none⟩) n c) :
    At w (fun _ => True) ⟨b, 0 + j * e.n, none⟩ (e.enc x) := by
  obtain ⟨b', c', hv', hat⟩ := h.gslAtC hi hx
  rw [hv] at hv'
  injection hv' with e1 e2 e3
  injection e1 with e1
  injection e1 with e1
  subst e1
  exact hat

section
variable {P : Program} {σ : Nat → Value} {w : World} {d : Option Tmp} {ty : TypeId} {pos : String} {af : Array Edge} {g : Option (Nat × Bool)}
theorem X.storeElC {α : Type} {L0 L : List Ent} {w0 : World} (h : St L0 w0 w L) {T E : TypeId} {n i b j off q c m0 : Nat} {e : Enc α} {v u : Value} {xs : List α} {x' y' : Operand} {x y : α} {vs : List Value}
    (hi : L[i]? = some (gslC E e v xs)) (hx : xs[j]? = some x) (hv : v = .slice (some ⟨b, 0, none⟩) m0 c)
    (hsz : ∀ w, (sizeOf T).run P w = .ok n w) (hp : ev σ x' = .pointer (some ⟨b, q, none⟩)) (hq : q = 0 + j * e.n + off) (hy : ev σ y' = u)
    (hu : u.cells = vs.toArray) (hn : vs.length = n) (hl : vs.all leafB = true) (hlen : off + n ≤ e.n) (hs : splice (e.enc x) off vs = e.enc y)
    {L' : List Ent} (hL : L' = L.set i (gslC E e v (xs.set j y))) :
    ∃ w', (execOp (ev σ) ⟨d, .store T x' y', ty, pos, af, g⟩).run P w = .ok .skip w' ∧ St L0 w0 w' L' := by
  obtain ⟨a, c', hv', h1⟩ := h.unclip hi
  have hv2 := hv'
  rw [hv] at hv2
  injection hv2 with e1 e2 e3
  subst e1
  obtain ⟨w', hr, h2⟩ := X.storeEl (P := P) (σ := σ) (d := d) (ty := ty) (pos := pos) (af := af) (g := g) h1 (set_get hi) hx rfl hsz hp hq hy hu hn hl hlen hs rfl
  refine ⟨w', hr, ?_⟩
  have hg := h2.get (set_get (set_get hi))
  have hlen2 : (xs.set j y).length = xs.length := List.length_set
  rw [← hlen2] at hg
  have h3 := h2.conv (E' := gslC E e v (xs.set j y)) (set_get (set_get hi)) (by
    rw [hv', ← hlen2]; exact gslC_of hg) (fun b' hb => by rw [hv'] at hb; exact hb) rfl
  rw [List.set_set, List.set_set] at h3
  rw [hL]; exact h3
end
end Go.Proofs.Ytckcldimnelklaa
