/- Rows with marks behind their tables. -/
import Derived.Test.YtckcldimnelklaaTT
import Derived.Test.YtckcldimnelklaaTN
namespace Go.Proofs.Ytckcldimnelklaa
open Go
theorem elems_prefix {α : Type} {k : Kd α} {w : World} {ok : Nat → Prop} {a : Option Addr} {xs ys : List α} (h : elems k w ok a (xs ++ ys)) : elems k w ok a xs := fun i x hx =>
  h i x (by rw [List.getElem?_append_left (List.getElem?_eq_some_iff.1 hx).1]; exact hx)
theorem prefix_le {α : Type} {xs ys : List α} {c : Nat} (h : (xs ++ ys).length ≤ c) : xs.length ≤ c := by rw [List.length_append] at h; omega
def rowM : Kd Rw where
  sz := 57
  rd := fun w ok r cs => ∃ t, cs = encR r t ∧ ∃ a c, t = .slice a r.table.length c ∧ (r.table ++ [mkH, mkH]).length ≤ c ∧ elems heldW w ok a (r.table ++ [mkH, mkH])
  len := fun ⟨_, h, _⟩ => by subst h; rfl
  leaf := fun ⟨t, h, a, c, h2, _⟩ => by subst h; subst h2; rfl
  keep := fun hk hz ⟨t, h, a, c, h1, h2, h3⟩ => ⟨t, h, a, c, h1, h2, elems_keep hk hz h3⟩
theorem rowM_W {w : World} {ok : Nat → Prop} {r : Rw} {cs : List Value} (h : rowM.rd w ok r cs) : rowW.rd w ok r cs := by
  obtain ⟨t, h1, a, c, h2, h3, h4⟩ := h
  subst h2
  exact ⟨_, h1, a, c, rfl, prefix_le h3, elems_prefix h4⟩
theorem elM {w : World} {ok : Nat → Prop} {a : Option Addr} {xs : List Rw} (h : elems rowM w ok a xs) : elems rowW w ok a xs := fun i x hx => by
  obtain ⟨ad, e, h1, h2, h3, h4⟩ := h i x hx
  exact ⟨ad, e, h1, h2, h3, rowM_W h4⟩
end Go.Proofs.Ytckcldimnelklaa
