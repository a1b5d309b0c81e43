/- What a lane remembers: tracks of which no more is said than is known; given back. -/
import Derived.Test.YtckcldimnelklaaTN
namespace Go.Proofs.Ytckcldimnelklaa
open Go
set_option linter.unusedVariables false
/-- A slice that begins so. -/
def slU {α : Type} (k : Kd α) : Kd (List α) where
  sz := 1
  rd := fun w ok xs cs => ∃ a n c, cs = [.slice a n c] ∧ xs.length ≤ n ∧ elems k w ok a xs
  len := fun ⟨_, _, _, h, _⟩ => by subst h; rfl
  leaf := fun ⟨_, _, _, h, _⟩ => by subst h; rfl
  keep := fun hk hz ⟨a, n, c, h, h1, h2⟩ => ⟨a, n, c, h, h1, elems_keep hk hz h2⟩
def sideU : Kd (List Rw × List Rw) := pairK (slU rowW) (slW rowW)
def momU : Kd ((List Rw × List Rw) × (List Rw × List Rw)) := pairK sideU sideU
abbrev Mom : Type := (List Rw × List Rw) × (List Rw × List Rw)
/-- The tracks of one moment are known again. -/
theorem readsL_give {w : World} {ok : Nat → Prop} {ds : List Mom} {rs : List (Raw 4)} {m : Nat} {r : Raw 4} {d : Mom} {a0 a1 : Option Addr} {c0 c1 : Nat} {u v : Value} {t0 t1 : List Rw}
    (h : readsL momU w ok ds rs) (hd : ds[m]? = some d) (hr : rs[m]? = some r) (hc : r.1 = [.slice a0 t0.length c0, u, .slice a1 t1.length c1, v]) (h0 : elems rowW w ok a0 t0) (h1 : elems rowW w ok a1 t1) :
    readsL momU w ok (ds.set m ((t0, d.1.2), (t1, d.2.2))) rs := by
  refine ⟨by rw [List.length_set]; exact h.1, fun i x q hx hq => ?_⟩
  by_cases hi : m = i
  · subst hi
    have hlt := (List.getElem?_eq_some_iff.1 hd).1
    rw [List.getElem?_set_self hlt] at hx
    cases hx
    rw [hr] at hq
    cases hq
    obtain ⟨e1, e2, he, ⟨f1, f2, hf, ⟨a, n, c, g1, g2, g3⟩, g4⟩, ⟨f3, f4, hf2, ⟨a', n', c', g5, g6, g7⟩, g8⟩⟩ := h.2 m d r hd hr
    obtain ⟨x1, y1, z1, z3, z4⟩ := g4
    obtain ⟨x2, y2, z2, z5, z6⟩ := g8
    subst g1; subst g5; subst z1; subst z2; subst hf; subst hf2
    rw [hc] at he
    simp only [List.cons_append, List.nil_append, List.cons.injEq, and_true] at he
    obtain ⟨q1, q2, q3, q4⟩ := he
    refine ⟨[.slice a0 t0.length c0, u], [.slice a1 t1.length c1, v], by rw [hc]; rfl, ⟨_, [u], rfl, ⟨_, _, _, rfl, Nat.le_refl _, h0⟩, ?_⟩, ⟨_, [v], rfl, ⟨_, _, _, rfl, Nat.le_refl _, h1⟩, ?_⟩⟩
    · exact ⟨x1, y1, by rw [q2], z3, z4⟩
    · exact ⟨x2, y2, by rw [q4], z5, z6⟩
  · rw [List.getElem?_set_ne hi] at hx
    exact h.2 i x q hx hq
theorem getSet {α : Type} {l : List α} {r0 r : α} (m : Nat) (h : l[m]? = some r0) : (l.set m r)[m]? = some r := by
  have := (List.getElem?_eq_some_iff.1 h).1
  simp [this]
end Go.Proofs.Ytckcldimnelklaa
