/- What is new: facts whose blocks no one handed in. -/
import Derived.Test.YtckcldimnelklaaTA
namespace Go.Proofs.Ytckcldimnelklaa
open Go
theorem In.ofN {ok' : Nat → Prop} {w0 : World} {L0 L : List Ent} {b : Nat} (h : In (fun _ => False) w0 L0 L b) : In ok' w0 L0 L b := ⟨h.1.elim (fun x => x.elim) .inr, h.2⟩
theorem elN {α : Type} {k : Kd α} {ok' : Nat → Prop} {w0 w : World} {L0 L : List Ent} {a : Option Addr} {xs : List α} (h : elems k w (In (fun _ => False) w0 L0 L) a xs) : elems k w (In ok' w0 L0 L) a xs :=
  elems_keep (fun _ _ hb => ⟨rfl, hb.ofN⟩) (Nat.le_refl _) h
theorem rlN {α : Type} {n : Nat} {k : Kd α} {ok' : Nat → Prop} {w0 w : World} {L0 L : List Ent} {xs : List α} {rs : List (Raw n)} (h : readsL k w (In (fun _ => False) w0 L0 L) xs rs) : readsL k w (In ok' w0 L0 L) xs rs :=
  readsL_keep (fun _ _ hb => ⟨rfl, hb.ofN⟩) (Nat.le_refl _) h
theorem At.ofN {ok' : Nat → Prop} {w0 w : World} {L0 L : List Ent} {a : Addr} {cs : List Value} (h : At w (In (fun _ => False) w0 L0 L) a cs) : At w (In ok' w0 L0 L) a cs :=
  h.keep (fun _ _ hb => ⟨rfl, hb.ofN⟩) (Nat.le_refl _)
theorem elCN {α : Type} {k : Kd α} {L0 L M N M' : List Ent} {w0 w w' : World} {a : Option Addr} {xs : List α} (h : St L0 w0 w L) (hp : L.Perm (M ++ N)) (c : St M w w' M')
    (he : elems k w' (In (fun _ => False) w M M') a xs) : elems k w' (In (fun _ => False) w0 L0 (M' ++ N)) a xs := elC (ok := fun _ => False) h hp c (elN he)
theorem rlCN {α : Type} {n : Nat} {k : Kd α} {L0 L M N M' : List Ent} {w0 w w' : World} {xs : List α} {rs : List (Raw n)} (h : St L0 w0 w L) (hp : L.Perm (M ++ N)) (c : St M w w' M')
    (he : readsL k w' (In (fun _ => False) w M M') xs rs) : readsL k w' (In (fun _ => False) w0 L0 (M' ++ N)) xs rs := rlC (ok := fun _ => False) h hp c (rlN he)
end Go.Proofs.Ytckcldimnelklaa
