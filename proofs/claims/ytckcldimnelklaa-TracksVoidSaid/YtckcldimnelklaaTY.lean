/- Three operations that may come up; regions in which only what is new there turns. -/
import Derived.Test.YtckcldimnelklaaTQ
namespace Go.Proofs.Ytckcldimnelklaa
open Go
section
variable {P : Program} {n : Nat} {Q : Exit → Act → World → Prop} {σ : Nat → Value} {w : World} {l : List Oper} {fuel : Nat} {listed : Array Bool}
theorem WE.three (i j m : Nat) (hr : Region.ready .any l.toArray listed = [i, j, m]) (h1 : WI P n l Q fuel listed i σ w) (h2 : WI P n l Q fuel listed j σ w) (h3 : WI P n l Q fuel listed m σ w) : WE P n l Q (fuel + 1) listed σ w := by
  refine ⟨fun hq => ?_⟩
  show _ ∧ _
  refine ⟨fun h0 => (by rw [hr] at h0; cases h0), fun k hk => ?_⟩
  rw [hr] at hk
  rcases List.mem_cons.1 hk with rfl | hk
  · exact h1.out hq
  rcases List.mem_cons.1 hk with rfl | hk
  · exact h2.out hq
  · cases List.mem_singleton.1 hk; exact h3.out hq
end
/-- One operation of a region in which things turn, taken now. -/
structure WJ (P : Program) (n : Nat) (l : List Oper) (Q : Exit → Act → World → Prop) (L : List Ent) (fuel : Nat) (listed : Array Bool) (i : Nat) (σ : Nat → Value) (w : World) : Prop where
  out : (∀ c a w, ¬ Q (.panic c) a w) → wpOp P l.toArray Q i (fun a' w' => (lastB l.toArray i = true ∧ ∃ S' : World → Prop, S' w' ∧ wpAnyK P l.toArray Q fuel S' (listed.setIfInBounds i true) a' w') ∨
      (Kept L w w' ∧ wpAnyK P l.toArray Q fuel (fun x => Kept L w x) (listed.setIfInBounds i true) a' w')) (fr n σ) w
section
variable {P : Program} {n : Nat} {Q : Exit → Act → World → Prop} {σ : Nat → Value} {w : World} {l : List Oper} {fuel : Nat} {listed : Array Bool} {L : List Ent}
theorem WK.two (i j : Nat) (hr : Region.ready .any l.toArray listed = [i, j]) (h1 : WJ P n l Q L fuel listed i σ w) (h2 : WJ P n l Q L fuel listed j σ w) : WK P n l Q L (fuel + 1) listed σ w := by
  refine ⟨fun hq => ?_⟩
  show _ ∧ _
  refine ⟨fun h0 => (by rw [hr] at h0; cases h0), fun k hk => ?_⟩
  rw [hr] at hk
  rcases List.mem_cons.1 hk with rfl | hk
  · exact h1.out hq
  · cases List.mem_singleton.1 hk; exact h2.out hq
theorem WK.three (i j m : Nat) (hr : Region.ready .any l.toArray listed = [i, j, m]) (h1 : WJ P n l Q L fuel listed i σ w) (h2 : WJ P n l Q L fuel listed j σ w) (h3 : WJ P n l Q L fuel listed m σ w) : WK P n l Q L (fuel + 1) listed σ w := by
  refine ⟨fun hq => ?_⟩
  show _ ∧ _
  refine ⟨fun h0 => (by rw [hr] at h0; cases h0), fun k hk => ?_⟩
  rw [hr] at hk
  rcases List.mem_cons.1 hk with rfl | hk
  · exact h1.out hq
  rcases List.mem_cons.1 hk with rfl | hk
  · exact h2.out hq
  · cases List.mem_singleton.1 hk; exact h3.out hq
theorem WJ.one (i : Nat) {o : Oper} (hi : l[i]? = some o) (hn : okOp n o = true) (hw : Region.wanted o (yielded l.toArray (fr n σ).tmps) = true)
    (h : (∀ c a w, ¬ Q (.panic c) a w) → o.upon P (fr n σ) (fun a' w' => (lastB l.toArray i = true ∧ ∃ S' : World → Prop, S' w' ∧ wpAnyK P l.toArray Q fuel S' (listed.setIfInBounds i true) a' w') ∨
      (Kept L w w' ∧ wpAnyK P l.toArray Q fuel (fun x => Kept L w x) (listed.setIfInBounds i true) a' w')) Q ((execOp (ev σ) o).run P w)) :
    WJ P n l Q L fuel listed i σ w := by
  have hi' : l.toArray[i]? = some o := by simpa using hi
  refine ⟨fun hq => ?_⟩
  unfold wpOp
  simp only [hi', hw, if_true]
  refine .inl ?_
  unfold Oper.wp
  rw [exec_fr σ hn]
  exact h hq
theorem WJ.new (i : Nat) {o : Oper} {L' : Nat → List Ent} {f : Nat → Value} (hi : l[i]? = some o) (hn : okOp n o = true) (hg : o.guard = none)
    (hx : ∃ b w', Runs P σ o w (f b) w' ∧ St L w w' (L' b) ∧ Ext w w' ∧ w.heap.size ≤ b)
    (k : ∀ b w', St L w w' (L' b) → Ext w w' → w.heap.size ≤ b → WK P n l Q (L' b) fuel (listed.setIfInBounds i true) (updO σ o.dst (f b)) w') : WJ P n l Q L fuel listed i σ w := by
  obtain ⟨b, w', h1, h2, h3, h4⟩ := hx
  refine WJ.one i hi hn (by simp [Region.wanted, hg]) fun hq => ?_
  unfold Runs at h1
  rw [h1]
  simp only [Oper.upon, fr_putO]
  exact WK.goes hq h2 (k b w' h2 h3 h4)
theorem WJ.call (i : Nat) {o : Oper} {f : FuncId} {args : List Value} {R : Value → World → Prop} (hi : l[i]? = some o) (hn : okOp n o = true) (hg : o.guard = none)
    (hc : Ret P f args w R) (hx : (execOp (ev σ) o).run P w = .ok (.enter f args.toArray) w)
    (k : ∀ v w', R v w' → ∃ L', St L w w' L' ∧ WK P n l Q L' fuel (listed.setIfInBounds i true) (updO σ o.dst v) w') : WJ P n l Q L fuel listed i σ w := by
  refine WJ.one i hi hn (by simp [Region.wanted, hg]) fun hq => ?_
  rw [hx]
  simp only [Oper.upon, fr_putO]
  refine Calls.mono hc fun e w' ⟨v, he, h⟩ => ?_
  subst he
  obtain ⟨L', h1, h2⟩ := k v w' h
  exact WK.goes hq h1 h2
end
theorem Kept.ups {T N : List Ent} {w x : World} (h : Kept T w x) : Kept (T ++ N) w x :=
  ⟨h.os, h.tape, h.output, h.size, fun b hb ho => h.block b hb fun D hD => ho D (List.mem_append_left _ hD)⟩
theorem St.holesK {L0 T N : List Ent} {w0 w x : World} (h : St L0 w0 w (T ++ N)) (hq : Kept T w x) : St (T.map hole ++ N) x x (T.map hole ++ N) := by
  have hd := List.pairwise_append.1 h.disj
  refine ⟨Kept.refl _ _, fun D hD => ?_, fun D hD b hb => ?_, ?_, fun D hD b hb _ ho => ho D hD hb⟩
  · rcases List.mem_append.1 hD with hD | hD
    · obtain ⟨E, _, rfl⟩ := List.mem_map.1 hD; trivial
    · refine D.st (fun b hb => ?_) (h.holds D (List.mem_append_right _ hD))
      exact hq.block b (h.inr D (List.mem_append_right _ hD) b hb) fun E hE hF => hd.2.2 E hE D hD b hF hb
  · have hsz := hq.size
    rcases List.mem_append.1 hD with hD | hD
    · obtain ⟨E, hE, rfl⟩ := List.mem_map.1 hD; exact Nat.lt_of_lt_of_le (h.inr E (List.mem_append_left _ hE) b hb) hsz
    · exact Nat.lt_of_lt_of_le (h.inr D (List.mem_append_right _ hD) b hb) hsz
  · refine List.pairwise_append.2 ⟨?_, hd.2.1, fun D hD E hE => ?_⟩
    · exact List.pairwise_map.2 (hd.1.imp fun h => h)
    · obtain ⟨E', hE', rfl⟩ := List.mem_map.1 hD; exact hd.2.2 E' hE' E hE
end Go.Proofs.Ytckcldimnelklaa
