/- Regions that draw their order: operations that only read may be taken first, in the text's order; the others one by one as they come up. -/
import Derived.Test.YtckcldimnelklaaLE
namespace Go.Proofs.Ytckcldimnelklaa
open Go
set_option linter.unusedVariables false
set_option linter.unusedSimpArgs false

section
variable {P : Program} {ops : Array Oper} {Q : Exit → Act → World → Prop} {S : World → Prop}

/-- Does an operation wait for another one? -/
def waitsB (ops : Array Oper) (j i : Nat) : Bool :=
  match ops[j]? with
  | some o => o.after.any fun e => Region.binds .any e && e.on == i
  | none => false

/-- Does it wait for it over others? -/
def reachB (ops : Array Oper) : Nat → Nat → Nat → Bool
  | 0, i, k => waitsB ops i k
  | f + 1, i, k => waitsB ops i k || (List.range ops.size).any fun m => waitsB ops i m && reachB ops f m k

/-- An operation that asks no memory. -/
def moveB (ops : Array Oper) (k : Nat) : Bool :=
  match ops[k]? with
  | some o => match o.op with
    | .move _ => true
    | _ => false
  | none => false

/-- Does an operation wait for each other one, or that for it (or asks that no memory)? -/
def lastB (ops : Array Oper) (i : Nat) : Bool := (List.range ops.size).all fun k => k == i || waitsB ops i k || waitsB ops k i || reachB ops 8 i k || moveB ops k || reachB ops 8 k i

/-- What is listed, whatever that waits for is listed. -/
def closedB (ops : Array Oper) (listed : Array Bool) : Bool := (List.range ops.size).all fun k => !(listed.getD k true) || (List.range ops.size).all fun m => !(waitsB ops k m) || listed.getD m true

def Closed (ops : Array Oper) (listed : Array Bool) : Prop := ∀ k m, k < ops.size → m < ops.size → listed.getD k true = true → waitsB ops k m = true → listed.getD m true = true

theorem closed_of {ops : Array Oper} {listed : Array Bool} (h : closedB ops listed = true) : Closed ops listed := by
  intro k m hk hm h1 h2
  simp only [closedB, List.all_eq_true, List.mem_range, Bool.or_eq_true, Bool.not_eq_true'] at h
  rcases h k hk with h3 | h3
  · rw [h1] at h3; cases h3
  · rcases h3 m hm with h4 | h4
    · rw [h2] at h4; cases h4
    · exact h4

theorem ready_waits {ops : Array Oper} {listed : Array Bool} {j m : Nat} (hj : j ∈ Region.ready .any ops listed) (hw : waitsB ops j m = true) : listed.getD m true = true := by
  obtain ⟨_, oj, hoj, hall⟩ := mem_ready.1 hj
  simp only [waitsB, hoj] at hw
  obtain ⟨e, he, hb⟩ := Array.any_eq_true'.1 hw
  simp only [Bool.and_eq_true, beq_iff_eq] at hb
  have h8 := hall e he hb.1
  rw [hb.2] at h8
  rcases Nat.lt_or_ge m listed.size with h' | h'
  · simp [h'] at h8 ⊢; exact h8
  · simp [Array.getElem?_eq_none h'] at h8

theorem reach_listed {ops : Array Oper} {listed : Array Bool} (h : Closed ops listed) {k : Nat} (hk : k < ops.size) : ∀ (f i : Nat), i < ops.size → listed.getD i true = true → reachB ops f i k = true → listed.getD k true = true
  | 0, i, hi, h1, h2 => h i k hi hk h1 h2
  | f + 1, i, hi, h1, h2 => by
    simp only [reachB, Bool.or_eq_true] at h2
    rcases h2 with h2 | h2
    · exact h i k hi hk h1 h2
    · obtain ⟨m, hm, h7⟩ := List.any_eq_true.1 h2
      rw [Bool.and_eq_true] at h7
      have hm' : m < ops.size := by simpa using hm
      exact reach_listed h hk f m hm' (h i m hi hm' h1 h7.1) h7.2

theorem ready_reach {ops : Array Oper} {listed : Array Bool} (h : Closed ops listed) {j k : Nat} (hj : j ∈ Region.ready .any ops listed) (hk : k < ops.size) : ∀ (f : Nat), reachB ops f j k = true → listed.getD k true = true
  | 0, h2 => ready_waits hj h2
  | f + 1, h2 => by
    simp only [reachB, Bool.or_eq_true] at h2
    rcases h2 with h2 | h2
    · exact ready_waits hj h2
    · obtain ⟨m, hm, h7⟩ := List.any_eq_true.1 h2
      rw [Bool.and_eq_true] at h7
      exact reach_listed h hk f m (by simpa using hm) (ready_waits hj h7.1) h7.2

theorem closed_set {ops : Array Oper} {listed : Array Bool} {j : Nat} (h : Closed ops listed) (hj : j ∈ Region.ready .any ops listed) : Closed ops (listed.setIfInBounds j true) := by
  have up : ∀ m, listed.getD m true = true → (listed.setIfInBounds j true).getD m true = true := by
    intro m hm
    by_cases hjm : j = m
    · subst hjm
      rcases Nat.lt_or_ge j listed.size with h' | h'
      · simp [h']
      · simp [h']
    · rw [getD_set_ne true hjm]; exact hm
  intro k m hk hm h1 h2
  by_cases hjk : j = k
  · subst hjk; exact up m (ready_waits hj h2)
  · rw [getD_set_ne true hjk] at h1
    exact up m (h k m hk hm h1 h2)

/-- Whatever order is picked from here on; and S holds behind every operation but one that waits, or is waited for, by all: behind that one another condition may be chosen. -/
def wpAnyK (P : Program) (ops : Array Oper) (Q : Exit → Act → World → Prop) : Nat → (World → Prop) → Array Bool → Act → World → Prop
  | 0, _, listed, a, w => Region.ready .any ops listed = [] ∧ Q .normal a w
  | fuel + 1, S, listed, a, w =>
    (Region.ready .any ops listed = [] → Q .normal a w) ∧
    ∀ i ∈ Region.ready .any ops listed, wpOp P ops Q i (fun a' w' => (lastB ops i = true ∧ ∃ S' : World → Prop, S' w' ∧ wpAnyK P ops Q fuel S' (listed.setIfInBounds i true) a' w') ∨
      (S w' ∧ wpAnyK P ops Q fuel S (listed.setIfInBounds i true) a' w')) a w

theorem wpAny_of_K : ∀ (fuel : Nat) (S : World → Prop) (listed : Array Bool) (a : Act) (w : World), wpAnyK P ops Q fuel S listed a w → wpAny P .any ops Q fuel listed a w
  | 0, _, _, _, _, h => h
  | fuel + 1, _, _, _, _, h => ⟨h.1, fun i hi => wpOp_mono (fun a' w' h' => by
      rcases h' with ⟨_, S', _, h'⟩ | ⟨_, h'⟩
      · exact wpAny_of_K fuel S' _ a' w' h'
      · exact wpAny_of_K fuel _ _ a' w' h') (h.2 i hi)⟩

theorem wpAnyK_first {i : Nat} {oi : Oper} {v : Value} (hi : ops[i]? = some oi) (hsel : ∀ (j : Nat) (o : Oper) cs b, ops[j]? = some o → o.op ≠ .select cs b)
    (hQ : ∀ c a w, Q (.panic c) (a.put oi.dst v) w → Q (.panic c) a w) :
    ∀ (fuel : Nat) (S : World → Prop) (listed : Array Bool) (a : Act) (w : World),
      (∀ j oj, ops[j]? = some oj → j ≠ i → listed.getD j true = false → (∀ e ∈ oj.after, Region.binds .any e = true → e.on ≠ i) → oi.apart ops oj = true) →
      i ∈ Region.ready .any ops listed → Closed ops listed → YieldsIf P ops S oi v a → S w →
      wpAnyK P ops Q fuel S (listed.setIfInBounds i true) (a.put oi.dst v) w → wpAnyK P ops Q (fuel + 1) S listed a w := by
  intro fuel
  induction fuel with
  | zero =>
    intro S listed a w _ hr _ hy hS H
    refine ⟨fun h => (by rw [h] at hr; cases hr), fun j hj => ?_⟩
    by_cases hji : j = i
    · subst hji; exact hy.wpOp hi hS (.inr ⟨hS, H⟩)
    · have := ready_mono hj hji
      rw [H.1] at this
      cases this
  | succ fuel ih =>
    intro S listed a w hfree hr hcl hy hS H
    refine ⟨fun h => (by rw [h] at hr; cases hr), fun j hj => ?_⟩
    by_cases hji : j = i
    · subst hji; exact hy.wpOp hi hS (.inr ⟨hS, H⟩)
    · have h1 := H.2 j (ready_mono hj hji)
      obtain ⟨hjun, oj, hoj, hall⟩ := mem_ready.1 hj
      have hnot : ∀ e ∈ oj.after, Region.binds .any e = true → e.on ≠ i := fun e he hb heq => by
        have h1 := hall e he hb
        have h0 := (mem_ready.1 hr).1
        rw [heq] at h1
        rcases Nat.lt_or_ge i listed.size with h' | h'
        · simp [h'] at h0 h1; rw [h0] at h1; cases h1
        · simp [Array.getElem?_eq_none h'] at h1
      have h2 := wpOp_putIf hoj (hfree j oj hoj hji hjun hnot) (fun cs b => hsel i oi cs b hi) (fun cs b => hsel j oj cs b hoj) hQ hy h1
      have hfree' : ∀ k ok, ops[k]? = some ok → k ≠ i → (listed.setIfInBounds j true).getD k true = false →
          (∀ e ∈ ok.after, Region.binds .any e = true → e.on ≠ i) → oi.apart ops ok = true := fun k ok hk hki hun hno => by
        refine hfree k ok hk hki ?_ hno
        by_cases hjk : j = k
        · subst hjk; exact hjun
        · rw [getD_set_ne true hjk] at hun; exact hun
      have hri : i ∈ Region.ready .any ops (listed.setIfInBounds j true) := ready_mono hr (Ne.symm hji)
      refine wpOp_mono (fun a' w' h3 => ?_) h2
      obtain ⟨h4, h5⟩ := h3
      rcases h5 with ⟨h5, S', hS1, h6⟩ | ⟨hS', h6⟩
      · by_cases hmv : moveB ops i = true
        · have hy' : YieldsIf P ops S' oi v a' := by
            rcases h4 with ⟨hw1, hw2⟩ | hw1
            · refine .inl ⟨hw1, fun x _ => ?_⟩
              have hw3 := hw2 w hS
              simp only [moveB, hi] at hmv
              obtain ⟨dst, op, ty, pos, af, g⟩ := oi
              cases op <;> simp only [Bool.false_eq_true] at hmv
              simp only [execOp, Sem.run_pure] at hw3 ⊢
              injection hw3 with hw3
              rw [hw3]
            · exact .inr hw1
          refine .inl ⟨h5, S', hS1, ih S' (listed.setIfInBounds j true) a' w' hfree' hri (closed_set hcl hj) hy' hS1 ?_⟩
          rw [Array.setIfInBounds_comm _ _ hji]
          exact h6
        exfalso
        simp only [lastB, List.all_eq_true, List.mem_range] at h5
        have h7 := h5 i (Array.getElem?_eq_some_iff.1 hi).1
        simp only [Bool.or_eq_true, beq_iff_eq, Ne.symm hji, false_or, hmv, Bool.false_eq_true, or_false] at h7
        rcases h7 with ((h7 | h7) | h7) | h7
        · simp only [waitsB, hoj] at h7
          obtain ⟨e, he, hb⟩ := Array.any_eq_true'.1 h7
          simp only [Bool.and_eq_true, beq_iff_eq] at hb
          exact hnot e he hb.1 hb.2
        · simp only [waitsB, hi] at h7
          obtain ⟨e, he, hb⟩ := Array.any_eq_true'.1 h7
          simp only [Bool.and_eq_true, beq_iff_eq] at hb
          obtain ⟨hiun, oi', hoi', halli⟩ := mem_ready.1 hr
          rw [hi] at hoi'
          cases hoi'
          have h8 := halli e he hb.1
          rw [hb.2] at h8
          rcases Nat.lt_or_ge j listed.size with h' | h'
          · simp [h'] at hjun h8; rw [hjun] at h8; cases h8
          · simp [Array.getElem?_eq_none h'] at h8
        · have h8 := ready_reach hcl hj (Array.getElem?_eq_some_iff.1 hi).1 8 h7
          rw [(mem_ready.1 hr).1] at h8
          cases h8
        · have h8 := ready_reach hcl hr (Array.getElem?_eq_some_iff.1 hoj).1 8 h7
          rw [hjun] at h8
          cases h8
      · refine .inr ⟨hS', ih S (listed.setIfInBounds j true) a' w' hfree' hri (closed_set hcl hj) h4 hS' ?_⟩
        rw [Array.setIfInBounds_comm _ _ hji]
        exact h6

theorem wpAnyK_mono {S S' : World → Prop} (h : ∀ x, S' x → S x) : ∀ (fuel : Nat) (listed : Array Bool) (a : Act) (w : World), wpAnyK P ops Q fuel S' listed a w → wpAnyK P ops Q fuel S listed a w
  | 0, _, _, _, H => H
  | fuel + 1, _, _, _, H => ⟨H.1, fun i hi => wpOp_mono (fun a' w' h' => by
      rcases h' with h' | ⟨h1, h2⟩
      · exact .inl h'
      · exact .inr ⟨h _ h1, wpAnyK_mono h fuel _ a' w' h2⟩) (H.2 i hi)⟩
end

/-- A region that draws, walked: from the world at hand on, which stays but for new blocks. -/
structure WE (P : Program) (n : Nat) (l : List Oper) (Q : Exit → Act → World → Prop) (fuel : Nat) (listed : Array Bool) (σ : Nat → Value) (w : World) : Prop where
  out : (∀ c a w, ¬ Q (.panic c) a w) → wpAnyK P l.toArray Q fuel (fun x => Ext w x) listed (fr n σ) w

section
variable {P : Program} {n : Nat} {Q : Exit → Act → World → Prop} {σ : Nat → Value} {w : World} {l : List Oper} {fuel : Nat} {listed : Array Bool}

/-- No panic is let through. -/
def NP (Q : Exit → Act → World → Prop) : Prop := ∀ c a w, ¬ Q (.panic c) a w
theorem NP.rq {fn : Func} {R : Value → World → Prop} : NP (RQ P fn R) := by
  rintro c a w ⟨_, v, h, _⟩
  cases h
theorem NP.then {K : Act → World → Prop} (h : NP Q) : NP (Exit.then K Q) := h
theorem NP.block {id : Nat} (h : NP Q) : NP (Exit.inBlock id Q) := h

theorem WC.drawE {id : Nat} (hm : P.follows .mixedOrders = true) (hq : NP Q) (h : WE P n l Q l.length (Array.replicate l.length false) σ w.drew) :
    WC P n (.region id l.toArray true) Q σ w :=
  ⟨wp_region_any hm (wpAny_of_K _ _ _ _ _ (h.out hq))⟩

theorem WE.take (i : Nat) {o : Oper} {v : Value} (hi : l[i]? = some o) (hs : Region.noSelect l.toArray = true) (hf : Region.free .any l.toArray listed i = true)
    (hr : (Region.ready .any l.toArray listed).contains i = true) (hc : closedB l.toArray listed = true) (hn : okOp n o = true) (hg : o.guard = none) (hy : ∀ x, Ext w x → Runs P σ o x v x)
    (k : WE P n l Q fuel (listed.setIfInBounds i true) (updO σ o.dst v) w) : WE P n l Q (fuel + 1) listed σ w := by
  have hi' : l.toArray[i]? = some o := by simpa using hi
  refine ⟨fun hq => wpAnyK_first (v := v) hi' (Region.noSelect_spec hs) (fun c a w h => (hq c _ w h).elim) fuel _ listed _ w (Region.free_spec hi' hf) (by simpa using hr) (closed_of hc) (.inl ⟨by simp [Region.wanted, hg], fun w hw => ?_⟩) (Ext.refl w) ?_⟩
  · rw [exec_fr σ hn]; exact hy w hw
  · rw [fr_putO]; exact k.out hq

theorem WE.takeY (i : Nat) {o : Oper} {v : Value} {j e : Nat} {b : Bool} (hi : l[i]? = some o) (hs : Region.noSelect l.toArray = true) (hf : Region.free .any l.toArray listed i = true)
    (hr : (Region.ready .any l.toArray listed).contains i = true) (hc : closedB l.toArray listed = true) (hn : okOp n o = true) (hg : o.guard = some (j, b)) (hd : (l.toArray[j]?).bind (·.dst) = some e) (he : Nat.blt e n = true) (hv : σ e = .bool b)
    (hy : ∀ x, Ext w x → Runs P σ o x v x)
    (k : WE P n l Q fuel (listed.setIfInBounds i true) (updO σ o.dst v) w) : WE P n l Q (fuel + 1) listed σ w := by
  have hi' : l.toArray[i]? = some o := by simpa using hi
  have hy' := yielded_fr (σ := σ) hd he
  rw [hv] at hy'
  refine ⟨fun hq => wpAnyK_first (v := v) hi' (Region.noSelect_spec hs) (fun c a w h => (hq c _ w h).elim) fuel _ listed _ w (Region.free_spec hi' hf) (by simpa using hr) (closed_of hc) (.inl ⟨by simp [Region.wanted, hg, hy'], fun w hw => ?_⟩) (Ext.refl w) ?_⟩
  · rw [exec_fr σ hn]; exact hy w hw
  · rw [fr_putO]; exact k.out hq

theorem WE.takeN (i : Nat) {o : Oper} {v : Value} {j e : Nat} {b : Bool} (hi : l[i]? = some o) (hs : Region.noSelect l.toArray = true) (hf : Region.free .any l.toArray listed i = true)
    (hr : (Region.ready .any l.toArray listed).contains i = true) (hc : closedB l.toArray listed = true) (hg : o.guard = some (j, b)) (hd : (l.toArray[j]?).bind (·.dst) = some e) (he : Nat.blt e n = true) (hv : σ e = v)
    (hb : (match v with | .bool c => c != b | _ => true) = true)
    (k : WE P n l Q fuel (listed.setIfInBounds i true) (updO σ o.dst undef) w) : WE P n l Q (fuel + 1) listed σ w := by
  have hi' : l.toArray[i]? = some o := by simpa using hi
  have hy' := yielded_fr (σ := σ) hd he
  rw [hv] at hy'
  have hw : Region.wanted o (yielded l.toArray (fr n σ).tmps) = false := by
    simp only [Region.wanted, hg]
    rw [hy']
    cases v <;> first | rfl | (rename_i c; cases c <;> cases b <;> first | rfl | (simp at hb))
  refine ⟨fun hq => wpAnyK_first (v := undef) hi' (Region.noSelect_spec hs) (fun c a w h => (hq c _ w h).elim) fuel _ listed _ w (Region.free_spec hi' hf) (by simpa using hr) (closed_of hc) (.inr ⟨hw, rfl⟩) (Ext.refl w) ?_⟩
  rw [fr_putO]; exact k.out hq

theorem WE.done (hr : Region.ready .any l.toArray listed = []) (h : Q .normal (fr n σ) w) : WE P n l Q fuel listed σ w := by
  refine ⟨fun _ => ?_⟩
  cases fuel with
  | zero => exact ⟨hr, h⟩
  | succ f => exact ⟨fun _ => h, by rw [hr]; simp⟩

/-- One alone may come up now. -/
theorem WE.one (i : Nat) {o : Oper} (hr : Region.ready .any l.toArray listed = [i]) (hi : l[i]? = some o) (hn : okOp n o = true) (hw : Region.wanted o (yielded l.toArray (fr n σ).tmps) = true)
    (h : (∀ c a w, ¬ Q (.panic c) a w) → o.upon P (fr n σ) (fun a' w' => (lastB l.toArray i = true ∧ ∃ S' : World → Prop, S' w' ∧ wpAnyK P l.toArray Q fuel S' (listed.setIfInBounds i true) a' w') ∨
      (Ext w w' ∧ wpAnyK P l.toArray Q fuel (fun x => Ext w x) (listed.setIfInBounds i true) a' w')) Q ((execOp (ev σ) o).run P w)) :
    WE P n l Q (fuel + 1) listed σ w := by
  have hi' : l.toArray[i]? = some o := by simpa using hi
  refine ⟨fun hq => ?_⟩
  show _ ∧ _
  refine ⟨fun h0 => (by rw [hr] at h0; cases h0), fun j hj => ?_⟩
  rw [hr] at hj
  have hji := List.mem_singleton.1 hj
  subst hji
  unfold wpOp
  simp only [hi', hw, if_true]
  refine .inl ?_
  unfold Oper.wp
  rw [exec_fr σ hn]
  exact h hq

/-- What stands behind it: the world as it was but for new blocks; or it waited for all. -/
def goesOn (l : List Oper) (i : Nat) (w w' : World) : Prop := lastB l.toArray i = true ∨ Ext w w'

theorem WE.goes {w' : World} {i : Nat} {σ' : Nat → Value} (hq : ∀ c a w, ¬ Q (.panic c) a w) (hE : goesOn l i w w') (k : WE P n l Q fuel listed σ' w') :
    (lastB l.toArray i = true ∧ ∃ S' : World → Prop, S' w' ∧ wpAnyK P l.toArray Q fuel S' listed (fr n σ') w') ∨ (Ext w w' ∧ wpAnyK P l.toArray Q fuel (fun x => Ext w x) listed (fr n σ') w') := by
  rcases hE with h | h
  · exact .inl ⟨h, _, Ext.refl _, k.out hq⟩
  · exact .inr ⟨h, wpAnyK_mono (fun x hx => h.trans hx) _ _ _ _ (k.out hq)⟩

theorem WE.val (i : Nat) {o : Oper} {v : Value} {w' : World} (hr : Region.ready .any l.toArray listed = [i]) (hi : l[i]? = some o) (hn : okOp n o = true) (hg : o.guard = none)
    (hx : Runs P σ o w v w') (hE : goesOn l i w w') (k : WE P n l Q fuel (listed.setIfInBounds i true) (updO σ o.dst v) w') : WE P n l Q (fuel + 1) listed σ w := by
  refine WE.one i hr hi hn (by simp [Region.wanted, hg]) fun hq => ?_
  unfold Runs at hx
  rw [hx]
  simp only [Oper.upon, fr_putO]
  exact WE.goes hq hE k

theorem WE.eff (i : Nat) {o : Oper} {w' : World} (hr : Region.ready .any l.toArray listed = [i]) (hi : l[i]? = some o) (hn : okOp n o = true) (hg : o.guard = none) (hd : o.dst = none)
    (hx : (execOp (ev σ) o).run P w = .ok .skip w') (hE : goesOn l i w w') (k : WE P n l Q fuel (listed.setIfInBounds i true) σ w') : WE P n l Q (fuel + 1) listed σ w := by
  refine WE.one i hr hi hn (by simp [Region.wanted, hg]) fun hq => ?_
  rw [hx]
  simp only [Oper.upon, fr_putO, hd]
  exact WE.goes hq hE k

theorem WE.call (i : Nat) {o : Oper} {f : FuncId} {args : List Value} {R : Value → World → Prop} (hr : Region.ready .any l.toArray listed = [i]) (hi : l[i]? = some o) (hn : okOp n o = true) (hg : o.guard = none)
    (hc : Ret P f args w R) (hx : (execOp (ev σ) o).run P w = .ok (.enter f args.toArray) w)
    (k : ∀ v w', R v w' → goesOn l i w w' ∧ WE P n l Q fuel (listed.setIfInBounds i true) (updO σ o.dst v) w') : WE P n l Q (fuel + 1) listed σ w := by
  refine WE.one i hr hi hn (by simp [Region.wanted, hg]) fun hq => ?_
  rw [hx]
  simp only [Oper.upon, fr_putO]
  refine Calls.mono hc fun e w' ⟨v, he, h⟩ => ?_
  subst he
  exact WE.goes hq (k v w' h).1 (k v w' h).2

theorem WE.callY (i : Nat) {o : Oper} {f : FuncId} {args : List Value} {R : Value → World → Prop} {j e : Nat} {b : Bool} (hr : Region.ready .any l.toArray listed = [i]) (hi : l[i]? = some o) (hn : okOp n o = true)
    (hg : o.guard = some (j, b)) (hd : (l.toArray[j]?).bind (·.dst) = some e) (he : Nat.blt e n = true) (hv : σ e = .bool b)
    (hc : Ret P f args w R) (hx : (execOp (ev σ) o).run P w = .ok (.enter f args.toArray) w)
    (k : ∀ v w', R v w' → goesOn l i w w' ∧ WE P n l Q fuel (listed.setIfInBounds i true) (updO σ o.dst v) w') : WE P n l Q (fuel + 1) listed σ w := by
  have hy' := yielded_fr (σ := σ) hd he
  rw [hv] at hy'
  refine WE.one i hr hi hn (by simp [Region.wanted, hg, hy']) fun hq => ?_
  rw [hx]
  simp only [Oper.upon, fr_putO]
  refine Calls.mono hc fun e w' ⟨v, he, h⟩ => ?_
  subst he
  exact WE.goes hq (k v w' h).1 (k v w' h).2

variable {L0 : List Ent} {w0 : World}

theorem WE.new (i : Nat) {o : Oper} {L' : Nat → List Ent} {f : Nat → Value} (hr : Region.ready .any l.toArray listed = [i]) (hi : l[i]? = some o) (hn : okOp n o = true) (hg : o.guard = none)
    (hx : ∃ b w', Runs P σ o w (f b) w' ∧ St L0 w0 w' (L' b) ∧ Ext w w' ∧ w.heap.size ≤ b)
    (k : ∀ b w', St L0 w0 w' (L' b) → Ext w w' → w.heap.size ≤ b → WE P n l Q fuel (listed.setIfInBounds i true) (updO σ o.dst (f b)) w') : WE P n l Q (fuel + 1) listed σ w :=
  let ⟨b, w', h1, h2, h3, h4⟩ := hx
  WE.val i hr hi hn hg h1 (.inr h3) (k b w' h2 h3 h4)

theorem WE.sto (i : Nat) {o : Oper} {L' : List Ent} (hr : Region.ready .any l.toArray listed = [i]) (hl : lastB l.toArray i = true) (hi : l[i]? = some o) (hn : okOp n o = true) (hg : o.guard = none) (hd : o.dst = none)
    (hx : ∃ w', (execOp (ev σ) o).run P w = .ok .skip w' ∧ St L0 w0 w' L') (k : ∀ w', St L0 w0 w' L' → WE P n l Q fuel (listed.setIfInBounds i true) σ w') : WE P n l Q (fuel + 1) listed σ w :=
  let ⟨w', h1, h2⟩ := hx
  WE.eff i hr hi hn hg hd h1 (.inl hl) (k w' h2)

theorem WE.grow (i : Nat) {o : Oper} {L' : Value → List Ent} (hr : Region.ready .any l.toArray listed = [i]) (hl : lastB l.toArray i = true) (hi : l[i]? = some o) (hn : okOp n o = true) (hg : o.guard = none)
    (hx : ∃ v w', Runs P σ o w v w' ∧ St L0 w0 w' (L' v)) (k : ∀ v w', St L0 w0 w' (L' v) → WE P n l Q fuel (listed.setIfInBounds i true) (updO σ o.dst v) w') : WE P n l Q (fuel + 1) listed σ w :=
  let ⟨v, w', h1, h2⟩ := hx
  WE.val i hr hi hn hg h1 (.inl hl) (k v w' h2)
end
end Go.Proofs.Ytckcldimnelklaa
