/- Frames as functions, the walk's own rules for code, for lists of operations and for regions that draw their order: over any program. -/
import Derived.OrdersHeld
import Derived.Deep.LoopGhost
import Derived.Tactics
namespace Go.Proofs.Ytckcldimnelklaa
open Go
set_option linter.unusedVariables false
set_option linter.unusedSimpArgs false

/-- A frame's temporaries as a function. -/
def upd (σ : Nat → Value) (d : Nat) (v : Value) : Nat → Value := fun t => bif Nat.beq t d then v else σ t

def fr (n : Nat) (σ : Nat → Value) : Act := ⟨((List.range n).map σ).toArray, []⟩

/-- An operand's value. -/
def ev (σ : Nat → Value) : Operand → Value
  | .tmp t => σ t
  | .const v => v
  | .global g => .pointer (some ⟨g, 0, none⟩)
  | .func f => .func (.func f) #[] #[]

def inFr (n : Nat) : Operand → Bool
  | .tmp t => Nat.blt t n
  | _ => true

theorem upd_same (σ : Nat → Value) (d : Nat) (v : Value) : upd σ d v d = v := by
  simp [upd]

theorem nbeq_ne {t d : Nat} (h : t ≠ d) : Nat.beq t d = false := by
  cases h' : Nat.beq t d
  · rfl
  · exact absurd (Nat.eq_of_beq_eq_true h') h

theorem upd_ne (σ : Nat → Value) {d t : Nat} (v : Value) (h : t ≠ d) : upd σ d v t = σ t := by
  simp [upd, nbeq_ne h]

theorem fr_size (n : Nat) (σ : Nat → Value) : (fr n σ).tmps.size = n := by simp [fr]

theorem fr_get {n t : Nat} (σ : Nat → Value) (h : t < n) : (fr n σ).tmps[t]? = some (σ t) := by
  simp [fr, h]

theorem fr_eval {n : Nat} (σ : Nat → Value) {x : Operand} (h : inFr n x = true) : (fr n σ).eval x = ev σ x := by
  cases x with
  | tmp t =>
    simp only [inFr, Nat.blt_eq] at h
    have := fr_get σ h
    simp [Act.eval, ev, Array.getD_eq_getD_getElem?, this]
  | const v => rfl
  | global g => rfl
  | func f => rfl

theorem fr_put {n d : Nat} (σ : Nat → Value) (v : Value) : (fr n σ).put (some d) v = fr n (upd σ d v) := by
  simp only [Act.put, fr, Act.mk.injEq, and_true]
  apply Array.ext_getElem?
  intro i
  by_cases hi : i < n
  · by_cases hd : d = i
    · subst hd; simp [hi, upd]
    · have h2 : ¬ i = d := fun h => hd h.symm
      rw [Array.getElem?_setIfInBounds_ne hd]
      simp [hi, upd, nbeq_ne h2]
  · simp [hi]

theorem fr_put_none {n : Nat} (σ : Nat → Value) (v : Value) : (fr n σ).put none v = fr n σ := rfl

/-- The frame at a function's beginning. -/
def argσ (args : List Value) : Nat → Value := fun t => args.getD t undef

theorem fr_args (n : Nat) (args : List Value) (h : args.length ≤ n) :
    ({ tmps := args.toArray ++ Array.replicate (n - args.toArray.size) undef, defers := [] } : Act) = fr n (argσ args) := by
  simp only [fr, Act.mk.injEq, and_true]
  apply Array.ext_getElem?
  intro i
  by_cases hi : i < n
  · by_cases ha : i < args.length
    · rw [Array.getElem?_append_left (by simpa using ha)]
      simp [hi, argσ, List.getD_eq_getElem?_getD, ha]
    · rw [Array.getElem?_append_right (by simpa using ha)]
      simp only [List.size_toArray, Array.getElem?_replicate]
      rw [if_pos (by omega)]
      simp [hi, argσ, List.getD_eq_getElem?_getD, ha]
  · have : ¬ i < args.length := by omega
    rw [Array.getElem?_append_right (by simp; omega)]
    simp only [List.size_toArray, Array.getElem?_replicate]
    rw [if_neg (by omega)]
    simp [hi]

/-! ### Code -/
structure WC (P : Program) (n : Nat) (c : Code) (Q : Exit → Act → World → Prop) (σ : Nat → Value) (w : World) : Prop where
  out : c.wp P Q (fr n σ) w
structure WL (P : Program) (n : Nat) (ops : Array Oper) (Q : Exit → Act → World → Prop) (l : List Oper) (σ : Nat → Value) (w : World) : Prop where
  out : wpList P ops Q l (fr n σ) w
structure WA (P : Program) (n : Nat) (ops : Array Oper) (Q : Exit → Act → World → Prop) (S : World → Prop) (fuel : Nat) (listed : Array Bool) (σ : Nat → Value) (w : World) : Prop where
  out : wpAnyH P .any ops Q S fuel listed (fr n σ) w

section
variable {P : Program} {n : Nat} {Q : Exit → Act → World → Prop} {σ : Nat → Value} {w : World}

theorem WC.seq {x y : Code} (h : WC P n x (Exit.then (y.wp P Q) Q) σ w) : WC P n (.seq x y) Q σ w := ⟨wp_seq h.out⟩
theorem thenN {y : Code} (h : WC P n y Q σ w) : Exit.then (y.wp P Q) Q .normal (fr n σ) w := h.out
theorem WC.skip (h : Q .normal (fr n σ) w) : WC P n .skip Q σ w := ⟨wp_skip h⟩
theorem WC.exit {id : Nat} (h : Q (.exit id) (fr n σ) w) : WC P n (.exit id) Q σ w := ⟨wp_exit h⟩
theorem WC.ret (h : Q .ret (fr n σ) w) : WC P n .ret Q σ w := ⟨wp_ret h⟩
theorem WC.block {id : Nat} {c : Code} (h : WC P n c (Exit.inBlock id Q) σ w) : WC P n (.block id c) Q σ w := ⟨wp_block h.out⟩
theorem blockN {id : Nat} {a : Act} (h : Q .normal a w) : Exit.inBlock id Q .normal a w := h
theorem blockHit {id : Nat} {a : Act} (h : Q .normal a w) : Exit.inBlock id Q (.exit id) a w := by
  simp only [Exit.inBlock, if_true]; exact h
theorem blockMiss {id j : Nat} {a : Act} (hne : Nat.beq j id = false) (h : Q (.exit j) a w) : Exit.inBlock id Q (.exit j) a w := by
  have : j ≠ id := by intro e; subst e; simp at hne
  simp only [Exit.inBlock, if_neg this]; exact h
theorem thenE {K : Act → World → Prop} {id : Nat} {a : Act} (h : Q (.exit id) a w) : Exit.then K Q (.exit id) a w := h
theorem WC.cond {c : Operand} {x y : Code} {b : Bool} (hc : ev σ c = .bool b) (hn : inFr n c = true) (ht : b = true → WC P n x Q σ w) (hf : b = false → WC P n y Q σ w) :
    WC P n (.cond c x y) Q σ w := ⟨wp_cond_split (by rw [fr_eval σ hn, hc]) (fun h => (ht h).out) (fun h => (hf h).out)⟩
theorem WC.condT {c : Operand} {x y : Code} (hc : ev σ c = .bool true) (hn : inFr n c = true) (ht : WC P n x Q σ w) : WC P n (.cond c x y) Q σ w :=
  ⟨wp_cond_true (by rw [fr_eval σ hn, hc]) ht.out⟩
theorem WC.condF {c : Operand} {x y : Code} (hc : ev σ c = .bool false) (hn : inFr n c = true) (ht : WC P n y Q σ w) : WC P n (.cond c x y) Q σ w :=
  ⟨wp_cond_false (by rw [fr_eval σ hn, hc]) ht.out⟩
theorem WC.region {id : Nat} {l : List Oper} (h : WL P n l.toArray Q l σ w) : WC P n (.region id l.toArray false) Q σ w := ⟨wp_region_lit h.out⟩
theorem WL.nil {ops : Array Oper} (h : Q .normal (fr n σ) w) : WL P n ops Q [] σ w := ⟨wpList_nil h⟩
theorem WC.draw {id : Nat} {l : List Oper} (S : World → Prop) (hm : P.follows .mixedOrders = true)
    (h : WA P n l.toArray Q S l.length (Array.replicate l.length false) σ w.drew) : WC P n (.region id l.toArray true) Q σ w :=
  ⟨wp_region_held (S := S) hm h.out⟩

/-- A loop: an invariant over a state of the prover's own, and a measure of that state. -/
def atHead {T : Type} (Inv : T → (Nat → Value) → World → Prop) (μ : T → Nat) (n k : Nat) (a : Act) (w : World) : Prop :=
  ∃ s σ, a = fr n σ ∧ Inv s σ w ∧ μ s = k

theorem WC.loop {T : Type} {c : Code} (Inv : T → (Nat → Value) → World → Prop) (μ : T → Nat) (s₀ : T) (h₀ : Inv s₀ σ w)
    (hr : ∀ s σ w, Inv s σ w → WC P n c (Exit.then (fun a' w' => ∃ k, k < μ s ∧ atHead Inv μ n k a' w') Q) σ w) : WC P n (.loop c) Q σ w := by
  refine ⟨wp_loop_ghost (fun k a w => atHead Inv μ n k a w) (μ s₀) ⟨s₀, σ, rfl, h₀, rfl⟩ ?_⟩
  rintro k a w ⟨s, σ, rfl, hI, rfl⟩
  exact (hr s σ w hI).out

theorem roundEnd {T : Type} {Inv : T → (Nat → Value) → World → Prop} {μ : T → Nat} {m : Nat} (s : T) (h : Inv s σ w) (hm : μ s < m) :
    Exit.then (fun a' w' => ∃ k, k < m ∧ atHead Inv μ n k a' w') Q .normal (fr n σ) w := ⟨_, hm, s, σ, rfl, h, rfl⟩

/-- What a call comes to: it returns a value. -/
def Ret (P : Program) (f : FuncId) (args : List Value) (w : World) (R : Value → World → Prop) : Prop :=
  Calls P f args.toArray w fun e w' => ∃ v, e = .returned v ∧ R v w'

theorem Ret.mono {f : FuncId} {args : List Value} {R R' : Value → World → Prop} (h : Ret P f args w R) (hR : ∀ v w', R v w' → R' v w') : Ret P f args w R' :=
  Calls.mono h fun _ _ ⟨v, he, hr⟩ => ⟨v, he, hR _ _ hr⟩

def RQ (P : Program) (fn : Func) (R : Value → World → Prop) : Exit → Act → World → Prop := bodyPost P fn fun e w' => ∃ v, e = .returned v ∧ R v w'

theorem enter {f : FuncId} {fn : Func} {c : Code} {args : List Value} {R : Value → World → Prop} (hf : P.funcs[f]? = some fn) (hb : fn.body = some c)
    (hn : fn.ntmps = n) (hs : Nat.ble args.length n = true) (h : WC P n c (RQ P fn R) (argσ args) w) : Ret P f args w R := by
  refine calls_of_wp hf hb ?_
  rw [hn, fr_args n args (Nat.le_of_ble_eq_true hs)]
  exact h.out

theorem ret1 {fn : Func} {R : Value → World → Prop} {t : Nat} {v : Value} (hr : fn.results = #[.tmp t]) (hv : σ t = v) (ht : Nat.blt t n = true) (h : R v w) :
    RQ P fn R .ret (fr n σ) w := by
  have ht' : t < n := by simpa using ht
  refine bodyPost_ret (v := v) (by simp [results, hr, Array.getD_eq_getD_getElem?, fr_get σ ht', hv]) rfl ⟨v, rfl, h⟩

theorem ret2 {fn : Func} {R : Value → World → Prop} {t u : Nat} {v v' : Value} (hr : fn.results = #[.tmp t, .tmp u]) (hv : σ t = v) (hv' : σ u = v')
    (ht : Nat.blt t n = true) (hu : Nat.blt u n = true) (h : R (.tuple #[v, v']) w) : RQ P fn R .ret (fr n σ) w := by
  have ht' : t < n := by simpa using ht
  have hu' : u < n := by simpa using hu
  refine bodyPost_ret (v := .tuple #[v, v']) (by simp [results, hr, Array.getD_eq_getD_getElem?, fr_get σ ht', fr_get σ hu', hv, hv']) rfl ⟨_, rfl, h⟩

theorem ret0 {fn : Func} {R : Value → World → Prop} (hr : fn.results = #[]) (h : R (.tuple #[]) w) : RQ P fn R .ret (fr n σ) w :=
  bodyPost_ret (v := .tuple #[]) (by simp [results, hr]) rfl ⟨_, rfl, h⟩

theorem end0 {fn : Func} {R : Value → World → Prop} (hr : fn.results = #[]) (h : R (.tuple #[]) w) : RQ P fn R .normal (fr n σ) w :=
  bodyPost_end (v := .tuple #[]) (by simp [results, hr]) rfl ⟨_, rfl, h⟩

/-- A result that lies in memory. -/
theorem retCell {fn : Func} {R : Value → World → Prop} {t : Nat} {T : TypeId} {a : Addr} {v : Value} (hr : fn.results = #[.cell t T]) (hv : σ t = .pointer (some a))
    (ht : Nat.blt t n = true) (hl : (loadVar T a).run P w = .ok v w) (h : R v w) : RQ P fn R .ret (fr n σ) w := by
  have ht' : t < n := by simpa using ht
  refine bodyPost_ret (v := v) ?_ rfl ⟨v, rfl, h⟩
  simp [results, hr, Array.getD_eq_getD_getElem?, fr_get σ ht', hv, asAddr, hl]

theorem retCell2 {fn : Func} {R : Value → World → Prop} {t u : Nat} {T U : TypeId} {a b : Addr} {v v' : Value} (hr : fn.results = #[.cell t T, .cell u U])
    (hv : σ t = .pointer (some a)) (hu : σ u = .pointer (some b))
    (ht : Nat.blt t n = true) (hu2 : Nat.blt u n = true) (hl : (loadVar T a).run P w = .ok v w) (hl2 : (loadVar U b).run P w = .ok v' w) (h : R (.tuple #[v, v']) w) :
    RQ P fn R .ret (fr n σ) w := by
  have ht' : t < n := by simpa using ht
  have hu' : u < n := by simpa using hu2
  refine bodyPost_ret (v := .tuple #[v, v']) ?_ rfl ⟨_, rfl, h⟩
  simp [results, hr, Array.getD_eq_getD_getElem?, fr_get σ ht', fr_get σ hu', hv, hu, asAddr, hl, hl2]
end
end Go.Proofs.Ytckcldimnelklaa
