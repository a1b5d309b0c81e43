/- The step rules of the walk, and what the plain operations come to. -/
import Derived.Test.YtckcldimnelklaaLA
import Derived.WalkKit
import Derived.WideLaws
namespace Go.Proofs.Ytckcldimnelklaa
open Go
set_option linter.unusedVariables false
set_option linter.unusedSimpArgs false

def okOp (n : Nat) (o : Oper) : Bool := o.op.operands.toList.all (inFr n) && (match o.op with | .select _ _ => false | _ => true)

def Runs (P : Program) (σ : Nat → Value) (o : Oper) (w : World) (v : Value) (w' : World) : Prop := (execOp (ev σ) o).run P w = .ok (.value v) w'

def updO (σ : Nat → Value) : Option Tmp → Value → (Nat → Value)
  | some d, v => upd σ d v
  | none, _ => σ

theorem fr_putO {n : Nat} (σ : Nat → Value) (d : Option Tmp) (v : Value) : (fr n σ).put d v = fr n (updO σ d v) := by
  cases d with
  | none => rfl
  | some d => exact fr_put σ v

theorem exec_fr {n : Nat} {o : Oper} (σ : Nat → Value) (h : okOp n o = true) : execOp (fr n σ).eval o = execOp (ev σ) o := by
  simp only [okOp, Bool.and_eq_true] at h
  refine execOp_congr o (fun cs b e => by simp [e] at h) (fun x hx => fr_eval σ ?_)
  exact List.all_eq_true.1 h.1 x (Array.mem_def.1 hx)

section
variable {P : Program} {n : Nat} {Q : Exit → Act → World → Prop} {σ : Nat → Value} {w : World} {ops : Array Oper} {rest : List Oper}

theorem WL.of_run {o : Oper} (hg : o.guard = none) (hn : okOp n o = true) (h : o.upon P (fr n σ) (wpList P ops Q rest) Q ((execOp (ev σ) o).run P w)) :
    WL P n ops Q (o :: rest) σ w := by
  refine ⟨wpList_plain hg fun K hK => ?_⟩
  unfold Oper.wp
  rw [exec_fr σ hn]
  generalize (execOp (ev σ) o).run P w = r at *
  cases r with
  | ok x w' =>
    cases x <;> simp only [Oper.upon] at h ⊢ <;>
      first
        | exact hK _ _ h
        | exact Calls.mono h (fun e w'' he => by cases e <;> first | exact hK _ _ he | exact he)
        | exact Rows.mono h (fun _ _ he => hK _ _ he)
  | halt x w' => cases x <;> simp only [Oper.upon] at h ⊢ <;> exact h

/-- An operation that leaves a value. -/
theorem WL.val {d : Option Tmp} {op : Op} {ty : TypeId} {pos : String} {af : Array Edge} {v : Value} {w' : World} (hr : Runs P σ ⟨d, op, ty, pos, af, none⟩ w v w')
    (hn : okOp n ⟨d, op, ty, pos, af, none⟩ = true) (k : WL P n ops Q rest (updO σ d v) w') : WL P n ops Q (⟨d, op, ty, pos, af, none⟩ :: rest) σ w := by
  refine WL.of_run rfl hn ?_
  unfold Runs at hr
  rw [hr]
  simp only [Oper.upon, fr_putO]
  exact k.out

/-- An operation that leaves none (a store). -/
theorem WL.eff {d : Option Tmp} {op : Op} {ty : TypeId} {pos : String} {af : Array Edge} {w' : World} (hr : (execOp (ev σ) ⟨d, op, ty, pos, af, none⟩).run P w = .ok .skip w')
    (hn : okOp n ⟨d, op, ty, pos, af, none⟩ = true) (hd : d = none) (k : WL P n ops Q rest σ w') : WL P n ops Q (⟨d, op, ty, pos, af, none⟩ :: rest) σ w := by
  refine WL.of_run rfl hn ?_
  rw [hr]
  subst hd
  simp only [Oper.upon, fr_putO]
  exact k.out

/-- A call, by what is known of it. -/
theorem WL.call {d : Option Tmp} {op : Op} {ty : TypeId} {pos : String} {af : Array Edge} {f : FuncId} {args : List Value} {R : Value → World → Prop}
    (hc : Ret P f args w R) (hr : (execOp (ev σ) ⟨d, op, ty, pos, af, none⟩).run P w = .ok (.enter f args.toArray) w)
    (hn : okOp n ⟨d, op, ty, pos, af, none⟩ = true) (k : ∀ v w', R v w' → WL P n ops Q rest (updO σ d v) w') : WL P n ops Q (⟨d, op, ty, pos, af, none⟩ :: rest) σ w := by
  refine WL.of_run rfl hn ?_
  rw [hr]
  simp only [Oper.upon, fr_putO]
  refine Calls.mono hc fun e w' ⟨v, he, h⟩ => ?_
  subst he
  exact (k v w' h).out

theorem yielded_fr {j d : Nat} (hd : (ops[j]?).bind (·.dst) = some d) (hn : Nat.blt d n = true) : yielded ops (fr n σ).tmps j = (match σ d with | .bool b => some b | _ => none) := by
  have h : d < n := by simpa using hn
  simp only [yielded, hd, Option.bind_some, fr_get σ h]
  cases σ d <;> rfl

theorem WL.guardY {d : Option Tmp} {op : Op} {ty : TypeId} {pos : String} {af : Array Edge} {j e : Nat} {b : Bool} (hv : σ e = .bool b)
    (hd : (ops[j]?).bind (·.dst) = some e) (hn : Nat.blt e n = true)
    (k : WL P n ops Q (⟨d, op, ty, pos, af, none⟩ :: rest) σ w) : WL P n ops Q (⟨d, op, ty, pos, af, some (j, b)⟩ :: rest) σ w := by
  have hy := yielded_fr (σ := σ) hd hn
  rw [hv] at hy
  have hw : Region.wanted ⟨d, op, ty, pos, af, some (j, b)⟩ (yielded ops (fr n σ).tmps) = true := by
    simp only [Region.wanted, hy, beq_self_eq_true]
  have k := k.out
  refine ⟨?_⟩
  unfold wpList at k ⊢
  rw [if_pos hw]
  rw [if_pos (by rfl)] at k
  exact k

theorem WL.guardN {d : Option Tmp} {op : Op} {ty : TypeId} {pos : String} {af : Array Edge} {j e : Nat} {b : Bool} {v : Value} (hv : σ e = v) (hb : (match v with | .bool c => c != b | _ => true) = true)
    (hd : (ops[j]?).bind (·.dst) = some e) (hn : Nat.blt e n = true)
    (k : WL P n ops Q rest (updO σ d undef) w) : WL P n ops Q (⟨d, op, ty, pos, af, some (j, b)⟩ :: rest) σ w := by
  have hy := yielded_fr (σ := σ) hd hn
  rw [hv] at hy
  refine ⟨wpList_skip ?_ (by rw [fr_putO]; exact k.out)⟩
  simp only [Region.wanted]
  rw [hy]
  cases v <;> first | rfl | (rename_i c; cases c <;> cases b <;> first | rfl | (simp at hb))
end

/-! ### Plain operations -/
section
variable {P : Program} {σ : Nat → Value} {w : World} {d : Option Tmp} {ty : TypeId} {pos : String} {af : Array Edge} {g : Option (Nat × Bool)}

theorem R.move {x : Operand} {v : Value} (h : ev σ x = v) : Runs P σ ⟨d, .move x, ty, pos, af, g⟩ w v w := by subst h; rfl
theorem R.assign {x : Operand} {v : Value} (h : ev σ x = v) : Runs P σ ⟨d, .assign x, ty, pos, af, g⟩ w v w := by subst h; rfl
theorem R.pickT {c x y : Operand} {v : Value} (hc : ev σ c = .bool true) (h : ev σ x = v) : Runs P σ ⟨d, .pick c x y, ty, pos, af, g⟩ w v w := by
  subst h; simp [Runs, execOp, hc, asBool]
theorem R.pickF {c x y : Operand} {v : Value} (hc : ev σ c = .bool false) (h : ev σ y = v) : Runs P σ ⟨d, .pick c x y, ty, pos, af, g⟩ w v w := by
  subst h; simp [Runs, execOp, hc, asBool]
theorem R.nilCheckP {x : Operand} {a : Addr} (h : ev σ x = .pointer (some a)) : Runs P σ ⟨d, .nilCheck x, ty, pos, af, g⟩ w (.pointer (some a)) w := by
  simp [Runs, execOp, h]
theorem R.not {x : Operand} {T : TypeId} {b : Bool} (h : ev σ x = .bool b) : Runs P σ ⟨d, .unOp .not T x, ty, pos, af, g⟩ w (.bool (!b)) w := by
  simp [Runs, execOp, h, go_sem]
theorem R.add {x y : Operand} {T U : TypeId} {k : IntKind} {a b z : Int} (hx : ev σ x = .int k a) (hy : ev σ y = .int k b) (hz : k.wrap (a + b) = z) :
    Runs P σ ⟨d, .binOp .add T x y U, ty, pos, af, g⟩ w (.int k z) w := by
  subst hz
  simp [Runs, execOp, hx, hy, go_sem]
theorem R.sub {x y : Operand} {T U : TypeId} {k : IntKind} {a b z : Int} (hx : ev σ x = .int k a) (hy : ev σ y = .int k b) (hz : k.wrap (a - b) = z) :
    Runs P σ ⟨d, .binOp .sub T x y U, ty, pos, af, g⟩ w (.int k z) w := by
  subst hz
  simp [Runs, execOp, hx, hy, go_sem]
theorem R.mul {x y : Operand} {T U : TypeId} {k : IntKind} {a b z : Int} (hx : ev σ x = .int k a) (hy : ev σ y = .int k b) (hz : k.wrap (a * b) = z) :
    Runs P σ ⟨d, .binOp .mul T x y U, ty, pos, af, g⟩ w (.int k z) w := by
  subst hz
  simp [Runs, execOp, hx, hy, go_sem]
theorem R.lss {x y : Operand} {T U : TypeId} {k : IntKind} {a b : Int} (hx : ev σ x = .int k a) (hy : ev σ y = .int k b) :
    Runs P σ ⟨d, .binOp .lss T x y U, ty, pos, af, g⟩ w (.bool (decide (a < b))) w := by
  simp [Runs, execOp, hx, hy, go_sem]
theorem R.leq {x y : Operand} {T U : TypeId} {k : IntKind} {a b : Int} (hx : ev σ x = .int k a) (hy : ev σ y = .int k b) :
    Runs P σ ⟨d, .binOp .leq T x y U, ty, pos, af, g⟩ w (.bool (decide (a ≤ b))) w := by
  simp [Runs, execOp, hx, hy, go_sem]
theorem R.gtr {x y : Operand} {T U : TypeId} {k : IntKind} {a b : Int} (hx : ev σ x = .int k a) (hy : ev σ y = .int k b) :
    Runs P σ ⟨d, .binOp .gtr T x y U, ty, pos, af, g⟩ w (.bool (decide (b < a))) w := by
  simp [Runs, execOp, hx, hy, go_sem]
theorem R.geq {x y : Operand} {T U : TypeId} {k : IntKind} {a b : Int} (hx : ev σ x = .int k a) (hy : ev σ y = .int k b) :
    Runs P σ ⟨d, .binOp .geq T x y U, ty, pos, af, g⟩ w (.bool (decide (b ≤ a))) w := by
  simp [Runs, execOp, hx, hy, go_sem]
theorem R.lssT {x y : Operand} {T U : TypeId} {k : IntKind} {a b : Int} (hT : P.underlying T = some (.int k)) (hx : ev σ x = .int k a) (hy : ev σ y = .int k b) (h : a < b) :
    Runs P σ ⟨d, .binOp .lss T x y U, ty, pos, af, g⟩ w (.bool true) w := by
  simp [Runs, execOp, hx, hy, go_sem, hT, h]
theorem R.lssF {x y : Operand} {T U : TypeId} {k : IntKind} {a b : Int} (hT : P.underlying T = some (.int k)) (hx : ev σ x = .int k a) (hy : ev σ y = .int k b) (h : ¬ (a < b)) :
    Runs P σ ⟨d, .binOp .lss T x y U, ty, pos, af, g⟩ w (.bool false) w := by
  simp [Runs, execOp, hx, hy, go_sem, hT, h]
theorem R.leqT {x y : Operand} {T U : TypeId} {k : IntKind} {a b : Int} (hT : P.underlying T = some (.int k)) (hx : ev σ x = .int k a) (hy : ev σ y = .int k b) (h : a ≤ b) :
    Runs P σ ⟨d, .binOp .leq T x y U, ty, pos, af, g⟩ w (.bool true) w := by
  simp [Runs, execOp, hx, hy, go_sem, hT, h]
theorem R.leqF {x y : Operand} {T U : TypeId} {k : IntKind} {a b : Int} (hT : P.underlying T = some (.int k)) (hx : ev σ x = .int k a) (hy : ev σ y = .int k b) (h : ¬ (a ≤ b)) :
    Runs P σ ⟨d, .binOp .leq T x y U, ty, pos, af, g⟩ w (.bool false) w := by
  simp [Runs, execOp, hx, hy, go_sem, hT, h]
theorem R.gtrT {x y : Operand} {T U : TypeId} {k : IntKind} {a b : Int} (hT : P.underlying T = some (.int k)) (hx : ev σ x = .int k a) (hy : ev σ y = .int k b) (h : b < a) :
    Runs P σ ⟨d, .binOp .gtr T x y U, ty, pos, af, g⟩ w (.bool true) w := by
  simp [Runs, execOp, hx, hy, go_sem, hT, h]
theorem R.gtrF {x y : Operand} {T U : TypeId} {k : IntKind} {a b : Int} (hT : P.underlying T = some (.int k)) (hx : ev σ x = .int k a) (hy : ev σ y = .int k b) (h : ¬ (b < a)) :
    Runs P σ ⟨d, .binOp .gtr T x y U, ty, pos, af, g⟩ w (.bool false) w := by
  simp [Runs, execOp, hx, hy, go_sem, hT, h]
theorem R.geqT {x y : Operand} {T U : TypeId} {k : IntKind} {a b : Int} (hT : P.underlying T = some (.int k)) (hx : ev σ x = .int k a) (hy : ev σ y = .int k b) (h : b ≤ a) :
    Runs P σ ⟨d, .binOp .geq T x y U, ty, pos, af, g⟩ w (.bool true) w := by
  simp [Runs, execOp, hx, hy, go_sem, hT, h]
theorem R.geqF {x y : Operand} {T U : TypeId} {k : IntKind} {a b : Int} (hT : P.underlying T = some (.int k)) (hx : ev σ x = .int k a) (hy : ev σ y = .int k b) (h : ¬ (b ≤ a)) :
    Runs P σ ⟨d, .binOp .geq T x y U, ty, pos, af, g⟩ w (.bool false) w := by
  simp [Runs, execOp, hx, hy, go_sem, hT, h]
theorem R.eqlT {x y : Operand} {T U : TypeId} {k : IntKind} {a b : Int} (hT : P.underlying T = some (.int k)) (hx : ev σ x = .int k a) (hy : ev σ y = .int k b) (h : a = b) :
    Runs P σ ⟨d, .binOp .eql T x y U, ty, pos, af, g⟩ w (.bool true) w := by
  simp [Runs, execOp, hx, hy, go_sem, hT, h]
theorem R.eqlF {x y : Operand} {T U : TypeId} {k : IntKind} {a b : Int} (hT : P.underlying T = some (.int k)) (hx : ev σ x = .int k a) (hy : ev σ y = .int k b) (h : ¬ (a = b)) :
    Runs P σ ⟨d, .binOp .eql T x y U, ty, pos, af, g⟩ w (.bool false) w := by
  simp [Runs, execOp, hx, hy, go_sem, hT, h]
theorem R.neqT {x y : Operand} {T U : TypeId} {k : IntKind} {a b : Int} (hT : P.underlying T = some (.int k)) (hx : ev σ x = .int k a) (hy : ev σ y = .int k b) (h : ¬ a = b) :
    Runs P σ ⟨d, .binOp .neq T x y U, ty, pos, af, g⟩ w (.bool true) w := by
  simp [Runs, execOp, hx, hy, go_sem, hT, h]
theorem R.neqF {x y : Operand} {T U : TypeId} {k : IntKind} {a b : Int} (hT : P.underlying T = some (.int k)) (hx : ev σ x = .int k a) (hy : ev σ y = .int k b) (h : ¬ (¬ a = b)) :
    Runs P σ ⟨d, .binOp .neq T x y U, ty, pos, af, g⟩ w (.bool false) w := by
  have h : a = b := Classical.not_not.1 h
  simp [Runs, execOp, hx, hy, go_sem, hT, h]
theorem R.notK {x : Operand} {T : TypeId} {b c : Bool} (h : ev σ x = .bool b) (hc : (!b) = c) : Runs P σ ⟨d, .unOp .not T x, ty, pos, af, g⟩ w (.bool c) w := by
  subst hc; simp [Runs, execOp, h, go_sem]
theorem R.eqB {x y : Operand} {T U : TypeId} {a b : Bool} (hT : P.underlying T = some .bool) (hx : ev σ x = .bool a) (hy : ev σ y = .bool b) :
    Runs P σ ⟨d, .binOp .eql T x y U, ty, pos, af, g⟩ w (.bool (a == b)) w := by
  simp [Runs, execOp, hx, hy, go_sem, hT]
theorem R.neB {x y : Operand} {T U : TypeId} {a b : Bool} (hT : P.underlying T = some .bool) (hx : ev σ x = .bool a) (hy : ev σ y = .bool b) :
    Runs P σ ⟨d, .binOp .neq T x y U, ty, pos, af, g⟩ w (.bool (a != b)) w := by
  simp [Runs, execOp, hx, hy, go_sem, hT]
  cases a <;> cases b <;> rfl

/-- A function of the program that has a body. -/
def Bodied (P : Program) (k : FuncId) : Prop := ∃ fn, P.funcs[k]? = some fn ∧ fn.name ≠ "runtime.NumGoroutine" ∧ fn.body ≠ none

theorem R.call {k : FuncId} {f : Operand} {args : List Operand} {ts : Array TypeId} {vs caps : List Value} (hb : Bodied P k) (hf : ev σ f = .func (.func k) #[] caps.toArray)
    (ha : args.map (ev σ) = vs) : (execOp (ev σ) ⟨d, .call ⟨.value f, args.toArray, ts⟩, ty, pos, af, g⟩).run P w = .ok (.enter k (vs ++ caps).toArray) w := by
  obtain ⟨fn, h1, h2, h3⟩ := hb
  subst ha
  simp [execOp, resolve, hf, Deferred.ofValue, invoke, callFunc, program, Sem.run, h1, h2, h3]

theorem w64e {x z : Int} (h : x = z) (h1 : -9223372036854775808 ≤ z) (h2 : z ≤ 9223372036854775807) : IntKind.i64.wrap x = z := by
  subst h; exact IntWalk.i64_in x ⟨h1, h2⟩

theorem w64 {x : Int} (h1 : -9223372036854775808 ≤ x) (h2 : x ≤ 9223372036854775807) : IntKind.i64.wrap x = x := IntWalk.i64_in x ⟨h1, h2⟩
theorem R.ptrNil {x y : Operand} {T U e : TypeId} {a : Addr} (hT : P.underlying T = some (.pointer e)) (hx : ev σ x = .pointer (some a)) (hy : ev σ y = .pointer none) :
    Runs P σ ⟨d, .binOp .eql T x y U, ty, pos, af, g⟩ w (.bool false) w := by
  simp [Runs, execOp, hx, hy, go_sem, hT]
theorem R.nilNil {x y : Operand} {T U e : TypeId} (hT : P.underlying T = some (.pointer e)) (hx : ev σ x = .pointer none) (hy : ev σ y = .pointer none) :
    Runs P σ ⟨d, .binOp .eql T x y U, ty, pos, af, g⟩ w (.bool true) w := by
  simp [Runs, execOp, hx, hy, go_sem, hT]
theorem R.convII {x : Operand} {S T : TypeId} {k l : IntKind} {n z : Int} (hS : P.underlying S = some (.int k)) (hT : P.underlying T = some (.int l)) (hx : ev σ x = .int k n) (hz : l.wrap n = z) :
    Runs P σ ⟨d, .convert S T x, ty, pos, af, g⟩ w (.int l z) w := by
  subst hz
  simp [Runs, execOp, hx, go_sem, hS, hT]
theorem R.rem {x y : Operand} {T U : TypeId} {k : IntKind} {a b z : Int} (hx : ev σ x = .int k a) (hy : ev σ y = .int k b) (h0 : 0 ≤ a) (h1 : 0 < b) (hz : a % b = z) (hr : k.wrap z = z) :
    Runs P σ ⟨d, .binOp .rem T x y U, ty, pos, af, g⟩ w (.int k z) w := by
  have hb : b ≠ 0 := by omega
  have ht : a.tmod b = z := by rw [Int.tmod_eq_emod_of_nonneg h0, hz]
  simp [Runs, execOp, hx, hy, go_sem, hb, ht, hr]
theorem R.len {x : Operand} {T E : TypeId} {a : Option Addr} {n c : Nat} (hT : P.underlying T = some (.slice E)) (h : ev σ x = .slice a n c) :
    Runs P σ ⟨d, .call ⟨.builtin .len, #[x], #[T]⟩, ty, pos, af, g⟩ w (.int .i64 n) w := by
  simp [Runs, h, go_sem, hT]
theorem R.min {x y : Operand} {T U : TypeId} {k : IntKind} {a b z : Int} (hx : ev σ x = .int k a) (hy : ev σ y = .int k b) (hz : min a b = z) :
    Runs P σ ⟨d, .call ⟨.builtin .min, #[x, y], #[T, U]⟩, ty, pos, af, g⟩ w (.int k z) w := by
  subst hz
  simp [Runs, hx, hy, go_sem]
  omega
theorem R.max {x y : Operand} {T U : TypeId} {k : IntKind} {a b z : Int} (hx : ev σ x = .int k a) (hy : ev σ y = .int k b) (hz : max a b = z) :
    Runs P σ ⟨d, .call ⟨.builtin .max, #[x, y], #[T, U]⟩, ty, pos, af, g⟩ w (.int k z) w := by
  subst hz
  simp [Runs, hx, hy, go_sem]
  omega
theorem R.extract {x : Operand} {i : Nat} {vs : Array Value} {v : Value} (h : ev σ x = .tuple vs) (hi : vs[i]? = some v) :
    Runs P σ ⟨d, .extract x i, ty, pos, af, g⟩ w v w := by
  simp [Runs, execOp, h, go_sem, hi]
theorem R.makeFunc {fn : Fn} {xs ys : List Operand} {vs us : List Value} (h : xs.map (ev σ) = vs) (h2 : ys.map (ev σ) = us) :
    Runs P σ ⟨d, .makeFunc fn xs.toArray ys.toArray, ty, pos, af, g⟩ w (.func fn vs.toArray us.toArray) w := by
  subst h; subst h2; simp [Runs, execOp, go_sem]
end
end Go.Proofs.Ytckcldimnelklaa
