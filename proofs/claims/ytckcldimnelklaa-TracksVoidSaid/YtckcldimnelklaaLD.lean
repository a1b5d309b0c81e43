/- The data: cells, rows, words; how they lie in memory. -/
import Derived.Test.YtckcldimnelklaaLC
namespace Go.Proofs.Ytckcldimnelklaa
open Go
set_option linter.unusedVariables false
set_option linter.unusedSimpArgs false

/-- How a Go value of a kind lies in memory: its cells, and what they lead to, in blocks that are 'ok'. -/
structure Kd (α : Type) where
  sz : Nat
  rd : World → (Nat → Prop) → α → List Value → Prop
  len : ∀ {w ok x cs}, rd w ok x cs → cs.length = sz
  leaf : ∀ {w ok x cs}, rd w ok x cs → cs.all leafB = true
  keep : ∀ {w w' : World} {ok ok' : Nat → Prop} {x cs}, (∀ b, b < w.heap.size → ok b → w'.heap[b]? = w.heap[b]? ∧ ok' b) → w.heap.size ≤ w'.heap.size → rd w ok x cs → rd w' ok' x cs

/-- A kind without memory behind. -/
def flatK {α : Type} (enc : α → List Value) (wf : α → Prop) (n : Nat) (hn : ∀ x, (enc x).length = n) (hl : ∀ x, (enc x).all leafB = true) : Kd α where
  sz := n
  rd := fun _ _ x cs => wf x ∧ cs = enc x
  len := fun ⟨_, h⟩ => by subst h; exact hn _
  leaf := fun ⟨_, h⟩ => by subst h; exact hl _
  keep := fun _ _ h => h

def intK (k : IntKind) : Kd Int := flatK (fun x => [.int k x]) (fun x => k.min ≤ x ∧ x ≤ k.max) 1 (fun _ => rfl) (fun _ => rfl)
def boolK : Kd Bool := flatK (fun x => [.bool x]) (fun _ => True) 1 (fun _ => rfl) (fun _ => rfl)

def pairK {α β : Type} (k : Kd α) (l : Kd β) : Kd (α × β) where
  sz := k.sz + l.sz
  rd := fun w ok x cs => ∃ c d, cs = c ++ d ∧ k.rd w ok x.1 c ∧ l.rd w ok x.2 d
  len := fun ⟨c, d, h, h1, h2⟩ => by subst h; simp [k.len h1, l.len h2]
  leaf := fun ⟨c, d, h, h1, h2⟩ => by subst h; simp only [List.all_append, k.leaf h1, l.leaf h2, Bool.and_self]
  keep := fun hk hz ⟨c, d, h, h1, h2⟩ => ⟨c, d, h, k.keep hk hz h1, l.keep hk hz h2⟩

def isoK {α β : Type} (k : Kd α) (f : β → α) : Kd β where
  sz := k.sz
  rd := fun w ok x cs => k.rd w ok (f x) cs
  len := fun h => k.len h
  leaf := fun h => k.leaf h
  keep := fun hk hz h => k.keep hk hz h

theorem At.keep {w w' : World} {ok ok' : Nat → Prop} {a : Addr} {cs : List Value} (hk : ∀ b, b < w.heap.size → ok b → w'.heap[b]? = w.heap[b]? ∧ ok' b)
    (hz : w.heap.size ≤ w'.heap.size) (h : At w ok a cs) : At w' ok' a cs := by
  obtain ⟨h1, h2⟩ := hk _ h.lt h.ok
  refine ⟨h.spot, Nat.lt_of_lt_of_le h.lt hz, h2, fun j v hj => ?_⟩
  have := h.cell j v hj
  simp only [World.cell?] at this ⊢
  rw [h1]; exact this

/-- A slice's elements, each read. -/
def elems {α : Type} (k : Kd α) (w : World) (ok : Nat → Prop) (a : Option Addr) (xs : List α) : Prop :=
  ∀ i x, xs[i]? = some x → ∃ ad e, a = some ad ∧ ad.spot = none ∧ At w ok ⟨ad.block, ad.off + i * k.sz, none⟩ e ∧ k.rd w ok x e

def sliceK {α : Type} (k : Kd α) : Kd (List α) where
  sz := 1
  rd := fun w ok xs cs => ∃ a c, cs = [.slice a xs.length c] ∧ xs.length ≤ c ∧ xs.length ≤ 140737488355328 ∧ elems k w ok a xs
  len := fun ⟨_, _, h, _⟩ => by subst h; rfl
  leaf := fun ⟨_, _, h, _⟩ => by subst h; rfl
  keep := fun hk hz ⟨a, c, h, h1, h0, h2⟩ => ⟨a, c, h, h1, h0, fun i x hx => by
    obtain ⟨ad, e, h3, h4, h5, h6⟩ := h2 i x hx
    exact ⟨ad, e, h3, h4, h5.keep hk hz, k.keep hk hz h6⟩⟩

/-! ### What was read stays -/
theorem Kd.stay {α : Type} (k : Kd α) {L0 L : List Ent} {w0 w : World} (h : St L0 w0 w L) {x : α} {cs : List Value} (hr : k.rd w0 (out L0) x cs) : k.rd w (out L) x cs :=
  k.keep (fun b hb ho => ⟨h.kept.block b hb ho, fun E hE hF => h.sub E hE b hF hb ho⟩) h.size hr

theorem Kd.weak {α : Type} (k : Kd α) {w : World} {ok ok' : Nat → Prop} {x : α} {cs : List Value} (h : ∀ b, b < w.heap.size → ok b → ok' b) (hr : k.rd w ok x cs) : k.rd w ok' x cs :=
  k.keep (fun b hb ho => ⟨rfl, h b hb ho⟩) (Nat.le_refl _) hr

/-- What a callee has laid anew lies apart from what is written to. -/
theorem Kd.fresh {α : Type} (k : Kd α) {L0 L : List Ent} {w0 w w' : World} (h : St L0 w0 w L) {x : α} {cs : List Value} {ok : Nat → Prop}
    (ho : ∀ b, ok b → w.heap.size ≤ b) (hr : k.rd w' ok x cs) : k.rd w' (out L) x cs :=
  k.keep (fun b _ hb => ⟨rfl, fun E hE hF => by have := h.inr E hE b hF; have := ho b hb; omega⟩) (Nat.le_refl _) hr

theorem Kd.ext {α : Type} (k : Kd α) {w w' : World} (h : Ext w w') {x : α} {cs : List Value} {ok : Nat → Prop} (hr : k.rd w ok x cs) : k.rd w' ok x cs :=
  k.keep (fun b hb ho => ⟨h.block b hb (out_nil b), ho⟩) h.size hr

/-! ### Cells and rows -/
def inK (k : IntKind) (n : Int) : Prop := k.min ≤ n ∧ n ≤ k.max

structure Sd where
  is : Bool
  at_ : Int
  kind : Int
  station : Int
  seq : Int
  value : Int
  deriving DecidableEq

structure Vw where
  (i0 i1 i2 i3 i4 i5 i6 i7 : Bool)
  (m0 m1 m2 m3 m4 m5 m6 m7 : Int)
  (g0 g1 g2 g3 g4 g5 g6 g7 : Int)
  (s0 s1 s2 s3 s4 s5 s6 s7 : Int)
  (t0 t1 t2 t3 t4 t5 t6 t7 : Bool)
  command : Int
  mode : Int
  deriving DecidableEq

structure Cl where
  age : Int
  offer : Sd
  report : Sd
  view : Vw
  deriving DecidableEq

structure Hd where
  is : Bool
  cell : Cl
  deriving DecidableEq

structure Rw where
  is : Bool
  cell : Cl
  table : List Hd
  deriving DecidableEq

def Sd.none : Sd := ⟨false, 0, 0, 0, 0, 0⟩
def Vw.zero : Vw := ⟨false, false, false, false, false, false, false, false, 0, 0, 0, 0, 0, 0, 0, 0, 0, 0, 0, 0, 0, 0, 0, 0, 0, 0, 0, 0, 0, 0, 0, 0, false, false, false, false, false, false, false, false, 0, 0⟩
def Cl.zero : Cl := ⟨0, Sd.none, Sd.none, Vw.zero⟩
def Hd.none : Hd := ⟨false, Cl.zero⟩
def Rw.none : Rw := ⟨false, Cl.zero, []⟩

def encS (s : Sd) : List Value := [.bool s.is, .int .i64 s.at_, .int .u8 s.kind, .int .u8 s.station, .int .u32 s.seq, .int .u32 s.value]
def encV (v : Vw) : List Value := [.bool v.i0, .bool v.i1, .bool v.i2, .bool v.i3, .bool v.i4, .bool v.i5, .bool v.i6, .bool v.i7, .int .u8 v.m0, .int .u8 v.m1, .int .u8 v.m2, .int .u8 v.m3, .int .u8 v.m4, .int .u8 v.m5, .int .u8 v.m6, .int .u8 v.m7, .int .u8 v.g0, .int .u8 v.g1, .int .u8 v.g2, .int .u8 v.g3, .int .u8 v.g4, .int .u8 v.g5, .int .u8 v.g6, .int .u8 v.g7, .int .u16 v.s0, .int .u16 v.s1, .int .u16 v.s2, .int .u16 v.s3, .int .u16 v.s4, .int .u16 v.s5, .int .u16 v.s6, .int .u16 v.s7, .bool v.t0, .bool v.t1, .bool v.t2, .bool v.t3, .bool v.t4, .bool v.t5, .bool v.t6, .bool v.t7, .int .i8 v.command, .int .u8 v.mode]
def encC (c : Cl) : List Value := [.int .i64 c.age, .bool c.offer.is, .int .i64 c.offer.at_, .int .u8 c.offer.kind, .int .u8 c.offer.station, .int .u32 c.offer.seq, .int .u32 c.offer.value, .bool c.report.is, .int .i64 c.report.at_, .int .u8 c.report.kind, .int .u8 c.report.station, .int .u32 c.report.seq, .int .u32 c.report.value, .bool c.view.i0, .bool c.view.i1, .bool c.view.i2, .bool c.view.i3, .bool c.view.i4, .bool c.view.i5, .bool c.view.i6, .bool c.view.i7, .int .u8 c.view.m0, .int .u8 c.view.m1, .int .u8 c.view.m2, .int .u8 c.view.m3, .int .u8 c.view.m4, .int .u8 c.view.m5, .int .u8 c.view.m6, .int .u8 c.view.m7, .int .u8 c.view.g0, .int .u8 c.view.g1, .int .u8 c.view.g2, .int .u8 c.view.g3, .int .u8 c.view.g4, .int .u8 c.view.g5, .int .u8 c.view.g6, .int .u8 c.view.g7, .int .u16 c.view.s0, .int .u16 c.view.s1, .int .u16 c.view.s2, .int .u16 c.view.s3, .int .u16 c.view.s4, .int .u16 c.view.s5, .int .u16 c.view.s6, .int .u16 c.view.s7, .bool c.view.t0, .bool c.view.t1, .bool c.view.t2, .bool c.view.t3, .bool c.view.t4, .bool c.view.t5, .bool c.view.t6, .bool c.view.t7, .int .i8 c.view.command, .int .u8 c.view.mode]
def encH (h : Hd) : List Value := .bool h.is :: encC h.cell

def Sd.wf (s : Sd) : Prop := inK .i64 s.at_ ∧ inK .u8 s.kind ∧ inK .u8 s.station ∧ inK .u32 s.seq ∧ inK .u32 s.value
def Vw.wf (v : Vw) : Prop := inK .u8 v.m0 ∧ inK .u8 v.m1 ∧ inK .u8 v.m2 ∧ inK .u8 v.m3 ∧ inK .u8 v.m4 ∧ inK .u8 v.m5 ∧ inK .u8 v.m6 ∧ inK .u8 v.m7 ∧ inK .u8 v.g0 ∧ inK .u8 v.g1 ∧ inK .u8 v.g2 ∧ inK .u8 v.g3 ∧ inK .u8 v.g4 ∧ inK .u8 v.g5 ∧ inK .u8 v.g6 ∧ inK .u8 v.g7 ∧ inK .u16 v.s0 ∧ inK .u16 v.s1 ∧ inK .u16 v.s2 ∧ inK .u16 v.s3 ∧ inK .u16 v.s4 ∧ inK .u16 v.s5 ∧ inK .u16 v.s6 ∧ inK .u16 v.s7 ∧ inK .i8 v.command ∧ inK .u8 v.mode
def Cl.wf (c : Cl) : Prop := inK .i64 c.age ∧ c.offer.wf ∧ c.report.wf ∧ c.view.wf

def cellK : Kd Cl := flatK encC Cl.wf 55 (fun _ => rfl) (fun _ => rfl)
def heldK : Kd Hd := flatK encH (fun h => h.cell.wf) 56 (fun _ => rfl) (fun _ => rfl)
def heldsK : Kd (List Hd) := sliceK heldK

/-- A row: its table's value beside. -/
def encR (r : Rw) (t : Value) : List Value := .bool r.is :: (encC r.cell ++ [t])

def rowK : Kd Rw where
  sz := 57
  rd := fun w ok r cs => ∃ t, cs = encR r t ∧ r.cell.wf ∧ heldsK.rd w ok r.table [t]
  len := fun ⟨_, h, _, _⟩ => by subst h; rfl
  leaf := fun ⟨t, h, _, h2⟩ => by
    subst h
    have := heldsK.leaf h2
    obtain ⟨a, c, h3, _⟩ := h2
    cases h3
    rfl
  keep := fun hk hz ⟨t, h, h1, h2⟩ => ⟨t, h, h1, heldsK.keep hk hz h2⟩

def rowsK : Kd (List Rw) := sliceK rowK

end Go.Proofs.Ytckcldimnelklaa
