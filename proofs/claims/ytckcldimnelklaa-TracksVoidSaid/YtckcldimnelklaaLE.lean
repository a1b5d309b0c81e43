/- Operations on memory: addresses, loads, new variables, slices of one's own. -/
import Derived.Test.YtckcldimnelklaaLD
import Derived.Laws.AppendOwn
namespace Go.Proofs.Ytckcldimnelklaa
open Go
set_option linter.unusedVariables false
set_option linter.unusedSimpArgs false

def FA (P : Program) (S k off : Nat) : Prop := ∀ a w, (Instr.fieldAt S (.pointer (some a)) k).run P w = .ok (.pointer (some (a.add off))) w

theorem At.sub {w : World} {ok : Nat → Prop} {a : Addr} {cs ds : List Value} {off n : Nat} (h : At w ok a cs) (hc : (cs.drop off).take n = ds) (hn : ds.length = n) :
    At w ok ⟨a.block, a.off + off, none⟩ ds := by
  refine ⟨rfl, h.lt, h.ok, fun j v hj => ?_⟩
  have hj' : j < n := by have := (List.getElem?_eq_some_iff.1 hj).1; omega
  subst hc
  simp only [List.getElem?_take, hj', if_true, List.getElem?_drop] at hj
  have := h.cell (off + j) v hj
  rw [show a.off + (off + j) = a.off + off + j by omega] at this
  exact this

section
variable {P : Program} {σ : Nat → Value} {w : World} {d : Option Tmp} {ty : TypeId} {pos : String} {af : Array Edge} {g : Option (Nat × Bool)}

theorem R.loadA {T : TypeId} {n : Nat} {x : Operand} {a : Addr} {ok : Nat → Prop} {cs : List Value} (hT : AggT P T n) (hx : ev σ x = .pointer (some a)) (h : At w ok a cs) (hn : cs.length = n) :
    Runs P σ ⟨d, .load T x, ty, pos, af, g⟩ w (.agg cs.toArray) w := by
  simp [Runs, execOp, hx, Instr.loadAt, Instr.sureAddr, run_loadA hT h hn]

theorem R.loadL {T : TypeId} {x : Operand} {a : Addr} {ok : Nat → Prop} {v : Value} (hT : LeafT P T) (hx : ev σ x = .pointer (some a)) (h : At w ok a [v]) :
    Runs P σ ⟨d, .load T x, ty, pos, af, g⟩ w v w := by
  simp [Runs, execOp, hx, Instr.loadAt, Instr.sureAddr, run_loadL hT h]

theorem R.fieldAddr {S k off b o o' : Nat} {x : Operand} (hF : FA P S k off) (hx : ev σ x = .pointer (some ⟨b, o, none⟩)) (ho : o + off = o') :
    Runs P σ ⟨d, .fieldAddr S x k, ty, pos, af, g⟩ w (.pointer (some ⟨b, o', none⟩)) w := by
  subst ho
  simp [Runs, execOp, hx, hF _ w, add_flat]

theorem R.indexS {T E : TypeId} {n m len cap : Nat} {x i : Operand} {a : Option Addr} {ad : Addr} {k : IntKind} {z : Int} (hU : P.underlying T = some (.slice E)) (hE : ∀ w, (sizeOf E).run P w = .ok n w)
    (hx : ev σ x = .slice a len cap) (ha : a = some ad) (hi : ev σ i = .int k z) (hm : z = (m : Int)) (hlt : m < len) (hsp : ad.spot = none) :
    Runs P σ ⟨d, .indexAddr T x i, ty, pos, af, g⟩ w (.pointer (some ⟨ad.block, ad.off + m * n, none⟩)) w := by
  subst hm
  subst ha
  simp [Runs, execOp, hx, hi, Instr.indexAt, asIntOf, run_underlying hU, hE, add_flat hsp]
  intro h; omega

theorem R.indexA {T E : TypeId} {n m len b o : Nat} {x i : Operand} {k : IntKind} {z : Int} (hU : P.underlying T = some (.array len E)) (hE : ∀ w, (sizeOf E).run P w = .ok n w)
    (hx : ev σ x = .pointer (some ⟨b, o, none⟩)) (hi : ev σ i = .int k z) (hm : z = (m : Int)) (hlt : m < len) :
    Runs P σ ⟨d, .indexAddr T x i, ty, pos, af, g⟩ w (.pointer (some ⟨b, o + m * n, none⟩)) w := by
  subst hm
  simp [Runs, execOp, hx, hi, Instr.indexAt, Instr.sureAddr, asIntOf, run_underlying hU, hE, add_flat]
  intro h; omega

theorem R.build {T : TypeId} {ps : List (Nat × Operand)} {vs : List (Nat × Value)} {v : Value} (hp : ps.map (fun p => (p.1, ev σ p.2)) = vs)
    (h : ∀ w, (Instr.build T vs.toArray).run P w = .ok v w) : Runs P σ ⟨d, .build T ps.toArray, ty, pos, af, g⟩ w v w := by
  subst hp
  simp [Runs, execOp, h]

/-- A new variable, zero. -/
theorem X.alloc {L0 L : List Ent} {w0 : World} (h : St L0 w0 w L) {T : TypeId} {zv : Value} {c : List Value} (hz : ∀ w, (zeroValue T).run P w = .ok zv w) (hc : zv.cells = c.toArray)
    {L' : Nat → List Ent} (hL : ∀ b, L' b = L ++ [blk b T c]) :
    ∃ b w', Runs P σ ⟨d, .alloc T, ty, pos, af, g⟩ w (.pointer (some ⟨b, 0, none⟩)) w' ∧ St L0 w0 w' (L' b) ∧ Ext w w' ∧ w.heap.size ≤ b := by
  refine ⟨w.heap.size, _, ?_, h.push T c (hL _), Ext.push _ _, Nat.le_refl _⟩
  simp only [Runs, execOp, Instr.alloc, Sem.run_bind, hz, Result.andThen, run_newVar hc, Sem.run_pure]

theorem X.box {L0 L : List Ent} {w0 : World} (h : St L0 w0 w L) {T : TypeId} {x : Operand} {v : Value} {c : List Value} (hx : ev σ x = v) (hc : v.cells = c.toArray)
    {L' : Nat → List Ent} (hL : ∀ b, L' b = L ++ [blk b T c]) :
    ∃ b w', Runs P σ ⟨d, .box T x, ty, pos, af, g⟩ w (.pointer (some ⟨b, 0, none⟩)) w' ∧ St L0 w0 w' (L' b) ∧ Ext w w' ∧ w.heap.size ≤ b := by
  refine ⟨w.heap.size, _, ?_, h.push T c (hL _), Ext.push _ _, Nat.le_refl _⟩
  simp only [Runs, execOp, Instr.box, hx, Sem.run_bind, run_newVar hc, Result.andThen, Sem.run_pure]

theorem X.buildSlice {L0 L : List Ent} {w0 : World} (h : St L0 w0 w L) {T E len : Nat} {ps : List (Nat × Operand)} {vs : List (Nat × Value)} {c : List Value} (hp : ps.map (fun p => (p.1, ev σ p.2)) = vs)
    (hr : ∀ w : World, (Instr.buildSlice T len vs.toArray).run P w = .ok (.slice (some ⟨w.heap.size, 0, none⟩) len len) { w with heap := w.heap.push (.cells c.toArray E) })
    {L' : Nat → List Ent} (hL : ∀ b, L' b = L ++ [blk b E c]) :
    ∃ b w', Runs P σ ⟨d, .buildSlice T len ps.toArray, ty, pos, af, g⟩ w (.slice (some ⟨b, 0, none⟩) len len) w' ∧ St L0 w0 w' (L' b) ∧ Ext w w' ∧ w.heap.size ≤ b := by
  refine ⟨w.heap.size, _, ?_, h.push E c (hL _), Ext.push _ _, Nat.le_refl _⟩
  subst hp
  simp [Runs, execOp, hr]

theorem X.store {L0 L : List Ent} {w0 : World} (h : St L0 w0 w L) {T U : TypeId} {n i b off : Nat} {c vs : List Value} {v : Value} {x y : Operand} (hi : L[i]? = some (blk b U c))
    (hsz : ∀ w, (sizeOf T).run P w = .ok n w) (hx : ev σ x = .pointer (some ⟨b, off, none⟩)) (hy : ev σ y = v)
    (hv : v.cells = vs.toArray) (hn : vs.length = n) (hl : vs.all leafB = true) (hlen : Nat.ble (off + n) c.length = true) {c' : List Value} (hc' : splice c off vs = c')
    {L' : List Ent} (hL : L' = L.set i (blk b U c')) :
    ∃ w', (execOp (ev σ) ⟨d, .store T x y, ty, pos, af, g⟩).run P w = .ok .skip w' ∧ St L0 w0 w' L' := by
  obtain ⟨w', hr, hs⟩ := h.store (P := P) hi hsz hv hn hl hlen hc' hL
  refine ⟨w', ?_, hs⟩
  simp only [execOp, hx, hy, Instr.storeAt, Instr.sureAddr, Sem.run_bind, Sem.run_pure, Result.andThen, hr]
end

section
variable {P : Program} {n : Nat} {Q : Exit → Act → World → Prop} {σ : Nat → Value} {w w0 : World} {ops : Array Oper} {rest : List Oper} {L0 : List Ent}

theorem WL.new {d : Option Tmp} {op : Op} {ty : TypeId} {pos : String} {af : Array Edge} {L' : Nat → List Ent} {f : Nat → Value}
    (hx : ∃ b w', Runs P σ ⟨d, op, ty, pos, af, none⟩ w (f b) w' ∧ St L0 w0 w' (L' b) ∧ Ext w w' ∧ w.heap.size ≤ b)
    (hn : okOp n ⟨d, op, ty, pos, af, none⟩ = true) (k : ∀ b w', St L0 w0 w' (L' b) → Ext w w' → w.heap.size ≤ b → WL P n ops Q rest (updO σ d (f b)) w') :
    WL P n ops Q (⟨d, op, ty, pos, af, none⟩ :: rest) σ w :=
  let ⟨b, w', h1, h2, h3, h4⟩ := hx
  WL.val h1 hn (k b w' h2 h3 h4)

theorem WL.sto {d : Option Tmp} {op : Op} {ty : TypeId} {pos : String} {af : Array Edge} {L' : List Ent}
    (hx : ∃ w', (execOp (ev σ) ⟨d, op, ty, pos, af, none⟩).run P w = .ok .skip w' ∧ St L0 w0 w' L')
    (hn : okOp n ⟨d, op, ty, pos, af, none⟩ = true) (hd : d = none) (k : ∀ w', St L0 w0 w' L' → WL P n ops Q rest σ w') :
    WL P n ops Q (⟨d, op, ty, pos, af, none⟩ :: rest) σ w :=
  let ⟨w', h1, h2⟩ := hx
  WL.eff h1 hn hd (k w' h2)

theorem WL.grow {d : Option Tmp} {op : Op} {ty : TypeId} {pos : String} {af : Array Edge} {L' : Value → List Ent}
    (hx : ∃ v w', Runs P σ ⟨d, op, ty, pos, af, none⟩ w v w' ∧ St L0 w0 w' (L' v))
    (hn : okOp n ⟨d, op, ty, pos, af, none⟩ = true) (k : ∀ v w', St L0 w0 w' (L' v) → WL P n ops Q rest (updO σ d v) w') :
    WL P n ops Q (⟨d, op, ty, pos, af, none⟩ :: rest) σ w :=
  let ⟨v, w', h1, h2⟩ := hx
  WL.val h1 hn (k v w' h2)
end

/-! ### Slices of one's own -/
/-- How an element lies: so many cells. -/
structure Enc (α : Type) where
  n : Nat
  enc : α → List Value
  len : ∀ x, (enc x).length = n

def flat {α : Type} (e : Enc α) (xs : List α) : List Value := (xs.map e.enc).flatten

theorem flat_length {α : Type} (e : Enc α) (xs : List α) : (flat e xs).length = xs.length * e.n := by
  induction xs with
  | nil => simp [flat]
  | cons x xs ih => simp only [flat, List.map_cons, List.flatten_cons, List.length_append, e.len, List.length_cons] at *; rw [ih, Nat.succ_mul]; omega

theorem flat_append {α : Type} (e : Enc α) (xs ys : List α) : flat e (xs ++ ys) = flat e xs ++ flat e ys := by simp [flat]

theorem flat_split {α : Type} (e : Enc α) (xs : List α) (i : Nat) (x : α) (h : xs[i]? = some x) :
    flat e xs = flat e (xs.take i) ++ (e.enc x ++ flat e (xs.drop (i + 1))) ∧ (flat e (xs.take i)).length = i * e.n := by
  have hlt := (List.getElem?_eq_some_iff.1 h).1
  have hx := (List.getElem?_eq_some_iff.1 h).2
  have h1 : xs = xs.take i ++ x :: xs.drop (i + 1) := by
    rw [← hx, ← List.drop_eq_getElem_cons hlt, List.take_append_drop]
  refine ⟨?_, ?_⟩
  · conv => lhs; rw [h1]
    rw [flat_append]; rfl
  · rw [flat_length, List.length_take, Nat.min_eq_left (by omega)]

theorem flat_get {α : Type} (e : Enc α) (xs : List α) (sp : List Value) (i : Nat) (x : α) (h : xs[i]? = some x) : ((flat e xs ++ sp).drop (i * e.n)).take e.n = e.enc x := by
  obtain ⟨h1, h2⟩ := flat_split e xs i x h
  rw [h1, ← h2, List.append_assoc, List.drop_left, List.append_assoc]
  conv => lhs; rw [← e.len x]
  rw [List.take_left]

theorem splice_mid (A B B' C : List Value) (h : B.length = B'.length) : splice (A ++ (B ++ C)) A.length B' = A ++ (B' ++ C) := by
  simp [splice, ← h]

theorem flat_set {α : Type} (e : Enc α) (xs : List α) (sp : List Value) (i : Nat) (x y : α) (h : xs[i]? = some x) :
    splice (flat e xs ++ sp) (i * e.n) (e.enc y) = flat e (xs.set i y) ++ sp := by
  obtain ⟨h1, h2⟩ := flat_split e xs i x h
  have hlt := (List.getElem?_eq_some_iff.1 h).1
  have hy : (xs.set i y)[i]? = some y := by simp [hlt]
  obtain ⟨h3, h4⟩ := flat_split e (xs.set i y) i y hy
  have h5 : (xs.set i y).take i = xs.take i := by rw [List.take_set_of_le (Nat.le_refl i)]
  have h6 : (xs.set i y).drop (i + 1) = xs.drop (i + 1) := by rw [List.drop_set_of_lt (by omega)]
  rw [h3, h5, h6, h1, List.append_assoc, List.append_assoc, ← h2, List.append_assoc, List.append_assoc]
  exact splice_mid _ _ _ _ (by rw [e.len, e.len])

/-- A slice of one's own: nothing, or the head of a block of one's own. -/
def gsl {α : Type} (E : TypeId) (e : Enc α) (v : Value) (xs : List α) : Ent where
  F := fun b => v.ownBlock = some b
  h := fun w => w.ownsRow 0 E e.n v xs.length (flat e xs)
  st := fun hs h => by
    obtain ⟨h1, h2⟩ := h
    refine ⟨h1, ?_⟩
    rcases h2 with h2 | ⟨g, cap, cur, hv, hb, hh, r⟩
    · exact .inl h2
    · exact .inr ⟨g, cap, cur, hv, hb, by rw [hs g (by rw [hv]; rfl)]; exact hh, r⟩

theorem gsl_sl {α : Type} {E : TypeId} {e : Enc α} {v : Value} {xs : List α} {w : World} (h : (gsl E e v xs).h w) : ∃ a c, v = .slice a xs.length c := by
  rcases h.2 with ⟨h1, h2⟩ | ⟨g, cap, cur, hv, _⟩
  · exact ⟨none, 0, by rw [h1, h2]⟩
  · exact ⟨_, _, hv⟩

theorem gsl_lt {α : Type} {E : TypeId} {e : Enc α} {v : Value} {xs : List α} {w : World} (h : (gsl E e v xs).h w) (b : Nat) (hF : (gsl E e v xs).F b) : b < w.heap.size := by
  rcases h.2 with ⟨h1, h2⟩ | ⟨g, cap, cur, hv, _, hh, _⟩
  · subst h1; cases hF
  · subst hv
    have : g = b := Option.some.inj hF
    subst this
    exact lt_of_some hh

/-- The whole block. -/
theorem gsl_open {α : Type} {E : TypeId} {e : Enc α} {v : Value} {xs : List α} {w : World} (h : (gsl E e v xs).h w) {j : Nat} {x : α} (hx : xs[j]? = some x) :
    ∃ b c sp, v = .slice (some ⟨b, 0, none⟩) xs.length c ∧ w.heap[b]? = some (.cells (flat e xs ++ sp).toArray E (0, 0)) ∧ xs.length ≤ c ∧ c ≤ maxLen ∧ (flat e xs ++ sp).length = c * e.n := by
  have hlt := (List.getElem?_eq_some_iff.1 hx).1
  rcases h.2 with ⟨h1, h2⟩ | ⟨g, cap, cur, hv, _, hh, h1, h2, h3, h4⟩
  · omega
  · refine ⟨g, cap, cur.toList.drop (xs.length * e.n), hv, ?_, h1, h2, ?_⟩
    · rw [hh]
      congr 2
      rw [← h4, List.take_append_drop]
    · rw [← h4, List.take_append_drop]
      simpa using h3

theorem St.gslAt {α : Type} {L0 L : List Ent} {w0 w : World} (h : St L0 w0 w L) {i : Nat} {E : TypeId} {e : Enc α} {v : Value} {xs : List α} (hi : L[i]? = some (gsl E e v xs))
    {j : Nat} {x : α} (hx : xs[j]? = some x) :
    ∃ b c, v = .slice (some ⟨b, 0, none⟩) xs.length c ∧ At w (fun _ => True) ⟨b, 0 + j * e.n, none⟩ (e.enc x) := by
  obtain ⟨b, c, sp, hv, hh, _, _, _⟩ := gsl_open (h.get hi) hx
  refine ⟨b, c, hv, rfl, lt_of_some hh, trivial, fun k u hk => ?_⟩
  have hk' : k < e.n := by have := (List.getElem?_eq_some_iff.1 hk).1; rw [e.len] at this; exact this
  have := flat_get e xs sp j x hx
  rw [← this] at hk
  simp only [List.getElem?_take, hk', if_true, List.getElem?_drop] at hk
  simp only [World.cell?, hh]
  simpa using hk

theorem St.gslAtV {α : Type} {L0 L : List Ent} {w0 w : World} (h : St L0 w0 w L) {i : Nat} {E : TypeId} {e : Enc α} {v : Value} {xs : List α} (hi : L[i]? = some (gsl E e v xs))
    {j b n c : Nat} {x : α} (hx : xs[j]? = some x) (hv : v = .slice (some ⟨b, 0, none⟩) n c) : At w (fun _ => True) ⟨b, 0 + j * e.n, none⟩ (e.enc x) := by
  obtain ⟨b', c', h1, h2⟩ := h.gslAt hi hx
  rw [hv] at h1
  injection h1 with h1 _ _
  injection h1 with h1
  injection h1 with h1
  subst h1
  exact h2

/-- A slice of one's own that is nothing yet. -/
theorem St.addNil {α : Type} {L0 L : List Ent} {w0 w : World} (h : St L0 w0 w L) (E : TypeId) (e : Enc α) {L' : List Ent} (hL : L' = L ++ [gsl E e (.slice none 0 0) []]) : St L0 w0 w L' :=
  h.add (Ext.refl w) (E := gsl E e (.slice none 0 0) []) ⟨by simp [flat], .inl ⟨rfl, rfl⟩⟩ (fun b hb => by cases hb) hL

/-- What was read at the beginning, read now. -/
theorem St.atR {L0 L : List Ent} {w0 w : World} (h : St L0 w0 w L) {ok : Nat → Prop} (hok : ∀ b, ok b → out L0 b) {a : Addr} {cs : List Value} (ha : At w0 ok a cs) : At w ok a cs := by
  refine ⟨ha.spot, Nat.lt_of_lt_of_le ha.lt h.size, ha.ok, fun j v hj => ?_⟩
  have h0 := ha.cell j v hj
  simp only [World.cell?] at h0 ⊢
  rw [h.kept.block _ ha.lt (hok _ ha.ok)]
  exact h0

theorem splice_in (A B C : List Value) (off : Nat) (vs : List Value) (h : off + vs.length ≤ B.length) : splice (A ++ (B ++ C)) (A.length + off) vs = A ++ (splice B off vs ++ C) := by
  have h1 : List.take (A.length + off) (A ++ (B ++ C)) = A ++ B.take off := by
    rw [List.take_append, List.take_of_length_le (by omega), show A.length + off - A.length = off by omega, List.take_append_of_le_length (by omega)]
  have h2 : List.drop (A.length + off + vs.length) (A ++ (B ++ C)) = B.drop (off + vs.length) ++ C := by
    rw [List.drop_append, List.drop_eq_nil_of_le (by omega), List.nil_append, show A.length + off + vs.length - A.length = off + vs.length by omega, List.drop_append_of_le_length (by omega)]
  simp only [splice, h1, h2, List.append_assoc]

section
variable {P : Program} {σ : Nat → Value} {w : World} {d : Option Tmp} {ty : TypeId} {pos : String} {af : Array Edge} {g : Option (Nat × Bool)}

/-- A store into an element, or a part of it, of a slice of one's own. -/
theorem X.storeEl {α : Type} {L0 L : List Ent} {w0 : World} (h : St L0 w0 w L) {T E : TypeId} {n i b j off q c m0 : Nat} {e : Enc α} {v u : Value} {xs : List α} {x' y' : Operand} {x y : α} {vs : List Value}
    (hi : L[i]? = some (gsl E e v xs)) (hx : xs[j]? = some x) (hv : v = .slice (some ⟨b, 0, none⟩) m0 c)
    (hsz : ∀ w, (sizeOf T).run P w = .ok n w) (hp : ev σ x' = .pointer (some ⟨b, q, none⟩)) (hq : q = 0 + j * e.n + off) (hy : ev σ y' = u)
    (hu : u.cells = vs.toArray) (hn : vs.length = n) (hl : vs.all leafB = true) (hlen : off + n ≤ e.n) (hs : splice (e.enc x) off vs = e.enc y)
    {L' : List Ent} (hL : L' = L.set i (gsl E e v (xs.set j y))) :
    ∃ w', (execOp (ev σ) ⟨d, .store T x' y', ty, pos, af, g⟩).run P w = .ok .skip w' ∧ St L0 w0 w' L' := by
  obtain ⟨b', c', sp, hv', hh, hc1, hc2, hc3⟩ := gsl_open (h.get hi) hx
  have hv0 := hv
  rw [hv] at hv'
  injection hv' with hv1 hv3 hv2
  injection hv1 with hv1
  injection hv1 with hv1
  subst hv1; subst hv2; subst hv3
  obtain ⟨h1, h2⟩ := flat_split e xs j x hx
  have hlt := (List.getElem?_eq_some_iff.1 hx).1
  have hcl : (flat e xs ++ sp).length = (flat e (xs.take j)).length + (e.n + (flat e (xs.drop (j + 1)) ++ sp).length) := by
    rw [h1]; simp [e.len]
  obtain ⟨w', hr, k1, k2, k3, k4, k5, k6⟩ := run_storeCells (P := P) vs w (flat e xs ++ sp) q 0 hl hh (by rw [hcl, h2]; omega)
  have hnew : splice (flat e xs ++ sp) (q + 0) vs = flat e (xs.set j y) ++ sp := by
    obtain ⟨h3, _⟩ := flat_split e (xs.set j y) j y (by simp [hlt])
    have h5 : (xs.set j y).take j = xs.take j := by rw [List.take_set_of_le (Nat.le_refl j)]
    have h6 : (xs.set j y).drop (j + 1) = xs.drop (j + 1) := by rw [List.drop_set_of_lt (by omega)]
    rw [h3, h5, h6, h1, List.append_assoc, List.append_assoc, List.append_assoc, List.append_assoc, ← hs]
    have : q + 0 = (flat e (xs.take j)).length + off := by rw [h2]; omega
    rw [this]
    exact splice_in _ _ _ _ _ (by rw [e.len]; omega)
  refine ⟨w', ?_, h.set (E' := gsl E e v (xs.set j y)) hi k4 k5 k6 (by omega) (fun z _ hz => k2 z (fun e' => hz (by subst e'; show v.ownBlock = _; rw [hv]; rfl))) ?_ (fun z hz => ⟨.inl hz, ?_⟩) hL⟩
  · simp only [execOp, hp, hy, Instr.storeAt, Instr.sureAddr, storeVar, Sem.run_bind, Sem.run_pure, hsz, Result.andThen, hu]
    simp [hn, hr]
  · refine ⟨by rw [flat_length], .inr ⟨b, c, (flat e (xs.set j y) ++ sp).toArray, ?_, Nat.zero_le _, ?_, ?_, hc2, ?_, ?_⟩⟩
    · rw [hv, List.length_set]
    · rw [k1, hnew]
    · simpa using hc1
    · have : (flat e (xs.set j y) ++ sp).length = (flat e xs ++ sp).length := by simp [flat_length]
      simp only [List.size_toArray]
      rw [this, hc3]
    · have : (xs.set j y).length * e.n = (flat e (xs.set j y)).length := (flat_length _ _).symm
      rw [this]
      exact List.take_left
  · have := gsl_lt (h.get hi) z hz
    omega

/-- What a slice type's elements are. -/
structure SlT (P : Program) (T E n bytes : Nat) (zc : List Value) : Prop where
  und : P.underlying T = some (.slice E)
  el : ∃ i z, P.info? E = some i ∧ i.zero = some z ∧ i.size = n ∧ i.bytes = bytes ∧ z.cells = zc.toArray
  len : zc.length = n
  pos : 0 < n

theorem slT_el {P : Program} {E n bytes : Nat} {zc : List Value} (h : (P.info? E).map (fun i => (i.zero.map Value.cells, i.size, i.bytes)) = some (some zc.toArray, n, bytes)) :
    ∃ i z, P.info? E = some i ∧ i.zero = some z ∧ i.size = n ∧ i.bytes = bytes ∧ z.cells = zc.toArray := by
  cases hi : P.info? E with
  | none => simp [hi] at h
  | some i =>
    rw [hi] at h
    simp only [Option.map_some, Option.some.injEq, Prod.mk.injEq] at h
    obtain ⟨h1, h2, h3⟩ := h
    cases hz : i.zero with
    | none => simp [hz] at h1
    | some z =>
      rw [hz] at h1
      simp only [Option.map_some, Option.some.injEq] at h1
      exact ⟨i, z, rfl, hz, h2, h3, h1⟩

theorem grown_st {L0 L : List Ent} {w0 w' : World} (h : St L0 w0 w L) {α : Type} {E : TypeId} {e : Enc α} {v v' : Value} {xs ys : List α} {i : Nat} (hi : L[i]? = some (gsl E e v xs))
    (hg : w.grownBy w' v.ownBlock) (hn : (gsl E e v' ys).h w') (hnew : ∀ b, v'.ownBlock = some b → v.ownBlock = some b ∨ w.heap.size ≤ b) {L' : List Ent} (hL : L' = L.set i (gsl E e v' ys)) :
    St L0 w0 w' L' :=
  h.set hi hg.os hg.tape hg.output hg.size (fun b hb hF => hg.block b hb (fun e => hF e.symm)) hn (fun b hb => ⟨hnew b hb, gsl_lt hn b hb⟩) hL

theorem madeCells_flat {α : Type} (e : Enc α) (z : α) (zc : List Value) (n : Nat) (hz : e.enc z = zc) (hn : zc.length = n) (_h0 : 0 < n) (m : Nat) :
    (madeCells zc.toArray (m * n)).toList = flat e (List.replicate m z) := by
  have key : ∀ m : Nat, (List.range (m * n)).map (fun k => zc.toArray[k % n]!) = flat e (List.replicate m z) := by
    intro m
    induction m with
    | zero => simp [flat]
    | succ m ih =>
      rw [Nat.succ_mul, List.range_add, List.map_append, ih, List.replicate_succ', flat_append]
      congr 1
      rw [List.map_map]
      have : flat e [z] = zc := by simp [flat, hz]
      rw [this]
      apply List.ext_getElem
      · simp [hn]
      · intro k h1 h2
        simp only [List.getElem_map, List.getElem_range, Function.comp]
        have hk : k < n := by simpa using h1
        have h3 : (m * n + k) % n = k := by rw [Nat.mul_comm, Nat.mul_add_mod, Nat.mod_eq_of_lt hk]
        rw [h3]
        simp [h2]
  have := key m
  simp only [madeCells, Array.toList_map, Array.toList_range, List.size_toArray, hn]
  exact this

theorem X.makeSlice {L0 L : List Ent} {w0 : World} (h : St L0 w0 w L) {α : Type} {T E n bytes m : Nat} {zc : List Value} (hT : SlT P T E n bytes zc) {e : Enc α} {z : α} (hz : e.enc z = zc)
    {x y : Operand} {k k' : IntKind} {a : Int} (hx : ev σ x = .int k a) (hy : ev σ y = .int k' a) (ha : a = (m : Int)) (hb : bytes * m ≤ 281474976710656) (hm : m ≤ 4611686018427387904)
    {L' : Nat → List Ent} (hL : ∀ b, L' b = L ++ [gsl E e (.slice (some ⟨b, 0, none⟩) m m) (List.replicate m z)]) :
    ∃ b w', Runs P σ ⟨d, .makeSlice T x y, ty, pos, af, g⟩ w (.slice (some ⟨b, 0, none⟩) m m) w' ∧ St L0 w0 w' (L' b) ∧ Ext w w' ∧ w.heap.size ≤ b := by
  obtain ⟨i, zv, h1, h2, h3, h4, h5⟩ := hT.el
  subst ha
  obtain ⟨w', hr, ho, hg⟩ := run_make_full (P := P) w 0 T E i zv n hT.und h1 h2 h3 k k' m (by rw [h4]; exact hb) (by unfold maxLen; omega) (Nat.zero_le _)
  have hext : Ext w w' := ⟨hg.os, hg.tape, hg.output, hg.size, fun b hb _ => hg.block b hb (by simp)⟩
  refine ⟨w.heap.size, w', ?_, ?_, hext, Nat.le_refl _⟩
  · simp only [Runs, execOp, hx, hy, Sem.run_bind, hr, Result.andThen, Sem.run_pure]
  · rw [h5, madeCells_flat e z zc n hz hT.len hT.pos m] at ho
    have hgl : (gsl E e (.slice (some ⟨w.heap.size, 0, none⟩) m m) (List.replicate m z)).h w' := by
      show w'.ownsRow 0 E e.n _ (List.replicate m z).length _
      have hn : e.n = n := by rw [← e.len z, hz, hT.len]
      rw [List.length_replicate, hn]
      exact ho
    exact h.add hext hgl (fun b hb => by
      have hb' := gsl_lt hgl b hb
      have : w.heap.size = b := Option.some.inj hb
      omega) (hL _)

theorem oneCell_of_leaf {l : List Value} (h : l.all leafB = true) : ∀ u ∈ l, u.oneCell' = true := by
  intro u hu
  have := List.all_eq_true.1 h u hu
  cases u <;> first | rfl | (simp [leafB] at this)

theorem run_append_nil' {T E ty : TypeId} {i0 : TypeInfo} {ad : Addr} {c : Nat} (hU : P.underlying T = some (.slice E)) (h1 : P.info? E = some i0) :
    (Builtin.append_ #[T, T] ty #[.slice none 0 0, .slice (some ad) 0 c]).run P w = .ok (.slice none 0 0) w := by
  simp [Builtin.append_, run_underlying hU, sizeOf, typeInfo, h1, Builtin.lenOf, Builtin.firstCells, loadCells, loadCellsFrom]

/-- Where the answer of an append lies: where the slice lay, or in a new block. -/
theorem append_block {α : Type} {T E ty : TypeId} {i0 : TypeInfo} {zv : Value} {e : Enc α} {v v' : Value} {w' : World} {xs : List α} {m c : Nat} {ad : Addr} {news : List Value}
    (hU : P.underlying T = some (.slice E)) (h1 : P.info? E = some i0) (h2 : i0.zero = some zv) (hb : (xs.length + m) * i0.bytes ≤ 140737488355328)
    (ho : (gsl E e v xs).h w) (hr : (Builtin.append_ #[T, T] ty #[v, .slice (some ad) m c]).run P w = .ok v' w')
    (hl : news.length = m * i0.size) (hnews : ∀ j u, news[j]? = some u → w.cell? (ad.add j) = some u) (hone : ∀ u ∈ news, u.oneCell' = true)
    (h63 : xs.length + m ≤ 4611686018427387904) (hsz : i0.size = e.n) : ∀ b, v'.ownBlock = some b → v.ownBlock = some b ∨ w.heap.size ≤ b := by
  intro b hb'
  have ho' : w.ownsRow 0 E e.n v xs.length (flat e xs) := ho
  rcases ho'.2 with ⟨h3, h4⟩ | ⟨g, cap, cur, hv, _, hg, hnc, hcm, hcs, htake⟩
  · subst h3
    by_cases hm : m = 0
    · subst hm
      have hn : news = [] := List.eq_nil_of_length_eq_zero (by simpa using hl)
      subst hn
      have hx := run_append_nil' (w := w) (P := P) (ty := ty) (ad := ad) (c := c) hU h1
      rw [hx] at hr
      injection hr with hr
      subst hr
      cases hb'
    · have hx := run_append_nil (P := P) w T ty E i0 zv hU h1 h2 ad m c news hl hnews (by omega) (by omega) (by have := hb; rw [h4, Nat.zero_add] at this; omega)
      rw [hx] at hr
      injection hr with hr
      subst hr
      right
      have := Option.some.inj hb'
      simp at this
      omega
  · subst hv
    by_cases hroom : xs.length + m ≤ cap
    · have hx := run_append_room (P := P) w T ty E i0 hU h1 g xs.length cap cur hg ad m c news hl hnews hone hroom (by rw [hl, hcs, ← hsz, ← Nat.add_mul]; exact Nat.mul_le_mul_right _ hroom)
      rw [hx] at hr
      injection hr with hr
      subst hr
      exact .inl hb'
    · have holds : ∀ j u, (flat e xs)[j]? = some u → w.cell? ((⟨g, 0, none⟩ : Addr).add j) = some u := ho'.cells (g := g) rfl
      have hx := run_append_grow (P := P) w T ty E i0 zv hU h1 h2 ⟨g, 0, none⟩ xs.length cap (flat e xs) (by rw [flat_length, hsz]) holds ad m c news hl hnews (by omega) (by omega) (growslice_fits (by omega) hb)
      rw [hx] at hr
      injection hr with hr
      subst hr
      right
      have := Option.some.inj hb'
      simp at this
      omega

/-- append, onto a slice of one's own, of what lies somewhere. -/
theorem X.append {L0 L : List Ent} {w0 : World} (h : St L0 w0 w L) {α : Type} {T E n bytes i m c : Nat} {zc : List Value} (hT : SlT P T E n bytes zc) {e : Enc α} {v : Value} {xs ys : List α}
    {x y : Operand} {ad : Addr} {ok : Nat → Prop} (hi : L[i]? = some (gsl E e v xs)) (hn : e.n = n) (hx : ev σ x = v) (hy : ev σ y = .slice (some ad) m c)
    (hat : At w ok ad (flat e ys)) (hm : m = ys.length) (hl : (flat e ys).all leafB = true) (hb : (xs.length + ys.length) * bytes ≤ 140737488355328) (h63 : xs.length + ys.length ≤ 4611686018427387904)
    {L' : Value → List Ent} (hL : ∀ v', L' v' = L.set i (gsl E e v' (xs ++ ys))) :
    ∃ v' w', Runs P σ ⟨d, .call ⟨.builtin .append, #[x, y], #[T, T]⟩, ty, pos, af, g⟩ w v' w' ∧ St L0 w0 w' (L' v') := by
  obtain ⟨i0, zv, h1, h2, h3, h4, h5⟩ := hT.el
  subst hm
  obtain ⟨v', w', hr, ho, hg, hnil⟩ := run_append_own (P := P) w 0 T ty E i0 zv n bytes hT.und h1 h2 h3 h4 (by rw [h5]; simpa using hT.len) hT.pos v xs.length (flat e xs)
    (by have := h.get hi; rw [← hn]; exact this) ad ys.length c (flat e ys) (by rw [flat_length, hn]) (fun j u hj => by rw [add_flat hat.spot]; exact hat.cell j u hj) (oneCell_of_leaf hl) (by unfold maxLen; omega) hb (Nat.zero_le _)
  refine ⟨v', w', ?_, grown_st h hi hg (by
      show w'.ownsRow 0 E e.n v' (xs ++ ys).length (flat e (xs ++ ys))
      rw [List.length_append, flat_append, hn]; exact ho) ?_ (hL v')⟩
  · simp only [Runs, execOp, resolve, invoke, builtin, Sem.run_bind, Sem.run_pure, Result.andThen_ok, List.map_toArray, List.map_cons, List.map_nil, hx, hy, hr]
  · exact append_block (ad := ad) (c := c) (news := flat e ys) hT.und h1 h2 (by rw [h4]; exact hb) (h.get hi) hr (by rw [flat_length, hn, h3]) (fun j u hj => by rw [add_flat hat.spot]; exact hat.cell j u hj) (oneCell_of_leaf hl) h63 (by rw [h3, hn])
end

def heldE : Enc Hd := ⟨56, encH, fun _ => rfl⟩
def cellE : Enc Cl := ⟨55, encC, fun _ => rfl⟩
def boolE : Enc Bool := ⟨1, fun b => [.bool b], fun _ => rfl⟩
def i64E : Enc Int := ⟨1, fun n => [.int .i64 n], fun _ => rfl⟩
end Go.Proofs.Ytckcldimnelklaa
