/- Memory: what a function owns, block by block (St), what stays; loads and stores. -/
import Derived.Test.YtckcldimnelklaaLB
import Derived.Below
namespace Go.Proofs.Ytckcldimnelklaa
open Go
set_option linter.unusedVariables false
set_option linter.unusedSimpArgs false

/-- Something that lies in memory, in blocks of its own. -/
structure Ent where
  F : Nat → Prop
  h : World → Prop
  st : ∀ {w w' : World}, (∀ b, F b → w'.heap[b]? = w.heap[b]?) → h w → h w'

/-- One block, whole. -/
def blk (b : Nat) (T : TypeId) (c : List Value) : Ent where
  F := fun x => x = b
  h := fun w => w.heap[b]? = some (.cells c.toArray T (0, 0))
  st := fun hs h => by rw [hs b rfl]; exact h

/-- Whatever lies in a set of blocks, said by a predicate. -/
def out (L : List Ent) (b : Nat) : Prop := ∀ E ∈ L, ¬ E.F b

theorem out_nil (b : Nat) : out [] b := fun _ h => by cases h

/-- From w to w' nothing has turned but in the blocks of L; no block has gone. -/
structure Kept (L : List Ent) (w w' : World) : Prop where
  os : w'.os = w.os
  tape : w'.tape = w.tape
  output : w'.output = w.output
  size : w.heap.size ≤ w'.heap.size
  block : ∀ b, b < w.heap.size → out L b → w'.heap[b]? = w.heap[b]?

/-- What a function that writes to nothing old leaves. -/
def Ext (w w' : World) : Prop := Kept [] w w'

theorem Kept.refl (L : List Ent) (w : World) : Kept L w w := ⟨rfl, rfl, rfl, Nat.le_refl _, fun _ _ _ => rfl⟩
theorem Ext.refl (w : World) : Ext w w := Kept.refl _ _
theorem Ext.trans {a b c : World} (h : Ext a b) (k : Ext b c) : Ext a c :=
  ⟨k.os.trans h.os, k.tape.trans h.tape, k.output.trans h.output, Nat.le_trans h.size k.size,
   fun x hx _ => (k.block x (Nat.lt_of_lt_of_le hx h.size) (out_nil x)).trans (h.block x hx (out_nil x))⟩
theorem Ext.kept {L : List Ent} {w w' : World} (h : Ext w w') : Kept L w w' := ⟨h.os, h.tape, h.output, h.size, fun b hb _ => h.block b hb (out_nil b)⟩
theorem Ext.below {w w' : World} (h : Ext w w') : Go.RowKit.Below w.heap.size w w' :=
  ⟨h.os, h.tape, h.output, h.size, fun b hb => h.block b hb (out_nil b)⟩
theorem Ext.drew (w : World) : Ext w w.drew := ⟨rfl, rfl, rfl, Nat.le_refl _, fun _ _ _ => rfl⟩

theorem lt_of_some {w : World} {b : Nat} {o : Obj} (h : w.heap[b]? = some o) : b < w.heap.size := by
  rcases Nat.lt_or_ge b w.heap.size with h' | h'
  · exact h'
  · simp [Array.getElem?_eq_none h'] at h

/-- The state of a walk: w0 is where it began, with L0 its to write to; now w, with L. -/
structure St (L0 : List Ent) (w0 w : World) (L : List Ent) : Prop where
  kept : Kept L0 w0 w
  holds : ∀ E ∈ L, E.h w
  inr : ∀ E ∈ L, ∀ b, E.F b → b < w.heap.size
  disj : L.Pairwise fun E E' => ∀ b, E.F b → ¬ E'.F b
  sub : ∀ E ∈ L, ∀ b, E.F b → b < w0.heap.size → ¬ out L0 b

section
variable {L0 L : List Ent} {w0 w : World}

theorem St.size (h : St L0 w0 w L) : w0.heap.size ≤ w.heap.size := h.kept.size

theorem St.start (w : World) : St [] w w [] :=
  { kept := Kept.refl _ _, holds := fun _ h => (List.not_mem_nil h).elim, inr := fun _ h => (List.not_mem_nil h).elim, disj := List.Pairwise.nil, sub := fun _ h => (List.not_mem_nil h).elim }

theorem St.one {b : Nat} {T : TypeId} {c : List Value} (h : w.heap[b]? = some (.cells c.toArray T (0, 0))) : St [blk b T c] w w [blk b T c] :=
  { kept := Kept.refl _ _
    holds := fun E hE => by cases List.mem_singleton.1 hE; exact h
    inr := fun E hE x hx => by cases List.mem_singleton.1 hE; have hx' : x = b := hx; subst hx'; exact lt_of_some h
    disj := List.pairwise_singleton _ _
    sub := fun E hE x hx _ ho => ho E hE hx }

theorem St.here (h : St L0 w0 w L) : St L w w L :=
  ⟨Kept.refl _ _, h.holds, h.inr, h.disj, fun E hE _ hb _ ho => ho E hE hb⟩

theorem St.trans {w1 w2 : World} {L1 L2 : List Ent} (h : St L0 w0 w1 L1) (k : St L1 w1 w2 L2) : St L0 w0 w2 L2 := by
  have hout : ∀ b, b < w0.heap.size → out L0 b → out L1 b := fun b hb ho E hE hF => h.sub E hE b hF hb ho
  refine ⟨⟨k.kept.os.trans h.kept.os, k.kept.tape.trans h.kept.tape, k.kept.output.trans h.kept.output, Nat.le_trans h.size k.size, fun b hb ho => ?_⟩, k.holds, k.inr, k.disj, fun E hE b hF hb ho => ?_⟩
  · rw [k.kept.block b (Nat.lt_of_lt_of_le hb h.size) (hout b hb ho), h.kept.block b hb ho]
  · exact k.sub E hE b hF (Nat.lt_of_lt_of_le hb h.size) (hout b hb ho)

theorem St.ext (h : St L0 w0 w L) {w' : World} (k : Ext w w') : St L0 w0 w' L := by
  have hb : ∀ E ∈ L, ∀ b, E.F b → w'.heap[b]? = w.heap[b]? := fun E hE b hF => k.block b (h.inr E hE b hF) (out_nil b)
  exact ⟨⟨k.os.trans h.kept.os, k.tape.trans h.kept.tape, k.output.trans h.kept.output, Nat.le_trans h.size k.size,
      fun b hb ho => (k.block b (Nat.lt_of_lt_of_le hb h.size) (out_nil b)).trans (h.kept.block b hb ho)⟩,
    fun E hE => E.st (hb E hE) (h.holds E hE), fun E hE b hF => Nat.lt_of_lt_of_le (h.inr E hE b hF) k.size, h.disj, h.sub⟩

theorem St.sub' (h : St L0 w0 w L) {L' : List Ent} (hs : L'.Sublist L) : St L0 w0 w L' :=
  ⟨h.kept, fun E hE => h.holds E (hs.subset hE), fun E hE => h.inr E (hs.subset hE), h.disj.sublist hs, fun E hE => h.sub E (hs.subset hE)⟩

theorem St.get (h : St L0 w0 w L) {i : Nat} {E : Ent} (hi : L[i]? = some E) : E.h w := h.holds E (List.mem_of_getElem? hi)

theorem St.heap (h : St L0 w0 w L) {i b : Nat} {T : TypeId} {c : List Value} (hi : L[i]? = some (blk b T c)) : w.heap[b]? = some (.cells c.toArray T (0, 0)) := h.get hi
theorem St.lt (h : St L0 w0 w L) {i b : Nat} {T : TypeId} {c : List Value} (hi : L[i]? = some (blk b T c)) : b < w.heap.size := lt_of_some (h.heap hi)

/-- One thing of those that are owned has turned; or has been given up for another one, in new blocks. -/
theorem St.set (h : St L0 w0 w L) {i : Nat} {E E' : Ent} {w' : World} (hi : L[i]? = some E) (hos : w'.os = w.os) (ht : w'.tape = w.tape) (ho : w'.output = w.output)
    (hz : w.heap.size ≤ w'.heap.size) (hk : ∀ b, b < w.heap.size → ¬ E.F b → w'.heap[b]? = w.heap[b]?) (hE' : E'.h w')
    (hF : ∀ b, E'.F b → (E.F b ∨ w.heap.size ≤ b) ∧ b < w'.heap.size) {L' : List Ent} (hL : L' = L.set i E') : St L0 w0 w' L' := by
  subst hL
  have hm : E ∈ L := List.mem_of_getElem? hi
  have hlt : i < L.length := (List.getElem?_eq_some_iff.1 hi).1
  have hget : L[i] = E := (List.getElem?_eq_some_iff.1 hi).2
  have hpw := List.pairwise_iff_getElem.1 h.disj
  have hother : ∀ j (hj : j < L.length), j ≠ i → ∀ b, (L[j]).F b → ¬ E.F b := by
    intro j hj hne b hb hE
    rcases Nat.lt_or_gt_of_ne hne with hlt' | hgt
    · exact hpw j i hj hlt hlt' b hb (hget ▸ hE)
    · exact hpw i j hlt hj hgt b (hget ▸ hE) hb
  have hmem : ∀ X, X ∈ L.set i E' → X = E' ∨ ∃ j, ∃ hj : j < L.length, j ≠ i ∧ L[j] = X := by
    intro X hX
    obtain ⟨j, hj, rfl⟩ := List.mem_iff_getElem.1 hX
    rw [List.length_set] at hj
    by_cases hji : i = j
    · subst hji; exact .inl (by simp)
    · exact .inr ⟨j, hj, fun e => hji e.symm, by rw [List.getElem_set_ne hji]⟩
  refine ⟨⟨hos.trans h.kept.os, ht.trans h.kept.tape, ho.trans h.kept.output, Nat.le_trans h.size hz, fun b hb hob => ?_⟩, fun X hX => ?_, fun X hX b hb => ?_, ?_, fun X hX b hb hlt0 hob => ?_⟩
  · rw [hk b (Nat.lt_of_lt_of_le hb h.size) (fun hEb => h.sub E hm b hEb hb hob)]
    exact h.kept.block b hb hob
  · rcases hmem X hX with rfl | ⟨j, hj, hne, rfl⟩
    · exact hE'
    · exact (L[j]).st (fun b hb => hk b (h.inr _ (List.getElem_mem hj) b hb) (hother j hj hne b hb)) (h.holds _ (List.getElem_mem hj))
  · rcases hmem X hX with rfl | ⟨j, hj, hne, rfl⟩
    · exact (hF b hb).2
    · exact Nat.lt_of_lt_of_le (h.inr _ (List.getElem_mem hj) b hb) hz
  · rw [List.pairwise_iff_getElem]
    intro p q hp hq hpq b hb hb'
    rw [List.length_set] at hp hq
    rw [List.getElem_set] at hb hb'
    by_cases h1 : i = p
    · subst h1
      have h2 : ¬ i = q := by omega
      rw [if_pos rfl] at hb
      rw [if_neg h2] at hb'
      rcases (hF b hb).1 with h3 | h3
      · exact hother q hq (fun e => h2 e.symm) b hb' h3
      · have := h.inr _ (List.getElem_mem hq) b hb'; omega
    · rw [if_neg h1] at hb
      by_cases h2 : i = q
      · subst h2
        rw [if_pos rfl] at hb'
        rcases (hF b hb').1 with h3 | h3
        · exact hother p hp (fun e => h1 e.symm) b hb h3
        · have := h.inr _ (List.getElem_mem hp) b hb; omega
      · rw [if_neg h2] at hb'
        exact hpw p q hp hq hpq b hb hb'
  · rcases hmem X hX with rfl | ⟨j, hj, hne, rfl⟩
    · rcases (hF b hb).1 with h3 | h3
      · exact h.sub E hm b h3 hlt0 hob
      · have := h.size; omega
    · exact h.sub _ (List.getElem_mem hj) b hb hlt0 hob

/-- A callee has turned one thing of ours. -/
theorem St.turned {L0 L : List Ent} {w0 w w' : World} (h : St L0 w0 w L) {i : Nat} {E E' : Ent} (hi : L[i]? = some E) (hk : Kept [E] w w') (hE : E'.h w')
    (hF : ∀ b, E'.F b → (E.F b ∨ w.heap.size ≤ b) ∧ b < w'.heap.size) {L' : List Ent} (hL : L' = L.set i E') : St L0 w0 w' L' :=
  h.set hi hk.os hk.tape hk.output hk.size (fun b hb hn => hk.block b hb (fun X hX hF => by cases List.mem_singleton.1 hX; exact hn hF)) hE hF hL

theorem St.turnedB {L0 L : List Ent} {w0 w w' : World} (h : St L0 w0 w L) {i b : Nat} {T : TypeId} {c c' : List Value} (hi : L[i]? = some (blk b T c)) (hk : Kept [blk b T c] w w')
    (hE : w'.heap[b]? = some (.cells c'.toArray T (0, 0))) {L' : List Ent} (hL : L' = L.set i (blk b T c')) : St L0 w0 w' L' :=
  h.turned hi hk (E' := blk b T c') hE (fun x hx => ⟨.inl hx, by have hx' : x = b := hx; subst hx'; exact lt_of_some hE⟩) hL

/-- Something new. -/
theorem St.add (h : St L0 w0 w L) {E : Ent} {w' : World} (hk : Ext w w') (hE : E.h w') (hF : ∀ b, E.F b → w.heap.size ≤ b ∧ b < w'.heap.size)
    {L' : List Ent} (hL : L' = L ++ [E]) : St L0 w0 w' L' := by
  subst hL
  have h' := h.ext hk
  refine ⟨h'.kept, fun X hX => ?_, fun X hX b hb => ?_, ?_, fun X hX b hb hlt0 hob => ?_⟩
  · rcases List.mem_append.1 hX with hX | hX
    · exact h'.holds X hX
    · cases List.mem_singleton.1 hX; exact hE
  · rcases List.mem_append.1 hX with hX | hX
    · exact h'.inr X hX b hb
    · cases List.mem_singleton.1 hX; exact (hF b hb).2
  · refine List.pairwise_append.2 ⟨h.disj, List.pairwise_singleton _ _, fun X hX Y hY b hb hb' => ?_⟩
    cases List.mem_singleton.1 hY
    have := h.inr X hX b hb
    have := (hF b hb').1
    omega
  · rcases List.mem_append.1 hX with hX | hX
    · exact h.sub X hX b hb hlt0 hob
    · cases List.mem_singleton.1 hX
      have := (hF b hb).1
      have := h.size
      omega
end

/-! ### Blocks -/
def splice (c : List Value) (off : Nat) (vs : List Value) : List Value := c.take off ++ (vs ++ c.drop (off + vs.length))

def leafB : Value → Bool
  | .agg _ | .tuple _ => false
  | _ => true

theorem setCell_same {w : World} {b o : Nat} {c : Array Value} {T : TypeId} {f : Nat × Nat} (h : w.heap[b]? = some (.cells c T f)) (v : Value) :
    (w.setCell ⟨b, o, none⟩ v).heap[b]? = some (.cells (c.setIfInBounds o v) T f) := by
  simp [World.setCell, Array.getElem?_modify, h]

theorem setCell_other (w : World) {a : Addr} {b : Nat} (h : b ≠ a.block) (v : Value) : (w.setCell a v).heap[b]? = w.heap[b]? := by
  simp only [World.setCell, Array.getElem?_modify]
  rw [if_neg (fun e => h e.symm)]

theorem add_flat {a : Addr} (h : a.spot = none) (i : Nat) : a.add i = ⟨a.block, a.off + i, none⟩ := by
  unfold Addr.add
  split
  · rename_i hi; subst hi; cases a; cases h; rfl
  · rfl

/-- Cells that lie one behind the other. -/
structure At (w : World) (ok : Nat → Prop) (a : Addr) (cs : List Value) : Prop where
  spot : a.spot = none
  lt : a.block < w.heap.size
  ok : ok a.block
  cell : ∀ j v, cs[j]? = some v → w.cell? ⟨a.block, a.off + j, none⟩ = some v

theorem run_loadCells {P : Program} {w : World} {a : Addr} : ∀ (cs : List Value) (i : Nat) (acc : Array Value),
    (∀ j v, cs[j]? = some v → w.cell? (a.add (i + j)) = some v) → (loadCellsFrom a i cs.length acc).run P w = .ok (acc ++ cs.toArray) w
  | [], i, acc, h => by simp [loadCellsFrom]
  | v :: cs, i, acc, h => by
    have h0 := h 0 v rfl
    have hr := run_loadCells (P := P) (w := w) (a := a) cs (i + 1) (acc.push v) (fun j u hj => by have := h (j + 1) u (by simpa using hj); rwa [show i + 1 + j = i + (j + 1) from by omega])
    simp only [List.length_cons, loadCellsFrom]
    have : (load (a.add i)).run P w = .ok v w := by simp only [load, Sem.run]; rw [show a.add i = a.add (i + 0) from rfl, h0]
    rw [Sem.run_bind, this]
    simp only [Result.andThen]
    rw [hr]
    simp

/-- How the program sees a type's variables: whole, of so many cells; or a cell. -/
structure AggT (P : Program) (T : TypeId) (n : Nat) : Prop where
  agg : ∀ w, (isAgg T).run P w = .ok true w
  size : ∀ w, (sizeOf T).run P w = .ok n w
structure LeafT (P : Program) (T : TypeId) : Prop where
  agg : ∀ w, (isAgg T).run P w = .ok false w
  size : ∀ w, (sizeOf T).run P w = .ok 1 w

theorem run_loadA {P : Program} {w : World} {ok : Nat → Prop} {T : TypeId} {n : Nat} {a : Addr} {cs : List Value} (hT : AggT P T n) (h : At w ok a cs) (hn : cs.length = n) :
    (loadVar T a).run P w = .ok (.agg cs.toArray) w := by
  subst hn
  have hc := run_loadCells (P := P) cs 0 #[] (fun j v hj => by rw [add_flat h.spot, Nat.zero_add]; exact h.cell j v hj)
  simp only [loadVar, Sem.run_bind, hT.agg, Result.andThen, hT.size, if_true, loadCells, hc, Sem.run_pure]
  simp

theorem run_loadL {P : Program} {w : World} {ok : Nat → Prop} {T : TypeId} {a : Addr} {v : Value} (hT : LeafT P T) (h : At w ok a [v]) :
    (loadVar T a).run P w = .ok v w := by
  have h0 := h.cell 0 v rfl
  have : (⟨a.block, a.off + 0, none⟩ : Addr) = a := by cases a; cases h.spot; rfl
  rw [this] at h0
  simp only [loadVar, Sem.run_bind, hT.agg, Result.andThen]
  simp [load, Sem.run, h0]

theorem splice_set (c : List Value) (k : Nat) (v : Value) (vs : List Value) (h : k + 1 + vs.length ≤ c.length) :
    splice (c.set k v) (k + 1) vs = splice c k (v :: vs) := by
  have h1 : (c.set k v).take (k + 1) = c.take k ++ [v] := by
    rw [List.take_succ_eq_append_getElem (by simp; omega), List.take_set_of_le (Nat.le_refl k)]
    simp
  have h2 : (c.set k v).drop (k + 1 + vs.length) = c.drop (k + (vs.length + 1)) := by
    rw [List.drop_set_of_lt (by omega)]
    congr 1; omega
  simp [splice, h1, h2]

/-- A value that may be stored: its cells. -/
theorem run_storeCells {P : Program} {b : Nat} {T : TypeId} : ∀ (vs : List Value) (w : World) (c : List Value) (off i : Nat), vs.all leafB = true →
    w.heap[b]? = some (.cells c.toArray T (0, 0)) → off + i + vs.length ≤ c.length →
    ∃ w', (storeCells ⟨b, off, none⟩ vs i).run P w = .ok () w' ∧ w'.heap[b]? = some (.cells (splice c (off + i) vs).toArray T (0, 0)) ∧
      (∀ x, x ≠ b → w'.heap[x]? = w.heap[x]?) ∧ w'.heap.size = w.heap.size ∧ w'.os = w.os ∧ w'.tape = w.tape ∧ w'.output = w.output
  | [], w, c, off, i, _, h, _ => ⟨w, by simp [storeCells], by simpa [splice] using h, fun _ _ => rfl, rfl, rfl, rfl, rfl⟩
  | v :: vs, w, c, off, i, hl, h, hlen => by
    simp only [List.all_cons, Bool.and_eq_true] at hl
    simp only [List.length_cons] at hlen
    obtain ⟨w', hr, hb, ho, hz, h1, h2, h3⟩ := run_storeCells (P := P) (T := T) vs (w.setCell ⟨b, off + i, none⟩ v) (c.set (off + i) v) off (i + 1) hl.2 (by
      have hset := setCell_same (o := off + i) h v
      rw [hset]; simp) (by simp; omega)
    refine ⟨w', ?_, ?_, fun x hx => (ho x hx).trans (setCell_other w hx v), hz.trans (by simp [World.setCell]), h1, h2, h3⟩
    · have ha : Addr.add ⟨b, off, none⟩ i = ⟨b, off + i, none⟩ := add_flat rfl i
      have hcell : w.cell? ⟨b, off + i, none⟩ = some c[off + i] := by
        simp only [World.cell?, h]
        simp [List.getElem?_eq_getElem (show off + i < c.length by omega)]
      have hfz : w.frozen? ⟨b, off + i, none⟩ = false := by
        simp only [World.frozen?, h]; simp
      have hst : (store (⟨b, off + i, none⟩ : Addr) v).run P w = .ok () (w.setCell ⟨b, off + i, none⟩ v) := by
        cases v <;> first | (simp [leafB] at hl; done) | simp [store, Sem.run, hcell, hfz]
      simp only [storeCells, Sem.run_bind, ha, hst, Result.andThen]
      exact hr
    · rw [hb]
      rw [← splice_set c (off + i) v vs (by omega)]
      rfl

theorem splice_length (c : List Value) (off : Nat) (vs : List Value) (h : off + vs.length ≤ c.length) : (splice c off vs).length = c.length := by
  simp [splice]; omega

/-- A store into a block of one's own. -/
theorem St.store {P : Program} {L0 L : List Ent} {w0 w : World} (h : St L0 w0 w L) {T U : TypeId} {n i b off : Nat} {c vs : List Value} {v : Value} (hi : L[i]? = some (blk b U c))
    (hsz : ∀ w, (sizeOf T).run P w = .ok n w) (hv : v.cells = vs.toArray) (hn : vs.length = n) (hl : vs.all leafB = true) (hlen : Nat.ble (off + n) c.length = true) {c' : List Value} (hc' : splice c off vs = c')
    {L' : List Ent} (hL : L' = L.set i (blk b U c')) :
    ∃ w', (storeVar T ⟨b, off, none⟩ v).run P w = .ok () w' ∧ St L0 w0 w' L' := by
  have hb := h.heap hi
  have hlen' : off + n ≤ c.length := Nat.le_of_ble_eq_true hlen
  obtain ⟨w', hr, h1, h2, h3, h4, h5, h6⟩ := run_storeCells (P := P) vs w c off 0 hl hb (by omega)
  refine ⟨w', ?_, h.set hi h4 h5 h6 (by omega) (fun x _ hx => h2 x hx) (E' := blk b U c') (by
      show w'.heap[b]? = _
      rw [h1, Nat.add_zero, hc']) (fun x hx => ⟨.inl hx, by
        have := h.lt hi
        have hx' : x = b := hx
        omega⟩) hL⟩
  simp only [storeVar, Sem.run_bind, hsz, Result.andThen, hv]
  simp [hn, hr]

theorem heap_push {w : World} {o : Obj} {b : Nat} (h : b < w.heap.size) : ({ w with heap := w.heap.push o } : World).heap[b]? = w.heap[b]? := by
  simp only [Array.getElem?_push]
  rw [if_neg (by omega)]

theorem Ext.push (w : World) (o : Obj) : Ext w { w with heap := w.heap.push o } :=
  ⟨rfl, rfl, rfl, by simp, fun _ hb _ => heap_push hb⟩

/-- A new block. -/
theorem St.push {L0 L : List Ent} {w0 w : World} (h : St L0 w0 w L) (T : TypeId) (c : List Value) {L' : List Ent} (hL : L' = L ++ [blk w.heap.size T c]) :
    St L0 w0 { w with heap := w.heap.push (.cells c.toArray T) } L' :=
  h.add (Ext.push w _) (E := blk w.heap.size T c) (by show (w.heap.push _)[w.heap.size]? = _; simp) (fun b hb => by
    have hb' : b = w.heap.size := hb
    subst hb'; simp) hL

theorem run_newVar {P : Program} {w : World} {T : TypeId} {v : Value} {c : List Value} (hv : v.cells = c.toArray) :
    (newVar T v).run P w = .ok ⟨w.heap.size, 0, none⟩ { w with heap := w.heap.push (.cells c.toArray T) } := by
  simp [newVar, newRow, newObj, Sem.run, hv]

/-- A block of one's own, read. -/
theorem St.at {L0 L : List Ent} {w0 w : World} (h : St L0 w0 w L) {i b off n : Nat} {T : TypeId} {c cs : List Value} (hi : L[i]? = some (blk b T c))
    (hc : (c.drop off).take n = cs) (hn : cs.length = n) : At w (fun _ => True) ⟨b, off, none⟩ cs := by
  refine ⟨rfl, h.lt hi, trivial, fun j v hj => ?_⟩
  have hb := h.heap hi
  have hj' : j < n := by have := (List.getElem?_eq_some_iff.1 hj).1; omega
  simp only [World.cell?, hb]
  subst hc
  simp only [List.getElem?_take, hj', if_true, List.getElem?_drop] at hj
  simpa using hj

/-- What was read at the beginning and lies apart from what is written to, read now. -/
theorem St.atOld {L0 L : List Ent} {w0 w : World} (h : St L0 w0 w L) {a : Addr} {cs : List Value} (ha : At w0 (out L0) a cs) : At w (out L) a cs := by
  refine ⟨ha.spot, Nat.lt_of_lt_of_le ha.lt h.size, fun E hE hF => h.sub E hE _ hF ha.lt ha.ok, fun j v hj => ?_⟩
  · have h0 := ha.cell j v hj
    simp only [World.cell?] at h0 ⊢
    rw [h.kept.block _ ha.lt ha.ok]
    exact h0

end Go.Proofs.Ytckcldimnelklaa
