/- A map of one's own, from cells to numbers. -/
import Derived.Test.YtckcldimnelklaaTA
import Derived.Test.YtckcldimnelklaaLG
import Derived.MapKept
import Derived.WideKeyEntry
namespace Go.Proofs.Ytckcldimnelklaa
open Go
set_option linter.unusedVariables false
set_option linter.unusedSimpArgs false
set_option maxRecDepth 100000

/-! ### The map, as a list -/
def mget : List (Cl × Int) → Cl → Int
  | [], _ => 0
  | p :: r, c => if c = p.1 then p.2 else mget r c
def midx : List (Cl × Int) → Cl → Nat
  | [], _ => 0
  | p :: r, c => if c = p.1 then 0 else midx r c + 1
def madd : List (Cl × Int) → Cl → List (Cl × Int)
  | [], c => [(c, 0)]
  | p :: r, c => if c = p.1 then p :: r else p :: madd r c
def mput : List (Cl × Int) → Cl → Int → List (Cl × Int)
  | [], c, v => [(c, v)]
  | p :: r, c, v => if c = p.1 then (p.1, v) :: r else p :: mput r c v

theorem mget_mput : ∀ (m : List (Cl × Int)) (c c' : Cl) (v : Int), mget (mput m c v) c' = if c' = c then v else mget m c'
  | [], c, c', v => by simp [mput, mget]
  | p :: r, c, c', v => by
    rw [mput]
    by_cases h : c = p.1
    · rw [if_pos h]; simp only [mget]; subst h
      by_cases h2 : c' = p.1
      · simp [h2]
      · simp [h2]
    · rw [if_neg h]; simp only [mget]
      by_cases h2 : c' = p.1
      · have : ¬ c' = c := fun h3 => h (h3.symm.trans h2)
        rw [if_pos h2, if_neg this, if_pos h2]
      · rw [if_neg h2, mget_mput r c c' v]
        by_cases h3 : c' = c
        · simp [h3]
        · rw [if_neg h3, if_neg h3, if_neg h2]

def mapEs : List (Cl × Int) → Nat → List MapEntry
  | [], _ => []
  | p :: r, i => ⟨.agg (encC p.1).toArray, .int .i64 p.2, i⟩ :: mapEs r (i + 1)

theorem mapEs_len : ∀ (m : List (Cl × Int)) (i : Nat), (mapEs m i).length = m.length
  | [], _ => rfl
  | p :: r, i => by simp [mapEs, mapEs_len r (i + 1)]

theorem mapEs_born : ∀ (m : List (Cl × Int)) (i j : Nat) (e : MapEntry), (mapEs m i)[j]? = some e → e.born = i + j
  | [], i, j, e, h => by simp [mapEs] at h
  | p :: r, i, 0, e, h => by simp [mapEs] at h; subst h; rfl
  | p :: r, i, j + 1, e, h => by
    have := mapEs_born r (i + 1) j e (by simpa [mapEs] using h)
    omega

theorem mapEs_add : ∀ (m : List (Cl × Int)) (c : Cl) (i : Nat), midx m c = m.length → mapEs (madd m c) i = mapEs m i ++ [⟨.agg (encC c).toArray, .int .i64 0, i + m.length⟩]
  | [], c, i, _ => by simp [madd, mapEs]
  | p :: r, c, i, h => by
    rw [midx] at h
    by_cases hc : c = p.1
    · rw [if_pos hc] at h; simp at h
    · rw [if_neg hc] at h
      rw [madd, if_neg hc]
      simp only [mapEs, List.length_cons, List.cons_append]
      rw [mapEs_add r c (i + 1) (by simpa using h)]
      rw [show i + 1 + r.length = i + (r.length + 1) by omega]

theorem midx_le : ∀ (m : List (Cl × Int)) (c : Cl), midx m c ≤ m.length
  | [], _ => Nat.le_refl _
  | p :: r, c => by rw [midx]; split; exact Nat.zero_le _; simpa using midx_le r c

theorem madd_in : ∀ (m : List (Cl × Int)) (c : Cl), midx m c < m.length → madd m c = m
  | [], _, h => by simp at h
  | p :: r, c, h => by
    rw [midx] at h; rw [madd]
    by_cases hc : c = p.1
    · rw [if_pos hc]
    · rw [if_neg hc] at h ⊢
      rw [madd_in r c (by simpa using h)]

theorem madd_len (m : List (Cl × Int)) (c : Cl) (h : midx m c = m.length) : (madd m c).length = m.length + 1 := by
  have := congrArg List.length (mapEs_add m c 0 h)
  rw [mapEs_len, List.length_append, mapEs_len] at this
  simpa using this

theorem midx_lt_add : ∀ (m : List (Cl × Int)) (c : Cl), midx m c < (madd m c).length
  | [], _ => by simp [midx, madd]
  | p :: r, c => by
    rw [midx, madd]
    by_cases hc : c = p.1
    · rw [if_pos hc, if_pos hc]; simp
    · rw [if_neg hc, if_neg hc]; simpa using midx_lt_add r c

theorem mapEs_put : ∀ (m : List (Cl × Int)) (c : Cl) (v : Int) (i : Nat), mapEs (mput m c v) i = (mapEs (madd m c) i).modify (midx m c) (fun e => { e with val := .int .i64 v })
  | [], c, v, i => by simp [mput, madd, mapEs, midx]
  | p :: r, c, v, i => by
    rw [mput, madd, midx]
    by_cases hc : c = p.1
    · rw [if_pos hc, if_pos hc, if_pos hc]; simp [mapEs]
    · rw [if_neg hc, if_neg hc, if_neg hc]
      simp only [mapEs, List.modify_succ_cons]
      rw [mapEs_put r c v (i + 1)]

theorem mput_len (m : List (Cl × Int)) (c : Cl) (v : Int) : (mput m c v).length = (madd m c).length := by
  have := congrArg List.length (mapEs_put m c v 0)
  rwa [mapEs_len, List.length_modify, mapEs_len] at this

/-! ### In memory -/
def mapE (b : Nat) (m : List (Cl × Int)) : Ent where
  F := fun x => x = b
  h := fun w => w.heap[b]? = some (.map (mapEs m 0).toArray m.length)
  st := fun hs h => by rw [hs b rfl]; exact h

section
variable {w : World}
theorem key_check (c : Cl) (em : Bool) : (Instr.checkKey em 10000 58 (.agg (encC c).toArray)).run Try.prog w = .ok () w := by kernel_rfl

def plainLeaf : Value → Bool
  | .bool _ | .int _ _ => true
  | _ => false
theorem sameBits_zip (n : Nat) : ∀ (l : List Value), l.all plainLeaf = true → ((l.zip l).all fun (x, y) => Instr.sameBits n x y) = true
  | [], _ => rfl
  | v :: l, h => by
    simp only [List.all_cons, Bool.and_eq_true] at h
    simp only [List.zip_cons_cons, List.all_cons, Bool.and_eq_true]
    refine ⟨?_, sameBits_zip n l h.2⟩
    cases v <;> first | (simp [plainLeaf] at h; done) | (cases n <;> simp [Instr.sameBits])
theorem key_stays (c : Cl) : (Instr.keyThatStays (.agg (encC c).toArray) (.agg (encC c).toArray)).run Try.prog w = .ok (.agg (encC c).toArray) w := by
  have h : Instr.sameBits 10000 (.agg (encC c).toArray) (.agg (encC c).toArray) = true := by
    show Instr.sameBits (9999 + 1) _ _ = true
    rw [Instr.sameBits]
    simp only [Bool.and_eq_true, beq_self_eq_true, true_and]
    exact sameBits_zip 9999 (encC c) rfl
  unfold Instr.keyThatStays
  rw [if_pos h]; rfl

theorem find_asking (c : Cl) : ∀ (m : List (Cl × Int)) (i j : Nat), (Instr.findAsking 58 (.agg (encC c).toArray) (mapEs m i) j).run Try.prog w =
    .ok (if midx m c < m.length then some (j + midx m c, .int .i64 (mget m c)) else none) w
  | [], i, j => by simp [mapEs, Instr.findAsking, midx]
  | p :: r, i, j => by
    have heq : (Op.equal 58 (.agg (encC c).toArray) (.agg (encC p.1).toArray)).run Try.prog w = .ok (decide (c = p.1)) w := feqCell (d := 9996) c p.1
    rw [mapEs, Instr.findAsking]
    simp only [Sem.run_bind, heq, Result.andThen]
    rw [midx, mget]
    by_cases hc : c = p.1
    · simp [hc]
    · simp only [hc, decide_false, Bool.false_eq_true, if_false]
      rw [find_asking c r (i + 1) (j + 1)]
      simp only [List.length_cons, Nat.add_lt_add_iff_right]
      rw [show j + 1 + midx r c = j + (midx r c + 1) by omega]

theorem key_find (c : Cl) (m : List (Cl × Int)) : (Instr.findKey 58 (.agg (encC c).toArray) (mapEs m 0)).run Try.prog w =
    .ok (if midx m c < m.length then some (midx m c, .int .i64 (mget m c)) else none) w := by
  have h := find_asking (w := w) c m 0 0
  rw [Nat.zero_add] at h
  unfold Instr.findKey
  obtain ⟨d, hd, hs⟩ : ∃ d, Try.prog.underlying 58 = some d ∧ ∀ a b, Instr.sameNow d (.agg a) b = none := ⟨.struct (Try.prog.fieldsOf 58), by kernel_rfl, fun _ _ => rfl⟩
  simp only [Sem.run_bind, run_underlying hd, Result.andThen]
  cases m with
  | nil => simp [mapEs, Instr.findNow, midx]
  | cons p r =>
    have : Instr.findNow d (.agg (encC c).toArray) (mapEs (p :: r) 0) 0 = none := by rw [mapEs, Instr.findNow, hs]
    rw [this]; exact h

theorem mget_out : ∀ (m : List (Cl × Int)) (c : Cl), ¬ midx m c < m.length → mget m c = 0
  | [], _, _ => rfl
  | p :: r, c, h => by
    rw [midx] at h; rw [mget]
    by_cases hc : c = p.1
    · rw [if_pos hc] at h; simp at h
    · rw [if_neg hc] at h ⊢
      exact mget_out r c (by simpa using h)
end

section
variable {σ : Nat → Value} {w : World} {d : Option Tmp} {ty : TypeId} {pos : String} {af : Array Edge} {g : Option (Nat × Bool)}

theorem X.makeMap {L0 L : List Ent} {w0 : World} (h : St L0 w0 w L) {T : TypeId} {L' : Nat → List Ent} (hL : ∀ b, L' b = L ++ [mapE b []]) :
    ∃ b w', Runs Try.prog σ ⟨d, .makeMap T none, ty, pos, af, g⟩ w (.map (some b)) w' ∧ St L0 w0 w' (L' b) ∧ Ext w w' ∧ w.heap.size ≤ b := by
  refine ⟨w.heap.size, _, ?_, h.add (Ext.push w (.map #[] 0)) (E := mapE w.heap.size []) (by show (w.heap.push _)[w.heap.size]? = _; simp [mapEs]) (fun b hb => by
    have hb' : b = w.heap.size := hb
    subst hb'; simp) (hL _), Ext.push _ _, Nat.le_refl _⟩
  simp [Runs, execOp, Instr.makeMap, newObj, Sem.run]

theorem R.lookup {L0 L : List Ent} {w0 : World} (h : St L0 w0 w L) {x y : Operand} {i b : Nat} {m : List (Cl × Int)} {c : Cl} (hi : L[i]? = some (mapE b m)) (hx : ev σ x = .map (some b)) (hy : ev σ y = .agg (encC c).toArray) :
    Runs Try.prog σ ⟨d, .lookup 267 x y false, ty, pos, af, g⟩ w (.int .i64 (mget m c)) w := by
  have hb : w.heap[b]? = some (.map (mapEs m 0).toArray m.length) := h.get hi
  have hz : (zeroValue 3).run Try.prog w = .ok (.int .i64 0) w := by kernel_rfl
  simp only [Runs, execOp, hx, hy, Instr.lookup, Sem.run_bind, run_underlying un267, Result.andThen, MapKept.run_getObj_map hb, Sem.run_pure, key_check, key_find]
  by_cases hc : midx m c < m.length
  · simp [hc]
  · simp [hc, hz, mget_out m c hc]

theorem X.mapEntry {L0 L : List Ent} {w0 : World} (h : St L0 w0 w L) {x y : Operand} {i b : Nat} {m : List (Cl × Int)} {c : Cl} (hi : L[i]? = some (mapE b m)) (hx : ev σ x = .map (some b)) (hy : ev σ y = .agg (encC c).toArray)
    {L' : List Ent} (hL : L' = L.set i (mapE b (madd m c))) :
    ∃ w', Runs Try.prog σ ⟨d, .mapEntry 267 x y, ty, pos, af, g⟩ w (.tuple #[.int .i64 (mget m c), .int .i64 ((midx m c : Nat) : Int)]) w' ∧ St L0 w0 w' L' := by
  have hb : w.heap[b]? = some (.map (mapEs m 0).toArray m.length) := h.get hi
  have hlt : b < w.heap.size := lt_of_some hb
  have hz : (zeroValue 3).run Try.prog w = .ok (.int .i64 0) w := by kernel_rfl
  have hset : ∀ (o : Obj), St L0 w0 { w with heap := w.heap.setIfInBounds b o } (L.set i (mapE b (madd m c))) ∨ ¬ ({ w with heap := w.heap.setIfInBounds b o } : World).heap[b]? = some (.map (mapEs (madd m c) 0).toArray (madd m c).length) := fun o => by
    by_cases hh : ({ w with heap := w.heap.setIfInBounds b o } : World).heap[b]? = some (.map (mapEs (madd m c) 0).toArray (madd m c).length)
    · exact .inl (h.set (w' := { w with heap := w.heap.setIfInBounds b o }) (E' := mapE b (madd m c)) hi rfl rfl rfl (by simp) (fun x hx hn => by
        have : b ≠ x := fun e => hn e.symm
        simp [this]) hh (fun x hx => ⟨.inl hx, by have : x = b := hx; subst this; simpa using hlt⟩) rfl)
    · exact .inr hh
  by_cases hc : midx m c < m.length
  · refine ⟨{ w with heap := w.heap.setIfInBounds b (.map ((mapEs m 0).toArray.modify (midx m c) (fun e => { e with key := .agg (encC c).toArray })) m.length) }, ?_, ?_⟩
    · have hj : ∃ e : MapEntry, (mapEs m 0)[midx m c]? = some e := ⟨_, List.getElem?_eq_getElem (by rw [mapEs_len]; exact hc)⟩
      obtain ⟨e, he⟩ := hj
      have hkey : e.key = .agg (encC c).toArray := by
        clear hz hset hb hi h hL hlt
        have : ∀ (m : List (Cl × Int)) (i : Nat) (e : MapEntry), midx m c < m.length → (mapEs m i)[midx m c]? = some e → e.key = .agg (encC c).toArray := by
          intro m
          induction m with
          | nil => intro i e h _; simp at h
          | cons p r ih =>
            intro i e h he
            rw [midx] at h he
            by_cases hp : c = p.1
            · rw [if_pos hp] at he; simp [mapEs] at he; subst he; subst hp; rfl
            · rw [if_neg hp] at h he
              exact ih (i + 1) e (by simpa using h) (by simpa [mapEs] using he)
        exact this m 0 e hc he
      have hborn := mapEs_born m 0 _ _ he
      simp [Runs, execOp, hx, hy, Instr.mapEntry, run_underlying un267, Result.andThen, MapKept.run_getObj_map hb, key_check, key_find, hc, he, hkey, key_stays, MapKept.run_setObj_map _ hb, goInt]
      omega
    · subst hL
      rcases hset (.map ((mapEs m 0).toArray.modify (midx m c) (fun e => { e with key := .agg (encC c).toArray })) m.length) with h1 | h1
      · exact h1
      · refine absurd ?_ h1
        rw [madd_in m c hc]
        show (w.heap.setIfInBounds b _)[b]? = _
        rw [Array.getElem?_setIfInBounds_self, if_pos hlt]
        congr 2
        apply Array.ext'
        rw [Array.toList_modify]
        clear h1 hset hz hb hi h hlt
        have : ∀ (m : List (Cl × Int)) (i : Nat), (mapEs m i).modify (midx m c) (fun e => { e with key := .agg (encC c).toArray }) = mapEs m i := by
          intro m
          induction m with
          | nil => intro i; simp [mapEs]
          | cons p r ih =>
            intro i
            rw [midx]
            by_cases hp : c = p.1
            · rw [if_pos hp]; subst hp; simp [mapEs]
            · rw [if_neg hp]; simp only [mapEs, List.modify_succ_cons]; rw [ih (i + 1)]
        exact this m 0
  · have hl : midx m c = m.length := Nat.le_antisymm (midx_le m c) (by omega)
    refine ⟨{ w with heap := w.heap.setIfInBounds b (.map ((mapEs m 0).toArray.push ⟨.agg (encC c).toArray, .int .i64 0, m.length⟩) (m.length + 1)) }, ?_, ?_⟩
    · simp [Runs, execOp, hx, hy, Instr.mapEntry, run_underlying un267, Result.andThen, MapKept.run_getObj_map hb, key_check, key_find, hc, hz, MapKept.run_setObj_map _ hb, goInt, mget_out m c hc, hl]
    · subst hL
      rcases hset (.map ((mapEs m 0).toArray.push ⟨.agg (encC c).toArray, .int .i64 0, m.length⟩) (m.length + 1)) with h1 | h1
      · exact h1
      · refine absurd ?_ h1
        show (w.heap.setIfInBounds b _)[b]? = _
        rw [Array.getElem?_setIfInBounds_self, if_pos hlt, madd_len m c hl, mapEs_add m c 0 hl]
        simp

theorem X.entryStore {L0 L : List Ent} {w0 : World} (h : St L0 w0 w L) {x y z : Operand} {i b : Nat} {m : List (Cl × Int)} {c : Cl} {v : Int} (hi : L[i]? = some (mapE b (madd m c))) (hx : ev σ x = .map (some b))
    (hy : ev σ y = .int .i64 ((midx m c : Nat) : Int)) (hz : ev σ z = .int .i64 v) {L' : List Ent} (hL : L' = L.set i (mapE b (mput m c v))) :
    ∃ w', (execOp (ev σ) ⟨d, .entryStore 267 x y z, ty, pos, af, g⟩).run Try.prog w = .ok .skip w' ∧ St L0 w0 w' L' := by
  have hb : w.heap[b]? = some (.map (mapEs (madd m c) 0).toArray (madd m c).length) := h.get hi
  have hlt : b < w.heap.size := lt_of_some hb
  have hm := midx_lt_add m c
  have hidx : (mapEs (madd m c) 0).toArray.findIdx? (fun e => (e.born : Int) == ((midx m c : Nat) : Int)) = some (midx m c) := by
    rw [WideElems.findIdx_arr]
    have he : (mapEs (madd m c) 0)[midx m c]? = some ((mapEs (madd m c) 0)[midx m c]'(by rw [mapEs_len]; exact hm)) := List.getElem?_eq_getElem _
    have hbn := mapEs_born _ 0 _ _ he
    rw [Nat.zero_add] at hbn
    have hnd : ((mapEs (madd m c) 0).map (·.born)).Nodup := by
      have : ∀ (m : List (Cl × Int)) (i : Nat), (mapEs m i).map (·.born) = List.range' i m.length := by
        intro m
        induction m with
        | nil => intro i; rfl
        | cons p r ih => intro i; simp [mapEs, ih (i + 1), List.range'_succ]
      rw [this]; exact List.nodup_range'
    have := WideElems.findIdx_born hnd he
    rw [hbn] at this
    exact this
  refine ⟨{ w with heap := w.heap.setIfInBounds b (.map ((mapEs (madd m c) 0).toArray.modify (midx m c) (fun e => { e with val := .int .i64 v })) (madd m c).length) }, ?_, ?_⟩
  · simp only [execOp, hx, hy, hz, Instr.entryStore, Sem.run_bind, MapKept.run_getObj_map hb, Result.andThen, Sem.run_pure, asInt, asIntOf, hidx, MapKept.run_setObj_map _ hb]
  · subst hL
    refine h.set (w' := { w with heap := w.heap.setIfInBounds b (.map ((mapEs (madd m c) 0).toArray.modify (midx m c) (fun e => { e with val := .int .i64 v })) (madd m c).length) }) (E' := mapE b (mput m c v)) hi rfl rfl rfl (by simp) (fun x hx hn => by
        have : b ≠ x := fun e => hn e.symm
        simp [this]) ?_ (fun x hx => ⟨.inl hx, by have : x = b := hx; subst this; simpa using hlt⟩) rfl
    show (w.heap.setIfInBounds b _)[b]? = _
    rw [Array.getElem?_setIfInBounds_self, if_pos hlt, mput_len, mapEs_put]
    congr 2
    apply Array.ext'
    rw [Array.toList_modify]
end

section
variable {P : Program} {n : Nat} {Q : Exit → Act → World → Prop} {σ : Nat → Value} {w w0 : World} {l : List Oper} {fuel : Nat} {listed : Array Bool} {L0 : List Ent}
theorem WE.sett (i : Nat) {o : Oper} {v : Value} {L' : List Ent} (hr : Region.ready .any l.toArray listed = [i]) (hl : lastB l.toArray i = true) (hi : l[i]? = some o) (hn : okOp n o = true) (hg : o.guard = none)
    (hx : ∃ w', Runs P σ o w v w' ∧ St L0 w0 w' L') (k : ∀ w', St L0 w0 w' L' → WE P n l Q fuel (listed.setIfInBounds i true) (updO σ o.dst v) w') : WE P n l Q (fuel + 1) listed σ w :=
  let ⟨w', h1, h2⟩ := hx
  WE.val i hr hi hn hg h1 (.inl hl) (k w' h2)
theorem R.extract2 {x : Operand} {d : Option Tmp} {ty : TypeId} {pos : String} {af : Array Edge} {g : Option (Nat × Bool)} {a b : Value} (hx : ev σ x = .tuple #[a, b]) : Runs P σ ⟨d, .extract x 1, ty, pos, af, g⟩ w b w := by
  simp [Runs, execOp, hx, Instr.extract]
end

theorem mget_madd : ∀ (m : List (Cl × Int)) (c : Cl), mget (madd m c) c = mget m c
  | [], c => by simp [madd, mget]
  | p :: r, c => by
    rw [madd]
    by_cases h : c = p.1
    · rw [if_pos h]
    · rw [if_neg h]; simp only [mget]; rw [if_neg h, if_neg h, mget_madd r c]

theorem R.lookupM {σ : Nat → Value} {w : World} {d : Option Tmp} {ty : TypeId} {pos : String} {af : Array Edge} {g : Option (Nat × Bool)} {L0 L : List Ent} {w0 : World} {x y : Operand} {i b : Nat} {m m2 : List (Cl × Int)} {c : Cl}
    (hm : m2 = m ∨ m2 = madd m c) (h : St L0 w0 w L) (hi : L[i]? = some (mapE b m2)) (hx : ev σ x = .map (some b)) (hy : ev σ y = .agg (encC c).toArray) :
    Runs Try.prog σ ⟨d, .lookup 267 x y false, ty, pos, af, g⟩ w (.int .i64 (mget m c)) w := by
  have := R.lookup (d := d) (ty := ty) (pos := pos) (af := af) (g := g) h hi hx hy
  rcases hm with rfl | rfl
  · exact this
  · rw [mget_madd] at this; exact this

/-- A region that draws, in which a condition of the prover's own stays till the last operation. -/
structure WM (P : Program) (n : Nat) (l : List Oper) (Q : Exit → Act → World → Prop) (S : World → Prop) (fuel : Nat) (listed : Array Bool) (σ : Nat → Value) (w : World) : Prop where
  out : (∀ c a w, ¬ Q (.panic c) a w) → wpAnyK P l.toArray Q fuel S listed (fr n σ) w

section
variable {P : Program} {n : Nat} {Q : Exit → Act → World → Prop} {σ : Nat → Value} {w : World} {l : List Oper} {fuel : Nat} {listed : Array Bool} {S : World → Prop}
theorem WC.drawM {id : Nat} (hm : P.follows .mixedOrders = true) (hq : NP Q) (S : World → Prop) (h : WM P n l Q S l.length (Array.replicate l.length false) σ w.drew) :
    WC P n (.region id l.toArray true) Q σ w :=
  ⟨wp_region_any hm (wpAny_of_K _ _ _ _ _ (h.out hq))⟩
theorem WM.take (i : Nat) {o : Oper} {v : Value} (hi : l[i]? = some o) (hs : Region.noSelect l.toArray = true) (hf : Region.free .any l.toArray listed i = true)
    (hr : (Region.ready .any l.toArray listed).contains i = true) (hc : closedB l.toArray listed = true) (hn : okOp n o = true) (hg : o.guard = none) (hy : ∀ x, S x → Runs P σ o x v x) (hS : S w)
    (k : WM P n l Q S fuel (listed.setIfInBounds i true) (updO σ o.dst v) w) : WM P n l Q S (fuel + 1) listed σ w := by
  have hi' : l.toArray[i]? = some o := by simpa using hi
  refine ⟨fun hq => wpAnyK_first (v := v) hi' (Region.noSelect_spec hs) (fun c a w h => (hq c _ w h).elim) fuel _ listed _ w (Region.free_spec hi' hf) (by simpa using hr) (closed_of hc) (.inl ⟨by simp [Region.wanted, hg], fun w hw => ?_⟩) hS ?_⟩
  · rw [exec_fr σ hn]; exact hy w hw
  · rw [fr_putO]; exact k.out hq
theorem WM.one (i : Nat) {o : Oper} (hr : Region.ready .any l.toArray listed = [i]) (hi : l[i]? = some o) (hn : okOp n o = true) (hw : Region.wanted o (yielded l.toArray (fr n σ).tmps) = true)
    (h : (∀ c a w, ¬ Q (.panic c) a w) → o.upon P (fr n σ) (fun a' w' => (lastB l.toArray i = true ∧ ∃ S' : World → Prop, S' w' ∧ wpAnyK P l.toArray Q fuel S' (listed.setIfInBounds i true) a' w') ∨
      (S w' ∧ wpAnyK P l.toArray Q fuel S (listed.setIfInBounds i true) a' w')) Q ((execOp (ev σ) o).run P w)) :
    WM P n l Q S (fuel + 1) listed σ w := by
  have hi' : l.toArray[i]? = some o := by simpa using hi
  refine ⟨fun hq => ?_⟩
  show _ ∧ _
  refine ⟨fun h0 => (by rw [hr] at h0; cases h0), fun j hj => ?_⟩
  rw [hr] at hj
  have hji := List.mem_singleton.1 hj
  subst hji
  unfold wpOp
  simp only [hi', hw, if_true]
  refine .inl ?_
  unfold Oper.wp
  rw [exec_fr σ hn]
  exact h hq
variable {L0 : List Ent} {w0 : World}
theorem WM.sett (i : Nat) {o : Oper} {v : Value} {L' : List Ent} (hr : Region.ready .any l.toArray listed = [i]) (hi : l[i]? = some o) (hn : okOp n o = true) (hg : o.guard = none)
    (hx : ∃ w', Runs P σ o w v w' ∧ St L0 w0 w' L') (hS : ∀ w', St L0 w0 w' L' → S w') (k : ∀ w', St L0 w0 w' L' → WM P n l Q S fuel (listed.setIfInBounds i true) (updO σ o.dst v) w') : WM P n l Q S (fuel + 1) listed σ w := by
  obtain ⟨w', h1, h2⟩ := hx
  refine WM.one i hr hi hn (by simp [Region.wanted, hg]) fun hq => ?_
  unfold Runs at h1
  rw [h1]
  simp only [Oper.upon, fr_putO]
  exact .inr ⟨hS w' h2, (k w' h2).out hq⟩
theorem WM.sto (i : Nat) {o : Oper} {L' : List Ent} (hr : Region.ready .any l.toArray listed = [i]) (hl : lastB l.toArray i = true) (hi : l[i]? = some o) (hn : okOp n o = true) (hg : o.guard = none) (hd : o.dst = none)
    (hx : ∃ w', (execOp (ev σ) o).run P w = .ok .skip w' ∧ St L0 w0 w' L') (k : ∀ w', St L0 w0 w' L' → WE P n l Q fuel (listed.setIfInBounds i true) σ w') : WM P n l Q S (fuel + 1) listed σ w := by
  obtain ⟨w', h1, h2⟩ := hx
  refine WM.one i hr hi hn (by simp [Region.wanted, hg]) fun hq => ?_
  rw [h1]
  simp only [Oper.upon, fr_putO, hd]
  exact .inl ⟨hl, _, Ext.refl _, (k w' h2).out hq⟩
end
end Go.Proofs.Ytckcldimnelklaa
namespace Go.Proofs.Ytckcldimnelklaa
open Go
section
variable {P : Program} {n : Nat} {Q : Exit → Act → World → Prop} {σ : Nat → Value} {w : World} {l : List Oper} {fuel : Nat} {listed : Array Bool} {S : World → Prop} {L0 : List Ent} {w0 : World}
theorem WM.stoS (i : Nat) {o : Oper} {L' : List Ent} (hr : Region.ready .any l.toArray listed = [i]) (hi : l[i]? = some o) (hn : okOp n o = true) (hg : o.guard = none) (hd : o.dst = none)
    (hx : ∃ w', (execOp (ev σ) o).run P w = .ok .skip w' ∧ St L0 w0 w' L') (hS : ∀ w', St L0 w0 w' L' → S w') (k : ∀ w', St L0 w0 w' L' → WM P n l Q S fuel (listed.setIfInBounds i true) σ w') : WM P n l Q S (fuel + 1) listed σ w := by
  obtain ⟨w', h1, h2⟩ := hx
  refine WM.one i hr hi hn (by simp [Region.wanted, hg]) fun hq => ?_
  rw [h1]
  simp only [Oper.upon, fr_putO, hd]
  exact .inr ⟨hS w' h2, (k w' h2).out hq⟩
theorem WM.done (hr : Region.ready .any l.toArray listed = []) (h : Q .normal (fr n σ) w) : WM P n l Q S fuel listed σ w := by
  refine ⟨fun _ => ?_⟩
  cases fuel with
  | zero => exact ⟨hr, h⟩
  | succ f => exact ⟨fun _ => h, by rw [hr]; simp⟩
end
end Go.Proofs.Ytckcldimnelklaa
