/- What an argument of a type of this program reads as. -/
import Derived.Test.YtckcldimnelklaaTA
import Derived.Test.YtckcldimnelklaaLT
import Derived.Test.YtckcldimnelklaaRd
import Derived.OpenShut
namespace Go.Proofs.Ytckcldimnelklaa
open Go Go.RowKit Go.ChangeShapes Go.WideShapes
set_option linter.unusedVariables false
set_option maxRecDepth 100000

theorem ce2 : Try.prog.cellsOf 2 = 1 := by kernel_rfl
theorem ce4 : Try.prog.cellsOf 4 = 1 := by kernel_rfl
theorem ce5 : Try.prog.cellsOf 5 = 1 := by kernel_rfl
theorem ce22 : Try.prog.cellsOf 22 = 1 := by kernel_rfl
theorem ce25 : Try.prog.cellsOf 25 = 1 := by kernel_rfl
theorem ce28 : Try.prog.cellsOf 28 = 1 := by kernel_rfl
theorem ce40 : Try.prog.cellsOf 40 = 2 := by kernel_rfl
theorem ce43 : Try.prog.cellsOf 43 = 2 := by kernel_rfl
theorem ce44 : Try.prog.cellsOf 44 = 1 := by kernel_rfl
theorem ce45 : Try.prog.cellsOf 45 = 1 := by kernel_rfl
theorem ce47 : Try.prog.cellsOf 47 = 4 := by kernel_rfl
theorem ce49 : Try.prog.cellsOf 49 = 6 := by kernel_rfl
theorem ce50 : Try.prog.cellsOf 50 = 8 := by kernel_rfl
theorem ce51 : Try.prog.cellsOf 51 = 8 := by kernel_rfl
theorem ce52 : Try.prog.cellsOf 52 = 1 := by kernel_rfl
theorem ce53 : Try.prog.cellsOf 53 = 8 := by kernel_rfl
theorem ce54 : Try.prog.cellsOf 54 = 1 := by kernel_rfl
theorem ce56 : Try.prog.cellsOf 56 = 42 := by kernel_rfl
theorem ce58 : Try.prog.cellsOf 58 = 55 := by kernel_rfl
theorem ce60 : Try.prog.cellsOf 60 = 56 := by kernel_rfl
theorem ce62 : Try.prog.cellsOf 62 = 57 := by kernel_rfl
theorem ce73 : Try.prog.cellsOf 73 = 2 := by kernel_rfl
theorem ce99 : Try.prog.cellsOf 99 = 1 := by kernel_rfl
theorem ce101 : Try.prog.cellsOf 101 = 3 := by kernel_rfl
theorem ce102 : Try.prog.cellsOf 102 = 1 := by kernel_rfl
theorem ce104 : Try.prog.cellsOf 104 = 4 := by kernel_rfl
theorem ce158 : Try.prog.cellsOf 158 = 4 := by kernel_rfl
theorem ce160 : Try.prog.cellsOf 160 = 62 := by kernel_rfl
theorem ce197 : Try.prog.cellsOf 197 = 4 := by kernel_rfl
theorem ce213 : Try.prog.cellsOf 213 = 2 := by kernel_rfl
theorem ce219 : Try.prog.cellsOf 219 = 3 := by kernel_rfl
theorem ce232 : Try.prog.cellsOf 232 = 59 := by kernel_rfl

def Wk {α : Type} (K L : Kd α) : Prop := K.sz = L.sz ∧ ∀ w ok x cs, K.rd w ok x cs → L.rd w ok x cs
theorem Wk.int {k : IntKind} : Wk (intK k) (intW k) := ⟨rfl, fun _ _ _ _ h => ⟨trivial, h.2⟩⟩
theorem Wk.bool : Wk boolK boolW := ⟨rfl, fun _ _ _ _ h => ⟨trivial, h.2⟩⟩
theorem Wk.pair {α β : Type} {K K' : Kd α} {L L' : Kd β} (h : Wk K K') (g : Wk L L') : Wk (pairK K L) (pairK K' L') :=
  ⟨by show K.sz + L.sz = K'.sz + L'.sz; rw [h.1, g.1], fun w ok x cs ⟨c, d, e, h1, h2⟩ => ⟨c, d, e, h.2 w ok _ _ h1, g.2 w ok _ _ h2⟩⟩
theorem Wk.elems {α : Type} {K L : Kd α} (h : Wk K L) {w : World} {ok : Nat → Prop} {a : Option Addr} {xs : List α} (he : elems K w ok a xs) : Go.Proofs.Ytckcldimnelklaa.elems L w ok a xs := fun i x hx => by
  obtain ⟨ad, e, h3, h4, h5, h6⟩ := he i x hx
  exact ⟨ad, e, h3, h4, by rw [← h.1]; exact h5, h.2 _ _ _ _ h6⟩
theorem Wk.slice {α : Type} {K L : Kd α} (h : Wk K L) : Wk (sliceK K) (slW L) := ⟨rfl, fun w ok x cs ⟨a, c, e, h1, h2, h3⟩ => ⟨a, c, e, h1, h.elems h3⟩⟩
theorem Wk.cell : Wk cellK cellW := ⟨rfl, fun _ _ _ _ h => ⟨trivial, h.2⟩⟩
theorem Wk.held : Wk heldK heldW := ⟨rfl, fun _ _ _ _ h => ⟨trivial, h.2⟩⟩
theorem Wk.row : Wk rowK rowW := ⟨rfl, fun w ok x cs ⟨t, e, h1, h2⟩ => ⟨t, e, (Wk.slice Wk.held).2 _ _ _ _ h2⟩⟩

def Wf {α : Type} (K : Kd α) (p : α → Prop) : Prop := ∀ w ok x cs, K.rd w ok x cs → p x
theorem Wf.int {k : IntKind} : Wf (intK k) (inK k) := fun _ _ _ _ h => h.1
theorem Wf.any {α : Type} {K : Kd α} : Wf K (fun _ => True) := fun _ _ _ _ _ => trivial
theorem Wf.pair {α β : Type} {K : Kd α} {L : Kd β} {p : α → Prop} {q : β → Prop} (h : Wf K p) (g : Wf L q) : Wf (pairK K L) (fun x => p x.1 ∧ q x.2) := fun w ok x cs ⟨c, d, e, h1, h2⟩ => ⟨h w ok _ _ h1, g w ok _ _ h2⟩
theorem Wf.elems {α : Type} {K : Kd α} {p : α → Prop} (h : Wf K p) {w : World} {ok : Nat → Prop} {a : Option Addr} {xs : List α} (he : elems K w ok a xs) : ∀ x ∈ xs, p x := fun x hx => by
  obtain ⟨i, hi⟩ := List.getElem?_of_mem hx
  obtain ⟨ad, e, _, _, _, h6⟩ := he i x hi
  exact h _ _ _ _ h6
theorem Wf.slice {α : Type} {K : Kd α} {p : α → Prop} (h : Wf K p) : Wf (sliceK K) (fun xs => ∀ x ∈ xs, p x) := fun w ok x cs ⟨a, c, e, h1, h2, h3⟩ => h.elems h3
theorem Wf.cell : Wf cellK Cl.wf := fun _ _ _ _ h => h.1
theorem Wf.held : Wf heldK (fun h => h.cell.wf) := fun _ _ _ _ h => h.1
theorem Wf.row : Wf rowK (fun r => r.cell.wf ∧ ∀ h ∈ r.table, h.cell.wf) := fun w ok x cs ⟨t, e, h1, h2⟩ => ⟨h1, Wf.slice Wf.held _ _ _ _ h2⟩

theorem Wf.rowL : Wf rowK (fun r => r.table.length ≤ 140737488355328) := fun w ok x cs ⟨t, e, h1, a, c, h2, h3, h4, h5⟩ => h4
theorem Wf.sliceL {α : Type} {K : Kd α} {p : α → Prop} (h : Wf K p) : Wf (sliceK K) (fun xs => xs.length ≤ 140737488355328 ∧ ∀ x ∈ xs, p x) := fun w ok x cs ⟨a, c, e, h1, h2, h3⟩ => ⟨h2, h.elems h3⟩

theorem okWide_array {P : Program} {w : World} {r : Reach} {base : Nat} {t : TypeId} {v : Value} {m : Nat} {e : TypeId} (ht : P.underlying t = some (.array m e)) (h : Value.okWide P w r base t v) : ∃ cs, v = .agg cs ∧ cs.size = P.cellsOf t := by
  unfold Value.okWide at h
  rw [ht] at h
  cases v <;> simp_all

/-- An argument that is a struct, or an array. -/
theorem open_agg {α : Type} {P : Program} {H : Type} {enc : TypeId × Value → H} {w : World} {base : Nat} {spare : Nat → Bool} {held : Bool} {t : TypeId} {K : Kd α} {v : Value} {d : DataW H} {ps : List MemPlace} (h : Reads P t K)
    (ho : ∃ cs : Array Value, v = .agg cs) (hd : DataW.Trod enc P w base spare held t v d ps) (hwt : ∀ n ∈ d.weights P t, n ≤ reachBytes) : ∃ (x : α) (cs : List Value), v = .agg cs.toArray ∧ K.rd w (fun _ => True) x cs := by
  obtain ⟨fuel, hf⟩ := hd
  obtain ⟨cs, rfl⟩ := ho
  obtain ⟨x, hx⟩ := h hf hwt
  exact ⟨x, cs.toList, by simp, hx⟩

def saidK : Kd Sd := flatK encS Sd.wf 6 (fun _ => rfl) (fun _ => rfl)
def viewK : Kd Vw := flatK encV Vw.wf 42 (fun _ => rfl) (fun _ => rfl)

theorem reads_T49 : Reads Try.prog 49 saidK :=
  Reads.to (reads_struct (fs := [(4, 0), (2, 1), (47, 2)]) (by kernel_rfl) (by simp) ce49 (fs_cons (reads_bool un4) ce4 (by decide) (fs_cons (reads_int un2) ce2 (by decide) (fs_one (reads_struct (fs := [(44, 0), (5, 1), (45, 2), (45, 3)]) (by kernel_rfl) (by simp) ce47 (fs_cons (reads_int un44) ce44 (by decide) (fs_cons (reads_int un5) ce5 (by decide) (fs_cons (reads_int un45) ce45 (by decide) (fs_one (reads_int un45) ce45))))) ce47)))) (by
    rintro w ⟨x0, x1, ⟨x2, x3, x4, x5⟩⟩ cs ⟨_, _, rfl, ⟨-, rfl⟩, ⟨_, _, rfl, ⟨h1, rfl⟩, ⟨_, _, rfl, ⟨h2, rfl⟩, ⟨_, _, rfl, ⟨h3, rfl⟩, ⟨_, _, rfl, ⟨h4, rfl⟩, ⟨h5, rfl⟩⟩⟩⟩⟩⟩
    exact ⟨⟨x0, x1, x2, x3, x4, x5⟩, ⟨h1, h2, h3, h4, h5⟩, rfl⟩)

def b8K : Kd (Bool × Bool × Bool × Bool × Bool × Bool × Bool × Bool) := flatK (fun x => [Value.bool x.1, Value.bool x.2.1, Value.bool x.2.2.1, Value.bool x.2.2.2.1, Value.bool x.2.2.2.2.1, Value.bool x.2.2.2.2.2.1, Value.bool x.2.2.2.2.2.2.1, Value.bool x.2.2.2.2.2.2.2]) (fun x => True) 8 (fun _ => rfl) (fun _ => rfl)

theorem reads_T50 : Reads Try.prog 50 b8K :=
  Reads.to (reads_array (m := 8) (e := 4) (fs := [(4, 0), (4, 1), (4, 2), (4, 3), (4, 4), (4, 5), (4, 6), (4, 7)]) un50 (by kernel_rfl) ce50 (fs_cons (reads_bool un4) ce4 (by decide) (fs_cons (reads_bool un4) ce4 (by decide) (fs_cons (reads_bool un4) ce4 (by decide) (fs_cons (reads_bool un4) ce4 (by decide) (fs_cons (reads_bool un4) ce4 (by decide) (fs_cons (reads_bool un4) ce4 (by decide) (fs_cons (reads_bool un4) ce4 (by decide) (fs_one (reads_bool un4) ce4))))))))) (by
    rintro w ⟨x0, x1, x2, x3, x4, x5, x6, x7⟩ cs ⟨_, _, rfl, ⟨-, rfl⟩, ⟨_, _, rfl, ⟨-, rfl⟩, ⟨_, _, rfl, ⟨-, rfl⟩, ⟨_, _, rfl, ⟨-, rfl⟩, ⟨_, _, rfl, ⟨-, rfl⟩, ⟨_, _, rfl, ⟨-, rfl⟩, ⟨_, _, rfl, ⟨-, rfl⟩, ⟨-, rfl⟩⟩⟩⟩⟩⟩⟩⟩
    exact ⟨⟨x0, x1, x2, x3, x4, x5, x6, x7⟩, trivial, rfl⟩)

def u8K8 : Kd (Int × Int × Int × Int × Int × Int × Int × Int) := flatK (fun x => [Value.int .u8 x.1, Value.int .u8 x.2.1, Value.int .u8 x.2.2.1, Value.int .u8 x.2.2.2.1, Value.int .u8 x.2.2.2.2.1, Value.int .u8 x.2.2.2.2.2.1, Value.int .u8 x.2.2.2.2.2.2.1, Value.int .u8 x.2.2.2.2.2.2.2]) (fun x => inK .u8 x.1 ∧ inK .u8 x.2.1 ∧ inK .u8 x.2.2.1 ∧ inK .u8 x.2.2.2.1 ∧ inK .u8 x.2.2.2.2.1 ∧ inK .u8 x.2.2.2.2.2.1 ∧ inK .u8 x.2.2.2.2.2.2.1 ∧ inK .u8 x.2.2.2.2.2.2.2) 8 (fun _ => rfl) (fun _ => rfl)

theorem reads_T51 : Reads Try.prog 51 u8K8 :=
  Reads.to (reads_array (m := 8) (e := 5) (fs := [(5, 0), (5, 1), (5, 2), (5, 3), (5, 4), (5, 5), (5, 6), (5, 7)]) un51 (by kernel_rfl) ce51 (fs_cons (reads_int un5) ce5 (by decide) (fs_cons (reads_int un5) ce5 (by decide) (fs_cons (reads_int un5) ce5 (by decide) (fs_cons (reads_int un5) ce5 (by decide) (fs_cons (reads_int un5) ce5 (by decide) (fs_cons (reads_int un5) ce5 (by decide) (fs_cons (reads_int un5) ce5 (by decide) (fs_one (reads_int un5) ce5))))))))) (by
    rintro w ⟨x0, x1, x2, x3, x4, x5, x6, x7⟩ cs ⟨_, _, rfl, ⟨h0, rfl⟩, ⟨_, _, rfl, ⟨h1, rfl⟩, ⟨_, _, rfl, ⟨h2, rfl⟩, ⟨_, _, rfl, ⟨h3, rfl⟩, ⟨_, _, rfl, ⟨h4, rfl⟩, ⟨_, _, rfl, ⟨h5, rfl⟩, ⟨_, _, rfl, ⟨h6, rfl⟩, ⟨h7, rfl⟩⟩⟩⟩⟩⟩⟩⟩
    exact ⟨⟨x0, x1, x2, x3, x4, x5, x6, x7⟩, ⟨h0, h1, h2, h3, h4, h5, h6, h7⟩, rfl⟩)

def u16K8 : Kd (Int × Int × Int × Int × Int × Int × Int × Int) := flatK (fun x => [Value.int .u16 x.1, Value.int .u16 x.2.1, Value.int .u16 x.2.2.1, Value.int .u16 x.2.2.2.1, Value.int .u16 x.2.2.2.2.1, Value.int .u16 x.2.2.2.2.2.1, Value.int .u16 x.2.2.2.2.2.2.1, Value.int .u16 x.2.2.2.2.2.2.2]) (fun x => inK .u16 x.1 ∧ inK .u16 x.2.1 ∧ inK .u16 x.2.2.1 ∧ inK .u16 x.2.2.2.1 ∧ inK .u16 x.2.2.2.2.1 ∧ inK .u16 x.2.2.2.2.2.1 ∧ inK .u16 x.2.2.2.2.2.2.1 ∧ inK .u16 x.2.2.2.2.2.2.2) 8 (fun _ => rfl) (fun _ => rfl)

theorem reads_T53 : Reads Try.prog 53 u16K8 :=
  Reads.to (reads_array (m := 8) (e := 52) (fs := [(52, 0), (52, 1), (52, 2), (52, 3), (52, 4), (52, 5), (52, 6), (52, 7)]) un53 (by kernel_rfl) ce53 (fs_cons (reads_int un52) ce52 (by decide) (fs_cons (reads_int un52) ce52 (by decide) (fs_cons (reads_int un52) ce52 (by decide) (fs_cons (reads_int un52) ce52 (by decide) (fs_cons (reads_int un52) ce52 (by decide) (fs_cons (reads_int un52) ce52 (by decide) (fs_cons (reads_int un52) ce52 (by decide) (fs_one (reads_int un52) ce52))))))))) (by
    rintro w ⟨x0, x1, x2, x3, x4, x5, x6, x7⟩ cs ⟨_, _, rfl, ⟨h0, rfl⟩, ⟨_, _, rfl, ⟨h1, rfl⟩, ⟨_, _, rfl, ⟨h2, rfl⟩, ⟨_, _, rfl, ⟨h3, rfl⟩, ⟨_, _, rfl, ⟨h4, rfl⟩, ⟨_, _, rfl, ⟨h5, rfl⟩, ⟨_, _, rfl, ⟨h6, rfl⟩, ⟨h7, rfl⟩⟩⟩⟩⟩⟩⟩⟩
    exact ⟨⟨x0, x1, x2, x3, x4, x5, x6, x7⟩, ⟨h0, h1, h2, h3, h4, h5, h6, h7⟩, rfl⟩)

theorem reads_T56 : Reads Try.prog 56 viewK :=
  Reads.to (reads_struct (fs := [(50, 0), (51, 8), (51, 16), (53, 24), (50, 32), (54, 40), (5, 41)]) (by kernel_rfl) (by simp) ce56 (fs_cons reads_T50 ce50 (by decide) (fs_cons reads_T51 ce51 (by decide) (fs_cons reads_T51 ce51 (by decide) (fs_cons reads_T53 ce53 (by decide) (fs_cons reads_T50 ce50 (by decide) (fs_cons (reads_int un54) ce54 (by decide) (fs_one (reads_int un5) ce5)))))))) (by
    rintro w ⟨⟨i0, i1, i2, i3, i4, i5, i6, i7⟩, ⟨m0, m1, m2, m3, m4, m5, m6, m7⟩, ⟨g0, g1, g2, g3, g4, g5, g6, g7⟩, ⟨s0, s1, s2, s3, s4, s5, s6, s7⟩, ⟨t0, t1, t2, t3, t4, t5, t6, t7⟩, c, md⟩ cs ⟨_, _, rfl, ⟨-, rfl⟩, _, _, rfl, ⟨hm, rfl⟩, _, _, rfl, ⟨hg, rfl⟩, _, _, rfl, ⟨hs, rfl⟩, _, _, rfl, ⟨-, rfl⟩, _, _, rfl, ⟨hc, rfl⟩, hd, rfl⟩
    obtain ⟨m0w, m1w, m2w, m3w, m4w, m5w, m6w, m7w⟩ := hm
    obtain ⟨g0w, g1w, g2w, g3w, g4w, g5w, g6w, g7w⟩ := hg
    obtain ⟨s0w, s1w, s2w, s3w, s4w, s5w, s6w, s7w⟩ := hs
    exact ⟨⟨i0, i1, i2, i3, i4, i5, i6, i7, m0, m1, m2, m3, m4, m5, m6, m7, g0, g1, g2, g3, g4, g5, g6, g7, s0, s1, s2, s3, s4, s5, s6, s7, t0, t1, t2, t3, t4, t5, t6, t7, c, md⟩, ⟨m0w, m1w, m2w, m3w, m4w, m5w, m6w, m7w, g0w, g1w, g2w, g3w, g4w, g5w, g6w, g7w, s0w, s1w, s2w, s3w, s4w, s5w, s6w, s7w, hc, hd⟩, rfl⟩)

theorem reads_T58 : Reads Try.prog 58 cellK :=
  Reads.to (reads_struct (fs := [(2, 0), (49, 1), (49, 7), (56, 13)]) (by kernel_rfl) (by simp) ce58 (fs_cons (reads_int un2) ce2 (by decide) (fs_cons reads_T49 ce49 (by decide) (fs_cons reads_T49 ce49 (by decide) (fs_one reads_T56 ce56))))) (by
    rintro w ⟨x0, x1, x2, x3⟩ cs ⟨_, _, rfl, ⟨h0, rfl⟩, ⟨_, _, rfl, ⟨h1, rfl⟩, ⟨_, _, rfl, ⟨h2, rfl⟩, ⟨h3, rfl⟩⟩⟩⟩
    exact ⟨⟨x0, x1, x2, x3⟩, ⟨h0, h1, h2, h3⟩, rfl⟩)

theorem reads_T60 : Reads Try.prog 60 heldK :=
  Reads.to (reads_struct (fs := [(4, 0), (58, 1)]) (by kernel_rfl) (by simp) ce60 (fs_cons (reads_bool un4) ce4 (by decide) (fs_one reads_T58 ce58))) (by
    rintro w ⟨x0, x1⟩ cs ⟨_, _, rfl, ⟨-, rfl⟩, ⟨h1, rfl⟩⟩
    exact ⟨⟨x0, x1⟩, h1, rfl⟩)

theorem reads_T62 : Reads Try.prog 62 rowK :=
  Reads.to (reads_struct (fs := [(4, 0), (58, 1), (28, 56)]) (by kernel_rfl) (by simp) ce62 (fs_cons (reads_bool un4) ce4 (by decide) (fs_cons reads_T58 ce58 (by decide) (fs_one (reads_slice un28 ce60 (by decide) reads_T60) ce28)))) (by
    rintro w ⟨i, c, t⟩ cs ⟨_, _, rfl, ⟨-, rfl⟩, _, _, rfl, ⟨h1, rfl⟩, a, c2, rfl, h2⟩
    exact ⟨⟨i, c, t⟩, _, rfl, h1, a, c2, rfl, h2⟩)
end Go.Proofs.Ytckcldimnelklaa
