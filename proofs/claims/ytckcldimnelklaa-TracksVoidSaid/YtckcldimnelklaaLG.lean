/- '==' of flat structs and arrays: as the data are. -/
import Derived.Test.YtckcldimnelklaaLT
import Derived.Laws.StructEq
namespace Go.Proofs.Ytckcldimnelklaa
open Go
set_option linter.unusedVariables false
set_option linter.unusedSimpArgs false
set_option maxRecDepth 100000

section
variable {P : Program} {d : Nat} {w : World}

theorem eqf_nil {xs ys : Array Value} : (Op.eqFields d xs ys []).run P w = .ok true w := by simp [Op.eqFields]

theorem eqf_cons {xs ys : Array Value} {f : Field} {fs : List Field} {a b : Value} {p q : Prop} [Decidable p] [Decidable q] (hn : (f.name == "_") = false) (ha : (part f.type xs f.offset).run P w = .ok a w) (hb : (part f.type ys f.offset).run P w = .ok b w)
    (he : (Op.equalIn d f.type a b).run P w = .ok (decide p) w) (hr : (Op.eqFields d xs ys fs).run P w = .ok (decide q) w) : (Op.eqFields d xs ys (f :: fs)).run P w = .ok (decide (p ∧ q)) w := by
  have hn' : f.name ≠ "_" := by simpa using hn
  rw [Op.eqFields]
  simp only [if_pos hn', Sem.run_bind, ha, hb, he, Result.andThen_ok]
  by_cases hp : p
  · simp [hp, hr]
  · simp [hp]

theorem eq_struct {t : TypeId} {fs : Array Field} {xs ys : Array Value} {p : Prop} [Decidable p] (hu : P.underlying t = some (.struct fs)) (hp : P.stoodInHeld t = false)
    (h : (Op.eqFields d xs ys fs.toList).run P w = .ok (decide p) w) : (Op.equalIn (d + 1) t (.agg xs) (.agg ys)).run P w = .ok (decide p) w := by
  have hf : P.fieldsOf t = fs := by simp [Program.fieldsOf, hu]
  rw [run_equalIn_struct (P := P) w d t xs ys (by rw [hf]; exact hu) hp, hf]
  exact h

theorem eq_int {t : TypeId} {k k' : IntKind} {a b : Int} (h : P.underlying t = some (.int k')) : (Op.equalIn (d + 1) t (.int k a) (.int k b)).run P w = .ok (decide (a = b)) w := by
  rw [run_equalIn_int w d t k k' a b h]; rfl

theorem eq_bool {t : TypeId} {a b : Bool} (h : P.underlying t = some .bool) : (Op.equalIn (d + 1) t (.bool a) (.bool b)).run P w = .ok (decide (a = b)) w := by
  rw [run_equalIn_bool' w d t a b h]
  cases a <;> cases b <;> rfl

/-- Element by element. -/
def eqEls (d : Nat) (e : TypeId) (n : Nat) (xs ys : Array Value) : List Nat → Sem Bool
  | [] => pure true
  | i :: l => do
    let a ← part e xs (i * n)
    let b ← part e ys (i * n)
    let r ← Op.equalIn d e a b
    if (!r) = true then pure false else eqEls d e n xs ys l

theorem eq_array {t e : TypeId} {len n : Nat} {xs ys : Array Value} {p : Prop} [Decidable p] (hu : P.underlying t = some (.array len e)) (hs : ∀ w, (sizeOf e).run P w = .ok n w)
    (h : (eqEls d e n xs ys (List.range' 0 len)).run P w = .ok (decide p) w) : (Op.equalIn (d + 1) t (.agg xs) (.agg ys)).run P w = .ok (decide p) w := by
  rw [← h]
  simp only [Op.equalIn, Sem.run_bind, run_underlying hu, Result.andThen_ok, hs]
  rw [Std.Legacy.Range.forIn_eq_forIn_range']
  simp only [Std.Legacy.Range.size, Nat.sub_zero, Nat.add_sub_cancel, Nat.div_one]
  clear h
  generalize List.range' 0 len = l
  induction l generalizing w with
  | nil => simp [eqEls]
  | cons i l ih =>
    simp only [List.forIn_cons, eqEls, Sem.run_bind, Sem.run_ite]
    generalize (part e xs (i * n)).run P w = r1
    cases r1 with
    | ok a w1 =>
      simp only [Result.andThen_ok]
      generalize (part e ys (i * n)).run P w1 = r2
      cases r2 with
      | ok b w2 =>
        simp only [Result.andThen_ok]
        generalize (Op.equalIn d e a b).run P w2 = r3
        cases r3 with
        | ok r w3 =>
          cases r
          · simp only [Result.andThen_ok, Bool.not_false, if_true, Sem.run_pure]
          · simp only [Result.andThen_ok, Bool.not_true, Bool.false_eq_true, if_false, Sem.run_pure]
            exact ih
        | halt x w3 => simp [Result.andThen]
      | halt x w2 => simp [Result.andThen]
    | halt x w1 => simp [Result.andThen]

theorem eqe_nil {e : TypeId} {n : Nat} {xs ys : Array Value} : (eqEls d e n xs ys []).run P w = .ok true w := by simp [eqEls]

theorem eqe_cons {e : TypeId} {n i : Nat} {l : List Nat} {xs ys : Array Value} {a b : Value} {p q : Prop} [Decidable p] [Decidable q] (ha : (part e xs (i * n)).run P w = .ok a w) (hb : (part e ys (i * n)).run P w = .ok b w)
    (he : (Op.equalIn d e a b).run P w = .ok (decide p) w) (hr : (eqEls d e n xs ys l).run P w = .ok (decide q) w) : (eqEls d e n xs ys (i :: l)).run P w = .ok (decide (p ∧ q)) w := by
  rw [eqEls]
  simp only [Sem.run_bind, ha, hb, he, Result.andThen_ok]
  by_cases hp : p
  · simp [hp, hr]
  · simp [hp]

theorem ok_congr {p q : Prop} [Decidable p] [Decidable q] {r : Result Bool} (h : r = .ok (decide p) w) (hpq : p ↔ q) : r = .ok (decide q) w := by
  rw [h]; congr 1; exact decide_eq_decide.2 hpq
end
theorem eq50 {d : Nat} {w : World} (a0 a1 a2 a3 a4 a5 a6 a7 b0 b1 b2 b3 b4 b5 b6 b7 : Bool) : (Op.equalIn (d + 2) 50 (.agg #[.bool a0, .bool a1, .bool a2, .bool a3, .bool a4, .bool a5, .bool a6, .bool a7]) (.agg #[.bool b0, .bool b1, .bool b2, .bool b3, .bool b4, .bool b5, .bool b6, .bool b7])).run Try.prog w = .ok (decide (a0 = b0 ∧ a1 = b1 ∧ a2 = b2 ∧ a3 = b3 ∧ a4 = b4 ∧ a5 = b5 ∧ a6 = b6 ∧ a7 = b7)) w :=
  eq_array (n := 1) un50 lf4.size (ok_congr (eqe_cons (a := .bool a0) (b := .bool b0) (by kernel_rfl) (by kernel_rfl) (eq_bool un4) (eqe_cons (a := .bool a1) (b := .bool b1) (by kernel_rfl) (by kernel_rfl) (eq_bool un4) (eqe_cons (a := .bool a2) (b := .bool b2) (by kernel_rfl) (by kernel_rfl) (eq_bool un4) (eqe_cons (a := .bool a3) (b := .bool b3) (by kernel_rfl) (by kernel_rfl) (eq_bool un4) (eqe_cons (a := .bool a4) (b := .bool b4) (by kernel_rfl) (by kernel_rfl) (eq_bool un4) (eqe_cons (a := .bool a5) (b := .bool b5) (by kernel_rfl) (by kernel_rfl) (eq_bool un4) (eqe_cons (a := .bool a6) (b := .bool b6) (by kernel_rfl) (by kernel_rfl) (eq_bool un4) (eqe_cons (a := .bool a7) (b := .bool b7) (by kernel_rfl) (by kernel_rfl) (eq_bool un4) (show (eqEls (d + 1) 4 1 #[.bool a0, .bool a1, .bool a2, .bool a3, .bool a4, .bool a5, .bool a6, .bool a7] #[.bool b0, .bool b1, .bool b2, .bool b3, .bool b4, .bool b5, .bool b6, .bool b7] []).run Try.prog w = .ok (decide True) w from eqe_nil))))))))) (by simp))

theorem eq51 {d : Nat} {w : World} (a0 a1 a2 a3 a4 a5 a6 a7 b0 b1 b2 b3 b4 b5 b6 b7 : Int) : (Op.equalIn (d + 2) 51 (.agg #[.int .u8 a0, .int .u8 a1, .int .u8 a2, .int .u8 a3, .int .u8 a4, .int .u8 a5, .int .u8 a6, .int .u8 a7]) (.agg #[.int .u8 b0, .int .u8 b1, .int .u8 b2, .int .u8 b3, .int .u8 b4, .int .u8 b5, .int .u8 b6, .int .u8 b7])).run Try.prog w = .ok (decide (a0 = b0 ∧ a1 = b1 ∧ a2 = b2 ∧ a3 = b3 ∧ a4 = b4 ∧ a5 = b5 ∧ a6 = b6 ∧ a7 = b7)) w :=
  eq_array (n := 1) un51 lf5.size (ok_congr (eqe_cons (a := .int .u8 a0) (b := .int .u8 b0) (by kernel_rfl) (by kernel_rfl) (eq_int un5) (eqe_cons (a := .int .u8 a1) (b := .int .u8 b1) (by kernel_rfl) (by kernel_rfl) (eq_int un5) (eqe_cons (a := .int .u8 a2) (b := .int .u8 b2) (by kernel_rfl) (by kernel_rfl) (eq_int un5) (eqe_cons (a := .int .u8 a3) (b := .int .u8 b3) (by kernel_rfl) (by kernel_rfl) (eq_int un5) (eqe_cons (a := .int .u8 a4) (b := .int .u8 b4) (by kernel_rfl) (by kernel_rfl) (eq_int un5) (eqe_cons (a := .int .u8 a5) (b := .int .u8 b5) (by kernel_rfl) (by kernel_rfl) (eq_int un5) (eqe_cons (a := .int .u8 a6) (b := .int .u8 b6) (by kernel_rfl) (by kernel_rfl) (eq_int un5) (eqe_cons (a := .int .u8 a7) (b := .int .u8 b7) (by kernel_rfl) (by kernel_rfl) (eq_int un5) (show (eqEls (d + 1) 5 1 #[.int .u8 a0, .int .u8 a1, .int .u8 a2, .int .u8 a3, .int .u8 a4, .int .u8 a5, .int .u8 a6, .int .u8 a7] #[.int .u8 b0, .int .u8 b1, .int .u8 b2, .int .u8 b3, .int .u8 b4, .int .u8 b5, .int .u8 b6, .int .u8 b7] []).run Try.prog w = .ok (decide True) w from eqe_nil))))))))) (by simp))

theorem eq53 {d : Nat} {w : World} (a0 a1 a2 a3 a4 a5 a6 a7 b0 b1 b2 b3 b4 b5 b6 b7 : Int) : (Op.equalIn (d + 2) 53 (.agg #[.int .u16 a0, .int .u16 a1, .int .u16 a2, .int .u16 a3, .int .u16 a4, .int .u16 a5, .int .u16 a6, .int .u16 a7]) (.agg #[.int .u16 b0, .int .u16 b1, .int .u16 b2, .int .u16 b3, .int .u16 b4, .int .u16 b5, .int .u16 b6, .int .u16 b7])).run Try.prog w = .ok (decide (a0 = b0 ∧ a1 = b1 ∧ a2 = b2 ∧ a3 = b3 ∧ a4 = b4 ∧ a5 = b5 ∧ a6 = b6 ∧ a7 = b7)) w :=
  eq_array (n := 1) un53 lf52.size (ok_congr (eqe_cons (a := .int .u16 a0) (b := .int .u16 b0) (by kernel_rfl) (by kernel_rfl) (eq_int un52) (eqe_cons (a := .int .u16 a1) (b := .int .u16 b1) (by kernel_rfl) (by kernel_rfl) (eq_int un52) (eqe_cons (a := .int .u16 a2) (b := .int .u16 b2) (by kernel_rfl) (by kernel_rfl) (eq_int un52) (eqe_cons (a := .int .u16 a3) (b := .int .u16 b3) (by kernel_rfl) (by kernel_rfl) (eq_int un52) (eqe_cons (a := .int .u16 a4) (b := .int .u16 b4) (by kernel_rfl) (by kernel_rfl) (eq_int un52) (eqe_cons (a := .int .u16 a5) (b := .int .u16 b5) (by kernel_rfl) (by kernel_rfl) (eq_int un52) (eqe_cons (a := .int .u16 a6) (b := .int .u16 b6) (by kernel_rfl) (by kernel_rfl) (eq_int un52) (eqe_cons (a := .int .u16 a7) (b := .int .u16 b7) (by kernel_rfl) (by kernel_rfl) (eq_int un52) (show (eqEls (d + 1) 52 1 #[.int .u16 a0, .int .u16 a1, .int .u16 a2, .int .u16 a3, .int .u16 a4, .int .u16 a5, .int .u16 a6, .int .u16 a7] #[.int .u16 b0, .int .u16 b1, .int .u16 b2, .int .u16 b3, .int .u16 b4, .int .u16 b5, .int .u16 b6, .int .u16 b7] []).run Try.prog w = .ok (decide True) w from eqe_nil))))))))) (by simp))

theorem eqPay {d : Nat} {w : World} (a b : Sd) : (Op.equalIn (d + 2) 47 (.agg #[.int .u8 a.kind, .int .u8 a.station, .int .u32 a.seq, .int .u32 a.value]) (.agg #[.int .u8 b.kind, .int .u8 b.station, .int .u32 b.seq, .int .u32 b.value])).run Try.prog w = .ok (decide (a.kind = b.kind ∧ a.station = b.station ∧ a.seq = b.seq ∧ a.value = b.value)) w :=
  eq_struct (fs := #[{ name := "Kind", type := 44, offset := 0, embedded := false, tag := "", pkgPath := "", byteOffset := 0 }, { name := "Station", type := 5, offset := 1, embedded := false, tag := "", pkgPath := "", byteOffset := 1 }, { name := "Seq", type := 45, offset := 2, embedded := false, tag := "", pkgPath := "", byteOffset := 4 }, { name := "Value", type := 45, offset := 3, embedded := false, tag := "", pkgPath := "", byteOffset := 8 }]) (by kernel_rfl) (by kernel_rfl) (ok_congr (eqf_cons (a := .int .u8 a.kind) (b := .int .u8 b.kind) rfl (by kernel_rfl) (by kernel_rfl) (eq_int un44) (eqf_cons (a := .int .u8 a.station) (b := .int .u8 b.station) rfl (by kernel_rfl) (by kernel_rfl) (eq_int un5) (eqf_cons (a := .int .u32 a.seq) (b := .int .u32 b.seq) rfl (by kernel_rfl) (by kernel_rfl) (eq_int un45) (eqf_cons (a := .int .u32 a.value) (b := .int .u32 b.value) rfl (by kernel_rfl) (by kernel_rfl) (eq_int un45) (show (Op.eqFields (d + 1) #[.int .u8 a.kind, .int .u8 a.station, .int .u32 a.seq, .int .u32 a.value] #[.int .u8 b.kind, .int .u8 b.station, .int .u32 b.seq, .int .u32 b.value] []).run Try.prog w = .ok (decide True) w from eqf_nil))))) (by simp))

theorem feqSaid {d : Nat} {w : World} (a b : Sd) : (Op.equalIn (d + 3) 49 (.agg (encS a).toArray) (.agg (encS b).toArray)).run Try.prog w = .ok (decide (a = b)) w :=
  eq_struct (fs := #[{ name := "Is", type := 4, offset := 0, embedded := false, tag := "", pkgPath := "", byteOffset := 0 }, { name := "At", type := 2, offset := 1, embedded := false, tag := "", pkgPath := "", byteOffset := 8 }, { name := "P", type := 47, offset := 2, embedded := false, tag := "", pkgPath := "", byteOffset := 16 }]) (by kernel_rfl) (by kernel_rfl) (ok_congr (eqf_cons (a := .bool a.is) (b := .bool b.is) rfl (by kernel_rfl) (by kernel_rfl) (eq_bool un4) (eqf_cons (a := .int .i64 a.at_) (b := .int .i64 b.at_) rfl (by kernel_rfl) (by kernel_rfl) (eq_int un2) (eqf_cons (a := .agg #[.int .u8 a.kind, .int .u8 a.station, .int .u32 a.seq, .int .u32 a.value]) (b := .agg #[.int .u8 b.kind, .int .u8 b.station, .int .u32 b.seq, .int .u32 b.value]) rfl (by kernel_rfl) (by kernel_rfl) (eqPay a b) (show (Op.eqFields (d + 2) (encS a).toArray (encS b).toArray []).run Try.prog w = .ok (decide True) w from eqf_nil)))) (by cases a; cases b; simp))

theorem feqView {d : Nat} {w : World} (a b : Vw) : (Op.equalIn (d + 3) 56 (.agg (encV a).toArray) (.agg (encV b).toArray)).run Try.prog w = .ok (decide (a = b)) w :=
  eq_struct (fs := #[{ name := "In", type := 50, offset := 0, embedded := false, tag := "", pkgPath := "", byteOffset := 0 }, { name := "Miss", type := 51, offset := 8, embedded := false, tag := "", pkgPath := "", byteOffset := 8 }, { name := "Good", type := 51, offset := 16, embedded := false, tag := "", pkgPath := "", byteOffset := 16 }, { name := "Score", type := 53, offset := 24, embedded := false, tag := "", pkgPath := "", byteOffset := 24 }, { name := "Got", type := 50, offset := 32, embedded := false, tag := "", pkgPath := "", byteOffset := 40 }, { name := "Command", type := 54, offset := 40, embedded := false, tag := "", pkgPath := "", byteOffset := 48 }, { name := "Mode", type := 5, offset := 41, embedded := false, tag := "", pkgPath := "", byteOffset := 49 }]) (by kernel_rfl) (by kernel_rfl) (ok_congr (eqf_cons (a := .agg #[.bool a.i0, .bool a.i1, .bool a.i2, .bool a.i3, .bool a.i4, .bool a.i5, .bool a.i6, .bool a.i7]) (b := .agg #[.bool b.i0, .bool b.i1, .bool b.i2, .bool b.i3, .bool b.i4, .bool b.i5, .bool b.i6, .bool b.i7]) rfl (by kernel_rfl) (by kernel_rfl) (eq50 a.i0 a.i1 a.i2 a.i3 a.i4 a.i5 a.i6 a.i7 b.i0 b.i1 b.i2 b.i3 b.i4 b.i5 b.i6 b.i7) (eqf_cons (a := .agg #[.int .u8 a.m0, .int .u8 a.m1, .int .u8 a.m2, .int .u8 a.m3, .int .u8 a.m4, .int .u8 a.m5, .int .u8 a.m6, .int .u8 a.m7]) (b := .agg #[.int .u8 b.m0, .int .u8 b.m1, .int .u8 b.m2, .int .u8 b.m3, .int .u8 b.m4, .int .u8 b.m5, .int .u8 b.m6, .int .u8 b.m7]) rfl (by kernel_rfl) (by kernel_rfl) (eq51 a.m0 a.m1 a.m2 a.m3 a.m4 a.m5 a.m6 a.m7 b.m0 b.m1 b.m2 b.m3 b.m4 b.m5 b.m6 b.m7) (eqf_cons (a := .agg #[.int .u8 a.g0, .int .u8 a.g1, .int .u8 a.g2, .int .u8 a.g3, .int .u8 a.g4, .int .u8 a.g5, .int .u8 a.g6, .int .u8 a.g7]) (b := .agg #[.int .u8 b.g0, .int .u8 b.g1, .int .u8 b.g2, .int .u8 b.g3, .int .u8 b.g4, .int .u8 b.g5, .int .u8 b.g6, .int .u8 b.g7]) rfl (by kernel_rfl) (by kernel_rfl) (eq51 a.g0 a.g1 a.g2 a.g3 a.g4 a.g5 a.g6 a.g7 b.g0 b.g1 b.g2 b.g3 b.g4 b.g5 b.g6 b.g7) (eqf_cons (a := .agg #[.int .u16 a.s0, .int .u16 a.s1, .int .u16 a.s2, .int .u16 a.s3, .int .u16 a.s4, .int .u16 a.s5, .int .u16 a.s6, .int .u16 a.s7]) (b := .agg #[.int .u16 b.s0, .int .u16 b.s1, .int .u16 b.s2, .int .u16 b.s3, .int .u16 b.s4, .int .u16 b.s5, .int .u16 b.s6, .int .u16 b.s7]) rfl (by kernel_rfl) (by kernel_rfl) (eq53 a.s0 a.s1 a.s2 a.s3 a.s4 a.s5 a.s6 a.s7 b.s0 b.s1 b.s2 b.s3 b.s4 b.s5 b.s6 b.s7) (eqf_cons (a := .agg #[.bool a.t0, .bool a.t1, .bool a.t2, .bool a.t3, .bool a.t4, .bool a.t5, .bool a.t6, .bool a.t7]) (b := .agg #[.bool b.t0, .bool b.t1, .bool b.t2, .bool b.t3, .bool b.t4, .bool b.t5, .bool b.t6, .bool b.t7]) rfl (by kernel_rfl) (by kernel_rfl) (eq50 a.t0 a.t1 a.t2 a.t3 a.t4 a.t5 a.t6 a.t7 b.t0 b.t1 b.t2 b.t3 b.t4 b.t5 b.t6 b.t7) (eqf_cons (a := .int .i8 a.command) (b := .int .i8 b.command) rfl (by kernel_rfl) (by kernel_rfl) (eq_int un54) (eqf_cons (a := .int .u8 a.mode) (b := .int .u8 b.mode) rfl (by kernel_rfl) (by kernel_rfl) (eq_int un5) (show (Op.eqFields (d + 2) (encV a).toArray (encV b).toArray []).run Try.prog w = .ok (decide True) w from eqf_nil)))))))) (by cases a; cases b; simp [and_assoc]))

theorem feqCell {d : Nat} {w : World} (a b : Cl) : (Op.equalIn (d + 4) 58 (.agg (encC a).toArray) (.agg (encC b).toArray)).run Try.prog w = .ok (decide (a = b)) w :=
  eq_struct (fs := #[{ name := "Age", type := 2, offset := 0, embedded := false, tag := "", pkgPath := "", byteOffset := 0 }, { name := "Offer", type := 49, offset := 1, embedded := false, tag := "", pkgPath := "", byteOffset := 8 }, { name := "Report", type := 49, offset := 7, embedded := false, tag := "", pkgPath := "", byteOffset := 40 }, { name := "View", type := 56, offset := 13, embedded := false, tag := "", pkgPath := "", byteOffset := 72 }]) (by kernel_rfl) (by kernel_rfl) (ok_congr (eqf_cons (a := .int .i64 a.age) (b := .int .i64 b.age) rfl (by kernel_rfl) (by kernel_rfl) (eq_int un2) (eqf_cons (a := .agg (encS a.offer).toArray) (b := .agg (encS b.offer).toArray) rfl (by kernel_rfl) (by kernel_rfl) (feqSaid a.offer b.offer) (eqf_cons (a := .agg (encS a.report).toArray) (b := .agg (encS b.report).toArray) rfl (by kernel_rfl) (by kernel_rfl) (feqSaid a.report b.report) (eqf_cons (a := .agg (encV a.view).toArray) (b := .agg (encV b.view).toArray) rfl (by kernel_rfl) (by kernel_rfl) (feqView a.view b.view) (show (Op.eqFields (d + 3) (encC a).toArray (encC b).toArray []).run Try.prog w = .ok (decide True) w from eqf_nil))))) (by cases a; cases b; simp))

theorem feqHeld {d : Nat} {w : World} (a b : Hd) : (Op.equalIn (d + 5) 60 (.agg (encH a).toArray) (.agg (encH b).toArray)).run Try.prog w = .ok (decide (a = b)) w :=
  eq_struct (fs := #[{ name := "Is", type := 4, offset := 0, embedded := false, tag := "", pkgPath := "", byteOffset := 0 }, { name := "Cell", type := 58, offset := 1, embedded := false, tag := "", pkgPath := "", byteOffset := 8 }]) (by kernel_rfl) (by kernel_rfl) (ok_congr (eqf_cons (a := .bool a.is) (b := .bool b.is) rfl (by kernel_rfl) (by kernel_rfl) (eq_bool un4) (eqf_cons (a := .agg (encC a.cell).toArray) (b := .agg (encC b.cell).toArray) rfl (by kernel_rfl) (by kernel_rfl) (feqCell a.cell b.cell) (show (Op.eqFields (d + 4) (encH a).toArray (encH b).toArray []).run Try.prog w = .ok (decide True) w from eqf_nil))) (by cases a; cases b; simp))

theorem feqRHeld {d : Nat} {w : World} (a b : Hd) : (Op.equalIn (d + 5) 202 (.agg (encH a).toArray) (.agg (encH b).toArray)).run Try.prog w = .ok (decide (a = b)) w :=
  eq_struct (fs := #[{ name := "Is", type := 4, offset := 0, embedded := false, tag := "", pkgPath := "", byteOffset := 0 }, { name := "Cell", type := 58, offset := 1, embedded := false, tag := "", pkgPath := "", byteOffset := 8 }]) (by kernel_rfl) (by kernel_rfl) (ok_congr (eqf_cons (a := .bool a.is) (b := .bool b.is) rfl (by kernel_rfl) (by kernel_rfl) (eq_bool un4) (eqf_cons (a := .agg (encC a.cell).toArray) (b := .agg (encC b.cell).toArray) rfl (by kernel_rfl) (by kernel_rfl) (feqCell a.cell b.cell) (show (Op.eqFields (d + 4) (encH a).toArray (encH b).toArray []).run Try.prog w = .ok (decide True) w from eqf_nil))) (by cases a; cases b; simp))

section
variable {σ : Nat → Value} {w : World} {d : Option Tmp} {ty : TypeId} {pos : String} {af : Array Edge} {g : Option (Nat × Bool)}

theorem R.eqSaid {x y : Operand} {U : TypeId} {a b : Sd} (hx : ev σ x = .agg (encS a).toArray) (hy : ev σ y = .agg (encS b).toArray) :
    Runs Try.prog σ ⟨d, .binOp .eql 49 x y U, ty, pos, af, g⟩ w (.bool (decide (a = b))) w := by
  have h := feqSaid (d := 9997) (w := w) a b
  simp [Runs, execOp, hx, hy, run_eqGuard_agg (P := Try.prog) w .eql 49 x y _ _ (by kernel_rfl), run_eql_struct, h]

theorem R.neSaid {x y : Operand} {U : TypeId} {a b : Sd} (hx : ev σ x = .agg (encS a).toArray) (hy : ev σ y = .agg (encS b).toArray) :
    Runs Try.prog σ ⟨d, .binOp .neq 49 x y U, ty, pos, af, g⟩ w (.bool (decide (¬ (a = b)))) w := by
  have h := feqSaid (d := 9997) (w := w) a b
  simp [Runs, execOp, hx, hy, run_eqGuard_agg (P := Try.prog) w .neq 49 x y _ _ (by kernel_rfl), run_neq_struct, h]

theorem R.eqCell {x y : Operand} {U : TypeId} {a b : Cl} (hx : ev σ x = .agg (encC a).toArray) (hy : ev σ y = .agg (encC b).toArray) :
    Runs Try.prog σ ⟨d, .binOp .eql 58 x y U, ty, pos, af, g⟩ w (.bool (decide (a = b))) w := by
  have h := feqCell (d := 9996) (w := w) a b
  simp [Runs, execOp, hx, hy, run_eqGuard_agg (P := Try.prog) w .eql 58 x y _ _ (by kernel_rfl), run_eql_struct, h]

theorem R.neCell {x y : Operand} {U : TypeId} {a b : Cl} (hx : ev σ x = .agg (encC a).toArray) (hy : ev σ y = .agg (encC b).toArray) :
    Runs Try.prog σ ⟨d, .binOp .neq 58 x y U, ty, pos, af, g⟩ w (.bool (decide (¬ (a = b)))) w := by
  have h := feqCell (d := 9996) (w := w) a b
  simp [Runs, execOp, hx, hy, run_eqGuard_agg (P := Try.prog) w .neq 58 x y _ _ (by kernel_rfl), run_neq_struct, h]

theorem R.eqHeld {x y : Operand} {U : TypeId} {a b : Hd} (hx : ev σ x = .agg (encH a).toArray) (hy : ev σ y = .agg (encH b).toArray) :
    Runs Try.prog σ ⟨d, .binOp .eql 60 x y U, ty, pos, af, g⟩ w (.bool (decide (a = b))) w := by
  have h := feqHeld (d := 9995) (w := w) a b
  simp [Runs, execOp, hx, hy, run_eqGuard_agg (P := Try.prog) w .eql 60 x y _ _ (by kernel_rfl), run_eql_struct, h]

theorem R.neHeld {x y : Operand} {U : TypeId} {a b : Hd} (hx : ev σ x = .agg (encH a).toArray) (hy : ev σ y = .agg (encH b).toArray) :
    Runs Try.prog σ ⟨d, .binOp .neq 60 x y U, ty, pos, af, g⟩ w (.bool (decide (¬ (a = b)))) w := by
  have h := feqHeld (d := 9995) (w := w) a b
  simp [Runs, execOp, hx, hy, run_eqGuard_agg (P := Try.prog) w .neq 60 x y _ _ (by kernel_rfl), run_neq_struct, h]

theorem R.eqRHeld {x y : Operand} {U : TypeId} {a b : Hd} (hx : ev σ x = .agg (encH a).toArray) (hy : ev σ y = .agg (encH b).toArray) :
    Runs Try.prog σ ⟨d, .binOp .eql 202 x y U, ty, pos, af, g⟩ w (.bool (decide (a = b))) w := by
  have h := feqRHeld (d := 9995) (w := w) a b
  simp [Runs, execOp, hx, hy, run_eqGuard_agg (P := Try.prog) w .eql 202 x y _ _ (by kernel_rfl), run_eql_struct, h]

theorem R.neRHeld {x y : Operand} {U : TypeId} {a b : Hd} (hx : ev σ x = .agg (encH a).toArray) (hy : ev σ y = .agg (encH b).toArray) :
    Runs Try.prog σ ⟨d, .binOp .neq 202 x y U, ty, pos, af, g⟩ w (.bool (decide (¬ (a = b)))) w := by
  have h := feqRHeld (d := 9995) (w := w) a b
  simp [Runs, execOp, hx, hy, run_eqGuard_agg (P := Try.prog) w .neq 202 x y _ _ (by kernel_rfl), run_neq_struct, h]

end

end Go.Proofs.Ytckcldimnelklaa
