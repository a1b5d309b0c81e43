/- words.Copy (Clone, Clip): walks. -/
import Derived.Test.YtckcldimnelklaaW13c
import Derived.Test.YtckcldimnelklaaTC
import Derived.Test.YtckcldimnelklaaD13e
namespace Go.Proofs.Ytckcldimnelklaa
open Go
set_option linter.unusedVariables false
set_option linter.unusedSimpArgs false
set_option maxRecDepth 100000
set_option maxHeartbeats 4000000

theorem R.sliceNilT {P : Program} {σ : Nat → Value} {w : World} {d : Option Tmp} {ty : TypeId} {pos : String} {af : Array Edge} {g : Option (Nat × Bool)} {x y : Operand} {T U e : TypeId} {n c : Nat} {a : Option Addr} (hn : a.isNone = true) (hT : P.underlying T = some (.slice e)) (hx : ev σ x = .slice a n c) (hy : ev σ y = .slice none 0 0) :
    Runs P σ ⟨d, .binOp .eql T x y U, ty, pos, af, g⟩ w (.bool true) w := by
  have h := R.sliceNil (P := P) (σ := σ) (w := w) (d := d) (ty := ty) (pos := pos) (af := af) (g := g) (U := U) hT hx hy
  rw [hn] at h; exact h
theorem R.sliceNilF {P : Program} {σ : Nat → Value} {w : World} {d : Option Tmp} {ty : TypeId} {pos : String} {af : Array Edge} {g : Option (Nat × Bool)} {x y : Operand} {T U e : TypeId} {n c : Nat} {a : Option Addr} (hn : a.isNone = false) (hT : P.underlying T = some (.slice e)) (hx : ev σ x = .slice a n c) (hy : ev σ y = .slice none 0 0) :
    Runs P σ ⟨d, .binOp .eql T x y U, ty, pos, af, g⟩ w (.bool false) w := by
  have h := R.sliceNil (P := P) (σ := σ) (w := w) (d := d) (ty := ty) (pos := pos) (af := af) (g := g) (U := U) hT hx hy
  rw [hn] at h; exact h

theorem R.clip {P : Program} {σ : Nat → Value} {w : World} {d : Option Tmp} {ty : TypeId} {pos : String} {af : Array Edge} {g : Option (Nat × Bool)} {x y z : Operand} {T E : TypeId} {m n c : Nat} {a : Option Addr} (hU : P.underlying T = some (.slice E)) (hE : ∀ w, (sizeOf E).run P w = .ok m w)
    (hx : ev σ x = .slice a n c) (hy : ev σ y = .int .i64 ((n : Nat) : Int)) (hz : ev σ z = .int .i64 ((n : Nat) : Int)) (hc : n ≤ c) (ha : ∀ ad, a = some ad → ad.spot = none) :
    Runs P σ ⟨d, .slice T x none (some y) (some z), ty, pos, af, g⟩ w (.slice a n n) w := by
  have h1 : (0 : Int) ≤ n ∧ (n : Int) ≤ c := ⟨by omega, by omega⟩
  have e : (if n = 0 then a else a.map (·.add (0 * m))) = a := by
    split
    · rfl
    · cases a with
      | none => rfl
      | some ad =>
        have := ha ad rfl
        simp only [Option.map_some, Nat.zero_mul]
        rw [add_flat this]
        cases ad; simp_all
  have hr : (Instr.slice T (.slice a n c) none (some (.int .i64 ((n : Nat) : Int))) (some (.int .i64 ((n : Nat) : Int)))).run P w = .ok (.slice (if n = 0 then a else a.map (·.add (0 * m))) n n) w := by
    simp [Instr.slice, Instr.sliceBounds, Instr.sliceBound, asIntOf, run_underlying hU, hE, h1, hc]
  have hat : (Instr.sliceAt T (.slice a n c) none (some (.int .i64 ((n : Nat) : Int))) (some (.int .i64 ((n : Nat) : Int)))).run P w = .ok (.slice (if n = 0 then a else a.map (·.add (0 * m))) n n) w := by
    simp only [Instr.sliceAt, Sem.run_bind, run_underlying hU, Result.andThen]
    exact hr
  rw [e] at hat
  simp only [Runs, execOp, hx, hy, hz, Option.map_some, Option.map_none, Sem.run_bind, hat, Result.andThen, Sem.run_pure]

theorem clip13_ok (w : World) (a : Option Addr) (n c : Nat) (hc : n ≤ c) (ha : ∀ ad, a = some ad → ad.spot = none) :
    Ret Try.prog 112 [Value.slice a n c] w (fun v w' => v = Value.slice a n n ∧ St [] w w' []) := by
  have hs0 : St [] w w [] := St.start w
  refine enter (n := 9) Try.func112 rfl rfl rfl ?_
  refine WC.seq ?_
  refine WC.region ?_
  refine WL.val (R.assign (v := Value.slice none 0 0) rfl) rfl ?_
  refine WL.nil ?_
  refine thenN ?_
  refine WC.seq ?_
  refine WC.region ?_
  refine WL.val (R.move (v := Value.slice a n c) rfl) rfl ?_
  refine WL.val (R.move (v := Value.slice a n c) rfl) rfl ?_
  refine WL.val (R.len (a := a) (n := n) (c := c) un28 rfl) rfl ?_
  refine WL.val (R.move (v := Value.slice a n c) rfl) rfl ?_
  refine WL.val (R.len (a := a) (n := n) (c := c) un28 rfl) rfl ?_
  refine WL.val (R.clip (m := 56) (n := n) un28 ag60.size rfl rfl rfl hc ha) rfl ?_
  refine WL.val (R.assign (v := Value.slice a n n) rfl) rfl ?_
  refine WL.nil ?_
  refine thenN ?_
  refine WC.ret ?_
  exact ret1 (P := Try.prog) (n := 9) (fn := Try.f112) (R := fun v w' => v = Value.slice a n n ∧ St [] w w' []) (t := 2) (v := Value.slice a n n) rfl rfl rfl ⟨rfl, hs0⟩


theorem clone13t_ok (w : World) (ok : Nat → Prop) (p0 : List Hd) (a0 : Option Addr) (c0 : Nat) (he0 : elems heldW w ok a0 p0) (hc0 : p0.length ≤ c0) (hnn : a0.isNone = true) {r : (List Hd)} (h : clone13t p0 = some r) :
    Ret Try.prog 113 [Value.slice a0 p0.length c0] w (fun v w' => ∃ ra0, ∃ rc0, v = Value.slice ra0 r.length rc0 ∧ St [] w w' [gsl 60 heldE (Value.slice ra0 r.length rc0) r]) := by
  rw [clone13t] at h
  have hs100 : St [] w w [] := St.start w
  have he1000 := el0 (L0 := []) (fun b _ => out_nil b) he0
  refine enter (n := 8) Try.func113 rfl rfl rfl ?_
  refine WC.seq ?_
  refine WC.region ?_
  refine WL.val (R.assign (v := Value.slice none 0 0) rfl) rfl ?_
  refine WL.nil ?_
  refine thenN ?_
  refine WC.seq ?_
  refine WC.seq ?_
  refine WC.region ?_
  refine WL.val (R.move (v := Value.slice a0 p0.length c0) rfl) rfl ?_
  refine WL.val (R.sliceNilT hnn un28 rfl rfl) rfl ?_
  refine WL.nil ?_
  refine thenN ?_
  refine WC.condT rfl rfl ?_
  refine WC.seq ?_
  refine WC.region ?_
  refine WL.val (R.assign (v := Value.slice none 0 0) rfl) rfl ?_
  refine WL.nil ?_
  refine thenN ?_
  refine WC.ret ?_
  have ht102 := (hs100.here).addNil 60 heldE rfl
  have hs104 := hs100.trans ht102
  obtain rfl := Option.some.inj (show some ([] : List Hd) = some r from h)
  exact ret1 (P := Try.prog) (n := 8) (fn := Try.f113) (R := fun v w' => ∃ ra0, ∃ rc0, v = Value.slice ra0 ([] : List Hd).length rc0 ∧ St [] w w' [gsl 60 heldE (Value.slice ra0 ([] : List Hd).length rc0) ([] : List Hd)]) (t := 2) (v := Value.slice none (([] : List Hd).length) 0) rfl rfl rfl ⟨none, 0, rfl, hs104⟩

theorem clone13f_ok (w : World) (ok : Nat → Prop) (p0 : List Hd) (a0 : Option Addr) (c0 : Nat) (he0 : elems heldW w ok a0 p0) (hc0 : p0.length ≤ c0) (hnn : a0.isNone = false) {r : (List Hd)} (h : clone13 p0 = some r) :
    Ret Try.prog 113 [Value.slice a0 p0.length c0] w (fun v w' => ∃ ra0, ∃ rc0, v = Value.slice ra0 r.length rc0 ∧ St [] w w' [gsl 60 heldE (Value.slice ra0 r.length rc0) r]) := by
  rw [clone13] at h
  have hs100 : St [] w w [] := St.start w
  have he1000 := el0 (L0 := []) (fun b _ => out_nil b) he0
  refine enter (n := 8) Try.func113 rfl rfl rfl ?_
  refine WC.seq ?_
  refine WC.region ?_
  refine WL.val (R.assign (v := Value.slice none 0 0) rfl) rfl ?_
  refine WL.nil ?_
  refine thenN ?_
  refine WC.seq ?_
  refine WC.seq ?_
  refine WC.region ?_
  refine WL.val (R.move (v := Value.slice a0 p0.length c0) rfl) rfl ?_
  refine WL.val (R.sliceNilF hnn un28 rfl rfl) rfl ?_
  refine WL.nil ?_
  refine thenN ?_
  refine WC.condF rfl rfl ?_
  refine WC.skip ?_
  refine thenN ?_
  refine WC.seq ?_
  refine WC.region ?_
  have hd107 : ∀ w : World, (Instr.buildSlice 28 0 #[]).run Try.prog w = .ok (.slice (some ⟨w.heap.size, 0, none⟩) 0 0) { w with heap := w.heap.push (.cells (List.toArray []) 60) } := fun _ => by kernel_rfl
  refine WL.new (L' := fun b102 => [blk b102 60 []]) (f := fun b102 => Value.slice (some ⟨b102, 0, none⟩) 0 0) (X.buildSlice (c := []) (vs := []) (hs100.here) rfl hd107 (fun _ => rfl)) rfl ?_
  intro b102 w103 ht109 he105 hz106
  have hs110 := hs100.trans ht109
  refine WL.val (R.move (v := Value.slice a0 p0.length c0) rfl) rfl ?_
  have ht111 : St [blk b102 60 []] w103 w103 [gsl 60 heldE (Value.slice (some ⟨b102, 0, none⟩) ((([] : List Hd)).length) 0) ([] : List Hd)] := (hs110.here).conv (i := 0) rfl (arr_gsl (E := 60) (e := heldE) (xs := ([] : List Hd)) (hs110.heap (i := 0) rfl) (by decide)) (fun b hb => (Option.some.inj hb).symm) rfl
  have hs112 := hs110.trans ht111
  obtain ⟨hg113, h114⟩ := ckE (c := ([] : List Hd).length + p0.length < 1000000) h
  have hr115 := elT (ht109.trans ht111) he1000
  refine WL.grow (L' := fun v116 => [gsl 60 heldE v116 (([] : List Hd) ++ p0)]) (X.appendRd (k := heldW) (i := 0) (e := heldE) (xs := ([] : List Hd)) (ys := p0) (c := c0) (a := a0) (hs112.here) sl28 rfl rfl rfl rfl rfl (fun h => h.2) (fun _ => rfl) hr115 (roomR hg113 (by decide)) (roomR63 hg113) (fun _ => rfl)) rfl ?_
  intro v116 w117 ht118
  obtain ⟨a119, c120, hv121⟩ := gsl_sl (ht118.get (i := 0) rfl)
  subst hv121
  have hs122 := hs112.trans ht118
  refine WL.val (R.assign (v := Value.slice a119 ((([] : List Hd) ++ p0).length) c120) rfl) rfl ?_
  refine WL.nil ?_
  refine thenN ?_
  refine WC.ret ?_
  obtain rfl := Option.some.inj (show some (([] : List Hd) ++ p0) = some r from h114)
  exact ret1 (P := Try.prog) (n := 8) (fn := Try.f113) (R := fun v w' => ∃ ra0, ∃ rc0, v = Value.slice ra0 (([] : List Hd) ++ p0).length rc0 ∧ St [] w w' [gsl 60 heldE (Value.slice ra0 (([] : List Hd) ++ p0).length rc0) (([] : List Hd) ++ p0)]) (t := 2) (v := Value.slice a119 ((([] : List Hd) ++ p0).length) c120) rfl rfl rfl ⟨a119, c120, rfl, hs122⟩

theorem clone13_ok (w : World) (ok : Nat → Prop) (p0 : List Hd) (a0 : Option Addr) (c0 : Nat) (he0 : elems heldW w ok a0 p0) (hc0 : p0.length ≤ c0) {r : (List Hd)} (h : clone13 p0 = some r) :
    Ret Try.prog 113 [Value.slice a0 p0.length c0] w (fun v w' => ∃ ra0, ∃ rc0, v = Value.slice ra0 r.length rc0 ∧ St [] w w' [gsl 60 heldE (Value.slice ra0 r.length rc0) r]) := by
  cases hn : a0.isNone with
  | false => exact clone13f_ok w ok p0 a0 c0 he0 hc0 hn h
  | true =>
    have hp : p0 = [] := by
      cases p0 with
      | nil => rfl
      | cons x xs => obtain ⟨ad, e, h1, _⟩ := he0 0 x rfl; rw [h1] at hn; cases hn
    subst hp
    have hr : r = [] := by
      have : clone13 [] = some [] := by unfold clone13; rw [if_pos (by decide)]; rfl
      rw [this] at h; exact (Option.some.inj h).symm
    subst hr
    exact clone13t_ok w ok [] a0 c0 he0 hc0 hn rfl


theorem copy13_ok (w : World) (ok : Nat → Prop) (p0 : Rw) (a0 : Option Addr) (c0 : Nat) (he0 : elems heldW w ok a0 p0.table) (hc0 : p0.table.length ≤ c0) {r : Rw} (h : copy13 p0 = some r) :
    Ret Try.prog 68 [Value.agg (List.toArray (encR p0 (Value.slice a0 p0.table.length c0)))] w (fun v w' => ∃ ra0, ∃ rc0, v = Value.agg (List.toArray (encR r (Value.slice ra0 r.table.length rc0))) ∧ St [] w w' [gslC 60 heldE (Value.slice ra0 r.table.length rc0) r.table]) := by
  rw [copy13] at h
  have hs100 : St [] w w [] := St.start w
  have he1000 := el0 (L0 := []) (fun b _ => out_nil b) he0
  refine enter (n := 9) Try.func68 rfl rfl rfl ?_
  refine WC.seq ?_
  refine WC.region ?_
  refine WL.new (L' := fun b102 => [blk b102 62 (encR p0 (Value.slice a0 p0.table.length c0))]) (f := fun b102 => Value.pointer (some ⟨b102, 0, none⟩)) (X.box (v := Value.agg (List.toArray (encR p0 (Value.slice a0 p0.table.length c0)))) (c := encR p0 (Value.slice a0 p0.table.length c0)) (hs100.here) rfl rfl (fun _ => rfl)) rfl ?_
  intro b102 w103 ht108 he105 hz106
  have hs109 := hs100.trans ht108
  refine WL.new (L' := fun b110 => [blk b102 62 (encR p0 (Value.slice a0 p0.table.length c0)), blk b110 62 (encR Rw.none (Value.slice none 0 0))]) (f := fun b110 => Value.pointer (some ⟨b110, 0, none⟩)) (X.alloc (c := encR Rw.none (Value.slice none 0 0)) (hs109.here) zr62 rfl (fun _ => rfl)) rfl ?_
  intro b110 w111 ht116 he113 hz114
  have hs117 := hs109.trans ht116
  refine WL.nil ?_
  refine thenN ?_
  refine WC.seq ?_
  refine WC.region ?_
  refine WL.val (R.fieldAddr (o := 0) (o' := 56) fa62_2 rfl rfl) rfl ?_
  refine WL.val (R.loadL (v := Value.slice a0 p0.table.length c0) lf28 rfl (hs117.at (i := 0) (off := 56) (n := 1) (cs := [Value.slice a0 p0.table.length c0]) rfl rfl rfl)) rfl ?_
  obtain ⟨y118, hx119, h120⟩ := ob (o := clone13 p0.table) h
  have hr121 := elT (ht108.trans ht116) he1000
  refine WL.call (clone13_ok _ _ p0.table _ _ hr121 hc0 hx119) (R.call (vs := [Value.slice a0 p0.table.length c0]) (caps := []) bo113 rfl rfl) rfl ?_
  rintro v126 w127 ⟨a124, c125, rfl, ht122⟩
  have ht123 := hs117.call (N := [blk b102 62 (encR p0 (Value.slice a0 p0.table.length c0)), blk b110 62 (encR Rw.none (Value.slice none 0 0))]) (M := []) (List.Perm.refl _) ht122
  have hs129 := hs117.trans ht123
  obtain ⟨hc130, ha131⟩ := clip_of (hs129.get (i := 0) rfl)
  refine WL.call (clip13_ok _ _ _ _ hc130 ha131) (R.call (vs := [Value.slice a124 y118.length c125]) (caps := []) bo112 rfl rfl) rfl ?_
  rintro v135 w136 ⟨rfl, ht132⟩
  have ht133 := hs129.call (N := [gsl 60 heldE (Value.slice a124 y118.length c125) y118, blk b102 62 (encR p0 (Value.slice a0 p0.table.length c0)), blk b110 62 (encR Rw.none (Value.slice none 0 0))]) (M := []) (List.Perm.refl _) ht132
  have hs137 := hs129.trans ht133
  have ht134 : St [gsl 60 heldE (Value.slice a124 y118.length c125) y118, blk b102 62 (encR p0 (Value.slice a0 p0.table.length c0)), blk b110 62 (encR Rw.none (Value.slice none 0 0))] w136 w136 [gslC 60 heldE (Value.slice a124 y118.length y118.length) y118, blk b102 62 (encR p0 (Value.slice a0 p0.table.length c0)), blk b110 62 (encR Rw.none (Value.slice none 0 0))] := (hs137.here).conv (i := 0) rfl (gslC_of (hs137.get (i := 0) rfl)) gslC_F rfl
  have hs138 := hs137.trans ht134
  refine WL.val (R.fieldAddr (o := 0) (o' := 56) fa62_2 rfl rfl) rfl ?_
  refine WL.sto (L' := [gslC 60 heldE (Value.slice a124 y118.length y118.length) y118, blk b102 62 ((Value.bool p0.is) :: ((encC p0.cell) ++ ((Value.slice a124 y118.length y118.length) :: []))), blk b110 62 (encR Rw.none (Value.slice none 0 0))]) (X.store (i := 1) (n := 1) (b := b102) (off := 56) (c := encR p0 (Value.slice a0 p0.table.length c0)) (U := 62) (vs := [Value.slice a124 y118.length y118.length]) (v := Value.slice a124 y118.length y118.length) (c' := (Value.bool p0.is) :: ((encC p0.cell) ++ ((Value.slice a124 y118.length y118.length) :: []))) (hs138.here) rfl lf28.size rfl rfl rfl rfl rfl rfl rfl rfl) rfl rfl ?_
  intro w139 ht140
  have hs141 := hs138.trans ht140
  refine WL.nil ?_
  refine thenN ?_
  refine WC.seq ?_
  refine WC.region ?_
  refine WL.val (R.loadA (cs := (Value.bool p0.is) :: ((encC p0.cell) ++ ((Value.slice a124 y118.length y118.length) :: []))) (n := 57) ag62 rfl (hs141.at (i := 1) (off := 0) (n := 57) (cs := (Value.bool p0.is) :: ((encC p0.cell) ++ ((Value.slice a124 y118.length y118.length) :: []))) rfl rfl rfl) rfl) rfl ?_
  refine WL.sto (L' := [gslC 60 heldE (Value.slice a124 y118.length y118.length) y118, blk b102 62 ((Value.bool p0.is) :: ((encC p0.cell) ++ ((Value.slice a124 y118.length y118.length) :: []))), blk b110 62 ((Value.bool p0.is) :: ((encC p0.cell) ++ ((Value.slice a124 y118.length y118.length) :: [])))]) (X.store (i := 2) (n := 57) (b := b110) (off := 0) (c := encR Rw.none (Value.slice none 0 0)) (U := 62) (vs := (Value.bool p0.is) :: ((encC p0.cell) ++ ((Value.slice a124 y118.length y118.length) :: []))) (v := Value.agg (List.toArray ((Value.bool p0.is) :: ((encC p0.cell) ++ ((Value.slice a124 y118.length y118.length) :: []))))) (c' := (Value.bool p0.is) :: ((encC p0.cell) ++ ((Value.slice a124 y118.length y118.length) :: []))) (hs141.here) rfl ag62.size rfl rfl rfl rfl rfl rfl rfl rfl) rfl rfl ?_
  intro w142 ht143
  have hs144 := hs141.trans ht143
  refine WL.nil ?_
  refine thenN ?_
  refine WC.ret ?_
  have hl145 := run_loadA (P := Try.prog) (n := 57) ag62 (hs144.at (i := 2) (off := 0) (n := 57) (cs := (Value.bool p0.is) :: ((encC p0.cell) ++ ((Value.slice a124 y118.length y118.length) :: []))) rfl rfl rfl) rfl
  have ht146 := (hs144.here).perm (L' := [gslC 60 heldE (Value.slice a124 y118.length y118.length) y118]) (G := [blk b102 62 ((Value.bool p0.is) :: ((encC p0.cell) ++ ((Value.slice a124 y118.length y118.length) :: []))), blk b110 62 ((Value.bool p0.is) :: ((encC p0.cell) ++ ((Value.slice a124 y118.length y118.length) :: [])))]) ((List.Perm.refl _))
  have hs147 := hs144.trans ht146
  obtain rfl := Option.some.inj (show some (⟨p0.is, p0.cell, y118⟩ : Rw) = some r from h120)
  exact retCell (P := Try.prog) (n := 9) (fn := Try.f68) (R := fun v w' => ∃ ra0, ∃ rc0, v = Value.agg (List.toArray (encR (⟨p0.is, p0.cell, y118⟩ : Rw) (Value.slice ra0 (⟨p0.is, p0.cell, y118⟩ : Rw).table.length rc0))) ∧ St [] w w' [gslC 60 heldE (Value.slice ra0 (⟨p0.is, p0.cell, y118⟩ : Rw).table.length rc0) (⟨p0.is, p0.cell, y118⟩ : Rw).table]) (t := 2) (v := Value.agg (List.toArray ((Value.bool p0.is) :: ((encC p0.cell) ++ ((Value.slice a124 y118.length y118.length) :: []))))) rfl rfl rfl hl145 ⟨a124, y118.length, rfl, hs147⟩

end Go.Proofs.Ytckcldimnelklaa
