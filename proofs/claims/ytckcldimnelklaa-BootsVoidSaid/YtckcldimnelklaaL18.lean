/- The laws of the package boots: their walks. -/
import Derived.Test.YtckcldimnelklaaB1
namespace Go.Proofs.Ytckcldimnelklaa
open Go
set_option linter.unusedVariables false
set_option linter.unusedSimpArgs false
set_option maxRecDepth 100000
set_option maxHeartbeats 4000000

/-- What the program's state and the reference's have to do with one another. -/
structure R18 (p : Pw) (r : Rp) : Prop where
  made : p.made = true
  ok : p.ok
  b : r.boot = p.boot
  r0 : 0 ≤ r.run
  h0 : p.state = 0 → r.run = 0
  h1 : p.state = 1 → 0 < r.run ∧ r.run ≤ p.boot ∧ p.left = p.boot - r.run
  h2 : p.state = 2 → p.boot < r.run ∧ p.cold = min (r.run - 1 - p.boot) 1099511627776

theorem R18.start {boot : Int} (h : 0 ≤ boot ∧ boot ≤ 4096) : R18 ⟨true, boot, 0, 0, 0⟩ ⟨boot, 0⟩ :=
  ⟨rfl, ⟨h.1, h.2, by show (0 : Int) ≤ 0; decide, by show (0 : Int) ≤ 4096; decide, by show (-1 : Int) ≤ 0; decide, by show (0 : Int) ≤ 1099511627776; decide, .inl rfl⟩, rfl, by show (0 : Int) ≤ 0; decide, fun _ => rfl, fun h => absurd h (by show ¬ ((0 : Int) = 1); decide), fun h => absurd h (by show ¬ ((0 : Int) = 2); decide)⟩

theorem R18.step {p : Pw} {r : Rp} (h : R18 p r) (c : Bool) :
    R18 (p.tick c) (r.tick c) ∧ (p.tick c).state = (r.tick c).state c ∧ (p.tick c).told = (r.tick c).told c ∧ 0 ≤ (p.tick c).state ∧ (p.tick c).state ≤ 2 ∧ (r.tick c).run ≤ r.run + 1 := by
  obtain ⟨made, ok, b, r0, h0, h1, h2⟩ := h
  obtain ⟨k1, k2, k3, k4, k5, k6, k7⟩ := id ok
  have hok := Pw.tick_ok ok c
  cases c with
  | false =>
    refine ⟨⟨made, hok, b, (Int.le_refl 0), fun _ => rfl, fun h => absurd h (by show ¬ ((0 : Int) = 1); decide), fun h => absurd h (by show ¬ ((0 : Int) = 2); decide)⟩, rfl, rfl, Int.le_refl 0, ?_, ?_⟩
    · show (0 : Int) ≤ 2; decide
    · show (0 : Int) ≤ r.run + 1; omega
  | true =>
    have e : p.tick true = p.run := rfl
    have er : r.tick true = ⟨r.boot, r.run + 1⟩ := rfl
    rw [e] at hok ⊢; rw [er]
    rcases k7 with s | s | s
    · have hr := h0 s
      by_cases hl : 0 < p.boot
      · have e2 : p.run = { p with state := 1, left := p.boot - 1 } := by simp [Pw.run, Pw.lf, s, hl]
        rw [e2] at hok ⊢
        refine ⟨⟨made, hok, b, by show 0 ≤ r.run + 1; omega, fun h => absurd h (by show ¬ ((1 : Int) = 0); decide), fun _ => ⟨by show 0 < r.run + 1; omega, by show r.run + 1 ≤ p.boot; omega, by show p.boot - 1 = p.boot - (r.run + 1); omega⟩, fun h => absurd h (by show ¬ ((1 : Int) = 2); decide)⟩, ?_, ?_, by show (0 : Int) ≤ 1; decide, by show (1 : Int) ≤ 2; decide, Int.le_refl _⟩
        · simp [Rp.state, b]; omega
        · simp [Rp.told, Pw.told, b]; omega
      · have e2 : p.run = { p with state := 2, left := p.boot, cold := 0 } := by simp [Pw.run, Pw.lf, s, hl]
        rw [e2] at hok ⊢
        refine ⟨⟨made, hok, b, by show 0 ≤ r.run + 1; omega, fun h => absurd h (by show ¬ ((2 : Int) = 0); decide), fun h => absurd h (by show ¬ ((2 : Int) = 1); decide), fun _ => ⟨by show p.boot < r.run + 1; omega, by show (0 : Int) = min (r.run + 1 - 1 - p.boot) 1099511627776; omega⟩⟩, ?_, ?_, by show (0 : Int) ≤ 2; decide, by show (2 : Int) ≤ 2; decide, Int.le_refl _⟩
        · simp [Rp.state, b]; omega
        · simp [Rp.told, Pw.told, b]; omega
    · obtain ⟨q1, q2, q3⟩ := h1 s
      by_cases hl : 0 < p.left
      · have e2 : p.run = { p with state := 1, left := p.left - 1 } := by simp [Pw.run, Pw.lf, s, hl]
        rw [e2] at hok ⊢
        refine ⟨⟨made, hok, b, by show 0 ≤ r.run + 1; omega, fun h => absurd h (by show ¬ ((1 : Int) = 0); decide), fun _ => ⟨by show 0 < r.run + 1; omega, by show r.run + 1 ≤ p.boot; omega, by show p.left - 1 = p.boot - (r.run + 1); omega⟩, fun h => absurd h (by show ¬ ((1 : Int) = 2); decide)⟩, ?_, ?_, by show (0 : Int) ≤ 1; decide, by show (1 : Int) ≤ 2; decide, Int.le_refl _⟩
        · simp [Rp.state, b]; omega
        · simp [Rp.told, Pw.told, b]; omega
      · have e2 : p.run = { p with state := 2, left := p.left, cold := 0 } := by simp [Pw.run, Pw.lf, s, hl]
        rw [e2] at hok ⊢
        refine ⟨⟨made, hok, b, by show 0 ≤ r.run + 1; omega, fun h => absurd h (by show ¬ ((2 : Int) = 0); decide), fun h => absurd h (by show ¬ ((2 : Int) = 1); decide), fun _ => ⟨by show p.boot < r.run + 1; omega, by show (0 : Int) = min (r.run + 1 - 1 - p.boot) 1099511627776; omega⟩⟩, ?_, ?_, by show (0 : Int) ≤ 2; decide, by show (2 : Int) ≤ 2; decide, Int.le_refl _⟩
        · simp [Rp.state, b]; omega
        · simp [Rp.told, Pw.told, b]; omega
    · obtain ⟨q1, q2⟩ := h2 s
      have e2 : p.run = { p with cold := min (p.cold + 1) 1099511627776 } := by simp [Pw.run, s]
      rw [e2] at hok ⊢
      refine ⟨⟨made, hok, b, by show 0 ≤ r.run + 1; omega, fun h => absurd (h.symm.trans s) (by decide), fun h => absurd (h.symm.trans s) (by decide), fun _ => ⟨by show p.boot < r.run + 1; omega, by show min (p.cold + 1) 1099511627776 = min (r.run + 1 - 1 - p.boot) 1099511627776; omega⟩⟩, ?_, ?_, by show (0 : Int) ≤ p.state; omega, by show p.state ≤ 2; omega, Int.le_refl _⟩
      · simp [Rp.state, b, s]; omega
      · simp [Rp.told, Pw.told, b, s]; omega

theorem R18.early {p : Pw} {r : Rp} (h : R18 p r) (hj : r.run < r.boot) : (p.tick true).state = 1 ∧ (p.tick true).told = -1 := by
  obtain ⟨-, hs, ht, -⟩ := h.step true
  rw [hs, ht]
  simp [Rp.state, Rp.told, Rp.tick]; omega
theorem R18.late {p : Pw} {r : Rp} (h : R18 p r) (hj : r.boot ≤ r.run) (hr : r.run ≤ 1000000) (hb : 0 ≤ r.boot) : (p.tick true).state = 2 ∧ (p.tick true).told = r.run - r.boot := by
  obtain ⟨-, hs, ht, -⟩ := h.step true
  rw [hs, ht]
  simp [Rp.state, Rp.told, Rp.tick]; omega
theorem Rp.tick_true (b : Int) (j : Nat) : (⟨b, ((j : Nat) : Int)⟩ : Rp).tick true = ⟨b, ((j + 1 : Nat) : Int)⟩ := by simp [Rp.tick]

theorem void18 (w : World) (c : Bool) :
    Ret Try.prog 10 [.bool c] w fun v w' => v = .bool true ∧ Ext w w' := by
  have hs0 : St [] w w [] := St.start w
  refine enter (n := 29) Try.func10 rfl rfl rfl ?_
  refine WC.seq ?_
  refine WC.region ?_
  refine WL.val (R.assign (v := .bool false) rfl) rfl ?_
  refine WL.nil ?_
  refine thenN ?_
  refine WC.seq ?_
  refine WC.region ?_
  refine WL.new (L' := fun b1 => [blk b1 123 (encP Pw.none)]) (f := fun b1 => .pointer (some ⟨b1, 0, none⟩)) (X.alloc (c := encP Pw.none) hs0 zr123 rfl (fun _ => rfl)) rfl ?_
  intro b1 w2 hs3 he4 hz5
  refine WL.nil ?_
  refine thenN ?_
  refine WC.seq ?_
  refine WC.region ?_
  have hd12 : ∀ w : World, (Instr.buildSlice 124 2 #[(0, .pointer none), (1, .pointer (some ⟨b1, 0, none⟩))]).run Try.prog w = .ok (.slice (some ⟨w.heap.size, 0, none⟩) 2 2) { w with heap := w.heap.push (.cells (List.toArray [.pointer none, .pointer (some ⟨b1, 0, none⟩)]) 87) } := fun _ => by kernel_rfl
  refine WL.new (L' := fun b7 => [blk b1 123 (encP Pw.none), blk b7 87 [.pointer none, .pointer (some ⟨b1, 0, none⟩)]]) (f := fun b7 => .slice (some ⟨b7, 0, none⟩) 2 2) (X.buildSlice (c := [.pointer none, .pointer (some ⟨b1, 0, none⟩)]) (vs := [(0, .pointer none), (1, .pointer (some ⟨b1, 0, none⟩))]) hs3 rfl hd12 (fun _ => rfl)) rfl ?_
  intro b7 w8 hs9 he10 hz11
  refine WL.val (R.assign (v := .slice (some ⟨b7, 0, none⟩) 2 2) rfl) rfl ?_
  refine WL.nil ?_
  refine thenN ?_
  refine WC.seq ?_
  refine WC.seq ?_
  refine WC.region ?_
  refine WL.val (R.assign (v := .int .i64 0) rfl) rfl ?_
  refine WL.nil ?_
  refine thenN ?_
  refine WC.block ?_
  refine WC.loop (T := Nat) (fun k σ wl => σ 0 = (.bool c) ∧ σ 4 = (.slice (some ⟨b7, 0, none⟩) 2 2) ∧ σ 5 = (.int .i64 ((k : Nat) : Int)) ∧ k ≤ 2 ∧ St [] w wl [blk b1 123 (encP Pw.none), blk b7 87 [.pointer none, .pointer (some ⟨b1, 0, none⟩)]]) (fun k => 3 - k) (0) ⟨rfl, rfl, rfl, (by decide), hs9⟩ ?_
  rintro k σ14 w15 ⟨s16, s17, s18, hk, hs19⟩
  rcases (show k = 0 ∨ k = 1 ∨ k = 2 by omega) with rfl | rfl | rfl
  · refine WC.seq ?_
    refine WC.seq ?_
    refine WC.region ?_
    refine WL.val (R.move (v := .int .i64 ((0 : Nat) : Int)) s18) rfl ?_
    refine WL.val (R.lssT (k := .i64) (a := ((0 : Nat) : Int)) (b := 2) un3 rfl rfl (by decide)) rfl ?_
    refine WL.nil ?_
    refine thenN ?_
    refine WC.condT rfl rfl ?_
    refine WC.skip ?_
    refine thenN ?_
    refine WC.seq ?_
    refine WC.block ?_
    refine WC.seq ?_
    refine WC.region ?_
    refine WL.val (R.move (v := .slice (some ⟨b7, 0, none⟩) 2 2) s17) rfl ?_
    refine WL.val (R.move (v := .int .i64 ((0 : Nat) : Int)) s18) rfl ?_
    refine WL.val (R.indexS (n := 1) (m := 0) (ad := ⟨b7, 0, none⟩) (len := 2) (cap := 2) (z := ((0 : Nat) : Int)) un124 lf87.size rfl rfl rfl rfl (by decide) rfl) rfl ?_
    refine WL.val (R.loadL (v := .pointer none) lf87 rfl (hs19.at (i := 1) (off := 0) (n := 1) (cs := [.pointer none]) rfl rfl rfl)) rfl ?_
    refine WL.val (R.move (v := .bool c) s16) rfl ?_
    refine WL.call (stepNil18 _ c) (R.call (vs := [.pointer none, .bool c]) (caps := []) bo52 rfl rfl) rfl ?_
    rintro v21 w22 ⟨rfl, he20⟩
    have hs23 := hs19.ext he20
    refine WL.val (R.move (v := .tuple #[.int .u8 0, .int .i64 (-1)]) rfl) rfl ?_
    refine WL.val (R.extract (v := .int .u8 0) rfl rfl) rfl ?_
    refine WL.val (R.extract (v := .int .i64 (-1)) rfl rfl) rfl ?_
    refine WL.val (R.assign (v := .int .u8 0) rfl) rfl ?_
    refine WL.val (R.assign (v := .int .i64 (-1)) rfl) rfl ?_
    refine WL.nil ?_
    refine thenN ?_
    refine WC.seq ?_
    refine WC.region ?_
    refine WL.val (R.move (v := .int .u8 0) rfl) rfl ?_
    refine WL.val (R.neqF (k := .u8) (a := 0) (b := 0) un93 rfl rfl (by decide)) rfl ?_
    refine WL.val (R.move (v := .bool false) rfl) rfl ?_
    refine WL.guardY (e := 24) rfl rfl rfl ?_
    refine WL.val (R.move (v := .int .i64 (-1)) rfl) rfl ?_
    refine WL.guardY (e := 24) rfl rfl rfl ?_
    refine WL.val (R.neqF (k := .i64) (a := -1) (b := -1) un2 rfl rfl (by decide)) rfl ?_
    refine WL.val (R.pickF (v := .bool false) rfl rfl) rfl ?_
    refine WL.nil ?_
    refine thenN ?_
    refine WC.condF rfl rfl ?_
    refine WC.skip ?_
    refine blockN ?_
    refine thenN ?_
    refine WC.region ?_
    refine WL.val (R.move (v := .int .i64 ((0 : Nat) : Int)) s18) rfl ?_
    refine WL.val (R.add (a := ((0 : Nat) : Int)) (b := 1) (z := ((0 + 1 : Nat) : Int)) rfl rfl (w64e (by omega) (by omega) (by omega))) rfl ?_
    refine WL.val (R.assign (v := .int .i64 ((0 + 1 : Nat) : Int)) rfl) rfl ?_
    refine WL.nil ?_
    exact roundEnd (s := 1) ⟨s16, s17, rfl, (by decide), hs23⟩ (by decide)
  · refine WC.seq ?_
    refine WC.seq ?_
    refine WC.region ?_
    refine WL.val (R.move (v := .int .i64 ((1 : Nat) : Int)) s18) rfl ?_
    refine WL.val (R.lssT (k := .i64) (a := ((1 : Nat) : Int)) (b := 2) un3 rfl rfl (by decide)) rfl ?_
    refine WL.nil ?_
    refine thenN ?_
    refine WC.condT rfl rfl ?_
    refine WC.skip ?_
    refine thenN ?_
    refine WC.seq ?_
    refine WC.block ?_
    refine WC.seq ?_
    refine WC.region ?_
    refine WL.val (R.move (v := .slice (some ⟨b7, 0, none⟩) 2 2) s17) rfl ?_
    refine WL.val (R.move (v := .int .i64 ((1 : Nat) : Int)) s18) rfl ?_
    refine WL.val (R.indexS (n := 1) (m := 1) (ad := ⟨b7, 0, none⟩) (len := 2) (cap := 2) (z := ((1 : Nat) : Int)) un124 lf87.size rfl rfl rfl rfl (by decide) rfl) rfl ?_
    refine WL.val (R.loadL (v := .pointer (some ⟨b1, 0, none⟩)) lf87 rfl (hs19.at (i := 1) (off := 1) (n := 1) (cs := [.pointer (some ⟨b1, 0, none⟩)]) rfl rfl rfl)) rfl ?_
    refine WL.val (R.move (v := .bool c) s16) rfl ?_
    refine WL.call (stepNone18 _ b1 c (hs19.heap (i := 0) rfl)) (R.call (vs := [.pointer (some ⟨b1, 0, none⟩), .bool c]) (caps := []) bo52 rfl rfl) rfl ?_
    rintro v25 w26 ⟨rfl, he24⟩
    have hs27 := hs19.ext he24
    refine WL.val (R.move (v := .tuple #[.int .u8 0, .int .i64 (-1)]) rfl) rfl ?_
    refine WL.val (R.extract (v := .int .u8 0) rfl rfl) rfl ?_
    refine WL.val (R.extract (v := .int .i64 (-1)) rfl rfl) rfl ?_
    refine WL.val (R.assign (v := .int .u8 0) rfl) rfl ?_
    refine WL.val (R.assign (v := .int .i64 (-1)) rfl) rfl ?_
    refine WL.nil ?_
    refine thenN ?_
    refine WC.seq ?_
    refine WC.region ?_
    refine WL.val (R.move (v := .int .u8 0) rfl) rfl ?_
    refine WL.val (R.neqF (k := .u8) (a := 0) (b := 0) un93 rfl rfl (by decide)) rfl ?_
    refine WL.val (R.move (v := .bool false) rfl) rfl ?_
    refine WL.guardY (e := 24) rfl rfl rfl ?_
    refine WL.val (R.move (v := .int .i64 (-1)) rfl) rfl ?_
    refine WL.guardY (e := 24) rfl rfl rfl ?_
    refine WL.val (R.neqF (k := .i64) (a := -1) (b := -1) un2 rfl rfl (by decide)) rfl ?_
    refine WL.val (R.pickF (v := .bool false) rfl rfl) rfl ?_
    refine WL.nil ?_
    refine thenN ?_
    refine WC.condF rfl rfl ?_
    refine WC.skip ?_
    refine blockN ?_
    refine thenN ?_
    refine WC.region ?_
    refine WL.val (R.move (v := .int .i64 ((1 : Nat) : Int)) s18) rfl ?_
    refine WL.val (R.add (a := ((1 : Nat) : Int)) (b := 1) (z := ((1 + 1 : Nat) : Int)) rfl rfl (w64e (by omega) (by omega) (by omega))) rfl ?_
    refine WL.val (R.assign (v := .int .i64 ((1 + 1 : Nat) : Int)) rfl) rfl ?_
    refine WL.nil ?_
    exact roundEnd (s := 2) ⟨s16, s17, rfl, (by decide), hs27⟩ (by decide)
  · refine WC.seq ?_
    refine WC.seq ?_
    refine WC.region ?_
    refine WL.val (R.move (v := .int .i64 ((2 : Nat) : Int)) s18) rfl ?_
    refine WL.val (R.lssF (k := .i64) (a := ((2 : Nat) : Int)) (b := 2) un3 rfl rfl (by decide)) rfl ?_
    refine WL.nil ?_
    refine thenN ?_
    refine WC.condF rfl rfl ?_
    refine WC.exit ?_
    refine thenE ?_
    refine thenE ?_
    refine blockHit ?_
    refine thenN ?_
    refine WC.seq ?_
    refine WC.region ?_
    refine WL.call (lives18 _) (R.call (vs := []) (caps := []) bo49 rfl rfl) rfl ?_
    rintro v29 w30 ⟨rfl, he28⟩
    have hs31 := hs19.ext he28
    refine WL.val (R.assign (v := .bool true) rfl) rfl ?_
    refine WL.nil ?_
    refine thenN ?_
    refine WC.ret ?_
    exact ret1 (P := Try.prog) (n := 29) (fn := Try.f10) (R := fun v w' => v = .bool true ∧ Ext w w') (t := 2) (v := .bool true) rfl rfl rfl ⟨rfl, hs31.kept⟩

theorem play18 (w : World) (boot : Int) (ok : Nat → Prop) (a : Option Addr) (c : Nat) (ps : List Bool) (hel : elems boolK w ok a ps) (hn : ps.length ≤ 9223372036854775807) :
    Ret Try.prog 8 [.int .i64 boot, .slice a ps.length c] w fun v w' => v = .bool true ∧ Ext w w' := by
  have hs0 : St [] w w [] := St.start w
  refine enter (n := 72) Try.func8 rfl rfl rfl ?_
  refine WC.seq ?_
  refine WC.region ?_
  refine WL.val (R.assign (v := .bool false) rfl) rfl ?_
  refine WL.nil ?_
  refine thenN ?_
  refine WC.seq ?_
  refine WC.seq ?_
  refine WC.region ?_
  refine WL.val (R.move (v := .slice a ps.length c) rfl) rfl ?_
  refine WL.val (R.len (a := a) (n := ps.length) (c := c) un85 rfl) rfl ?_
  by_cases hc1 : 6000 < ((ps.length : Nat) : Int)
  · refine WL.val (R.gtrT (k := .i64) (a := ((ps.length : Nat) : Int)) (b := 6000) un3 rfl rfl hc1) rfl ?_
    refine WL.nil ?_
    refine thenN ?_
    refine WC.condT rfl rfl ?_
    refine WC.seq ?_
    refine WC.region ?_
    refine WL.call (lives18 _) (R.call (vs := []) (caps := []) bo49 rfl rfl) rfl ?_
    rintro v3 w4 ⟨rfl, he2⟩
    have hs5 := hs0.ext he2
    refine WL.val (R.assign (v := .bool true) rfl) rfl ?_
    refine WL.nil ?_
    refine thenN ?_
    refine WC.ret ?_
    exact ret1 (P := Try.prog) (n := 72) (fn := Try.f8) (R := fun v w' => v = .bool true ∧ Ext w w') (t := 4) (v := .bool true) rfl rfl rfl ⟨rfl, hs5.kept⟩
  · refine WL.val (R.gtrF (k := .i64) (a := ((ps.length : Nat) : Int)) (b := 6000) un3 rfl rfl hc1) rfl ?_
    refine WL.nil ?_
    refine thenN ?_
    refine WC.condF rfl rfl ?_
    refine WC.skip ?_
    refine thenN ?_
    refine WC.seq ?_
    refine WC.region ?_
    refine WL.val (R.move (v := .int .i64 boot) rfl) rfl ?_
    refine WL.call (new18 _ boot) (R.call (vs := [.int .i64 boot]) (caps := []) bo50 rfl rfl) rfl ?_
    rintro v8 w9 ⟨hn6, hv7⟩
    rcases Classical.em (0 ≤ boot ∧ boot ≤ 4096) with hin | hout
    · obtain ⟨b10, rfl, he11, hz12, hb13⟩ := hn6 hin
      have hs14 : St [] w w9 [blk b10 123 (encP (⟨true, boot, 0, 0, 0⟩))] := hs0.addBlk he11 hb13 hz12
      refine WL.val (R.move (v := .tuple #[.pointer (some ⟨b10, 0, none⟩), .int .i64 0]) rfl) rfl ?_
      refine WL.val (R.extract (v := .pointer (some ⟨b10, 0, none⟩)) rfl rfl) rfl ?_
      refine WL.val (R.extract (v := .int .i64 0) rfl rfl) rfl ?_
      refine WL.val (R.assign (v := .pointer (some ⟨b10, 0, none⟩)) rfl) rfl ?_
      refine WL.val (R.assign (v := .int .i64 0) rfl) rfl ?_
      refine WL.nil ?_
      refine thenN ?_
      refine WC.seq ?_
      refine WC.region ?_
      refine WL.val (R.move (v := .int .i64 boot) rfl) rfl ?_
      refine WL.call (rnew18 _ boot) (R.call (vs := [.int .i64 boot]) (caps := []) bo51 rfl rfl) rfl ?_
      rintro v18 w19 ⟨hn16, hv17⟩
      obtain ⟨b20, rfl, he21, hz22, hb23⟩ := hn16 hin
      have hs24 : St [] w w19 [blk b10 123 (encP (⟨true, boot, 0, 0, 0⟩)), blk b20 230 (encRP (⟨boot, 0⟩))] := hs14.addBlk he21 hb23 hz22
      refine WL.val (R.move (v := .tuple #[.pointer (some ⟨b20, 0, none⟩), .int .i64 0]) rfl) rfl ?_
      refine WL.val (R.extract (v := .pointer (some ⟨b20, 0, none⟩)) rfl rfl) rfl ?_
      refine WL.val (R.extract (v := .int .i64 0) rfl rfl) rfl ?_
      refine WL.val (R.assign (v := .pointer (some ⟨b20, 0, none⟩)) rfl) rfl ?_
      refine WL.val (R.assign (v := .int .i64 0) rfl) rfl ?_
      refine WL.nil ?_
      refine thenN ?_
      refine WC.seq ?_
      refine WC.seq ?_
      refine WC.region ?_
      refine WL.val (R.move (v := .int .i64 0) rfl) rfl ?_
      refine WL.val (R.move (v := .int .i64 0) rfl) rfl ?_
      refine WL.val (R.neqF (k := .i64) (a := 0) (b := 0) un66 rfl rfl (by decide)) rfl ?_
      refine WL.nil ?_
      refine thenN ?_
      refine WC.condF rfl rfl ?_
      refine WC.skip ?_
      refine thenN ?_
      refine WC.seq ?_
      refine WC.seq ?_
      refine WC.region ?_
      refine WL.val (R.move (v := .int .i64 0) rfl) rfl ?_
      refine WL.val (R.neqF (k := .i64) (a := 0) (b := 0) un66 rfl rfl (by decide)) rfl ?_
      refine WL.nil ?_
      refine thenN ?_
      refine WC.condF rfl rfl ?_
      refine WC.skip ?_
      refine thenN ?_
      refine WC.seq ?_
      refine WC.seq ?_
      refine WC.region ?_
      refine WL.val (R.assign (v := .int .i64 0) rfl) rfl ?_
      refine WL.nil ?_
      refine thenN ?_
      refine WC.block ?_
      refine WC.loop (T := Nat) (fun k σ wl => ∃ p, ∃ r, σ 0 = (.int .i64 boot) ∧ σ 1 = (.slice a ps.length c) ∧ σ 5 = (.pointer (some ⟨b10, 0, none⟩)) ∧ σ 7 = (.pointer (some ⟨b20, 0, none⟩)) ∧ σ 9 = (.int .i64 ((k : Nat) : Int)) ∧ R18 p r ∧ r.run ≤ ((k : Nat) : Int) ∧ St [] w wl [blk b10 123 (encP p), blk b20 230 (encRP r)]) (fun k => ps.length - k) (0) ⟨_, _, rfl, rfl, rfl, rfl, rfl, R18.start hin, (by show (0 : Int) ≤ 0; decide), hs24⟩ ?_
      rintro k σ26 w27 ⟨p, r, s28, s29, s30, s31, s32, hrel, hrun, hs33⟩
      refine WC.seq ?_
      refine WC.seq ?_
      refine WC.region ?_
      refine WL.val (R.move (v := .int .i64 ((k : Nat) : Int)) s32) rfl ?_
      refine WL.val (R.move (v := .slice a ps.length c) s29) rfl ?_
      refine WL.val (R.len (a := a) (n := ps.length) (c := c) un85 rfl) rfl ?_
      by_cases hc34 : ((k : Nat) : Int) < ((ps.length : Nat) : Int)
      · refine WL.val (R.lssT (k := .i64) (a := ((k : Nat) : Int)) (b := ((ps.length : Nat) : Int)) un3 rfl rfl hc34) rfl ?_
        refine WL.nil ?_
        refine thenN ?_
        refine WC.condT rfl rfl ?_
        refine WC.skip ?_
        refine thenN ?_
        refine WC.seq ?_
        refine WC.block ?_
        refine WC.seq ?_
        refine WC.region ?_
        refine WL.val (R.move (v := .pointer (some ⟨b10, 0, none⟩)) s30) rfl ?_
        refine WL.val (R.move (v := .slice a ps.length c) s29) rfl ?_
        refine WL.val (R.move (v := .int .i64 ((k : Nat) : Int)) s32) rfl ?_
        obtain ⟨x35, hx35⟩ : ∃ zz, (ps)[k]? = some zz := ⟨_, List.getElem?_eq_getElem (show k < (ps).length by omega)⟩
        obtain ⟨ad36, e41, ha37, hp38, hat39, hrd40⟩ := hel k x35 hx35
        obtain ⟨hwf42, rfl⟩ := hrd40
        refine WL.val (R.indexS (n := 1) (m := k) (a := a) (ad := ad36) (len := ps.length) (cap := c) (z := ((k : Nat) : Int)) un85 lf4.size rfl ha37 rfl rfl (by omega) hp38) rfl ?_
        refine WL.val (R.loadL (v := .bool x35) lf4 rfl (hs33.atR (fun b _ => out_nil b) hat39)) rfl ?_
        refine WL.call (step18 _ b10 p x35 hrel.ok hrel.made (hs33.heap (i := 0) rfl)) (R.call (vs := [.pointer (some ⟨b10, 0, none⟩), .bool x35]) (caps := []) bo52 rfl rfl) rfl ?_
        rintro v46 w47 ⟨_, rfl, rfl, hk43, hh44⟩
        have hs45 : St [] w w47 [blk b10 123 (encP (p.tick x35)), blk b20 230 (encRP r)] := hs33.turnedB (i := 0) rfl hk43 hh44 rfl
        refine WL.val (R.move (v := .tuple #[.int .u8 ((p.tick x35).state), .int .i64 ((p.tick x35).told)]) rfl) rfl ?_
        refine WL.val (R.extract (v := .int .u8 ((p.tick x35).state)) rfl rfl) rfl ?_
        refine WL.val (R.extract (v := .int .i64 ((p.tick x35).told)) rfl rfl) rfl ?_
        refine WL.val (R.assign (v := .int .u8 ((p.tick x35).state)) rfl) rfl ?_
        refine WL.val (R.assign (v := .int .i64 ((p.tick x35).told)) rfl) rfl ?_
        refine WL.nil ?_
        refine thenN ?_
        refine WC.seq ?_
        refine WC.region ?_
        refine WL.val (R.move (v := .pointer (some ⟨b20, 0, none⟩)) s31) rfl ?_
        refine WL.val (R.move (v := .slice a ps.length c) s29) rfl ?_
        refine WL.val (R.move (v := .int .i64 ((k : Nat) : Int)) s32) rfl ?_
        refine WL.val (R.indexS (n := 1) (m := k) (a := a) (ad := ad36) (len := ps.length) (cap := c) (z := ((k : Nat) : Int)) un85 lf4.size rfl ha37 rfl rfl (by omega) hp38) rfl ?_
        refine WL.val (R.loadL (v := .bool x35) lf4 rfl (hs45.atR (fun b _ => out_nil b) hat39)) rfl ?_
        refine WL.call (rstep18 _ b20 r x35 (by have := hrel.b; have := hrel.ok.1; omega) (by have := hrel.b; have := hrel.ok.2.1; omega) hrel.r0 (by omega) (hs45.heap (i := 1) rfl)) (R.call (vs := [.pointer (some ⟨b20, 0, none⟩), .bool x35]) (caps := []) bo53 rfl rfl) rfl ?_
        rintro v51 w52 ⟨_, rfl, rfl, hk48, hh49⟩
        have hs50 : St [] w w52 [blk b10 123 (encP (p.tick x35)), blk b20 230 (encRP (r.tick x35))] := hs45.turnedB (i := 1) rfl hk48 hh49 rfl
        refine WL.val (R.move (v := .tuple #[.int .i64 ((r.tick x35).state x35), .int .i64 ((r.tick x35).told x35)]) rfl) rfl ?_
        refine WL.val (R.extract (v := .int .i64 ((r.tick x35).state x35)) rfl rfl) rfl ?_
        refine WL.val (R.extract (v := .int .i64 ((r.tick x35).told x35)) rfl rfl) rfl ?_
        refine WL.val (R.assign (v := .int .i64 ((r.tick x35).state x35)) rfl) rfl ?_
        refine WL.val (R.assign (v := .int .i64 ((r.tick x35).told x35)) rfl) rfl ?_
        refine WL.nil ?_
        refine thenN ?_
        refine WC.seq ?_
        refine WC.region ?_
        obtain ⟨hrel2, hst, htd, hs0, hs2, hrn⟩ := hrel.step x35
        refine WL.val (R.move (v := .int .u8 ((p.tick x35).state)) rfl) rfl ?_
        refine WL.val (R.convII (n := (p.tick x35).state) (z := (p.tick x35).state) un93 un3 rfl (by exact w64 (by omega) (by omega))) rfl ?_
        refine WL.val (R.move (v := .int .i64 ((r.tick x35).state x35)) rfl) rfl ?_
        refine WL.val (R.neqF (k := .i64) (a := (p.tick x35).state) (b := (r.tick x35).state x35) un3 rfl rfl (fun h => h hst)) rfl ?_
        refine WL.val (R.move (v := .bool false) rfl) rfl ?_
        refine WL.guardY (e := 66) rfl rfl rfl ?_
        refine WL.val (R.move (v := .int .i64 ((p.tick x35).told)) rfl) rfl ?_
        refine WL.guardY (e := 66) rfl rfl rfl ?_
        refine WL.val (R.move (v := .int .i64 ((r.tick x35).told x35)) rfl) rfl ?_
        refine WL.guardY (e := 66) rfl rfl rfl ?_
        refine WL.val (R.neqF (k := .i64) (a := (p.tick x35).told) (b := (r.tick x35).told x35) un2 rfl rfl (fun h => h htd)) rfl ?_
        refine WL.val (R.pickF (v := .bool false) rfl rfl) rfl ?_
        refine WL.nil ?_
        refine thenN ?_
        refine WC.condF rfl rfl ?_
        refine WC.skip ?_
        refine blockN ?_
        refine thenN ?_
        refine WC.region ?_
        refine WL.val (R.move (v := .int .i64 ((k : Nat) : Int)) s32) rfl ?_
        refine WL.val (R.add (a := ((k : Nat) : Int)) (b := 1) (z := ((k + 1 : Nat) : Int)) rfl rfl (w64e (by omega) (by omega) (by omega))) rfl ?_
        refine WL.val (R.assign (v := .int .i64 ((k + 1 : Nat) : Int)) rfl) rfl ?_
        refine WL.nil ?_
        exact roundEnd (s := k + 1) ⟨_, _, s28, s29, s30, s31, rfl, hrel2, (by omega), hs50⟩ (by omega)
      · refine WL.val (R.lssF (k := .i64) (a := ((k : Nat) : Int)) (b := ((ps.length : Nat) : Int)) un3 rfl rfl hc34) rfl ?_
        refine WL.nil ?_
        refine thenN ?_
        refine WC.condF rfl rfl ?_
        refine WC.exit ?_
        refine thenE ?_
        refine thenE ?_
        refine blockHit ?_
        refine thenN ?_
        refine WC.seq ?_
        refine WC.region ?_
        refine WL.call (lives18 _) (R.call (vs := []) (caps := []) bo49 rfl rfl) rfl ?_
        rintro v54 w55 ⟨rfl, he53⟩
        have hs56 := hs33.ext he53
        refine WL.val (R.assign (v := .bool true) rfl) rfl ?_
        refine WL.nil ?_
        refine thenN ?_
        refine WC.ret ?_
        exact ret1 (P := Try.prog) (n := 72) (fn := Try.f8) (R := fun v w' => v = .bool true ∧ Ext w w') (t := 4) (v := .bool true) rfl rfl rfl ⟨rfl, hs56.kept⟩
    · obtain ⟨rfl, he57⟩ := hv7 hout
      have hs58 := hs0.ext he57
      refine WL.val (R.move (v := .tuple #[.pointer none, .int .i64 1]) rfl) rfl ?_
      refine WL.val (R.extract (v := .pointer none) rfl rfl) rfl ?_
      refine WL.val (R.extract (v := .int .i64 1) rfl rfl) rfl ?_
      refine WL.val (R.assign (v := .pointer none) rfl) rfl ?_
      refine WL.val (R.assign (v := .int .i64 1) rfl) rfl ?_
      refine WL.nil ?_
      refine thenN ?_
      refine WC.seq ?_
      refine WC.region ?_
      refine WL.val (R.move (v := .int .i64 boot) rfl) rfl ?_
      refine WL.call (rnew18 _ boot) (R.call (vs := [.int .i64 boot]) (caps := []) bo51 rfl rfl) rfl ?_
      rintro v61 w62 ⟨hn59, hv60⟩
      obtain ⟨rfl, he63⟩ := hv60 hout
      have hs64 := hs58.ext he63
      refine WL.val (R.move (v := .tuple #[.pointer none, .int .i64 1]) rfl) rfl ?_
      refine WL.val (R.extract (v := .pointer none) rfl rfl) rfl ?_
      refine WL.val (R.extract (v := .int .i64 1) rfl rfl) rfl ?_
      refine WL.val (R.assign (v := .pointer none) rfl) rfl ?_
      refine WL.val (R.assign (v := .int .i64 1) rfl) rfl ?_
      refine WL.nil ?_
      refine thenN ?_
      refine WC.seq ?_
      refine WC.seq ?_
      refine WC.region ?_
      refine WL.val (R.move (v := .int .i64 1) rfl) rfl ?_
      refine WL.val (R.move (v := .int .i64 1) rfl) rfl ?_
      refine WL.val (R.neqF (k := .i64) (a := 1) (b := 1) un66 rfl rfl (by decide)) rfl ?_
      refine WL.nil ?_
      refine thenN ?_
      refine WC.condF rfl rfl ?_
      refine WC.skip ?_
      refine thenN ?_
      refine WC.seq ?_
      refine WC.seq ?_
      refine WC.region ?_
      refine WL.val (R.move (v := .int .i64 1) rfl) rfl ?_
      refine WL.val (R.neqT (k := .i64) (a := 1) (b := 0) un66 rfl rfl (by decide)) rfl ?_
      refine WL.nil ?_
      refine thenN ?_
      refine WC.condT rfl rfl ?_
      refine WC.seq ?_
      refine WC.region ?_
      refine WL.val (R.move (v := .pointer none) rfl) rfl ?_
      refine WL.val (R.nilNil un87 rfl rfl) rfl ?_
      refine WL.val (R.move (v := .bool true) rfl) rfl ?_
      refine WL.guardY (e := 35) rfl rfl rfl ?_
      refine WL.call (lives18 _) (R.call (vs := []) (caps := []) bo49 rfl rfl) rfl ?_
      rintro v66 w67 ⟨rfl, he65⟩
      have hs68 := hs64.ext he65
      refine WL.val (R.pickT (v := .bool true) rfl rfl) rfl ?_
      refine WL.val (R.assign (v := .bool true) rfl) rfl ?_
      refine WL.nil ?_
      refine thenN ?_
      refine WC.ret ?_
      exact ret1 (P := Try.prog) (n := 72) (fn := Try.f8) (R := fun v w' => v = .bool true ∧ Ext w w') (t := 4) (v := .bool true) rfl rfl rfl ⟨rfl, hs68.kept⟩

theorem age18 (w : World) (boot : Int) (hb0 : 0 ≤ boot) (hb1 : boot ≤ 255) (ok : Nat → Prop) (a : Option Addr) (c : Nat) (xs : List Int) (hel : elems (intK .u16) w ok a xs) (hn : xs.length ≤ 9223372036854775807) :
    Ret Try.prog 11 [.int .u8 boot, .slice a xs.length c] w fun v w' => v = .bool true ∧ Ext w w' := by
  have hin : 0 ≤ boot ∧ boot ≤ 4096 := ⟨hb0, by omega⟩
  have hs0 : St [] w w [] := St.start w
  refine enter (n := 88) Try.func11 rfl rfl rfl ?_
  refine WC.seq ?_
  refine WC.region ?_
  refine WL.val (R.assign (v := .bool false) rfl) rfl ?_
  refine WL.nil ?_
  refine thenN ?_
  refine WC.seq ?_
  refine WC.seq ?_
  refine WC.region ?_
  refine WL.val (R.move (v := .slice a xs.length c) rfl) rfl ?_
  refine WL.val (R.len (a := a) (n := xs.length) (c := c) un126 rfl) rfl ?_
  by_cases hc1 : 10 < ((xs.length : Nat) : Int)
  · refine WL.val (R.gtrT (k := .i64) (a := ((xs.length : Nat) : Int)) (b := 10) un3 rfl rfl hc1) rfl ?_
    refine WL.nil ?_
    refine thenN ?_
    refine WC.condT rfl rfl ?_
    refine WC.seq ?_
    refine WC.region ?_
    refine WL.call (lives18 _) (R.call (vs := []) (caps := []) bo49 rfl rfl) rfl ?_
    rintro v3 w4 ⟨rfl, he2⟩
    have hs5 := hs0.ext he2
    refine WL.val (R.assign (v := .bool true) rfl) rfl ?_
    refine WL.nil ?_
    refine thenN ?_
    refine WC.ret ?_
    exact ret1 (P := Try.prog) (n := 88) (fn := Try.f11) (R := fun v w' => v = .bool true ∧ Ext w w') (t := 4) (v := .bool true) rfl rfl rfl ⟨rfl, hs5.kept⟩
  · refine WL.val (R.gtrF (k := .i64) (a := ((xs.length : Nat) : Int)) (b := 10) un3 rfl rfl hc1) rfl ?_
    refine WL.nil ?_
    refine thenN ?_
    refine WC.condF rfl rfl ?_
    refine WC.skip ?_
    refine thenN ?_
    refine WC.seq ?_
    refine WC.region ?_
    refine WL.val (R.move (v := .int .u8 boot) rfl) rfl ?_
    refine WL.val (R.convII (n := boot) (z := boot) un5 un3 rfl (by exact w64 (by omega) (by omega))) rfl ?_
    refine WL.call (new18 _ boot) (R.call (vs := [.int .i64 boot]) (caps := []) bo50 rfl rfl) rfl ?_
    rintro v8 w9 ⟨hn6, hv7⟩
    obtain ⟨b10, rfl, he11, hz12, hb13⟩ := hn6 hin
    have hs14 : St [] w w9 [blk b10 123 (encP (⟨true, boot, 0, 0, 0⟩))] := hs0.addBlk he11 hb13 hz12
    refine WL.val (R.move (v := .tuple #[.pointer (some ⟨b10, 0, none⟩), .int .i64 0]) rfl) rfl ?_
    refine WL.val (R.extract (v := .pointer (some ⟨b10, 0, none⟩)) rfl rfl) rfl ?_
    refine WL.val (R.extract (v := .int .i64 0) rfl rfl) rfl ?_
    refine WL.val (R.assign (v := .pointer (some ⟨b10, 0, none⟩)) rfl) rfl ?_
    refine WL.val (R.assign (v := .int .i64 0) rfl) rfl ?_
    refine WL.nil ?_
    refine thenN ?_
    refine WC.seq ?_
    refine WC.seq ?_
    refine WC.region ?_
    refine WL.val (R.move (v := .int .i64 0) rfl) rfl ?_
    refine WL.val (R.neqF (k := .i64) (a := 0) (b := 0) un66 rfl rfl (by decide)) rfl ?_
    refine WL.nil ?_
    refine thenN ?_
    refine WC.condF rfl rfl ?_
    refine WC.skip ?_
    refine thenN ?_
    refine WC.seq ?_
    refine WC.seq ?_
    refine WC.region ?_
    refine WL.val (R.assign (v := .int .i64 0) rfl) rfl ?_
    refine WL.nil ?_
    refine thenN ?_
    refine WC.block ?_
    refine WC.loop (T := Nat) (fun k σ wl => ∃ p, σ 0 = (.int .u8 boot) ∧ σ 1 = (.slice a xs.length c) ∧ σ 5 = (.pointer (some ⟨b10, 0, none⟩)) ∧ σ 7 = (.int .i64 ((k : Nat) : Int)) ∧ R18 p ⟨boot, 0⟩ ∧ St [] w wl [blk b10 123 (encP p)]) (fun k => xs.length - k) (0) ⟨_, rfl, rfl, rfl, rfl, (R18.start hin), hs14⟩ ?_
    rintro k σ16 w17 ⟨p, s18, s19, s20, s21, hrel, hs22⟩
    refine WC.seq ?_
    refine WC.seq ?_
    refine WC.region ?_
    refine WL.val (R.move (v := .int .i64 ((k : Nat) : Int)) s21) rfl ?_
    refine WL.val (R.move (v := .slice a xs.length c) s19) rfl ?_
    refine WL.val (R.len (a := a) (n := xs.length) (c := c) un126 rfl) rfl ?_
    by_cases hc23 : ((k : Nat) : Int) < ((xs.length : Nat) : Int)
    · refine WL.val (R.lssT (k := .i64) (a := ((k : Nat) : Int)) (b := ((xs.length : Nat) : Int)) un3 rfl rfl hc23) rfl ?_
      refine WL.nil ?_
      refine thenN ?_
      refine WC.condT rfl rfl ?_
      refine WC.skip ?_
      refine thenN ?_
      refine WC.seq ?_
      refine WC.block ?_
      refine WC.seq ?_
      refine WC.seq ?_
      refine WC.region ?_
      refine WL.val (R.assign (v := .int .i64 0) rfl) rfl ?_
      refine WL.nil ?_
      refine thenN ?_
      refine WC.block ?_
      refine WC.loop (T := Nat) (fun j σ wl => ∃ q, σ 0 = (.int .u8 boot) ∧ σ 1 = (.slice a xs.length c) ∧ σ 5 = (.pointer (some ⟨b10, 0, none⟩)) ∧ σ 7 = (.int .i64 ((k : Nat) : Int)) ∧ σ 8 = (.int .i64 ((j : Nat) : Int)) ∧ R18 q ⟨boot, ((j : Nat) : Int)⟩ ∧ j ≤ 300 ∧ St [] w wl [blk b10 123 (encP q)]) (fun j => 300 - j) (0) ⟨_, s18, s19, s20, s21, rfl, hrel, (by omega), hs22⟩ ?_
      rintro j σ24 w25 ⟨q, s26, s27, s28, s29, s30, hrelj, hj, hs31⟩
      refine WC.seq ?_
      refine WC.seq ?_
      refine WC.region ?_
      refine WL.val (R.move (v := .int .i64 ((j : Nat) : Int)) s30) rfl ?_
      refine WL.val (R.move (v := .slice a xs.length c) s27) rfl ?_
      refine WL.val (R.move (v := .int .i64 ((k : Nat) : Int)) s29) rfl ?_
      obtain ⟨x32, hx32⟩ : ∃ zz, (xs)[k]? = some zz := ⟨_, List.getElem?_eq_getElem (show k < (xs).length by omega)⟩
      obtain ⟨ad33, e38, ha34, hp35, hat36, hrd37⟩ := hel k x32 hx32
      obtain ⟨hwf39, rfl⟩ := hrd37
      have hwf39 : (0 : Int) ≤ x32 ∧ x32 ≤ 65535 := hwf39
      refine WL.val (R.indexS (n := 1) (m := k) (a := a) (ad := ad33) (len := xs.length) (cap := c) (z := ((k : Nat) : Int)) un126 lf52.size rfl ha34 rfl rfl (by omega) hp35) rfl ?_
      refine WL.val (R.loadL (v := .int .u16 x32) lf52 rfl (hs31.atR (fun b _ => out_nil b) hat36)) rfl ?_
      refine WL.val (R.convII (n := x32) (z := x32) un52 un3 rfl (by exact w64 (by omega) (by omega))) rfl ?_
      refine WL.val (R.rem (a := x32) (b := 300) (z := x32 % 300) rfl rfl (by omega) (by omega) (by omega) (by exact w64 (by omega) (by omega))) rfl ?_
      by_cases hc40 : ((j : Nat) : Int) < (x32 % 300)
      · refine WL.val (R.lssT (k := .i64) (a := ((j : Nat) : Int)) (b := x32 % 300) un3 rfl rfl hc40) rfl ?_
        refine WL.nil ?_
        refine thenN ?_
        refine WC.condT rfl rfl ?_
        refine WC.skip ?_
        refine thenN ?_
        refine WC.seq ?_
        refine WC.block ?_
        refine WC.seq ?_
        refine WC.region ?_
        refine WL.val (R.move (v := .pointer (some ⟨b10, 0, none⟩)) s28) rfl ?_
        refine WL.call (step18 _ b10 q true hrelj.ok hrelj.made (hs31.heap (i := 0) rfl)) (R.call (vs := [.pointer (some ⟨b10, 0, none⟩), .bool true]) (caps := []) bo52 rfl rfl) rfl ?_
        rintro v44 w45 ⟨_, rfl, rfl, hk41, hh42⟩
        have hs43 : St [] w w45 [blk b10 123 (encP (q.tick true))] := hs31.turnedB (i := 0) rfl hk41 hh42 rfl
        refine WL.val (R.move (v := .tuple #[.int .u8 ((q.tick true).state), .int .i64 ((q.tick true).told)]) rfl) rfl ?_
        refine WL.val (R.extract (v := .int .u8 ((q.tick true).state)) rfl rfl) rfl ?_
        refine WL.val (R.extract (v := .int .i64 ((q.tick true).told)) rfl rfl) rfl ?_
        refine WL.val (R.assign (v := .int .u8 ((q.tick true).state)) rfl) rfl ?_
        refine WL.val (R.assign (v := .int .i64 ((q.tick true).told)) rfl) rfl ?_
        refine WL.nil ?_
        refine thenN ?_
        refine WC.seq ?_
        refine WC.region ?_
        refine WL.val (R.move (v := .int .i64 ((j : Nat) : Int)) s30) rfl ?_
        refine WL.val (R.move (v := .int .u8 boot) s26) rfl ?_
        refine WL.val (R.convII (n := boot) (z := boot) un5 un3 rfl (by exact w64 (by omega) (by omega))) rfl ?_
        by_cases hc46 : ((j : Nat) : Int) < boot
        · refine WL.val (R.lssT (k := .i64) (a := ((j : Nat) : Int)) (b := boot) un3 rfl rfl hc46) rfl ?_
          refine WL.val (R.move (v := .bool true) rfl) rfl ?_
          refine WL.guardY (e := 50) rfl rfl rfl ?_
          refine WL.val (R.move (v := .int .u8 ((q.tick true).state)) rfl) rfl ?_
          refine WL.guardY (e := 50) rfl rfl rfl ?_
          refine WL.val (R.neqF (k := .u8) (a := (q.tick true).state) (b := 1) un93 rfl rfl (fun h => h (hrelj.early (show ((j : Nat) : Int) < boot by omega)).1)) rfl ?_
          refine WL.guardY (e := 50) rfl rfl rfl ?_
          refine WL.val (R.move (v := .bool false) rfl) rfl ?_
          refine WL.guardY (e := 53) rfl rfl rfl ?_
          refine WL.val (R.move (v := .int .i64 ((q.tick true).told)) rfl) rfl ?_
          refine WL.guardY (e := 53) rfl rfl rfl ?_
          refine WL.val (R.neqF (k := .i64) (a := (q.tick true).told) (b := -1) un2 rfl rfl (fun h => h (hrelj.early (show ((j : Nat) : Int) < boot by omega)).2)) rfl ?_
          refine WL.guardY (e := 50) rfl rfl rfl ?_
          refine WL.val (R.pickF (v := .bool false) rfl rfl) rfl ?_
          refine WL.val (R.pickT (v := .bool false) rfl rfl) rfl ?_
          refine WL.val (R.move (v := .bool false) rfl) rfl ?_
          refine WL.guardY (e := 58) rfl rfl rfl ?_
          refine WL.val (R.move (v := .int .i64 ((j : Nat) : Int)) s30) rfl ?_
          refine WL.guardY (e := 58) rfl rfl rfl ?_
          refine WL.val (R.move (v := .int .u8 boot) s26) rfl ?_
          refine WL.guardY (e := 58) rfl rfl rfl ?_
          refine WL.val (R.convII (n := boot) (z := boot) un5 un3 rfl (by exact w64 (by omega) (by omega))) rfl ?_
          refine WL.guardY (e := 58) rfl rfl rfl ?_
          refine WL.val (R.geqF (k := .i64) (a := ((j : Nat) : Int)) (b := boot) un3 rfl rfl (by omega)) rfl ?_
          refine WL.guardY (e := 58) rfl rfl rfl ?_
          refine WL.val (R.move (v := .bool false) rfl) rfl ?_
          refine WL.guardN (e := 63) (v := .bool false) rfl rfl rfl rfl ?_
          refine WL.guardN (e := 63) (v := .bool false) rfl rfl rfl rfl ?_
          refine WL.guardN (e := 63) (v := .bool false) rfl rfl rfl rfl ?_
          refine WL.guardN (e := 66) (v := undef) rfl rfl rfl rfl ?_
          refine WL.guardN (e := 66) (v := undef) rfl rfl rfl rfl ?_
          refine WL.guardN (e := 66) (v := undef) rfl rfl rfl rfl ?_
          refine WL.guardN (e := 66) (v := undef) rfl rfl rfl rfl ?_
          refine WL.guardN (e := 66) (v := undef) rfl rfl rfl rfl ?_
          refine WL.guardN (e := 66) (v := undef) rfl rfl rfl rfl ?_
          refine WL.guardN (e := 63) (v := .bool false) rfl rfl rfl rfl ?_
          refine WL.guardY (e := 58) rfl rfl rfl ?_
          refine WL.val (R.pickF (v := .bool false) rfl rfl) rfl ?_
          refine WL.val (R.pickF (v := .bool false) rfl rfl) rfl ?_
          refine WL.nil ?_
          refine thenN ?_
          refine WC.condF rfl rfl ?_
          refine WC.skip ?_
          refine blockN ?_
          refine thenN ?_
          refine WC.region ?_
          refine WL.val (R.move (v := .int .i64 ((j : Nat) : Int)) s30) rfl ?_
          refine WL.val (R.add (a := ((j : Nat) : Int)) (b := 1) (z := ((j + 1 : Nat) : Int)) rfl rfl (w64e (by omega) (by omega) (by omega))) rfl ?_
          refine WL.val (R.assign (v := .int .i64 ((j + 1 : Nat) : Int)) rfl) rfl ?_
          refine WL.nil ?_
          exact roundEnd (s := j + 1) ⟨_, s26, s27, s28, s29, rfl, (by rw [← Rp.tick_true]; exact (hrelj.step true).1), (by omega), hs43⟩ (by omega)
        · refine WL.val (R.lssF (k := .i64) (a := ((j : Nat) : Int)) (b := boot) un3 rfl rfl hc46) rfl ?_
          refine WL.val (R.move (v := .bool false) rfl) rfl ?_
          refine WL.guardN (e := 50) (v := .bool false) rfl rfl rfl rfl ?_
          refine WL.guardN (e := 50) (v := .bool false) rfl rfl rfl rfl ?_
          refine WL.guardN (e := 50) (v := .bool false) rfl rfl rfl rfl ?_
          refine WL.guardN (e := 53) (v := undef) rfl rfl rfl rfl ?_
          refine WL.guardN (e := 53) (v := undef) rfl rfl rfl rfl ?_
          refine WL.guardN (e := 50) (v := .bool false) rfl rfl rfl rfl ?_
          refine WL.val (R.pickF (v := .bool false) rfl rfl) rfl ?_
          refine WL.val (R.move (v := .bool false) rfl) rfl ?_
          refine WL.guardY (e := 58) rfl rfl rfl ?_
          refine WL.val (R.move (v := .int .i64 ((j : Nat) : Int)) s30) rfl ?_
          refine WL.guardY (e := 58) rfl rfl rfl ?_
          refine WL.val (R.move (v := .int .u8 boot) s26) rfl ?_
          refine WL.guardY (e := 58) rfl rfl rfl ?_
          refine WL.val (R.convII (n := boot) (z := boot) un5 un3 rfl (by exact w64 (by omega) (by omega))) rfl ?_
          refine WL.guardY (e := 58) rfl rfl rfl ?_
          refine WL.val (R.geqT (k := .i64) (a := ((j : Nat) : Int)) (b := boot) un3 rfl rfl (by omega)) rfl ?_
          refine WL.guardY (e := 58) rfl rfl rfl ?_
          refine WL.val (R.move (v := .bool true) rfl) rfl ?_
          refine WL.guardY (e := 63) rfl rfl rfl ?_
          refine WL.val (R.move (v := .int .u8 ((q.tick true).state)) rfl) rfl ?_
          refine WL.guardY (e := 63) rfl rfl rfl ?_
          refine WL.val (R.neqF (k := .u8) (a := (q.tick true).state) (b := 2) un93 rfl rfl (fun h => h (hrelj.late (show boot ≤ ((j : Nat) : Int) by omega) (show ((j : Nat) : Int) ≤ 1000000 by omega) (show 0 ≤ boot by omega)).1)) rfl ?_
          refine WL.guardY (e := 63) rfl rfl rfl ?_
          refine WL.val (R.move (v := .bool false) rfl) rfl ?_
          refine WL.guardY (e := 66) rfl rfl rfl ?_
          refine WL.val (R.move (v := .int .i64 ((q.tick true).told)) rfl) rfl ?_
          refine WL.guardY (e := 66) rfl rfl rfl ?_
          refine WL.val (R.move (v := .int .i64 ((j : Nat) : Int)) s30) rfl ?_
          refine WL.guardY (e := 66) rfl rfl rfl ?_
          refine WL.val (R.move (v := .int .u8 boot) s26) rfl ?_
          refine WL.guardY (e := 66) rfl rfl rfl ?_
          refine WL.val (R.convII (n := boot) (z := boot) un5 un2 rfl (by exact w64 (by omega) (by omega))) rfl ?_
          refine WL.guardY (e := 66) rfl rfl rfl ?_
          refine WL.val (R.sub (a := ((j : Nat) : Int)) (b := boot) (z := ((j : Nat) : Int) - boot) rfl rfl (w64e (by omega) (by omega) (by omega))) rfl ?_
          refine WL.guardY (e := 66) rfl rfl rfl ?_
          refine WL.val (R.neqF (k := .i64) (a := (q.tick true).told) (b := ((j : Nat) : Int) - boot) un2 rfl rfl (fun h => h (hrelj.late (show boot ≤ ((j : Nat) : Int) by omega) (show ((j : Nat) : Int) ≤ 1000000 by omega) (show 0 ≤ boot by omega)).2)) rfl ?_
          refine WL.guardY (e := 63) rfl rfl rfl ?_
          refine WL.val (R.pickF (v := .bool false) rfl rfl) rfl ?_
          refine WL.guardY (e := 58) rfl rfl rfl ?_
          refine WL.val (R.pickT (v := .bool false) rfl rfl) rfl ?_
          refine WL.val (R.pickF (v := .bool false) rfl rfl) rfl ?_
          refine WL.nil ?_
          refine thenN ?_
          refine WC.condF rfl rfl ?_
          refine WC.skip ?_
          refine blockN ?_
          refine thenN ?_
          refine WC.region ?_
          refine WL.val (R.move (v := .int .i64 ((j : Nat) : Int)) s30) rfl ?_
          refine WL.val (R.add (a := ((j : Nat) : Int)) (b := 1) (z := ((j + 1 : Nat) : Int)) rfl rfl (w64e (by omega) (by omega) (by omega))) rfl ?_
          refine WL.val (R.assign (v := .int .i64 ((j + 1 : Nat) : Int)) rfl) rfl ?_
          refine WL.nil ?_
          exact roundEnd (s := j + 1) ⟨_, s26, s27, s28, s29, rfl, (by rw [← Rp.tick_true]; exact (hrelj.step true).1), (by omega), hs43⟩ (by omega)
      · refine WL.val (R.lssF (k := .i64) (a := ((j : Nat) : Int)) (b := x32 % 300) un3 rfl rfl hc40) rfl ?_
        refine WL.nil ?_
        refine thenN ?_
        refine WC.condF rfl rfl ?_
        refine WC.exit ?_
        refine thenE ?_
        refine thenE ?_
        refine blockHit ?_
        refine thenN ?_
        refine WC.seq ?_
        refine WC.region ?_
        refine WL.val (R.move (v := .pointer (some ⟨b10, 0, none⟩)) s28) rfl ?_
        refine WL.call (step18 _ b10 q false hrelj.ok hrelj.made (hs31.heap (i := 0) rfl)) (R.call (vs := [.pointer (some ⟨b10, 0, none⟩), .bool false]) (caps := []) bo52 rfl rfl) rfl ?_
        rintro v50 w51 ⟨_, rfl, rfl, hk47, hh48⟩
        have hs49 : St [] w w51 [blk b10 123 (encP (q.tick false))] := hs31.turnedB (i := 0) rfl hk47 hh48 rfl
        refine WL.val (R.move (v := .tuple #[.int .u8 ((q.tick false).state), .int .i64 ((q.tick false).told)]) rfl) rfl ?_
        refine WL.val (R.extract (v := .int .u8 ((q.tick false).state)) rfl rfl) rfl ?_
        refine WL.val (R.extract (v := .int .i64 ((q.tick false).told)) rfl rfl) rfl ?_
        refine WL.val (R.assign (v := .int .u8 ((q.tick false).state)) rfl) rfl ?_
        refine WL.val (R.assign (v := .int .i64 ((q.tick false).told)) rfl) rfl ?_
        refine WL.nil ?_
        refine thenN ?_
        refine WC.seq ?_
        refine WC.region ?_
        refine WL.val (R.move (v := .int .u8 ((q.tick false).state)) rfl) rfl ?_
        refine WL.val (R.neqF (k := .u8) (a := (q.tick false).state) (b := 0) un93 rfl rfl (fun h => h rfl)) rfl ?_
        refine WL.val (R.move (v := .bool false) rfl) rfl ?_
        refine WL.guardY (e := 83) rfl rfl rfl ?_
        refine WL.val (R.move (v := .int .i64 ((q.tick false).told)) rfl) rfl ?_
        refine WL.guardY (e := 83) rfl rfl rfl ?_
        refine WL.val (R.neqF (k := .i64) (a := (q.tick false).told) (b := -1) un2 rfl rfl (fun h => h rfl)) rfl ?_
        refine WL.val (R.pickF (v := .bool false) rfl rfl) rfl ?_
        refine WL.nil ?_
        refine thenN ?_
        refine WC.condF rfl rfl ?_
        refine WC.skip ?_
        refine blockN ?_
        refine thenN ?_
        refine WC.region ?_
        refine WL.val (R.move (v := .int .i64 ((k : Nat) : Int)) s29) rfl ?_
        refine WL.val (R.add (a := ((k : Nat) : Int)) (b := 1) (z := ((k + 1 : Nat) : Int)) rfl rfl (w64e (by omega) (by omega) (by omega))) rfl ?_
        refine WL.val (R.assign (v := .int .i64 ((k + 1 : Nat) : Int)) rfl) rfl ?_
        refine WL.nil ?_
        exact roundEnd (s := k + 1) ⟨_, s26, s27, s28, rfl, (hrelj.step false).1, hs49⟩ (by omega)
    · refine WL.val (R.lssF (k := .i64) (a := ((k : Nat) : Int)) (b := ((xs.length : Nat) : Int)) un3 rfl rfl hc23) rfl ?_
      refine WL.nil ?_
      refine thenN ?_
      refine WC.condF rfl rfl ?_
      refine WC.exit ?_
      refine thenE ?_
      refine thenE ?_
      refine blockHit ?_
      refine thenN ?_
      refine WC.seq ?_
      refine WC.region ?_
      refine WL.call (lives18 _) (R.call (vs := []) (caps := []) bo49 rfl rfl) rfl ?_
      rintro v53 w54 ⟨rfl, he52⟩
      have hs55 := hs22.ext he52
      refine WL.val (R.assign (v := .bool true) rfl) rfl ?_
      refine WL.nil ?_
      refine thenN ?_
      refine WC.ret ?_
      exact ret1 (P := Try.prog) (n := 88) (fn := Try.f11) (R := fun v w' => v = .bool true ∧ Ext w w') (t := 4) (v := .bool true) rfl rfl rfl ⟨rfl, hs55.kept⟩

end Go.Proofs.Ytckcldimnelklaa
