/- The laws of the package boots: their walks. -/
import Derived.Test.YtckcldimnelklaaB1
namespace Go.Proofs.Ytckcldimnelklaa
open Go
set_option linter.unusedVariables false
set_option linter.unusedSimpArgs false
set_option maxRecDepth 100000
set_option maxHeartbeats 4000000

theorem void18 (w : World) (c : Bool) :
    Ret Try.prog 10 [.bool c] w fun v w' => v = .bool true ∧ Ext w w' := by
  have hs0 : St [] w w [] := St.start w
  refine enter (n := 29) Try.func10 rfl rfl rfl ?_
  refine WC.seq ?_
  refine WC.region ?_
  refine WL.val (R.assign (v := .bool false) rfl) rfl ?_
  refine WL.nil ?_
  refine thenN ?_
  refine WC.seq ?_
  refine WC.region ?_
  refine WL.new (L' := fun b1 => [blk b1 123 (encP Pw.none)]) (f := fun b1 => .pointer (some ⟨b1, 0, none⟩)) (X.alloc (c := encP Pw.none) hs0 zr123 rfl (fun _ => rfl)) rfl ?_
  intro b1 w2 hs3 he4 hz5
  refine WL.nil ?_
  refine thenN ?_
  refine WC.seq ?_
  refine WC.region ?_
  have hd12 : ∀ w : World, (Instr.buildSlice 124 2 #[(0, .pointer none), (1, .pointer (some ⟨b1, 0, none⟩))]).run Try.prog w = .ok (.slice (some ⟨w.heap.size, 0, none⟩) 2 2) { w with heap := w.heap.push (.cells (List.toArray [.pointer none, .pointer (some ⟨b1, 0, none⟩)]) 87) } := fun _ => by kernel_rfl
  refine WL.new (L' := fun b7 => [blk b1 123 (encP Pw.none), blk b7 87 [.pointer none, .pointer (some ⟨b1, 0, none⟩)]]) (f := fun b7 => .slice (some ⟨b7, 0, none⟩) 2 2) (X.buildSlice (c := [.pointer none, .pointer (some ⟨b1, 0, none⟩)]) (vs := [(0, .pointer none), (1, .pointer (some ⟨b1, 0, none⟩))]) hs3 rfl hd12 (fun _ => rfl)) rfl ?_
  intro b7 w8 hs9 he10 hz11
  refine WL.val (R.assign (v := .slice (some ⟨b7, 0, none⟩) 2 2) rfl) rfl ?_
  refine WL.nil ?_
  refine thenN ?_
  refine WC.seq ?_
  refine WC.seq ?_
  refine WC.region ?_
  refine WL.val (R.assign (v := .int .i64 0) rfl) rfl ?_
  refine WL.nil ?_
  refine thenN ?_
  refine WC.block ?_
  refine WC.loop (T := Nat) (fun k σ wl => σ 0 = (.bool c) ∧ σ 4 = (.slice (some ⟨b7, 0, none⟩) 2 2) ∧ σ 5 = (.int .i64 ((k : Nat) : Int)) ∧ k ≤ 2 ∧ St [] w wl [blk b1 123 (encP Pw.none), blk b7 87 [.pointer none, .pointer (some ⟨b1, 0, none⟩)]]) (fun k => 3 - k) (0) ⟨rfl, rfl, rfl, (by decide), hs9⟩ ?_
  rintro k σ14 w15 ⟨s16, s17, s18, hk, hs19⟩
  rcases (show k = 0 ∨ k = 1 ∨ k = 2 by omega) with rfl | rfl | rfl
  · refine WC.seq ?_
    refine WC.seq ?_
    refine WC.region ?_
    refine WL.val (R.move (v := .int .i64 ((0 : Nat) : Int)) s18) rfl ?_
    refine WL.val (R.lssT (k := .i64) (a := ((0 : Nat) : Int)) (b := 2) un3 rfl rfl (by decide)) rfl ?_
    refine WL.nil ?_
    refine thenN ?_
    refine WC.condT rfl rfl ?_
    refine WC.skip ?_
    refine thenN ?_
    refine WC.seq ?_
    refine WC.block ?_
    refine WC.seq ?_
    refine WC.region ?_
    refine WL.val (R.move (v := .slice (some ⟨b7, 0, none⟩) 2 2) s17) rfl ?_
    refine WL.val (R.move (v := .int .i64 ((0 : Nat) : Int)) s18) rfl ?_
    refine WL.val (R.indexS (n := 1) (m := 0) (ad := ⟨b7, 0, none⟩) (len := 2) (cap := 2) (z := ((0 : Nat) : Int)) un124 lf87.size rfl rfl rfl rfl (by decide) rfl) rfl ?_
    refine WL.val (R.loadL (v := .pointer none) lf87 rfl (hs19.at (i := 1) (off := 0) (n := 1) (cs := [.pointer none]) rfl rfl rfl)) rfl ?_
    refine WL.val (R.move (v := .bool c) s16) rfl ?_
    refine WL.call (stepNil18 _ c) (R.call (vs := [.pointer none, .bool c]) (caps := []) bo52 rfl rfl) rfl ?_
    rintro v21 w22 ⟨rfl, he20⟩
    have hs23 := hs19.ext he20
    refine WL.val (R.move (v := .tuple #[.int .u8 0, .int .i64 (-1)]) rfl) rfl ?_
    refine WL.val (R.extract (v := .int .u8 0) rfl rfl) rfl ?_
    refine WL.val (R.extract (v := .int .i64 (-1)) rfl rfl) rfl ?_
    refine WL.val (R.assign (v := .int .u8 0) rfl) rfl ?_
    refine WL.val (R.assign (v := .int .i64 (-1)) rfl) rfl ?_
    refine WL.nil ?_
    refine thenN ?_
    refine WC.seq ?_
    refine WC.region ?_
    refine WL.val (R.move (v := .int .u8 0) rfl) rfl ?_
    refine WL.val (R.neqF (k := .u8) (a := 0) (b := 0) un93 rfl rfl (by decide)) rfl ?_
    refine WL.val (R.move (v := .bool false) rfl) rfl ?_
    refine WL.guardY (e := 24) rfl rfl rfl ?_
    refine WL.val (R.move (v := .int .i64 (-1)) rfl) rfl ?_
    refine WL.guardY (e := 24) rfl rfl rfl ?_
    refine WL.val (R.neqF (k := .i64) (a := -1) (b := -1) un2 rfl rfl (by decide)) rfl ?_
    refine WL.val (R.pickF (v := .bool false) rfl rfl) rfl ?_
    refine WL.nil ?_
    refine thenN ?_
    refine WC.condF rfl rfl ?_
    refine WC.skip ?_
    refine blockN ?_
    refine thenN ?_
    refine WC.region ?_
    refine WL.val (R.move (v := .int .i64 ((0 : Nat) : Int)) s18) rfl ?_
    refine WL.val (R.add (a := ((0 : Nat) : Int)) (b := 1) (z := ((0 + 1 : Nat) : Int)) rfl rfl (w64e (by omega) (by omega) (by omega))) rfl ?_
    refine WL.val (R.assign (v := .int .i64 ((0 + 1 : Nat) : Int)) rfl) rfl ?_
    refine WL.nil ?_
    exact roundEnd (s := 1) ⟨s16, s17, rfl, (by decide), hs23⟩ (by decide)
  · refine WC.seq ?_
    refine WC.seq ?_
    refine WC.region ?_
    refine WL.val (R.move (v := .int .i64 ((1 : Nat) : Int)) s18) rfl ?_
    refine WL.val (R.lssT (k := .i64) (a := ((1 : Nat) : Int)) (b := 2) un3 rfl rfl (by decide)) rfl ?_
    refine WL.nil ?_
    refine thenN ?_
    refine WC.condT rfl rfl ?_
    refine WC.skip ?_
    refine thenN ?_
    refine WC.seq ?_
    refine WC.block ?_
    refine WC.seq ?_
    refine WC.region ?_
    refine WL.val (R.move (v := .slice (some ⟨b7, 0, none⟩) 2 2) s17) rfl ?_
    refine WL.val (R.move (v := .int .i64 ((1 : Nat) : Int)) s18) rfl ?_
    refine WL.val (R.indexS (n := 1) (m := 1) (ad := ⟨b7, 0, none⟩) (len := 2) (cap := 2) (z := ((1 : Nat) : Int)) un124 lf87.size rfl rfl rfl rfl (by decide) rfl) rfl ?_
    refine WL.val (R.loadL (v := .pointer (some ⟨b1, 0, none⟩)) lf87 rfl (hs19.at (i := 1) (off := 1) (n := 1) (cs := [.pointer (some ⟨b1, 0, none⟩)]) rfl rfl rfl)) rfl ?_
    refine WL.val (R.move (v := .bool c) s16) rfl ?_
    refine WL.call (stepNone18 _ b1 c (hs19.heap (i := 0) rfl)) (R.call (vs := [.pointer (some ⟨b1, 0, none⟩), .bool c]) (caps := []) bo52 rfl rfl) rfl ?_
    rintro v25 w26 ⟨rfl, he24⟩
    have hs27 := hs19.ext he24
    refine WL.val (R.move (v := .tuple #[.int .u8 0, .int .i64 (-1)]) rfl) rfl ?_
    refine WL.val (R.extract (v := .int .u8 0) rfl rfl) rfl ?_
    refine WL.val (R.extract (v := .int .i64 (-1)) rfl rfl) rfl ?_
    refine WL.val (R.assign (v := .int .u8 0) rfl) rfl ?_
    refine WL.val (R.assign (v := .int .i64 (-1)) rfl) rfl ?_
    refine WL.nil ?_
    refine thenN ?_
    refine WC.seq ?_
    refine WC.region ?_
    refine WL.val (R.move (v := .int .u8 0) rfl) rfl ?_
    refine WL.val (R.neqF (k := .u8) (a := 0) (b := 0) un93 rfl rfl (by decide)) rfl ?_
    refine WL.val (R.move (v := .bool false) rfl) rfl ?_
    refine WL.guardY (e := 24) rfl rfl rfl ?_
    refine WL.val (R.move (v := .int .i64 (-1)) rfl) rfl ?_
    refine WL.guardY (e := 24) rfl rfl rfl ?_
    refine WL.val (R.neqF (k := .i64) (a := -1) (b := -1) un2 rfl rfl (by decide)) rfl ?_
    refine WL.val (R.pickF (v := .bool false) rfl rfl) rfl ?_
    refine WL.nil ?_
    refine thenN ?_
    refine WC.condF rfl rfl ?_
    refine WC.skip ?_
    refine blockN ?_
    refine thenN ?_
    refine WC.region ?_
    refine WL.val (R.move (v := .int .i64 ((1 : Nat) : Int)) s18) rfl ?_
    refine WL.val (R.add (a := ((1 : Nat) : Int)) (b := 1) (z := ((1 + 1 : Nat) : Int)) rfl rfl (w64e (by omega) (by omega) (by omega))) rfl ?_
    refine WL.val (R.assign (v := .int .i64 ((1 + 1 : Nat) : Int)) rfl) rfl ?_
    refine WL.nil ?_
    exact roundEnd (s := 2) ⟨s16, s17, rfl, (by decide), hs27⟩ (by decide)
  · refine WC.seq ?_
    refine WC.seq ?_
    refine WC.region ?_
    refine WL.val (R.move (v := .int .i64 ((2 : Nat) : Int)) s18) rfl ?_
    refine WL.val (R.lssF (k := .i64) (a := ((2 : Nat) : Int)) (b := 2) un3 rfl rfl (by decide)) rfl ?_
    refine WL.nil ?_
    refine thenN ?_
    refine WC.condF rfl rfl ?_
    refine WC.exit ?_
    refine thenE ?_
    refine thenE ?_
    refine blockHit ?_
    refine thenN ?_
    refine WC.seq ?_
    refine WC.region ?_
    refine WL.call (lives18 _) (R.call (vs := []) (caps := []) bo49 rfl rfl) rfl ?_
    rintro v29 w30 ⟨rfl, he28⟩
    have hs31 := hs19.ext he28
    refine WL.val (R.assign (v := .bool true) rfl) rfl ?_
    refine WL.nil ?_
    refine thenN ?_
    refine WC.ret ?_
    exact ret1 (P := Try.prog) (n := 29) (fn := Try.f10) (R := fun v w' => v = .bool true ∧ Ext w w') (t := 2) (v := .bool true) rfl rfl rfl ⟨rfl, hs31.kept⟩

end Go.Proofs.Ytckcldimnelklaa
