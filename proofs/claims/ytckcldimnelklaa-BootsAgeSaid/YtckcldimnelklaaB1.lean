/- Contracts of the package boots and of its reference. -/
import Derived.Test.YtckcldimnelklaaLG
namespace Go.Proofs.Ytckcldimnelklaa
open Go
set_option linter.unusedVariables false
set_option linter.unusedSimpArgs false
set_option maxRecDepth 100000
set_option maxHeartbeats 4000000

structure Pw where
  made : Bool
  boot : Int
  state : Int
  left : Int
  cold : Int
def Pw.none : Pw := ⟨false, 0, 0, 0, 0⟩
def encP (p : Pw) : List Value := [.bool p.made, .int .i64 p.boot, .int .u8 p.state, .int .i64 p.left, .int .i64 p.cold]
structure Rp where
  boot : Int
  run : Int
def Rp.none : Rp := ⟨0, 0⟩
def encRP (p : Rp) : List Value := [.int .i64 p.boot, .int .i64 p.run]

theorem zr123 (w : World) : (zeroValue 123).run Try.prog w = .ok (.agg (List.toArray (encP Pw.none))) w := by kernel_rfl

/-- Such as may be. -/
def Pw.ok (p : Pw) : Prop := 0 ≤ p.boot ∧ p.boot ≤ 4096 ∧ 0 ≤ p.left ∧ p.left ≤ 4096 ∧ -1 ≤ p.cold ∧ p.cold ≤ 1099511627776 ∧ (p.state = 0 ∨ p.state = 1 ∨ p.state = 2)

/-- A tick with power. -/
def Pw.lf (p : Pw) : Int := if p.state = 0 then p.boot else p.left
def Pw.run (p : Pw) : Pw :=
  if p.state = 2 then { p with cold := min (p.cold + 1) 1099511627776 }
  else if 0 < p.lf then { p with state := 1, left := p.lf - 1 }
  else { p with state := 2, left := p.lf, cold := 0 }

theorem min_01 : min (0 : Int) 1099511627776 = 0 := by omega
theorem Pw.run_ok {p : Pw} (h : p.ok) : p.run.ok := by
  obtain ⟨h1, h2, h3, h4, h5, h6, h7⟩ := h
  have hl : 0 ≤ p.lf ∧ p.lf ≤ 4096 := by unfold Pw.lf; split <;> exact ⟨by omega, by omega⟩
  unfold Pw.run
  split
  · exact ⟨h1, h2, h3, h4, (by show -1 ≤ min (p.cold + 1) _; omega), (by show min (p.cold + 1) _ ≤ _; omega), h7⟩
  · split
    · exact ⟨h1, h2, (by show 0 ≤ p.lf - 1; omega), (by show p.lf - 1 ≤ _; omega), h5, h6, .inr (.inl rfl)⟩
    · exact ⟨h1, h2, hl.1, hl.2, (by show (-1 : Int) ≤ 0; omega), (by show (0 : Int) ≤ 1099511627776; omega), .inr (.inr rfl)⟩

def Pw.tick (p : Pw) (power : Bool) : Pw := if power = true then p.run else { p with state := 0 }
theorem Pw.tick_ok {p : Pw} (h : p.ok) (b : Bool) : (p.tick b).ok := by
  unfold Pw.tick
  split
  · exact Pw.run_ok h
  · obtain ⟨h1, h2, h3, h4, h5, h6, h7⟩ := h
    exact ⟨h1, h2, h3, h4, h5, h6, .inl rfl⟩
/-- What is told of it. -/
def Pw.told (p : Pw) : Int := if p.state = 2 then p.cold else -1

def Rp.tick (p : Rp) (power : Bool) : Rp := ⟨p.boot, if power = true then p.run + 1 else 0⟩
def Rp.state (p : Rp) (power : Bool) : Int := if power = true then (if p.run - 1 - p.boot < 0 then 1 else 2) else 0
def Rp.told (p : Rp) (power : Bool) : Int := if power = true then (if p.run - 1 - p.boot < 0 then -1 else min (p.run - 1 - p.boot) 1099511627776) else -1

instance (p : Pw) : Decidable p.ok := by unfold Pw.ok; infer_instance
theorem St.addBlk {L0 L : List Ent} {w0 w w' : World} (h : St L0 w0 w L) {b : Nat} {T : TypeId} {c : List Value} (hk : Ext w w') (hb : w'.heap[b]? = some (.cells c.toArray T (0, 0))) (hz : w.heap.size ≤ b) :
    St L0 w0 w' (L ++ [blk b T c]) := h.add hk hb (fun _ hx => by cases hx; exact ⟨hz, lt_of_some hb⟩) rfl

def liveAt : Nat → Pw
  | 0 => (⟨true, 2, 0, 0, 0⟩ : Pw)
  | 1 => (⟨true, 2, 1, 1, 0⟩ : Pw)
  | 2 => (⟨true, 2, 1, 0, 0⟩ : Pw)
  | 3 => (⟨true, 2, 2, 0, 0⟩ : Pw)
  | 4 => (⟨true, 2, 2, 0, 1⟩ : Pw)
  | 5 => (⟨true, 2, 0, 0, 1⟩ : Pw)
  | _ => (⟨true, 2, 1, 1, 1⟩ : Pw)

theorem on18 (w : World) (b : Nat) (p : Pw) (h : p.ok) (hb : w.heap[b]? = some (.cells (encP p).toArray 123 (0, 0))) :
    Ret Try.prog 107 [.pointer (some ⟨b, 0, none⟩)] w fun v w' => ∃ q, q = p.run ∧ Kept [blk b 123 (encP p)] w w' ∧ w'.heap[b]? = some (.cells (encP q).toArray 123 (0, 0)) := by
  obtain ⟨h1, h2, h3, h4, h5, h6, h7⟩ := h
  have hs0 : St [blk b 123 (encP p)] w w [blk b 123 (encP p)] := St.one hb
  refine enter (n := 49) Try.func107 rfl rfl rfl ?_
  refine WC.seq ?_
  refine WC.region ?_
  refine WL.val (R.move (v := .pointer (some ⟨b, 0, none⟩)) rfl) rfl ?_
  refine WL.val (R.nilCheckP (a := ⟨b, 0, none⟩) rfl) rfl ?_
  refine WL.val (R.fieldAddr (o := 0) (o' := 2) fa123_2 rfl rfl) rfl ?_
  refine WL.val (R.loadL (v := .int .u8 p.state) lf93 rfl (hs0.at (i := 0) (off := 2) (n := 1) (cs := [.int .u8 p.state]) rfl rfl rfl)) rfl ?_
  refine WL.nil ?_
  refine thenN ?_
  refine WC.block ?_
  refine WC.seq ?_
  refine WC.block ?_
  refine WC.seq ?_
  refine WC.block ?_
  refine WC.seq ?_
  refine WC.block ?_
  refine WC.seq ?_
  refine WC.seq ?_
  refine WC.seq ?_
  refine WC.region ?_
  by_cases hc1 : p.state = 0
  · refine WL.val (R.eqlT (k := .u8) (a := p.state) (b := 0) un93 rfl rfl hc1) rfl ?_
    refine WL.val (R.assign (v := .bool true) rfl) rfl ?_
    refine WL.nil ?_
    refine thenN ?_
    refine WC.condT rfl rfl ?_
    refine WC.exit ?_
    refine thenE ?_
    refine thenE ?_
    refine blockHit ?_
    refine thenN ?_
    refine WC.region ?_
    refine WL.val (R.move (v := .pointer (some ⟨b, 0, none⟩)) rfl) rfl ?_
    refine WL.val (R.move (v := .pointer (some ⟨b, 0, none⟩)) rfl) rfl ?_
    refine WL.val (R.move (v := .pointer (some ⟨b, 0, none⟩)) rfl) rfl ?_
    refine WL.val (R.nilCheckP (a := ⟨b, 0, none⟩) rfl) rfl ?_
    refine WL.val (R.fieldAddr (o := 0) (o' := 1) fa123_1 rfl rfl) rfl ?_
    refine WL.val (R.loadL (v := .int .i64 p.boot) lf3 rfl (hs0.at (i := 0) (off := 1) (n := 1) (cs := [.int .i64 p.boot]) rfl rfl rfl)) rfl ?_
    refine WL.val (R.nilCheckP (a := ⟨b, 0, none⟩) rfl) rfl ?_
    refine WL.val (R.fieldAddr (o := 0) (o' := 2) fa123_2 rfl rfl) rfl ?_
    refine WL.sto (L' := [blk b 123 [.bool p.made, .int .i64 p.boot, .int .u8 1, .int .i64 p.left, .int .i64 p.cold]]) (X.store (i := 0) (n := 1) (b := b) (off := 2) (c := encP p) (U := 123) (vs := [.int .u8 1]) (v := .int .u8 1) (c' := [.bool p.made, .int .i64 p.boot, .int .u8 1, .int .i64 p.left, .int .i64 p.cold]) hs0 rfl lf93.size rfl rfl rfl rfl rfl rfl rfl rfl) rfl rfl ?_
    intro w2 hs3
    refine WL.val (R.nilCheckP (a := ⟨b, 0, none⟩) rfl) rfl ?_
    refine WL.val (R.fieldAddr (o := 0) (o' := 3) fa123_3 rfl rfl) rfl ?_
    refine WL.sto (L' := [blk b 123 [.bool p.made, .int .i64 p.boot, .int .u8 1, .int .i64 p.boot, .int .i64 p.cold]]) (X.store (i := 0) (n := 1) (b := b) (off := 3) (c := [.bool p.made, .int .i64 p.boot, .int .u8 1, .int .i64 p.left, .int .i64 p.cold]) (U := 123) (vs := [.int .i64 p.boot]) (v := .int .i64 p.boot) (c' := [.bool p.made, .int .i64 p.boot, .int .u8 1, .int .i64 p.boot, .int .i64 p.cold]) hs3 rfl lf3.size rfl rfl rfl rfl rfl rfl rfl rfl) rfl rfl ?_
    intro w4 hs5
    refine WL.nil ?_
    refine blockN ?_
    refine thenN ?_
    refine WC.seq ?_
    refine WC.seq ?_
    refine WC.region ?_
    refine WL.val (R.move (v := .pointer (some ⟨b, 0, none⟩)) rfl) rfl ?_
    refine WL.val (R.nilCheckP (a := ⟨b, 0, none⟩) rfl) rfl ?_
    refine WL.val (R.fieldAddr (o := 0) (o' := 3) fa123_3 rfl rfl) rfl ?_
    refine WL.val (R.loadL (v := .int .i64 p.boot) lf3 rfl (hs5.at (i := 0) (off := 3) (n := 1) (cs := [.int .i64 p.boot]) rfl rfl rfl)) rfl ?_
    by_cases hc6 : 0 < p.boot
    · refine WL.val (R.gtrT (k := .i64) (a := p.boot) (b := 0) un3 rfl rfl hc6) rfl ?_
      refine WL.nil ?_
      refine thenN ?_
      refine WC.condT rfl rfl ?_
      refine WC.seq ?_
      refine WC.region ?_
      refine WL.val (R.move (v := .pointer (some ⟨b, 0, none⟩)) rfl) rfl ?_
      refine WL.val (R.nilCheckP (a := ⟨b, 0, none⟩) rfl) rfl ?_
      refine WL.val (R.fieldAddr (o := 0) (o' := 3) fa123_3 rfl rfl) rfl ?_
      refine WL.val (R.loadL (v := .int .i64 p.boot) lf3 rfl (hs5.at (i := 0) (off := 3) (n := 1) (cs := [.int .i64 p.boot]) rfl rfl rfl)) rfl ?_
      refine WL.val (R.sub (a := p.boot) (b := 1) (z := p.boot - 1) rfl rfl (w64e (by omega) (by omega) (by omega))) rfl ?_
      refine WL.val (R.nilCheckP (a := ⟨b, 0, none⟩) rfl) rfl ?_
      refine WL.val (R.fieldAddr (o := 0) (o' := 3) fa123_3 rfl rfl) rfl ?_
      refine WL.sto (L' := [blk b 123 [.bool p.made, .int .i64 p.boot, .int .u8 1, .int .i64 (p.boot - 1), .int .i64 p.cold]]) (X.store (i := 0) (n := 1) (b := b) (off := 3) (c := [.bool p.made, .int .i64 p.boot, .int .u8 1, .int .i64 p.boot, .int .i64 p.cold]) (U := 123) (vs := [.int .i64 (p.boot - 1)]) (v := .int .i64 (p.boot - 1)) (c' := [.bool p.made, .int .i64 p.boot, .int .u8 1, .int .i64 (p.boot - 1), .int .i64 p.cold]) hs5 rfl lf3.size rfl rfl rfl rfl rfl rfl rfl rfl) rfl rfl ?_
      intro w7 hs8
      refine WL.nil ?_
      refine thenN ?_
      refine WC.ret ?_
      exact ret0 (P := Try.prog) (n := 49) (fn := Try.f107) (R := fun v w' => ∃ q, q = p.run ∧ Kept [blk b 123 (encP p)] w w' ∧ w'.heap[b]? = some (.cells (encP q).toArray 123 (0, 0)))  rfl ⟨⟨p.made, p.boot, 1, p.boot - 1, p.cold⟩, (by first | omega | simp [Pw.run, Pw.lf, min_01, hc1, hc6]), hs8.kept, hs8.heap (i := 0) rfl⟩
    · refine WL.val (R.gtrF (k := .i64) (a := p.boot) (b := 0) un3 rfl rfl hc6) rfl ?_
      refine WL.nil ?_
      refine thenN ?_
      refine WC.condF rfl rfl ?_
      refine WC.skip ?_
      refine thenN ?_
      refine WC.region ?_
      refine WL.val (R.move (v := .pointer (some ⟨b, 0, none⟩)) rfl) rfl ?_
      refine WL.val (R.move (v := .pointer (some ⟨b, 0, none⟩)) rfl) rfl ?_
      refine WL.val (R.nilCheckP (a := ⟨b, 0, none⟩) rfl) rfl ?_
      refine WL.val (R.fieldAddr (o := 0) (o' := 2) fa123_2 rfl rfl) rfl ?_
      refine WL.sto (L' := [blk b 123 [.bool p.made, .int .i64 p.boot, .int .u8 2, .int .i64 p.boot, .int .i64 p.cold]]) (X.store (i := 0) (n := 1) (b := b) (off := 2) (c := [.bool p.made, .int .i64 p.boot, .int .u8 1, .int .i64 p.boot, .int .i64 p.cold]) (U := 123) (vs := [.int .u8 2]) (v := .int .u8 2) (c' := [.bool p.made, .int .i64 p.boot, .int .u8 2, .int .i64 p.boot, .int .i64 p.cold]) hs5 rfl lf93.size rfl rfl rfl rfl rfl rfl rfl rfl) rfl rfl ?_
      intro w9 hs10
      refine WL.val (R.nilCheckP (a := ⟨b, 0, none⟩) rfl) rfl ?_
      refine WL.val (R.fieldAddr (o := 0) (o' := 4) fa123_4 rfl rfl) rfl ?_
      refine WL.sto (L' := [blk b 123 [.bool p.made, .int .i64 p.boot, .int .u8 2, .int .i64 p.boot, .int .i64 (-1)]]) (X.store (i := 0) (n := 1) (b := b) (off := 4) (c := [.bool p.made, .int .i64 p.boot, .int .u8 2, .int .i64 p.boot, .int .i64 p.cold]) (U := 123) (vs := [.int .i64 (-1)]) (v := .int .i64 (-1)) (c' := [.bool p.made, .int .i64 p.boot, .int .u8 2, .int .i64 p.boot, .int .i64 (-1)]) hs10 rfl lf2.size rfl rfl rfl rfl rfl rfl rfl rfl) rfl rfl ?_
      intro w11 hs12
      refine WL.nil ?_
      refine blockN ?_
      refine thenN ?_
      refine WC.seq ?_
      refine WC.region ?_
      refine WL.val (R.move (v := .pointer (some ⟨b, 0, none⟩)) rfl) rfl ?_
      refine WL.val (R.move (v := .pointer (some ⟨b, 0, none⟩)) rfl) rfl ?_
      refine WL.val (R.nilCheckP (a := ⟨b, 0, none⟩) rfl) rfl ?_
      refine WL.val (R.fieldAddr (o := 0) (o' := 4) fa123_4 rfl rfl) rfl ?_
      refine WL.val (R.loadL (v := .int .i64 (-1)) lf2 rfl (hs12.at (i := 0) (off := 4) (n := 1) (cs := [.int .i64 (-1)]) rfl rfl rfl)) rfl ?_
      refine WL.val (R.add (a := -1) (b := 1) (z := (-1) + 1) rfl rfl (w64e (by omega) (by omega) (by omega))) rfl ?_
      refine WL.val (R.min (a := (-1) + 1) (b := 1099511627776) (z := min ((-1) + 1) 1099511627776) rfl rfl (by omega)) rfl ?_
      refine WL.val (R.nilCheckP (a := ⟨b, 0, none⟩) rfl) rfl ?_
      refine WL.val (R.fieldAddr (o := 0) (o' := 4) fa123_4 rfl rfl) rfl ?_
      refine WL.sto (L' := [blk b 123 [.bool p.made, .int .i64 p.boot, .int .u8 2, .int .i64 p.boot, .int .i64 (min ((-1) + 1) 1099511627776)]]) (X.store (i := 0) (n := 1) (b := b) (off := 4) (c := [.bool p.made, .int .i64 p.boot, .int .u8 2, .int .i64 p.boot, .int .i64 (-1)]) (U := 123) (vs := [.int .i64 (min ((-1) + 1) 1099511627776)]) (v := .int .i64 (min ((-1) + 1) 1099511627776)) (c' := [.bool p.made, .int .i64 p.boot, .int .u8 2, .int .i64 p.boot, .int .i64 (min ((-1) + 1) 1099511627776)]) hs12 rfl lf2.size rfl rfl rfl rfl rfl rfl rfl rfl) rfl rfl ?_
      intro w13 hs14
      refine WL.nil ?_
      refine thenN ?_
      refine WC.exit ?_
      refine blockHit ?_
      exact end0 (P := Try.prog) (n := 49) (fn := Try.f107) (R := fun v w' => ∃ q, q = p.run ∧ Kept [blk b 123 (encP p)] w w' ∧ w'.heap[b]? = some (.cells (encP q).toArray 123 (0, 0)))  rfl ⟨⟨p.made, p.boot, 2, p.boot, min ((-1) + 1) 1099511627776⟩, (by first | omega | simp [Pw.run, Pw.lf, min_01, hc1, hc6]), hs14.kept, hs14.heap (i := 0) rfl⟩
  · refine WL.val (R.eqlF (k := .u8) (a := p.state) (b := 0) un93 rfl rfl hc1) rfl ?_
    refine WL.val (R.assign (v := .bool false) rfl) rfl ?_
    refine WL.nil ?_
    refine thenN ?_
    refine WC.condF rfl rfl ?_
    refine WC.skip ?_
    refine thenN ?_
    refine WC.seq ?_
    refine WC.seq ?_
    refine WC.region ?_
    by_cases hc15 : p.state = 1
    · refine WL.val (R.eqlT (k := .u8) (a := p.state) (b := 1) un93 rfl rfl hc15) rfl ?_
      refine WL.val (R.assign (v := .bool true) rfl) rfl ?_
      refine WL.nil ?_
      refine thenN ?_
      refine WC.condT rfl rfl ?_
      refine WC.exit ?_
      refine thenE ?_
      refine thenE ?_
      refine blockMiss rfl ?_
      refine thenE ?_
      refine blockHit ?_
      refine thenN ?_
      refine WC.seq ?_
      refine WC.seq ?_
      refine WC.region ?_
      refine WL.val (R.move (v := .pointer (some ⟨b, 0, none⟩)) rfl) rfl ?_
      refine WL.val (R.nilCheckP (a := ⟨b, 0, none⟩) rfl) rfl ?_
      refine WL.val (R.fieldAddr (o := 0) (o' := 3) fa123_3 rfl rfl) rfl ?_
      refine WL.val (R.loadL (v := .int .i64 p.left) lf3 rfl (hs0.at (i := 0) (off := 3) (n := 1) (cs := [.int .i64 p.left]) rfl rfl rfl)) rfl ?_
      by_cases hc16 : 0 < p.left
      · refine WL.val (R.gtrT (k := .i64) (a := p.left) (b := 0) un3 rfl rfl hc16) rfl ?_
        refine WL.nil ?_
        refine thenN ?_
        refine WC.condT rfl rfl ?_
        refine WC.seq ?_
        refine WC.region ?_
        refine WL.val (R.move (v := .pointer (some ⟨b, 0, none⟩)) rfl) rfl ?_
        refine WL.val (R.nilCheckP (a := ⟨b, 0, none⟩) rfl) rfl ?_
        refine WL.val (R.fieldAddr (o := 0) (o' := 3) fa123_3 rfl rfl) rfl ?_
        refine WL.val (R.loadL (v := .int .i64 p.left) lf3 rfl (hs0.at (i := 0) (off := 3) (n := 1) (cs := [.int .i64 p.left]) rfl rfl rfl)) rfl ?_
        refine WL.val (R.sub (a := p.left) (b := 1) (z := p.left - 1) rfl rfl (w64e (by omega) (by omega) (by omega))) rfl ?_
        refine WL.val (R.nilCheckP (a := ⟨b, 0, none⟩) rfl) rfl ?_
        refine WL.val (R.fieldAddr (o := 0) (o' := 3) fa123_3 rfl rfl) rfl ?_
        refine WL.sto (L' := [blk b 123 [.bool p.made, .int .i64 p.boot, .int .u8 p.state, .int .i64 (p.left - 1), .int .i64 p.cold]]) (X.store (i := 0) (n := 1) (b := b) (off := 3) (c := encP p) (U := 123) (vs := [.int .i64 (p.left - 1)]) (v := .int .i64 (p.left - 1)) (c' := [.bool p.made, .int .i64 p.boot, .int .u8 p.state, .int .i64 (p.left - 1), .int .i64 p.cold]) hs0 rfl lf3.size rfl rfl rfl rfl rfl rfl rfl rfl) rfl rfl ?_
        intro w17 hs18
        refine WL.nil ?_
        refine thenN ?_
        refine WC.ret ?_
        exact ret0 (P := Try.prog) (n := 49) (fn := Try.f107) (R := fun v w' => ∃ q, q = p.run ∧ Kept [blk b 123 (encP p)] w w' ∧ w'.heap[b]? = some (.cells (encP q).toArray 123 (0, 0)))  rfl ⟨⟨p.made, p.boot, p.state, p.left - 1, p.cold⟩, (by first | omega | simp [Pw.run, Pw.lf, min_01, hc1, hc15, hc16]), hs18.kept, hs18.heap (i := 0) rfl⟩
      · refine WL.val (R.gtrF (k := .i64) (a := p.left) (b := 0) un3 rfl rfl hc16) rfl ?_
        refine WL.nil ?_
        refine thenN ?_
        refine WC.condF rfl rfl ?_
        refine WC.skip ?_
        refine thenN ?_
        refine WC.region ?_
        refine WL.val (R.move (v := .pointer (some ⟨b, 0, none⟩)) rfl) rfl ?_
        refine WL.val (R.move (v := .pointer (some ⟨b, 0, none⟩)) rfl) rfl ?_
        refine WL.val (R.nilCheckP (a := ⟨b, 0, none⟩) rfl) rfl ?_
        refine WL.val (R.fieldAddr (o := 0) (o' := 2) fa123_2 rfl rfl) rfl ?_
        refine WL.sto (L' := [blk b 123 [.bool p.made, .int .i64 p.boot, .int .u8 2, .int .i64 p.left, .int .i64 p.cold]]) (X.store (i := 0) (n := 1) (b := b) (off := 2) (c := encP p) (U := 123) (vs := [.int .u8 2]) (v := .int .u8 2) (c' := [.bool p.made, .int .i64 p.boot, .int .u8 2, .int .i64 p.left, .int .i64 p.cold]) hs0 rfl lf93.size rfl rfl rfl rfl rfl rfl rfl rfl) rfl rfl ?_
        intro w19 hs20
        refine WL.val (R.nilCheckP (a := ⟨b, 0, none⟩) rfl) rfl ?_
        refine WL.val (R.fieldAddr (o := 0) (o' := 4) fa123_4 rfl rfl) rfl ?_
        refine WL.sto (L' := [blk b 123 [.bool p.made, .int .i64 p.boot, .int .u8 2, .int .i64 p.left, .int .i64 (-1)]]) (X.store (i := 0) (n := 1) (b := b) (off := 4) (c := [.bool p.made, .int .i64 p.boot, .int .u8 2, .int .i64 p.left, .int .i64 p.cold]) (U := 123) (vs := [.int .i64 (-1)]) (v := .int .i64 (-1)) (c' := [.bool p.made, .int .i64 p.boot, .int .u8 2, .int .i64 p.left, .int .i64 (-1)]) hs20 rfl lf2.size rfl rfl rfl rfl rfl rfl rfl rfl) rfl rfl ?_
        intro w21 hs22
        refine WL.nil ?_
        refine blockN ?_
        refine thenN ?_
        refine WC.seq ?_
        refine WC.region ?_
        refine WL.val (R.move (v := .pointer (some ⟨b, 0, none⟩)) rfl) rfl ?_
        refine WL.val (R.move (v := .pointer (some ⟨b, 0, none⟩)) rfl) rfl ?_
        refine WL.val (R.nilCheckP (a := ⟨b, 0, none⟩) rfl) rfl ?_
        refine WL.val (R.fieldAddr (o := 0) (o' := 4) fa123_4 rfl rfl) rfl ?_
        refine WL.val (R.loadL (v := .int .i64 (-1)) lf2 rfl (hs22.at (i := 0) (off := 4) (n := 1) (cs := [.int .i64 (-1)]) rfl rfl rfl)) rfl ?_
        refine WL.val (R.add (a := -1) (b := 1) (z := (-1) + 1) rfl rfl (w64e (by omega) (by omega) (by omega))) rfl ?_
        refine WL.val (R.min (a := (-1) + 1) (b := 1099511627776) (z := min ((-1) + 1) 1099511627776) rfl rfl (by omega)) rfl ?_
        refine WL.val (R.nilCheckP (a := ⟨b, 0, none⟩) rfl) rfl ?_
        refine WL.val (R.fieldAddr (o := 0) (o' := 4) fa123_4 rfl rfl) rfl ?_
        refine WL.sto (L' := [blk b 123 [.bool p.made, .int .i64 p.boot, .int .u8 2, .int .i64 p.left, .int .i64 (min ((-1) + 1) 1099511627776)]]) (X.store (i := 0) (n := 1) (b := b) (off := 4) (c := [.bool p.made, .int .i64 p.boot, .int .u8 2, .int .i64 p.left, .int .i64 (-1)]) (U := 123) (vs := [.int .i64 (min ((-1) + 1) 1099511627776)]) (v := .int .i64 (min ((-1) + 1) 1099511627776)) (c' := [.bool p.made, .int .i64 p.boot, .int .u8 2, .int .i64 p.left, .int .i64 (min ((-1) + 1) 1099511627776)]) hs22 rfl lf2.size rfl rfl rfl rfl rfl rfl rfl rfl) rfl rfl ?_
        intro w23 hs24
        refine WL.nil ?_
        refine thenN ?_
        refine WC.exit ?_
        refine blockHit ?_
        exact end0 (P := Try.prog) (n := 49) (fn := Try.f107) (R := fun v w' => ∃ q, q = p.run ∧ Kept [blk b 123 (encP p)] w w' ∧ w'.heap[b]? = some (.cells (encP q).toArray 123 (0, 0)))  rfl ⟨⟨p.made, p.boot, 2, p.left, min ((-1) + 1) 1099511627776⟩, (by first | omega | simp [Pw.run, Pw.lf, min_01, hc1, hc15, hc16]), hs24.kept, hs24.heap (i := 0) rfl⟩
    · refine WL.val (R.eqlF (k := .u8) (a := p.state) (b := 1) un93 rfl rfl hc15) rfl ?_
      refine WL.val (R.assign (v := .bool false) rfl) rfl ?_
      refine WL.nil ?_
      refine thenN ?_
      refine WC.condF rfl rfl ?_
      refine WC.skip ?_
      refine thenN ?_
      refine WC.seq ?_
      refine WC.region ?_
      by_cases hc25 : p.state = 2
      · refine WL.val (R.eqlT (k := .u8) (a := p.state) (b := 2) un93 rfl rfl hc25) rfl ?_
        refine WL.val (R.assign (v := .bool true) rfl) rfl ?_
        refine WL.nil ?_
        refine thenN ?_
        refine WC.condT rfl rfl ?_
        refine WC.exit ?_
        refine thenE ?_
        refine blockMiss rfl ?_
        refine thenE ?_
        refine blockMiss rfl ?_
        refine thenE ?_
        refine blockHit ?_
        refine thenN ?_
        refine WC.seq ?_
        refine WC.region ?_
        refine WL.val (R.move (v := .pointer (some ⟨b, 0, none⟩)) rfl) rfl ?_
        refine WL.val (R.move (v := .pointer (some ⟨b, 0, none⟩)) rfl) rfl ?_
        refine WL.val (R.nilCheckP (a := ⟨b, 0, none⟩) rfl) rfl ?_
        refine WL.val (R.fieldAddr (o := 0) (o' := 4) fa123_4 rfl rfl) rfl ?_
        refine WL.val (R.loadL (v := .int .i64 p.cold) lf2 rfl (hs0.at (i := 0) (off := 4) (n := 1) (cs := [.int .i64 p.cold]) rfl rfl rfl)) rfl ?_
        refine WL.val (R.add (a := p.cold) (b := 1) (z := p.cold + 1) rfl rfl (w64e (by omega) (by omega) (by omega))) rfl ?_
        refine WL.val (R.min (a := p.cold + 1) (b := 1099511627776) (z := min (p.cold + 1) 1099511627776) rfl rfl (by omega)) rfl ?_
        refine WL.val (R.nilCheckP (a := ⟨b, 0, none⟩) rfl) rfl ?_
        refine WL.val (R.fieldAddr (o := 0) (o' := 4) fa123_4 rfl rfl) rfl ?_
        refine WL.sto (L' := [blk b 123 [.bool p.made, .int .i64 p.boot, .int .u8 p.state, .int .i64 p.left, .int .i64 (min (p.cold + 1) 1099511627776)]]) (X.store (i := 0) (n := 1) (b := b) (off := 4) (c := encP p) (U := 123) (vs := [.int .i64 (min (p.cold + 1) 1099511627776)]) (v := .int .i64 (min (p.cold + 1) 1099511627776)) (c' := [.bool p.made, .int .i64 p.boot, .int .u8 p.state, .int .i64 p.left, .int .i64 (min (p.cold + 1) 1099511627776)]) hs0 rfl lf2.size rfl rfl rfl rfl rfl rfl rfl rfl) rfl rfl ?_
        intro w26 hs27
        refine WL.nil ?_
        refine thenN ?_
        refine WC.exit ?_
        refine blockHit ?_
        exact end0 (P := Try.prog) (n := 49) (fn := Try.f107) (R := fun v w' => ∃ q, q = p.run ∧ Kept [blk b 123 (encP p)] w w' ∧ w'.heap[b]? = some (.cells (encP q).toArray 123 (0, 0)))  rfl ⟨⟨p.made, p.boot, p.state, p.left, min (p.cold + 1) 1099511627776⟩, (by first | omega | simp [Pw.run, Pw.lf, min_01, hc1, hc15, hc25]), hs27.kept, hs27.heap (i := 0) rfl⟩
      · refine WL.val (R.eqlF (k := .u8) (a := p.state) (b := 2) un93 rfl rfl hc25) rfl ?_
        refine WL.val (R.assign (v := .bool false) rfl) rfl ?_
        refine WL.nil ?_
        refine thenN ?_
        refine WC.condF rfl rfl ?_
        refine WC.skip ?_
        refine thenN ?_
        refine WC.exit ?_
        refine blockMiss rfl ?_
        refine thenE ?_
        refine blockMiss rfl ?_
        refine thenE ?_
        refine blockMiss rfl ?_
        refine thenE ?_
        refine blockHit ?_
        exact end0 (P := Try.prog) (n := 49) (fn := Try.f107) (R := fun v w' => ∃ q, q = p.run ∧ Kept [blk b 123 (encP p)] w w' ∧ w'.heap[b]? = some (.cells (encP q).toArray 123 (0, 0)))  rfl ⟨⟨p.made, p.boot, p.state, p.left, p.cold⟩, (by first | omega | simp [Pw.run, Pw.lf, min_01, hc1, hc15, hc25]), hs0.kept, hs0.heap (i := 0) rfl⟩

theorem step18 (w : World) (b : Nat) (p : Pw) (power : Bool) (h : p.ok) (hm : p.made = true) (hb : w.heap[b]? = some (.cells (encP p).toArray 123 (0, 0))) :
    Ret Try.prog 52 [.pointer (some ⟨b, 0, none⟩), .bool power] w fun v w' => ∃ q, q = p.tick power ∧ v = .tuple #[.int .u8 q.state, .int .i64 q.told] ∧ Kept [blk b 123 (encP p)] w w' ∧ w'.heap[b]? = some (.cells (encP q).toArray 123 (0, 0)) := by
  have hs0 : St [blk b 123 (encP p)] w w [blk b 123 (encP p)] := St.one hb
  refine enter (n := 38) Try.func52 rfl rfl rfl ?_
  refine WC.seq ?_
  refine WC.region ?_
  refine WL.val (R.assign (v := .int .u8 0) rfl) rfl ?_
  refine WL.val (R.assign (v := .int .i64 0) rfl) rfl ?_
  refine WL.nil ?_
  refine thenN ?_
  refine WC.seq ?_
  refine WC.seq ?_
  refine WC.region ?_
  refine WL.val (R.move (v := .pointer (some ⟨b, 0, none⟩)) rfl) rfl ?_
  refine WL.val (R.ptrNil (a := ⟨b, 0, none⟩) un87 rfl rfl) rfl ?_
  refine WL.val (R.move (v := .bool false) rfl) rfl ?_
  refine WL.guardY (e := 8) rfl rfl rfl ?_
  refine WL.val (R.move (v := .pointer (some ⟨b, 0, none⟩)) rfl) rfl ?_
  refine WL.guardY (e := 8) rfl rfl rfl ?_
  refine WL.val (R.nilCheckP (a := ⟨b, 0, none⟩) rfl) rfl ?_
  refine WL.guardY (e := 8) rfl rfl rfl ?_
  refine WL.val (R.fieldAddr (o := 0) (o' := 0) fa123_0 rfl rfl) rfl ?_
  refine WL.guardY (e := 8) rfl rfl rfl ?_
  refine WL.val (R.loadL (v := .bool p.made) lf4 rfl (hs0.at (i := 0) (off := 0) (n := 1) (cs := [.bool p.made]) rfl rfl rfl)) rfl ?_
  refine WL.guardY (e := 8) rfl rfl rfl ?_
  refine WL.val (R.not (b := p.made) rfl) rfl ?_
  refine WL.val (R.pickF (v := .bool (!p.made)) rfl rfl) rfl ?_
  refine WL.nil ?_
  refine thenN ?_
  rcases Bool.eq_false_or_eq_true (!p.made) with hb1 | hb1
  · refine WC.condT (Eq.trans (show _ = Value.bool (!p.made) from rfl) (congrArg Value.bool hb1)) rfl ?_
    refine WC.seq ?_
    refine WC.region ?_
    refine WL.val (R.assign (v := .int .u8 0) rfl) rfl ?_
    refine WL.val (R.assign (v := .int .i64 (-1)) rfl) rfl ?_
    refine WL.nil ?_
    refine thenN ?_
    refine WC.ret ?_
    exact absurd hb1 (by simp [hm])
  · refine WC.condF (Eq.trans (show _ = Value.bool (!p.made) from rfl) (congrArg Value.bool hb1)) rfl ?_
    refine WC.skip ?_
    refine thenN ?_
    refine WC.seq ?_
    refine WC.seq ?_
    refine WC.region ?_
    refine WL.val (R.move (v := .bool power) rfl) rfl ?_
    refine WL.nil ?_
    refine thenN ?_
    rcases Bool.eq_false_or_eq_true power with hb2 | hb2
    · refine WC.condT (Eq.trans (show _ = Value.bool power from rfl) (congrArg Value.bool hb2)) rfl ?_
      refine WC.region ?_
      refine WL.val (R.move (v := .pointer (some ⟨b, 0, none⟩)) rfl) rfl ?_
      refine WL.call (on18 _ b p h (hs0.heap (i := 0) rfl)) (R.call (vs := [.pointer (some ⟨b, 0, none⟩)]) (caps := []) bo107 rfl rfl) rfl ?_
      rintro v6 w7 ⟨_, rfl, hk4, hh5⟩
      have hs3 : St [blk b 123 (encP p)] w w7 [blk b 123 (encP p.run)] := hs0.turnedB (i := 0) rfl hk4 hh5 rfl
      refine WL.nil ?_
      refine thenN ?_
      refine WC.seq ?_
      refine WC.seq ?_
      refine WC.region ?_
      refine WL.val (R.move (v := .pointer (some ⟨b, 0, none⟩)) rfl) rfl ?_
      refine WL.val (R.nilCheckP (a := ⟨b, 0, none⟩) rfl) rfl ?_
      refine WL.val (R.fieldAddr (o := 0) (o' := 2) fa123_2 rfl rfl) rfl ?_
      refine WL.val (R.loadL (v := .int .u8 p.run.state) lf93 rfl (hs3.at (i := 0) (off := 2) (n := 1) (cs := [.int .u8 p.run.state]) rfl rfl rfl)) rfl ?_
      by_cases hc8 : ¬ (p.run.state = 2)
      · refine WL.val (R.neqT (k := .u8) (a := p.run.state) (b := 2) un93 rfl rfl hc8) rfl ?_
        refine WL.nil ?_
        refine thenN ?_
        refine WC.condT rfl rfl ?_
        refine WC.seq ?_
        refine WC.region ?_
        refine WL.val (R.move (v := .pointer (some ⟨b, 0, none⟩)) rfl) rfl ?_
        refine WL.val (R.nilCheckP (a := ⟨b, 0, none⟩) rfl) rfl ?_
        refine WL.val (R.fieldAddr (o := 0) (o' := 2) fa123_2 rfl rfl) rfl ?_
        refine WL.val (R.loadL (v := .int .u8 p.run.state) lf93 rfl (hs3.at (i := 0) (off := 2) (n := 1) (cs := [.int .u8 p.run.state]) rfl rfl rfl)) rfl ?_
        refine WL.val (R.assign (v := .int .u8 p.run.state) rfl) rfl ?_
        refine WL.val (R.assign (v := .int .i64 (-1)) rfl) rfl ?_
        refine WL.nil ?_
        refine thenN ?_
        refine WC.ret ?_
        exact ret2 (P := Try.prog) (n := 38) (fn := Try.f52) (R := fun v w' => ∃ q, q = p.tick power ∧ v = .tuple #[.int .u8 q.state, .int .i64 q.told] ∧ Kept [blk b 123 (encP p)] w w' ∧ w'.heap[b]? = some (.cells (encP q).toArray 123 (0, 0))) (t := 4) (u := 5) (v := .int .u8 p.run.state) (v' := .int .i64 (-1)) rfl rfl rfl rfl rfl ⟨p.run, (by simp [Pw.tick, hb1, hb2, hc8]), (by simp [Pw.told, hb1, hb2, hc8]), hs3.kept, hs3.heap (i := 0) rfl⟩
      · refine WL.val (R.neqF (k := .u8) (a := p.run.state) (b := 2) un93 rfl rfl hc8) rfl ?_
        refine WL.nil ?_
        refine thenN ?_
        refine WC.condF rfl rfl ?_
        refine WC.skip ?_
        refine thenN ?_
        refine WC.seq ?_
        refine WC.drawE mixed (NP.then NP.rq) ?_
        have hs9 := hs3.ext (Ext.drew _)
        refine WE.take 0 rfl (by decide +kernel) (by decide +kernel) (by decide +kernel) rfl rfl (fun wq hq => R.move (v := .pointer (some ⟨b, 0, none⟩)) rfl) ?_
        refine WE.take 1 rfl (by decide +kernel) (by decide +kernel) (by decide +kernel) rfl rfl (fun wq hq => R.nilCheckP (a := ⟨b, 0, none⟩) rfl) ?_
        refine WE.take 2 rfl (by decide +kernel) (by decide +kernel) (by decide +kernel) rfl rfl (fun wq hq => R.fieldAddr (o := 0) (o' := 2) fa123_2 rfl rfl) ?_
        refine WE.take 3 rfl (by decide +kernel) (by decide +kernel) (by decide +kernel) rfl rfl (fun wq hq => R.loadL (v := .int .u8 p.run.state) lf93 rfl ((hs9.ext hq).at (i := 0) (off := 2) (n := 1) (cs := [.int .u8 p.run.state]) rfl rfl rfl)) ?_
        refine WE.take 4 rfl (by decide +kernel) (by decide +kernel) (by decide +kernel) rfl rfl (fun wq hq => R.move (v := .pointer (some ⟨b, 0, none⟩)) rfl) ?_
        refine WE.take 5 rfl (by decide +kernel) (by decide +kernel) (by decide +kernel) rfl rfl (fun wq hq => R.nilCheckP (a := ⟨b, 0, none⟩) rfl) ?_
        refine WE.take 6 rfl (by decide +kernel) (by decide +kernel) (by decide +kernel) rfl rfl (fun wq hq => R.fieldAddr (o := 0) (o' := 4) fa123_4 rfl rfl) ?_
        refine WE.take 7 rfl (by decide +kernel) (by decide +kernel) (by decide +kernel) rfl rfl (fun wq hq => R.loadL (v := .int .i64 p.run.cold) lf2 rfl ((hs9.ext hq).at (i := 0) (off := 4) (n := 1) (cs := [.int .i64 p.run.cold]) rfl rfl rfl)) ?_
        refine WE.take 8 rfl (by decide +kernel) (by decide +kernel) (by decide +kernel) rfl rfl (fun wq hq => R.assign (v := .int .u8 p.run.state) rfl) ?_
        refine WE.take 9 rfl (by decide +kernel) (by decide +kernel) (by decide +kernel) rfl rfl (fun wq hq => R.assign (v := .int .i64 p.run.cold) rfl) ?_
        refine WE.done (by decide +kernel) ?_
        refine thenN ?_
        refine WC.ret ?_
        exact ret2 (P := Try.prog) (n := 38) (fn := Try.f52) (R := fun v w' => ∃ q, q = p.tick power ∧ v = .tuple #[.int .u8 q.state, .int .i64 q.told] ∧ Kept [blk b 123 (encP p)] w w' ∧ w'.heap[b]? = some (.cells (encP q).toArray 123 (0, 0))) (t := 4) (u := 5) (v := .int .u8 p.run.state) (v' := .int .i64 p.run.cold) rfl rfl rfl rfl rfl ⟨p.run, (by simp [Pw.tick, hb1, hb2, hc8]), (by simp [Pw.told, hb1, hb2, hc8]), hs9.kept, hs9.heap (i := 0) rfl⟩
    · refine WC.condF (Eq.trans (show _ = Value.bool power from rfl) (congrArg Value.bool hb2)) rfl ?_
      refine WC.region ?_
      refine WL.val (R.move (v := .pointer (some ⟨b, 0, none⟩)) rfl) rfl ?_
      refine WL.val (R.nilCheckP (a := ⟨b, 0, none⟩) rfl) rfl ?_
      refine WL.val (R.fieldAddr (o := 0) (o' := 2) fa123_2 rfl rfl) rfl ?_
      refine WL.sto (L' := [blk b 123 [.bool p.made, .int .i64 p.boot, .int .u8 0, .int .i64 p.left, .int .i64 p.cold]]) (X.store (i := 0) (n := 1) (b := b) (off := 2) (c := encP p) (U := 123) (vs := [.int .u8 0]) (v := .int .u8 0) (c' := [.bool p.made, .int .i64 p.boot, .int .u8 0, .int .i64 p.left, .int .i64 p.cold]) hs0 rfl lf93.size rfl rfl rfl rfl rfl rfl rfl rfl) rfl rfl ?_
      intro w10 hs11
      refine WL.nil ?_
      refine thenN ?_
      refine WC.seq ?_
      refine WC.seq ?_
      refine WC.region ?_
      refine WL.val (R.move (v := .pointer (some ⟨b, 0, none⟩)) rfl) rfl ?_
      refine WL.val (R.nilCheckP (a := ⟨b, 0, none⟩) rfl) rfl ?_
      refine WL.val (R.fieldAddr (o := 0) (o' := 2) fa123_2 rfl rfl) rfl ?_
      refine WL.val (R.loadL (v := .int .u8 0) lf93 rfl (hs11.at (i := 0) (off := 2) (n := 1) (cs := [.int .u8 0]) rfl rfl rfl)) rfl ?_
      refine WL.val (R.neqT (k := .u8) (a := 0) (b := 2) un93 rfl rfl (by decide)) rfl ?_
      refine WL.nil ?_
      refine thenN ?_
      refine WC.condT rfl rfl ?_
      refine WC.seq ?_
      refine WC.region ?_
      refine WL.val (R.move (v := .pointer (some ⟨b, 0, none⟩)) rfl) rfl ?_
      refine WL.val (R.nilCheckP (a := ⟨b, 0, none⟩) rfl) rfl ?_
      refine WL.val (R.fieldAddr (o := 0) (o' := 2) fa123_2 rfl rfl) rfl ?_
      refine WL.val (R.loadL (v := .int .u8 0) lf93 rfl (hs11.at (i := 0) (off := 2) (n := 1) (cs := [.int .u8 0]) rfl rfl rfl)) rfl ?_
      refine WL.val (R.assign (v := .int .u8 0) rfl) rfl ?_
      refine WL.val (R.assign (v := .int .i64 (-1)) rfl) rfl ?_
      refine WL.nil ?_
      refine thenN ?_
      refine WC.ret ?_
      exact ret2 (P := Try.prog) (n := 38) (fn := Try.f52) (R := fun v w' => ∃ q, q = p.tick power ∧ v = .tuple #[.int .u8 q.state, .int .i64 q.told] ∧ Kept [blk b 123 (encP p)] w w' ∧ w'.heap[b]? = some (.cells (encP q).toArray 123 (0, 0))) (t := 4) (u := 5) (v := .int .u8 0) (v' := .int .i64 (-1)) rfl rfl rfl rfl rfl ⟨⟨p.made, p.boot, 0, p.left, p.cold⟩, (by simp [Pw.tick, hb1, hb2]), (by simp [Pw.told, hb1, hb2]), hs11.kept, hs11.heap (i := 0) rfl⟩

theorem stepNil18 (w : World) (power : Bool) :
    Ret Try.prog 52 [.pointer none, .bool power] w fun v w' => v = .tuple #[.int .u8 0, .int .i64 (-1)] ∧ Ext w w' := by
  have hs0 : St [] w w [] := St.start w
  refine enter (n := 38) Try.func52 rfl rfl rfl ?_
  refine WC.seq ?_
  refine WC.region ?_
  refine WL.val (R.assign (v := .int .u8 0) rfl) rfl ?_
  refine WL.val (R.assign (v := .int .i64 0) rfl) rfl ?_
  refine WL.nil ?_
  refine thenN ?_
  refine WC.seq ?_
  refine WC.seq ?_
  refine WC.region ?_
  refine WL.val (R.move (v := .pointer none) rfl) rfl ?_
  refine WL.val (R.nilNil un87 rfl rfl) rfl ?_
  refine WL.val (R.move (v := .bool true) rfl) rfl ?_
  refine WL.guardN (e := 8) (v := .bool true) rfl rfl rfl rfl ?_
  refine WL.guardN (e := 8) (v := .bool true) rfl rfl rfl rfl ?_
  refine WL.guardN (e := 8) (v := .bool true) rfl rfl rfl rfl ?_
  refine WL.guardN (e := 8) (v := .bool true) rfl rfl rfl rfl ?_
  refine WL.guardN (e := 8) (v := .bool true) rfl rfl rfl rfl ?_
  refine WL.val (R.pickT (v := .bool true) rfl rfl) rfl ?_
  refine WL.nil ?_
  refine thenN ?_
  refine WC.condT rfl rfl ?_
  refine WC.seq ?_
  refine WC.region ?_
  refine WL.val (R.assign (v := .int .u8 0) rfl) rfl ?_
  refine WL.val (R.assign (v := .int .i64 (-1)) rfl) rfl ?_
  refine WL.nil ?_
  refine thenN ?_
  refine WC.ret ?_
  exact ret2 (P := Try.prog) (n := 38) (fn := Try.f52) (R := fun v w' => v = .tuple #[.int .u8 0, .int .i64 (-1)] ∧ Ext w w') (t := 4) (u := 5) (v := .int .u8 0) (v' := .int .i64 (-1)) rfl rfl rfl rfl rfl ⟨rfl, hs0.kept⟩

theorem stepNone18 (w : World) (b : Nat) (power : Bool) (hb : w.heap[b]? = some (.cells (encP Pw.none).toArray 123 (0, 0))) :
    Ret Try.prog 52 [.pointer (some ⟨b, 0, none⟩), .bool power] w fun v w' => v = .tuple #[.int .u8 0, .int .i64 (-1)] ∧ Ext w w' := by
  have hs0 : St [blk b 123 (encP Pw.none)] w w [blk b 123 (encP Pw.none)] := St.one hb
  refine enter (n := 38) Try.func52 rfl rfl rfl ?_
  refine WC.seq ?_
  refine WC.region ?_
  refine WL.val (R.assign (v := .int .u8 0) rfl) rfl ?_
  refine WL.val (R.assign (v := .int .i64 0) rfl) rfl ?_
  refine WL.nil ?_
  refine thenN ?_
  refine WC.seq ?_
  refine WC.seq ?_
  refine WC.region ?_
  refine WL.val (R.move (v := .pointer (some ⟨b, 0, none⟩)) rfl) rfl ?_
  refine WL.val (R.ptrNil (a := ⟨b, 0, none⟩) un87 rfl rfl) rfl ?_
  refine WL.val (R.move (v := .bool false) rfl) rfl ?_
  refine WL.guardY (e := 8) rfl rfl rfl ?_
  refine WL.val (R.move (v := .pointer (some ⟨b, 0, none⟩)) rfl) rfl ?_
  refine WL.guardY (e := 8) rfl rfl rfl ?_
  refine WL.val (R.nilCheckP (a := ⟨b, 0, none⟩) rfl) rfl ?_
  refine WL.guardY (e := 8) rfl rfl rfl ?_
  refine WL.val (R.fieldAddr (o := 0) (o' := 0) fa123_0 rfl rfl) rfl ?_
  refine WL.guardY (e := 8) rfl rfl rfl ?_
  refine WL.val (R.loadL (v := .bool false) lf4 rfl (hs0.at (i := 0) (off := 0) (n := 1) (cs := [.bool false]) rfl rfl rfl)) rfl ?_
  refine WL.guardY (e := 8) rfl rfl rfl ?_
  refine WL.val (R.notK (b := false) (c := true) rfl rfl) rfl ?_
  refine WL.val (R.pickF (v := .bool true) rfl rfl) rfl ?_
  refine WL.nil ?_
  refine thenN ?_
  refine WC.condT rfl rfl ?_
  refine WC.seq ?_
  refine WC.region ?_
  refine WL.val (R.assign (v := .int .u8 0) rfl) rfl ?_
  refine WL.val (R.assign (v := .int .i64 (-1)) rfl) rfl ?_
  refine WL.nil ?_
  refine thenN ?_
  refine WC.ret ?_
  exact ret2 (P := Try.prog) (n := 38) (fn := Try.f52) (R := fun v w' => v = .tuple #[.int .u8 0, .int .i64 (-1)] ∧ Ext w w') (t := 4) (u := 5) (v := .int .u8 0) (v' := .int .i64 (-1)) rfl rfl rfl rfl rfl ⟨rfl, Ext.refl _⟩

theorem new18 (w : World) (boot : Int) :
    Ret Try.prog 50 [.int .i64 boot] w fun v w' => (0 ≤ boot ∧ boot ≤ 4096 → ∃ b, v = .tuple #[.pointer (some ⟨b, 0, none⟩), .int .i64 0] ∧ Ext w w' ∧ w.heap.size ≤ b ∧ w'.heap[b]? = some (.cells (encP ⟨true, boot, 0, 0, 0⟩).toArray 123 (0, 0))) ∧ (¬ (0 ≤ boot ∧ boot ≤ 4096) → v = .tuple #[.pointer none, .int .i64 1] ∧ Ext w w') := by
  have hs0 : St [] w w [] := St.start w
  refine enter (n := 13) Try.func50 rfl rfl rfl ?_
  refine WC.seq ?_
  refine WC.region ?_
  refine WL.val (R.assign (v := .pointer none) rfl) rfl ?_
  refine WL.val (R.assign (v := .int .i64 0) rfl) rfl ?_
  refine WL.nil ?_
  refine thenN ?_
  refine WC.seq ?_
  refine WC.seq ?_
  refine WC.region ?_
  refine WL.val (R.move (v := .int .i64 boot) rfl) rfl ?_
  by_cases hc1 : boot < 0
  · refine WL.val (R.lssT (k := .i64) (a := boot) (b := 0) un3 rfl rfl hc1) rfl ?_
    refine WL.val (R.move (v := .bool true) rfl) rfl ?_
    refine WL.guardN (e := 6) (v := .bool true) rfl rfl rfl rfl ?_
    refine WL.guardN (e := 6) (v := .bool true) rfl rfl rfl rfl ?_
    refine WL.val (R.pickT (v := .bool true) rfl rfl) rfl ?_
    refine WL.nil ?_
    refine thenN ?_
    refine WC.condT rfl rfl ?_
    refine WC.seq ?_
    refine WC.region ?_
    refine WL.val (R.assign (v := .pointer none) rfl) rfl ?_
    refine WL.val (R.assign (v := .int .i64 1) rfl) rfl ?_
    refine WL.nil ?_
    refine thenN ?_
    refine WC.ret ?_
    exact ret2 (P := Try.prog) (n := 13) (fn := Try.f50) (R := fun v w' => (0 ≤ boot ∧ boot ≤ 4096 → ∃ b, v = .tuple #[.pointer (some ⟨b, 0, none⟩), .int .i64 0] ∧ Ext w w' ∧ w.heap.size ≤ b ∧ w'.heap[b]? = some (.cells (encP ⟨true, boot, 0, 0, 0⟩).toArray 123 (0, 0))) ∧ (¬ (0 ≤ boot ∧ boot ≤ 4096) → v = .tuple #[.pointer none, .int .i64 1] ∧ Ext w w')) (t := 2) (u := 3) (v := .pointer none) (v' := .int .i64 1) rfl rfl rfl rfl rfl (by refine ⟨fun h => ?_, fun h => ?_⟩; {omega}; {exact ⟨rfl, hs0.kept⟩})
  · refine WL.val (R.lssF (k := .i64) (a := boot) (b := 0) un3 rfl rfl hc1) rfl ?_
    refine WL.val (R.move (v := .bool false) rfl) rfl ?_
    refine WL.guardY (e := 6) rfl rfl rfl ?_
    refine WL.val (R.move (v := .int .i64 boot) rfl) rfl ?_
    refine WL.guardY (e := 6) rfl rfl rfl ?_
    by_cases hc2 : 4096 < boot
    · refine WL.val (R.gtrT (k := .i64) (a := boot) (b := 4096) un3 rfl rfl hc2) rfl ?_
      refine WL.val (R.pickF (v := .bool true) rfl rfl) rfl ?_
      refine WL.nil ?_
      refine thenN ?_
      refine WC.condT rfl rfl ?_
      refine WC.seq ?_
      refine WC.region ?_
      refine WL.val (R.assign (v := .pointer none) rfl) rfl ?_
      refine WL.val (R.assign (v := .int .i64 1) rfl) rfl ?_
      refine WL.nil ?_
      refine thenN ?_
      refine WC.ret ?_
      exact ret2 (P := Try.prog) (n := 13) (fn := Try.f50) (R := fun v w' => (0 ≤ boot ∧ boot ≤ 4096 → ∃ b, v = .tuple #[.pointer (some ⟨b, 0, none⟩), .int .i64 0] ∧ Ext w w' ∧ w.heap.size ≤ b ∧ w'.heap[b]? = some (.cells (encP ⟨true, boot, 0, 0, 0⟩).toArray 123 (0, 0))) ∧ (¬ (0 ≤ boot ∧ boot ≤ 4096) → v = .tuple #[.pointer none, .int .i64 1] ∧ Ext w w')) (t := 2) (u := 3) (v := .pointer none) (v' := .int .i64 1) rfl rfl rfl rfl rfl (by refine ⟨fun h => ?_, fun h => ?_⟩; {omega}; {exact ⟨rfl, hs0.kept⟩})
    · refine WL.val (R.gtrF (k := .i64) (a := boot) (b := 4096) un3 rfl rfl hc2) rfl ?_
      refine WL.val (R.pickF (v := .bool false) rfl rfl) rfl ?_
      refine WL.nil ?_
      refine thenN ?_
      refine WC.condF rfl rfl ?_
      refine WC.skip ?_
      refine thenN ?_
      refine WC.seq ?_
      refine WC.region ?_
      refine WL.val (R.move (v := .int .i64 boot) rfl) rfl ?_
      have hd3 : ∀ w, (Instr.build 123 #[(0, .bool true), (1, .int .i64 boot)]).run Try.prog w = .ok (.agg (List.toArray (encP (⟨true, boot, 0, 0, 0⟩)))) w := fun _ => by kernel_rfl
      refine WL.val (R.build (vs := [(0, .bool true), (1, .int .i64 boot)]) rfl hd3) rfl ?_
      refine WL.new (L' := fun b4 => [blk b4 123 (encP (⟨true, boot, 0, 0, 0⟩))]) (f := fun b4 => .pointer (some ⟨b4, 0, none⟩)) (X.box (v := .agg (List.toArray (encP (⟨true, boot, 0, 0, 0⟩)))) (c := encP (⟨true, boot, 0, 0, 0⟩)) hs0 rfl rfl (fun _ => rfl)) rfl ?_
      intro b4 w5 hs6 he7 hz8
      refine WL.val (R.assign (v := .pointer (some ⟨b4, 0, none⟩)) rfl) rfl ?_
      refine WL.val (R.assign (v := .int .i64 0) rfl) rfl ?_
      refine WL.nil ?_
      refine thenN ?_
      refine WC.ret ?_
      exact ret2 (P := Try.prog) (n := 13) (fn := Try.f50) (R := fun v w' => (0 ≤ boot ∧ boot ≤ 4096 → ∃ b, v = .tuple #[.pointer (some ⟨b, 0, none⟩), .int .i64 0] ∧ Ext w w' ∧ w.heap.size ≤ b ∧ w'.heap[b]? = some (.cells (encP ⟨true, boot, 0, 0, 0⟩).toArray 123 (0, 0))) ∧ (¬ (0 ≤ boot ∧ boot ≤ 4096) → v = .tuple #[.pointer none, .int .i64 1] ∧ Ext w w')) (t := 2) (u := 3) (v := .pointer (some ⟨b4, 0, none⟩)) (v' := .int .i64 0) rfl rfl rfl rfl rfl (by refine ⟨fun h => ?_, fun h => ?_⟩; {exact ⟨_, rfl, hs6.kept, (by omega), hs6.heap (i := 0) rfl⟩}; {omega})

theorem rnew18 (w : World) (boot : Int) :
    Ret Try.prog 51 [.int .i64 boot] w fun v w' => (0 ≤ boot ∧ boot ≤ 4096 → ∃ b, v = .tuple #[.pointer (some ⟨b, 0, none⟩), .int .i64 0] ∧ Ext w w' ∧ w.heap.size ≤ b ∧ w'.heap[b]? = some (.cells (encRP ⟨boot, 0⟩).toArray 230 (0, 0))) ∧ (¬ (0 ≤ boot ∧ boot ≤ 4096) → v = .tuple #[.pointer none, .int .i64 1] ∧ Ext w w') := by
  have hs0 : St [] w w [] := St.start w
  refine enter (n := 13) Try.func51 rfl rfl rfl ?_
  refine WC.seq ?_
  refine WC.region ?_
  refine WL.val (R.assign (v := .pointer none) rfl) rfl ?_
  refine WL.val (R.assign (v := .int .i64 0) rfl) rfl ?_
  refine WL.nil ?_
  refine thenN ?_
  refine WC.seq ?_
  refine WC.seq ?_
  refine WC.region ?_
  refine WL.val (R.move (v := .int .i64 boot) rfl) rfl ?_
  by_cases hc1 : boot < 0
  · refine WL.val (R.lssT (k := .i64) (a := boot) (b := 0) un3 rfl rfl hc1) rfl ?_
    refine WL.val (R.move (v := .bool true) rfl) rfl ?_
    refine WL.guardN (e := 6) (v := .bool true) rfl rfl rfl rfl ?_
    refine WL.guardN (e := 6) (v := .bool true) rfl rfl rfl rfl ?_
    refine WL.val (R.pickT (v := .bool true) rfl rfl) rfl ?_
    refine WL.nil ?_
    refine thenN ?_
    refine WC.condT rfl rfl ?_
    refine WC.seq ?_
    refine WC.region ?_
    refine WL.val (R.assign (v := .pointer none) rfl) rfl ?_
    refine WL.val (R.assign (v := .int .i64 1) rfl) rfl ?_
    refine WL.nil ?_
    refine thenN ?_
    refine WC.ret ?_
    exact ret2 (P := Try.prog) (n := 13) (fn := Try.f51) (R := fun v w' => (0 ≤ boot ∧ boot ≤ 4096 → ∃ b, v = .tuple #[.pointer (some ⟨b, 0, none⟩), .int .i64 0] ∧ Ext w w' ∧ w.heap.size ≤ b ∧ w'.heap[b]? = some (.cells (encRP ⟨boot, 0⟩).toArray 230 (0, 0))) ∧ (¬ (0 ≤ boot ∧ boot ≤ 4096) → v = .tuple #[.pointer none, .int .i64 1] ∧ Ext w w')) (t := 2) (u := 3) (v := .pointer none) (v' := .int .i64 1) rfl rfl rfl rfl rfl (by refine ⟨fun h => ?_, fun h => ?_⟩; {omega}; {exact ⟨rfl, hs0.kept⟩})
  · refine WL.val (R.lssF (k := .i64) (a := boot) (b := 0) un3 rfl rfl hc1) rfl ?_
    refine WL.val (R.move (v := .bool false) rfl) rfl ?_
    refine WL.guardY (e := 6) rfl rfl rfl ?_
    refine WL.val (R.move (v := .int .i64 boot) rfl) rfl ?_
    refine WL.guardY (e := 6) rfl rfl rfl ?_
    by_cases hc2 : 4096 < boot
    · refine WL.val (R.gtrT (k := .i64) (a := boot) (b := 4096) un3 rfl rfl hc2) rfl ?_
      refine WL.val (R.pickF (v := .bool true) rfl rfl) rfl ?_
      refine WL.nil ?_
      refine thenN ?_
      refine WC.condT rfl rfl ?_
      refine WC.seq ?_
      refine WC.region ?_
      refine WL.val (R.assign (v := .pointer none) rfl) rfl ?_
      refine WL.val (R.assign (v := .int .i64 1) rfl) rfl ?_
      refine WL.nil ?_
      refine thenN ?_
      refine WC.ret ?_
      exact ret2 (P := Try.prog) (n := 13) (fn := Try.f51) (R := fun v w' => (0 ≤ boot ∧ boot ≤ 4096 → ∃ b, v = .tuple #[.pointer (some ⟨b, 0, none⟩), .int .i64 0] ∧ Ext w w' ∧ w.heap.size ≤ b ∧ w'.heap[b]? = some (.cells (encRP ⟨boot, 0⟩).toArray 230 (0, 0))) ∧ (¬ (0 ≤ boot ∧ boot ≤ 4096) → v = .tuple #[.pointer none, .int .i64 1] ∧ Ext w w')) (t := 2) (u := 3) (v := .pointer none) (v' := .int .i64 1) rfl rfl rfl rfl rfl (by refine ⟨fun h => ?_, fun h => ?_⟩; {omega}; {exact ⟨rfl, hs0.kept⟩})
    · refine WL.val (R.gtrF (k := .i64) (a := boot) (b := 4096) un3 rfl rfl hc2) rfl ?_
      refine WL.val (R.pickF (v := .bool false) rfl rfl) rfl ?_
      refine WL.nil ?_
      refine thenN ?_
      refine WC.condF rfl rfl ?_
      refine WC.skip ?_
      refine thenN ?_
      refine WC.seq ?_
      refine WC.region ?_
      refine WL.val (R.move (v := .int .i64 boot) rfl) rfl ?_
      have hd3 : ∀ w, (Instr.build 230 #[(0, .int .i64 boot)]).run Try.prog w = .ok (.agg (List.toArray (encRP (⟨boot, 0⟩)))) w := fun _ => by kernel_rfl
      refine WL.val (R.build (vs := [(0, .int .i64 boot)]) rfl hd3) rfl ?_
      refine WL.new (L' := fun b4 => [blk b4 230 (encRP (⟨boot, 0⟩))]) (f := fun b4 => .pointer (some ⟨b4, 0, none⟩)) (X.box (v := .agg (List.toArray (encRP (⟨boot, 0⟩)))) (c := encRP (⟨boot, 0⟩)) hs0 rfl rfl (fun _ => rfl)) rfl ?_
      intro b4 w5 hs6 he7 hz8
      refine WL.val (R.assign (v := .pointer (some ⟨b4, 0, none⟩)) rfl) rfl ?_
      refine WL.val (R.assign (v := .int .i64 0) rfl) rfl ?_
      refine WL.nil ?_
      refine thenN ?_
      refine WC.ret ?_
      exact ret2 (P := Try.prog) (n := 13) (fn := Try.f51) (R := fun v w' => (0 ≤ boot ∧ boot ≤ 4096 → ∃ b, v = .tuple #[.pointer (some ⟨b, 0, none⟩), .int .i64 0] ∧ Ext w w' ∧ w.heap.size ≤ b ∧ w'.heap[b]? = some (.cells (encRP ⟨boot, 0⟩).toArray 230 (0, 0))) ∧ (¬ (0 ≤ boot ∧ boot ≤ 4096) → v = .tuple #[.pointer none, .int .i64 1] ∧ Ext w w')) (t := 2) (u := 3) (v := .pointer (some ⟨b4, 0, none⟩)) (v' := .int .i64 0) rfl rfl rfl rfl rfl (by refine ⟨fun h => ?_, fun h => ?_⟩; {exact ⟨_, rfl, hs6.kept, (by omega), hs6.heap (i := 0) rfl⟩}; {omega})

theorem rstep18 (w : World) (b : Nat) (p : Rp) (power : Bool) (h1 : 0 ≤ p.boot) (h2 : p.boot ≤ 4096) (h3 : 0 ≤ p.run) (h4 : p.run ≤ 1000000000) (hb : w.heap[b]? = some (.cells (encRP p).toArray 230 (0, 0))) :
    Ret Try.prog 53 [.pointer (some ⟨b, 0, none⟩), .bool power] w fun v w' => ∃ q, q = p.tick power ∧ v = .tuple #[.int .i64 (q.state power), .int .i64 (q.told power)] ∧ Kept [blk b 230 (encRP p)] w w' ∧ w'.heap[b]? = some (.cells (encRP q).toArray 230 (0, 0)) := by
  have hs0 : St [blk b 230 (encRP p)] w w [blk b 230 (encRP p)] := St.one hb
  refine enter (n := 34) Try.func53 rfl rfl rfl ?_
  refine WC.seq ?_
  refine WC.region ?_
  refine WL.val (R.assign (v := .int .i64 0) rfl) rfl ?_
  refine WL.val (R.assign (v := .int .i64 0) rfl) rfl ?_
  refine WL.nil ?_
  refine thenN ?_
  refine WC.seq ?_
  refine WC.seq ?_
  refine WC.region ?_
  refine WL.val (R.move (v := .bool power) rfl) rfl ?_
  refine WL.val (R.not (b := power) rfl) rfl ?_
  refine WL.nil ?_
  refine thenN ?_
  rcases Bool.eq_false_or_eq_true (!power) with hb1 | hb1
  · refine WC.condT (Eq.trans (show _ = Value.bool (!power) from rfl) (congrArg Value.bool hb1)) rfl ?_
    refine WC.seq ?_
    refine WC.region ?_
    refine WL.val (R.move (v := .pointer (some ⟨b, 0, none⟩)) rfl) rfl ?_
    refine WL.val (R.nilCheckP (a := ⟨b, 0, none⟩) rfl) rfl ?_
    refine WL.val (R.fieldAddr (o := 0) (o' := 1) fa230_1 rfl rfl) rfl ?_
    refine WL.sto (L' := [blk b 230 [.int .i64 p.boot, .int .i64 0]]) (X.store (i := 0) (n := 1) (b := b) (off := 1) (c := encRP p) (U := 230) (vs := [.int .i64 0]) (v := .int .i64 0) (c' := [.int .i64 p.boot, .int .i64 0]) hs0 rfl lf2.size rfl rfl rfl rfl rfl rfl rfl rfl) rfl rfl ?_
    intro w2 hs3
    refine WL.nil ?_
    refine thenN ?_
    refine WC.seq ?_
    refine WC.region ?_
    refine WL.val (R.assign (v := .int .i64 0) rfl) rfl ?_
    refine WL.val (R.assign (v := .int .i64 (-1)) rfl) rfl ?_
    refine WL.nil ?_
    refine thenN ?_
    refine WC.ret ?_
    exact ret2 (P := Try.prog) (n := 34) (fn := Try.f53) (R := fun v w' => ∃ q, q = p.tick power ∧ v = .tuple #[.int .i64 (q.state power), .int .i64 (q.told power)] ∧ Kept [blk b 230 (encRP p)] w w' ∧ w'.heap[b]? = some (.cells (encRP q).toArray 230 (0, 0))) (t := 4) (u := 5) (v := .int .i64 0) (v' := .int .i64 (-1)) rfl rfl rfl rfl rfl ⟨⟨p.boot, 0⟩, (by cases power <;> first | exact absurd hb1 (by decide) | (simp [Rp.tick, Rp.state, Rp.told]; try omega)), (by cases power <;> first | exact absurd hb1 (by decide) | (simp [Rp.state, Rp.told, Rp.tick]; try omega)), hs3.kept, hs3.heap (i := 0) rfl⟩
  · refine WC.condF (Eq.trans (show _ = Value.bool (!power) from rfl) (congrArg Value.bool hb1)) rfl ?_
    refine WC.skip ?_
    refine thenN ?_
    refine WC.seq ?_
    refine WC.region ?_
    refine WL.val (R.move (v := .pointer (some ⟨b, 0, none⟩)) rfl) rfl ?_
    refine WL.val (R.nilCheckP (a := ⟨b, 0, none⟩) rfl) rfl ?_
    refine WL.val (R.fieldAddr (o := 0) (o' := 1) fa230_1 rfl rfl) rfl ?_
    refine WL.val (R.loadL (v := .int .i64 p.run) lf2 rfl (hs0.at (i := 0) (off := 1) (n := 1) (cs := [.int .i64 p.run]) rfl rfl rfl)) rfl ?_
    refine WL.val (R.add (a := p.run) (b := 1) (z := p.run + 1) rfl rfl (w64e (by omega) (by omega) (by omega))) rfl ?_
    refine WL.val (R.nilCheckP (a := ⟨b, 0, none⟩) rfl) rfl ?_
    refine WL.val (R.fieldAddr (o := 0) (o' := 1) fa230_1 rfl rfl) rfl ?_
    refine WL.sto (L' := [blk b 230 [.int .i64 p.boot, .int .i64 (p.run + 1)]]) (X.store (i := 0) (n := 1) (b := b) (off := 1) (c := encRP p) (U := 230) (vs := [.int .i64 (p.run + 1)]) (v := .int .i64 (p.run + 1)) (c' := [.int .i64 p.boot, .int .i64 (p.run + 1)]) hs0 rfl lf2.size rfl rfl rfl rfl rfl rfl rfl rfl) rfl rfl ?_
    intro w4 hs5
    refine WL.nil ?_
    refine thenN ?_
    refine WC.seq ?_
    refine WC.drawE mixed (NP.then NP.rq) ?_
    have hs6 := hs5.ext (Ext.drew _)
    refine WE.take 0 rfl (by decide +kernel) (by decide +kernel) (by decide +kernel) rfl rfl (fun wq hq => R.move (v := .pointer (some ⟨b, 0, none⟩)) rfl) ?_
    refine WE.take 1 rfl (by decide +kernel) (by decide +kernel) (by decide +kernel) rfl rfl (fun wq hq => R.nilCheckP (a := ⟨b, 0, none⟩) rfl) ?_
    refine WE.take 2 rfl (by decide +kernel) (by decide +kernel) (by decide +kernel) rfl rfl (fun wq hq => R.fieldAddr (o := 0) (o' := 1) fa230_1 rfl rfl) ?_
    refine WE.take 3 rfl (by decide +kernel) (by decide +kernel) (by decide +kernel) rfl rfl (fun wq hq => R.loadL (v := .int .i64 (p.run + 1)) lf2 rfl ((hs6.ext hq).at (i := 0) (off := 1) (n := 1) (cs := [.int .i64 (p.run + 1)]) rfl rfl rfl)) ?_
    refine WE.take 4 rfl (by decide +kernel) (by decide +kernel) (by decide +kernel) rfl rfl (fun wq hq => R.sub (a := p.run + 1) (b := 1) (z := (p.run + 1) - 1) rfl rfl (w64e (by omega) (by omega) (by omega))) ?_
    refine WE.take 5 rfl (by decide +kernel) (by decide +kernel) (by decide +kernel) rfl rfl (fun wq hq => R.move (v := .pointer (some ⟨b, 0, none⟩)) rfl) ?_
    refine WE.take 6 rfl (by decide +kernel) (by decide +kernel) (by decide +kernel) rfl rfl (fun wq hq => R.nilCheckP (a := ⟨b, 0, none⟩) rfl) ?_
    refine WE.take 7 rfl (by decide +kernel) (by decide +kernel) (by decide +kernel) rfl rfl (fun wq hq => R.fieldAddr (o := 0) (o' := 0) fa230_0 rfl rfl) ?_
    refine WE.take 8 rfl (by decide +kernel) (by decide +kernel) (by decide +kernel) rfl rfl (fun wq hq => R.loadL (v := .int .i64 p.boot) lf3 rfl ((hs6.ext hq).at (i := 0) (off := 0) (n := 1) (cs := [.int .i64 p.boot]) rfl rfl rfl)) ?_
    refine WE.take 9 rfl (by decide +kernel) (by decide +kernel) (by decide +kernel) rfl rfl (fun wq hq => R.sub (a := (p.run + 1) - 1) (b := p.boot) (z := ((p.run + 1) - 1) - p.boot) rfl rfl (w64e (by omega) (by omega) (by omega))) ?_
    refine WE.take 10 rfl (by decide +kernel) (by decide +kernel) (by decide +kernel) rfl rfl (fun wq hq => R.assign (v := .int .i64 (((p.run + 1) - 1) - p.boot)) rfl) ?_
    refine WE.done (by decide +kernel) ?_
    refine thenN ?_
    refine WC.seq ?_
    refine WC.seq ?_
    refine WC.region ?_
    refine WL.val (R.move (v := .int .i64 (((p.run + 1) - 1) - p.boot)) rfl) rfl ?_
    by_cases hc7 : (((p.run + 1) - 1) - p.boot) < 0
    · refine WL.val (R.lssT (k := .i64) (a := ((p.run + 1) - 1) - p.boot) (b := 0) un2 rfl rfl hc7) rfl ?_
      refine WL.nil ?_
      refine thenN ?_
      refine WC.condT rfl rfl ?_
      refine WC.seq ?_
      refine WC.region ?_
      refine WL.val (R.assign (v := .int .i64 1) rfl) rfl ?_
      refine WL.val (R.assign (v := .int .i64 (-1)) rfl) rfl ?_
      refine WL.nil ?_
      refine thenN ?_
      refine WC.ret ?_
      exact ret2 (P := Try.prog) (n := 34) (fn := Try.f53) (R := fun v w' => ∃ q, q = p.tick power ∧ v = .tuple #[.int .i64 (q.state power), .int .i64 (q.told power)] ∧ Kept [blk b 230 (encRP p)] w w' ∧ w'.heap[b]? = some (.cells (encRP q).toArray 230 (0, 0))) (t := 4) (u := 5) (v := .int .i64 1) (v' := .int .i64 (-1)) rfl rfl rfl rfl rfl ⟨⟨p.boot, p.run + 1⟩, (by cases power <;> first | exact absurd hb1 (by decide) | (simp [Rp.tick, Rp.state, Rp.told]; try omega)), (by cases power <;> first | exact absurd hb1 (by decide) | (simp [Rp.state, Rp.told, Rp.tick]; try omega)), hs6.kept, hs6.heap (i := 0) rfl⟩
    · refine WL.val (R.lssF (k := .i64) (a := ((p.run + 1) - 1) - p.boot) (b := 0) un2 rfl rfl hc7) rfl ?_
      refine WL.nil ?_
      refine thenN ?_
      refine WC.condF rfl rfl ?_
      refine WC.skip ?_
      refine thenN ?_
      refine WC.seq ?_
      refine WC.seq ?_
      refine WC.region ?_
      refine WL.val (R.move (v := .int .i64 (((p.run + 1) - 1) - p.boot)) rfl) rfl ?_
      by_cases hc8 : 1099511627776 < (((p.run + 1) - 1) - p.boot)
      · refine WL.val (R.gtrT (k := .i64) (a := ((p.run + 1) - 1) - p.boot) (b := 1099511627776) un2 rfl rfl hc8) rfl ?_
        refine WL.nil ?_
        refine thenN ?_
        refine WC.condT rfl rfl ?_
        refine WC.region ?_
        refine WL.val (R.assign (v := .int .i64 1099511627776) rfl) rfl ?_
        refine WL.nil ?_
        refine thenN ?_
        refine WC.seq ?_
        refine WC.region ?_
        refine WL.val (R.move (v := .int .i64 1099511627776) rfl) rfl ?_
        refine WL.val (R.assign (v := .int .i64 2) rfl) rfl ?_
        refine WL.val (R.assign (v := .int .i64 1099511627776) rfl) rfl ?_
        refine WL.nil ?_
        refine thenN ?_
        refine WC.ret ?_
        exact ret2 (P := Try.prog) (n := 34) (fn := Try.f53) (R := fun v w' => ∃ q, q = p.tick power ∧ v = .tuple #[.int .i64 (q.state power), .int .i64 (q.told power)] ∧ Kept [blk b 230 (encRP p)] w w' ∧ w'.heap[b]? = some (.cells (encRP q).toArray 230 (0, 0))) (t := 4) (u := 5) (v := .int .i64 2) (v' := .int .i64 1099511627776) rfl rfl rfl rfl rfl ⟨⟨p.boot, p.run + 1⟩, (by cases power <;> first | exact absurd hb1 (by decide) | (simp [Rp.tick, Rp.state, Rp.told]; try omega)), (by cases power <;> first | exact absurd hb1 (by decide) | (simp [Rp.state, Rp.told, Rp.tick]; try omega)), hs6.kept, hs6.heap (i := 0) rfl⟩
      · refine WL.val (R.gtrF (k := .i64) (a := ((p.run + 1) - 1) - p.boot) (b := 1099511627776) un2 rfl rfl hc8) rfl ?_
        refine WL.nil ?_
        refine thenN ?_
        refine WC.condF rfl rfl ?_
        refine WC.skip ?_
        refine thenN ?_
        refine WC.seq ?_
        refine WC.region ?_
        refine WL.val (R.move (v := .int .i64 (((p.run + 1) - 1) - p.boot)) rfl) rfl ?_
        refine WL.val (R.assign (v := .int .i64 2) rfl) rfl ?_
        refine WL.val (R.assign (v := .int .i64 (((p.run + 1) - 1) - p.boot)) rfl) rfl ?_
        refine WL.nil ?_
        refine thenN ?_
        refine WC.ret ?_
        exact ret2 (P := Try.prog) (n := 34) (fn := Try.f53) (R := fun v w' => ∃ q, q = p.tick power ∧ v = .tuple #[.int .i64 (q.state power), .int .i64 (q.told power)] ∧ Kept [blk b 230 (encRP p)] w w' ∧ w'.heap[b]? = some (.cells (encRP q).toArray 230 (0, 0))) (t := 4) (u := 5) (v := .int .i64 2) (v' := .int .i64 (((p.run + 1) - 1) - p.boot)) rfl rfl rfl rfl rfl ⟨⟨p.boot, p.run + 1⟩, (by cases power <;> first | exact absurd hb1 (by decide) | (simp [Rp.tick, Rp.state, Rp.told]; try omega)), (by cases power <;> first | exact absurd hb1 (by decide) | (simp [Rp.state, Rp.told, Rp.tick]; try omega)), hs6.kept, hs6.heap (i := 0) rfl⟩

theorem lives18 (w : World)  :
    Ret Try.prog 49 [] w fun v w' => v = .bool true ∧ Ext w w' := by
  have hs0 : St [] w w [] := St.start w
  refine enter (n := 41) Try.func49 rfl rfl rfl ?_
  refine WC.seq ?_
  refine WC.region ?_
  refine WL.val (R.assign (v := .bool false) rfl) rfl ?_
  refine WL.nil ?_
  refine thenN ?_
  refine WC.seq ?_
  refine WC.region ?_
  refine WL.call (new18 _ 2) (R.call (vs := [.int .i64 2]) (caps := []) bo50 rfl rfl) rfl ?_
  rintro v3 w4 ⟨hn1, hv2⟩
  obtain ⟨b5, rfl, he6, hz7, hb8⟩ := hn1 (by decide)
  have hs9 : St [] w w4 [blk b5 123 (encP (⟨true, 2, 0, 0, 0⟩ : Pw))] := hs0.addBlk he6 hb8 hz7
  refine WL.val (R.move (v := .tuple #[.pointer (some ⟨b5, 0, none⟩), .int .i64 0]) rfl) rfl ?_
  refine WL.val (R.extract (v := .pointer (some ⟨b5, 0, none⟩)) rfl rfl) rfl ?_
  refine WL.val (R.extract (v := .int .i64 0) rfl rfl) rfl ?_
  refine WL.val (R.assign (v := .pointer (some ⟨b5, 0, none⟩)) rfl) rfl ?_
  refine WL.val (R.assign (v := .int .i64 0) rfl) rfl ?_
  refine WL.nil ?_
  refine thenN ?_
  refine WC.seq ?_
  refine WC.region ?_
  have hd16 : ∀ w : World, (Instr.buildSlice 228 6 #[(0, .int .u8 1), (1, .int .u8 1), (2, .int .u8 2), (3, .int .u8 2), (4, .int .u8 0), (5, .int .u8 1)]).run Try.prog w = .ok (.slice (some ⟨w.heap.size, 0, none⟩) 6 6) { w with heap := w.heap.push (.cells (List.toArray [.int .u8 1, .int .u8 1, .int .u8 2, .int .u8 2, .int .u8 0, .int .u8 1]) 93) } := fun _ => by kernel_rfl
  refine WL.new (L' := fun b11 => [blk b5 123 (encP (⟨true, 2, 0, 0, 0⟩ : Pw)), blk b11 93 [.int .u8 1, .int .u8 1, .int .u8 2, .int .u8 2, .int .u8 0, .int .u8 1]]) (f := fun b11 => .slice (some ⟨b11, 0, none⟩) 6 6) (X.buildSlice (c := [.int .u8 1, .int .u8 1, .int .u8 2, .int .u8 2, .int .u8 0, .int .u8 1]) (vs := [(0, .int .u8 1), (1, .int .u8 1), (2, .int .u8 2), (3, .int .u8 2), (4, .int .u8 0), (5, .int .u8 1)]) hs9 rfl hd16 (fun _ => rfl)) rfl ?_
  intro b11 w12 hs13 he14 hz15
  refine WL.val (R.assign (v := .slice (some ⟨b11, 0, none⟩) 6 6) rfl) rfl ?_
  refine WL.nil ?_
  refine thenN ?_
  refine WC.seq ?_
  refine WC.region ?_
  have hd23 : ∀ w : World, (Instr.buildSlice 196 6 #[(0, .int .i64 (-1)), (1, .int .i64 (-1)), (2, .int .i64 0), (3, .int .i64 1), (4, .int .i64 (-1)), (5, .int .i64 (-1))]).run Try.prog w = .ok (.slice (some ⟨w.heap.size, 0, none⟩) 6 6) { w with heap := w.heap.push (.cells (List.toArray [.int .i64 (-1), .int .i64 (-1), .int .i64 0, .int .i64 1, .int .i64 (-1), .int .i64 (-1)]) 2) } := fun _ => by kernel_rfl
  refine WL.new (L' := fun b18 => [blk b5 123 (encP (⟨true, 2, 0, 0, 0⟩ : Pw)), blk b11 93 [.int .u8 1, .int .u8 1, .int .u8 2, .int .u8 2, .int .u8 0, .int .u8 1], blk b18 2 [.int .i64 (-1), .int .i64 (-1), .int .i64 0, .int .i64 1, .int .i64 (-1), .int .i64 (-1)]]) (f := fun b18 => .slice (some ⟨b18, 0, none⟩) 6 6) (X.buildSlice (c := [.int .i64 (-1), .int .i64 (-1), .int .i64 0, .int .i64 1, .int .i64 (-1), .int .i64 (-1)]) (vs := [(0, .int .i64 (-1)), (1, .int .i64 (-1)), (2, .int .i64 0), (3, .int .i64 1), (4, .int .i64 (-1)), (5, .int .i64 (-1))]) hs13 rfl hd23 (fun _ => rfl)) rfl ?_
  intro b18 w19 hs20 he21 hz22
  refine WL.val (R.assign (v := .slice (some ⟨b18, 0, none⟩) 6 6) rfl) rfl ?_
  refine WL.nil ?_
  refine thenN ?_
  refine WC.seq ?_
  refine WC.seq ?_
  refine WC.region ?_
  refine WL.val (R.assign (v := .int .i64 0) rfl) rfl ?_
  refine WL.nil ?_
  refine thenN ?_
  refine WC.block ?_
  refine WC.loop (T := Nat) (fun k σ wl => σ 1 = (.pointer (some ⟨b5, 0, none⟩)) ∧ σ 2 = (.int .i64 0) ∧ σ 3 = (.slice (some ⟨b11, 0, none⟩) 6 6) ∧ σ 4 = (.slice (some ⟨b18, 0, none⟩) 6 6) ∧ σ 5 = (.int .i64 ((k : Nat) : Int)) ∧ k ≤ 6 ∧ St [] w wl [blk b5 123 (encP (liveAt k)), blk b11 93 [.int .u8 1, .int .u8 1, .int .u8 2, .int .u8 2, .int .u8 0, .int .u8 1], blk b18 2 [.int .i64 (-1), .int .i64 (-1), .int .i64 0, .int .i64 1, .int .i64 (-1), .int .i64 (-1)]]) (fun k => 7 - k) (0) ⟨rfl, rfl, rfl, rfl, rfl, (by decide), hs20⟩ ?_
  rintro k σ25 w26 ⟨s27, s28, s29, s30, s31, hk, hs32⟩
  rcases (show k = 0 ∨ k = 1 ∨ k = 2 ∨ k = 3 ∨ k = 4 ∨ k = 5 ∨ k = 6 by omega) with rfl | rfl | rfl | rfl | rfl | rfl | rfl
  · refine WC.seq ?_
    refine WC.seq ?_
    refine WC.region ?_
    refine WL.val (R.move (v := .int .i64 ((0 : Nat) : Int)) s31) rfl ?_
    refine WL.val (R.lssT (k := .i64) (a := ((0 : Nat) : Int)) (b := 6) un3 rfl rfl (by decide)) rfl ?_
    refine WL.nil ?_
    refine thenN ?_
    refine WC.condT rfl rfl ?_
    refine WC.skip ?_
    refine thenN ?_
    refine WC.seq ?_
    refine WC.block ?_
    refine WC.seq ?_
    refine WC.seq ?_
    refine WC.region ?_
    refine WL.val (R.move (v := .int .i64 0) s28) rfl ?_
    refine WL.val (R.neqF (k := .i64) (a := 0) (b := 0) un66 rfl rfl (by decide)) rfl ?_
    refine WL.nil ?_
    refine thenN ?_
    refine WC.condF rfl rfl ?_
    refine WC.skip ?_
    refine thenN ?_
    refine WC.seq ?_
    refine WC.region ?_
    refine WL.val (R.move (v := .pointer (some ⟨b5, 0, none⟩)) s27) rfl ?_
    refine WL.val (R.move (v := .int .i64 ((0 : Nat) : Int)) s31) rfl ?_
    refine WL.val (R.neqT (k := .i64) (a := ((0 : Nat) : Int)) (b := 4) un3 rfl rfl (by decide)) rfl ?_
    refine WL.call (step18 _ b5 (⟨true, 2, 0, 0, 0⟩ : Pw) true (by decide) rfl (hs32.heap (i := 0) rfl)) (R.call (vs := [.pointer (some ⟨b5, 0, none⟩), .bool true]) (caps := []) bo52 rfl rfl) rfl ?_
    rintro v36 w37 ⟨_, rfl, rfl, hk33, hh34⟩
    have hs35 : St [] w w37 [blk b5 123 (encP (⟨true, 2, 1, 1, 0⟩ : Pw)), blk b11 93 [.int .u8 1, .int .u8 1, .int .u8 2, .int .u8 2, .int .u8 0, .int .u8 1], blk b18 2 [.int .i64 (-1), .int .i64 (-1), .int .i64 0, .int .i64 1, .int .i64 (-1), .int .i64 (-1)]] := hs32.turnedB (i := 0) rfl hk33 hh34 rfl
    refine WL.val (R.move (v := .tuple #[.int .u8 1, .int .i64 (-1)]) rfl) rfl ?_
    refine WL.val (R.extract (v := .int .u8 1) rfl rfl) rfl ?_
    refine WL.val (R.extract (v := .int .i64 (-1)) rfl rfl) rfl ?_
    refine WL.val (R.assign (v := .int .u8 1) rfl) rfl ?_
    refine WL.val (R.assign (v := .int .i64 (-1)) rfl) rfl ?_
    refine WL.nil ?_
    refine thenN ?_
    refine WC.seq ?_
    refine WC.region ?_
    refine WL.val (R.move (v := .int .u8 1) rfl) rfl ?_
    refine WL.val (R.move (v := .slice (some ⟨b11, 0, none⟩) 6 6) s29) rfl ?_
    refine WL.val (R.move (v := .int .i64 ((0 : Nat) : Int)) s31) rfl ?_
    refine WL.val (R.indexS (n := 1) (m := 0) (ad := ⟨b11, 0, none⟩) (len := 6) (cap := 6) (z := ((0 : Nat) : Int)) un228 lf93.size rfl rfl rfl rfl (by decide) rfl) rfl ?_
    refine WL.val (R.loadL (v := .int .u8 1) lf93 rfl (hs35.at (i := 1) (off := 0) (n := 1) (cs := [.int .u8 1]) rfl rfl rfl)) rfl ?_
    refine WL.val (R.neqF (k := .u8) (a := 1) (b := 1) un93 rfl rfl (by decide)) rfl ?_
    refine WL.val (R.move (v := .bool false) rfl) rfl ?_
    refine WL.guardY (e := 33) rfl rfl rfl ?_
    refine WL.val (R.move (v := .int .i64 (-1)) rfl) rfl ?_
    refine WL.guardY (e := 33) rfl rfl rfl ?_
    refine WL.val (R.move (v := .slice (some ⟨b18, 0, none⟩) 6 6) s30) rfl ?_
    refine WL.guardY (e := 33) rfl rfl rfl ?_
    refine WL.val (R.move (v := .int .i64 ((0 : Nat) : Int)) s31) rfl ?_
    refine WL.guardY (e := 33) rfl rfl rfl ?_
    refine WL.val (R.indexS (n := 1) (m := 0) (ad := ⟨b18, 0, none⟩) (len := 6) (cap := 6) (z := ((0 : Nat) : Int)) un196 lf2.size rfl rfl rfl rfl (by decide) rfl) rfl ?_
    refine WL.guardY (e := 33) rfl rfl rfl ?_
    refine WL.val (R.loadL (v := .int .i64 (-1)) lf2 rfl (hs35.at (i := 2) (off := 0) (n := 1) (cs := [.int .i64 (-1)]) rfl rfl rfl)) rfl ?_
    refine WL.guardY (e := 33) rfl rfl rfl ?_
    refine WL.val (R.neqF (k := .i64) (a := -1) (b := -1) un2 rfl rfl (by decide)) rfl ?_
    refine WL.val (R.pickF (v := .bool false) rfl rfl) rfl ?_
    refine WL.nil ?_
    refine thenN ?_
    refine WC.condF rfl rfl ?_
    refine WC.skip ?_
    refine blockN ?_
    refine thenN ?_
    refine WC.region ?_
    refine WL.val (R.move (v := .int .i64 ((0 : Nat) : Int)) s31) rfl ?_
    refine WL.val (R.add (a := ((0 : Nat) : Int)) (b := 1) (z := ((0 + 1 : Nat) : Int)) rfl rfl (w64e (by omega) (by omega) (by omega))) rfl ?_
    refine WL.val (R.assign (v := .int .i64 ((0 + 1 : Nat) : Int)) rfl) rfl ?_
    refine WL.nil ?_
    exact roundEnd (s := 1) ⟨s27, s28, s29, s30, rfl, (by decide), hs35⟩ (by decide)
  · refine WC.seq ?_
    refine WC.seq ?_
    refine WC.region ?_
    refine WL.val (R.move (v := .int .i64 ((1 : Nat) : Int)) s31) rfl ?_
    refine WL.val (R.lssT (k := .i64) (a := ((1 : Nat) : Int)) (b := 6) un3 rfl rfl (by decide)) rfl ?_
    refine WL.nil ?_
    refine thenN ?_
    refine WC.condT rfl rfl ?_
    refine WC.skip ?_
    refine thenN ?_
    refine WC.seq ?_
    refine WC.block ?_
    refine WC.seq ?_
    refine WC.seq ?_
    refine WC.region ?_
    refine WL.val (R.move (v := .int .i64 0) s28) rfl ?_
    refine WL.val (R.neqF (k := .i64) (a := 0) (b := 0) un66 rfl rfl (by decide)) rfl ?_
    refine WL.nil ?_
    refine thenN ?_
    refine WC.condF rfl rfl ?_
    refine WC.skip ?_
    refine thenN ?_
    refine WC.seq ?_
    refine WC.region ?_
    refine WL.val (R.move (v := .pointer (some ⟨b5, 0, none⟩)) s27) rfl ?_
    refine WL.val (R.move (v := .int .i64 ((1 : Nat) : Int)) s31) rfl ?_
    refine WL.val (R.neqT (k := .i64) (a := ((1 : Nat) : Int)) (b := 4) un3 rfl rfl (by decide)) rfl ?_
    refine WL.call (step18 _ b5 (⟨true, 2, 1, 1, 0⟩ : Pw) true (by decide) rfl (hs32.heap (i := 0) rfl)) (R.call (vs := [.pointer (some ⟨b5, 0, none⟩), .bool true]) (caps := []) bo52 rfl rfl) rfl ?_
    rintro v41 w42 ⟨_, rfl, rfl, hk38, hh39⟩
    have hs40 : St [] w w42 [blk b5 123 (encP (⟨true, 2, 1, 0, 0⟩ : Pw)), blk b11 93 [.int .u8 1, .int .u8 1, .int .u8 2, .int .u8 2, .int .u8 0, .int .u8 1], blk b18 2 [.int .i64 (-1), .int .i64 (-1), .int .i64 0, .int .i64 1, .int .i64 (-1), .int .i64 (-1)]] := hs32.turnedB (i := 0) rfl hk38 hh39 rfl
    refine WL.val (R.move (v := .tuple #[.int .u8 1, .int .i64 (-1)]) rfl) rfl ?_
    refine WL.val (R.extract (v := .int .u8 1) rfl rfl) rfl ?_
    refine WL.val (R.extract (v := .int .i64 (-1)) rfl rfl) rfl ?_
    refine WL.val (R.assign (v := .int .u8 1) rfl) rfl ?_
    refine WL.val (R.assign (v := .int .i64 (-1)) rfl) rfl ?_
    refine WL.nil ?_
    refine thenN ?_
    refine WC.seq ?_
    refine WC.region ?_
    refine WL.val (R.move (v := .int .u8 1) rfl) rfl ?_
    refine WL.val (R.move (v := .slice (some ⟨b11, 0, none⟩) 6 6) s29) rfl ?_
    refine WL.val (R.move (v := .int .i64 ((1 : Nat) : Int)) s31) rfl ?_
    refine WL.val (R.indexS (n := 1) (m := 1) (ad := ⟨b11, 0, none⟩) (len := 6) (cap := 6) (z := ((1 : Nat) : Int)) un228 lf93.size rfl rfl rfl rfl (by decide) rfl) rfl ?_
    refine WL.val (R.loadL (v := .int .u8 1) lf93 rfl (hs40.at (i := 1) (off := 1) (n := 1) (cs := [.int .u8 1]) rfl rfl rfl)) rfl ?_
    refine WL.val (R.neqF (k := .u8) (a := 1) (b := 1) un93 rfl rfl (by decide)) rfl ?_
    refine WL.val (R.move (v := .bool false) rfl) rfl ?_
    refine WL.guardY (e := 33) rfl rfl rfl ?_
    refine WL.val (R.move (v := .int .i64 (-1)) rfl) rfl ?_
    refine WL.guardY (e := 33) rfl rfl rfl ?_
    refine WL.val (R.move (v := .slice (some ⟨b18, 0, none⟩) 6 6) s30) rfl ?_
    refine WL.guardY (e := 33) rfl rfl rfl ?_
    refine WL.val (R.move (v := .int .i64 ((1 : Nat) : Int)) s31) rfl ?_
    refine WL.guardY (e := 33) rfl rfl rfl ?_
    refine WL.val (R.indexS (n := 1) (m := 1) (ad := ⟨b18, 0, none⟩) (len := 6) (cap := 6) (z := ((1 : Nat) : Int)) un196 lf2.size rfl rfl rfl rfl (by decide) rfl) rfl ?_
    refine WL.guardY (e := 33) rfl rfl rfl ?_
    refine WL.val (R.loadL (v := .int .i64 (-1)) lf2 rfl (hs40.at (i := 2) (off := 1) (n := 1) (cs := [.int .i64 (-1)]) rfl rfl rfl)) rfl ?_
    refine WL.guardY (e := 33) rfl rfl rfl ?_
    refine WL.val (R.neqF (k := .i64) (a := -1) (b := -1) un2 rfl rfl (by decide)) rfl ?_
    refine WL.val (R.pickF (v := .bool false) rfl rfl) rfl ?_
    refine WL.nil ?_
    refine thenN ?_
    refine WC.condF rfl rfl ?_
    refine WC.skip ?_
    refine blockN ?_
    refine thenN ?_
    refine WC.region ?_
    refine WL.val (R.move (v := .int .i64 ((1 : Nat) : Int)) s31) rfl ?_
    refine WL.val (R.add (a := ((1 : Nat) : Int)) (b := 1) (z := ((1 + 1 : Nat) : Int)) rfl rfl (w64e (by omega) (by omega) (by omega))) rfl ?_
    refine WL.val (R.assign (v := .int .i64 ((1 + 1 : Nat) : Int)) rfl) rfl ?_
    refine WL.nil ?_
    exact roundEnd (s := 2) ⟨s27, s28, s29, s30, rfl, (by decide), hs40⟩ (by decide)
  · refine WC.seq ?_
    refine WC.seq ?_
    refine WC.region ?_
    refine WL.val (R.move (v := .int .i64 ((2 : Nat) : Int)) s31) rfl ?_
    refine WL.val (R.lssT (k := .i64) (a := ((2 : Nat) : Int)) (b := 6) un3 rfl rfl (by decide)) rfl ?_
    refine WL.nil ?_
    refine thenN ?_
    refine WC.condT rfl rfl ?_
    refine WC.skip ?_
    refine thenN ?_
    refine WC.seq ?_
    refine WC.block ?_
    refine WC.seq ?_
    refine WC.seq ?_
    refine WC.region ?_
    refine WL.val (R.move (v := .int .i64 0) s28) rfl ?_
    refine WL.val (R.neqF (k := .i64) (a := 0) (b := 0) un66 rfl rfl (by decide)) rfl ?_
    refine WL.nil ?_
    refine thenN ?_
    refine WC.condF rfl rfl ?_
    refine WC.skip ?_
    refine thenN ?_
    refine WC.seq ?_
    refine WC.region ?_
    refine WL.val (R.move (v := .pointer (some ⟨b5, 0, none⟩)) s27) rfl ?_
    refine WL.val (R.move (v := .int .i64 ((2 : Nat) : Int)) s31) rfl ?_
    refine WL.val (R.neqT (k := .i64) (a := ((2 : Nat) : Int)) (b := 4) un3 rfl rfl (by decide)) rfl ?_
    refine WL.call (step18 _ b5 (⟨true, 2, 1, 0, 0⟩ : Pw) true (by decide) rfl (hs32.heap (i := 0) rfl)) (R.call (vs := [.pointer (some ⟨b5, 0, none⟩), .bool true]) (caps := []) bo52 rfl rfl) rfl ?_
    rintro v46 w47 ⟨_, rfl, rfl, hk43, hh44⟩
    have hs45 : St [] w w47 [blk b5 123 (encP (⟨true, 2, 2, 0, 0⟩ : Pw)), blk b11 93 [.int .u8 1, .int .u8 1, .int .u8 2, .int .u8 2, .int .u8 0, .int .u8 1], blk b18 2 [.int .i64 (-1), .int .i64 (-1), .int .i64 0, .int .i64 1, .int .i64 (-1), .int .i64 (-1)]] := hs32.turnedB (i := 0) rfl hk43 hh44 rfl
    refine WL.val (R.move (v := .tuple #[.int .u8 2, .int .i64 0]) rfl) rfl ?_
    refine WL.val (R.extract (v := .int .u8 2) rfl rfl) rfl ?_
    refine WL.val (R.extract (v := .int .i64 0) rfl rfl) rfl ?_
    refine WL.val (R.assign (v := .int .u8 2) rfl) rfl ?_
    refine WL.val (R.assign (v := .int .i64 0) rfl) rfl ?_
    refine WL.nil ?_
    refine thenN ?_
    refine WC.seq ?_
    refine WC.region ?_
    refine WL.val (R.move (v := .int .u8 2) rfl) rfl ?_
    refine WL.val (R.move (v := .slice (some ⟨b11, 0, none⟩) 6 6) s29) rfl ?_
    refine WL.val (R.move (v := .int .i64 ((2 : Nat) : Int)) s31) rfl ?_
    refine WL.val (R.indexS (n := 1) (m := 2) (ad := ⟨b11, 0, none⟩) (len := 6) (cap := 6) (z := ((2 : Nat) : Int)) un228 lf93.size rfl rfl rfl rfl (by decide) rfl) rfl ?_
    refine WL.val (R.loadL (v := .int .u8 2) lf93 rfl (hs45.at (i := 1) (off := 2) (n := 1) (cs := [.int .u8 2]) rfl rfl rfl)) rfl ?_
    refine WL.val (R.neqF (k := .u8) (a := 2) (b := 2) un93 rfl rfl (by decide)) rfl ?_
    refine WL.val (R.move (v := .bool false) rfl) rfl ?_
    refine WL.guardY (e := 33) rfl rfl rfl ?_
    refine WL.val (R.move (v := .int .i64 0) rfl) rfl ?_
    refine WL.guardY (e := 33) rfl rfl rfl ?_
    refine WL.val (R.move (v := .slice (some ⟨b18, 0, none⟩) 6 6) s30) rfl ?_
    refine WL.guardY (e := 33) rfl rfl rfl ?_
    refine WL.val (R.move (v := .int .i64 ((2 : Nat) : Int)) s31) rfl ?_
    refine WL.guardY (e := 33) rfl rfl rfl ?_
    refine WL.val (R.indexS (n := 1) (m := 2) (ad := ⟨b18, 0, none⟩) (len := 6) (cap := 6) (z := ((2 : Nat) : Int)) un196 lf2.size rfl rfl rfl rfl (by decide) rfl) rfl ?_
    refine WL.guardY (e := 33) rfl rfl rfl ?_
    refine WL.val (R.loadL (v := .int .i64 0) lf2 rfl (hs45.at (i := 2) (off := 2) (n := 1) (cs := [.int .i64 0]) rfl rfl rfl)) rfl ?_
    refine WL.guardY (e := 33) rfl rfl rfl ?_
    refine WL.val (R.neqF (k := .i64) (a := 0) (b := 0) un2 rfl rfl (by decide)) rfl ?_
    refine WL.val (R.pickF (v := .bool false) rfl rfl) rfl ?_
    refine WL.nil ?_
    refine thenN ?_
    refine WC.condF rfl rfl ?_
    refine WC.skip ?_
    refine blockN ?_
    refine thenN ?_
    refine WC.region ?_
    refine WL.val (R.move (v := .int .i64 ((2 : Nat) : Int)) s31) rfl ?_
    refine WL.val (R.add (a := ((2 : Nat) : Int)) (b := 1) (z := ((2 + 1 : Nat) : Int)) rfl rfl (w64e (by omega) (by omega) (by omega))) rfl ?_
    refine WL.val (R.assign (v := .int .i64 ((2 + 1 : Nat) : Int)) rfl) rfl ?_
    refine WL.nil ?_
    exact roundEnd (s := 3) ⟨s27, s28, s29, s30, rfl, (by decide), hs45⟩ (by decide)
  · refine WC.seq ?_
    refine WC.seq ?_
    refine WC.region ?_
    refine WL.val (R.move (v := .int .i64 ((3 : Nat) : Int)) s31) rfl ?_
    refine WL.val (R.lssT (k := .i64) (a := ((3 : Nat) : Int)) (b := 6) un3 rfl rfl (by decide)) rfl ?_
    refine WL.nil ?_
    refine thenN ?_
    refine WC.condT rfl rfl ?_
    refine WC.skip ?_
    refine thenN ?_
    refine WC.seq ?_
    refine WC.block ?_
    refine WC.seq ?_
    refine WC.seq ?_
    refine WC.region ?_
    refine WL.val (R.move (v := .int .i64 0) s28) rfl ?_
    refine WL.val (R.neqF (k := .i64) (a := 0) (b := 0) un66 rfl rfl (by decide)) rfl ?_
    refine WL.nil ?_
    refine thenN ?_
    refine WC.condF rfl rfl ?_
    refine WC.skip ?_
    refine thenN ?_
    refine WC.seq ?_
    refine WC.region ?_
    refine WL.val (R.move (v := .pointer (some ⟨b5, 0, none⟩)) s27) rfl ?_
    refine WL.val (R.move (v := .int .i64 ((3 : Nat) : Int)) s31) rfl ?_
    refine WL.val (R.neqT (k := .i64) (a := ((3 : Nat) : Int)) (b := 4) un3 rfl rfl (by decide)) rfl ?_
    refine WL.call (step18 _ b5 (⟨true, 2, 2, 0, 0⟩ : Pw) true (by decide) rfl (hs32.heap (i := 0) rfl)) (R.call (vs := [.pointer (some ⟨b5, 0, none⟩), .bool true]) (caps := []) bo52 rfl rfl) rfl ?_
    rintro v51 w52 ⟨_, rfl, rfl, hk48, hh49⟩
    have hs50 : St [] w w52 [blk b5 123 (encP (⟨true, 2, 2, 0, 1⟩ : Pw)), blk b11 93 [.int .u8 1, .int .u8 1, .int .u8 2, .int .u8 2, .int .u8 0, .int .u8 1], blk b18 2 [.int .i64 (-1), .int .i64 (-1), .int .i64 0, .int .i64 1, .int .i64 (-1), .int .i64 (-1)]] := hs32.turnedB (i := 0) rfl hk48 hh49 rfl
    refine WL.val (R.move (v := .tuple #[.int .u8 2, .int .i64 1]) rfl) rfl ?_
    refine WL.val (R.extract (v := .int .u8 2) rfl rfl) rfl ?_
    refine WL.val (R.extract (v := .int .i64 1) rfl rfl) rfl ?_
    refine WL.val (R.assign (v := .int .u8 2) rfl) rfl ?_
    refine WL.val (R.assign (v := .int .i64 1) rfl) rfl ?_
    refine WL.nil ?_
    refine thenN ?_
    refine WC.seq ?_
    refine WC.region ?_
    refine WL.val (R.move (v := .int .u8 2) rfl) rfl ?_
    refine WL.val (R.move (v := .slice (some ⟨b11, 0, none⟩) 6 6) s29) rfl ?_
    refine WL.val (R.move (v := .int .i64 ((3 : Nat) : Int)) s31) rfl ?_
    refine WL.val (R.indexS (n := 1) (m := 3) (ad := ⟨b11, 0, none⟩) (len := 6) (cap := 6) (z := ((3 : Nat) : Int)) un228 lf93.size rfl rfl rfl rfl (by decide) rfl) rfl ?_
    refine WL.val (R.loadL (v := .int .u8 2) lf93 rfl (hs50.at (i := 1) (off := 3) (n := 1) (cs := [.int .u8 2]) rfl rfl rfl)) rfl ?_
    refine WL.val (R.neqF (k := .u8) (a := 2) (b := 2) un93 rfl rfl (by decide)) rfl ?_
    refine WL.val (R.move (v := .bool false) rfl) rfl ?_
    refine WL.guardY (e := 33) rfl rfl rfl ?_
    refine WL.val (R.move (v := .int .i64 1) rfl) rfl ?_
    refine WL.guardY (e := 33) rfl rfl rfl ?_
    refine WL.val (R.move (v := .slice (some ⟨b18, 0, none⟩) 6 6) s30) rfl ?_
    refine WL.guardY (e := 33) rfl rfl rfl ?_
    refine WL.val (R.move (v := .int .i64 ((3 : Nat) : Int)) s31) rfl ?_
    refine WL.guardY (e := 33) rfl rfl rfl ?_
    refine WL.val (R.indexS (n := 1) (m := 3) (ad := ⟨b18, 0, none⟩) (len := 6) (cap := 6) (z := ((3 : Nat) : Int)) un196 lf2.size rfl rfl rfl rfl (by decide) rfl) rfl ?_
    refine WL.guardY (e := 33) rfl rfl rfl ?_
    refine WL.val (R.loadL (v := .int .i64 1) lf2 rfl (hs50.at (i := 2) (off := 3) (n := 1) (cs := [.int .i64 1]) rfl rfl rfl)) rfl ?_
    refine WL.guardY (e := 33) rfl rfl rfl ?_
    refine WL.val (R.neqF (k := .i64) (a := 1) (b := 1) un2 rfl rfl (by decide)) rfl ?_
    refine WL.val (R.pickF (v := .bool false) rfl rfl) rfl ?_
    refine WL.nil ?_
    refine thenN ?_
    refine WC.condF rfl rfl ?_
    refine WC.skip ?_
    refine blockN ?_
    refine thenN ?_
    refine WC.region ?_
    refine WL.val (R.move (v := .int .i64 ((3 : Nat) : Int)) s31) rfl ?_
    refine WL.val (R.add (a := ((3 : Nat) : Int)) (b := 1) (z := ((3 + 1 : Nat) : Int)) rfl rfl (w64e (by omega) (by omega) (by omega))) rfl ?_
    refine WL.val (R.assign (v := .int .i64 ((3 + 1 : Nat) : Int)) rfl) rfl ?_
    refine WL.nil ?_
    exact roundEnd (s := 4) ⟨s27, s28, s29, s30, rfl, (by decide), hs50⟩ (by decide)
  · refine WC.seq ?_
    refine WC.seq ?_
    refine WC.region ?_
    refine WL.val (R.move (v := .int .i64 ((4 : Nat) : Int)) s31) rfl ?_
    refine WL.val (R.lssT (k := .i64) (a := ((4 : Nat) : Int)) (b := 6) un3 rfl rfl (by decide)) rfl ?_
    refine WL.nil ?_
    refine thenN ?_
    refine WC.condT rfl rfl ?_
    refine WC.skip ?_
    refine thenN ?_
    refine WC.seq ?_
    refine WC.block ?_
    refine WC.seq ?_
    refine WC.seq ?_
    refine WC.region ?_
    refine WL.val (R.move (v := .int .i64 0) s28) rfl ?_
    refine WL.val (R.neqF (k := .i64) (a := 0) (b := 0) un66 rfl rfl (by decide)) rfl ?_
    refine WL.nil ?_
    refine thenN ?_
    refine WC.condF rfl rfl ?_
    refine WC.skip ?_
    refine thenN ?_
    refine WC.seq ?_
    refine WC.region ?_
    refine WL.val (R.move (v := .pointer (some ⟨b5, 0, none⟩)) s27) rfl ?_
    refine WL.val (R.move (v := .int .i64 ((4 : Nat) : Int)) s31) rfl ?_
    refine WL.val (R.neqF (k := .i64) (a := ((4 : Nat) : Int)) (b := 4) un3 rfl rfl (by decide)) rfl ?_
    refine WL.call (step18 _ b5 (⟨true, 2, 2, 0, 1⟩ : Pw) false (by decide) rfl (hs32.heap (i := 0) rfl)) (R.call (vs := [.pointer (some ⟨b5, 0, none⟩), .bool false]) (caps := []) bo52 rfl rfl) rfl ?_
    rintro v56 w57 ⟨_, rfl, rfl, hk53, hh54⟩
    have hs55 : St [] w w57 [blk b5 123 (encP (⟨true, 2, 0, 0, 1⟩ : Pw)), blk b11 93 [.int .u8 1, .int .u8 1, .int .u8 2, .int .u8 2, .int .u8 0, .int .u8 1], blk b18 2 [.int .i64 (-1), .int .i64 (-1), .int .i64 0, .int .i64 1, .int .i64 (-1), .int .i64 (-1)]] := hs32.turnedB (i := 0) rfl hk53 hh54 rfl
    refine WL.val (R.move (v := .tuple #[.int .u8 0, .int .i64 (-1)]) rfl) rfl ?_
    refine WL.val (R.extract (v := .int .u8 0) rfl rfl) rfl ?_
    refine WL.val (R.extract (v := .int .i64 (-1)) rfl rfl) rfl ?_
    refine WL.val (R.assign (v := .int .u8 0) rfl) rfl ?_
    refine WL.val (R.assign (v := .int .i64 (-1)) rfl) rfl ?_
    refine WL.nil ?_
    refine thenN ?_
    refine WC.seq ?_
    refine WC.region ?_
    refine WL.val (R.move (v := .int .u8 0) rfl) rfl ?_
    refine WL.val (R.move (v := .slice (some ⟨b11, 0, none⟩) 6 6) s29) rfl ?_
    refine WL.val (R.move (v := .int .i64 ((4 : Nat) : Int)) s31) rfl ?_
    refine WL.val (R.indexS (n := 1) (m := 4) (ad := ⟨b11, 0, none⟩) (len := 6) (cap := 6) (z := ((4 : Nat) : Int)) un228 lf93.size rfl rfl rfl rfl (by decide) rfl) rfl ?_
    refine WL.val (R.loadL (v := .int .u8 0) lf93 rfl (hs55.at (i := 1) (off := 4) (n := 1) (cs := [.int .u8 0]) rfl rfl rfl)) rfl ?_
    refine WL.val (R.neqF (k := .u8) (a := 0) (b := 0) un93 rfl rfl (by decide)) rfl ?_
    refine WL.val (R.move (v := .bool false) rfl) rfl ?_
    refine WL.guardY (e := 33) rfl rfl rfl ?_
    refine WL.val (R.move (v := .int .i64 (-1)) rfl) rfl ?_
    refine WL.guardY (e := 33) rfl rfl rfl ?_
    refine WL.val (R.move (v := .slice (some ⟨b18, 0, none⟩) 6 6) s30) rfl ?_
    refine WL.guardY (e := 33) rfl rfl rfl ?_
    refine WL.val (R.move (v := .int .i64 ((4 : Nat) : Int)) s31) rfl ?_
    refine WL.guardY (e := 33) rfl rfl rfl ?_
    refine WL.val (R.indexS (n := 1) (m := 4) (ad := ⟨b18, 0, none⟩) (len := 6) (cap := 6) (z := ((4 : Nat) : Int)) un196 lf2.size rfl rfl rfl rfl (by decide) rfl) rfl ?_
    refine WL.guardY (e := 33) rfl rfl rfl ?_
    refine WL.val (R.loadL (v := .int .i64 (-1)) lf2 rfl (hs55.at (i := 2) (off := 4) (n := 1) (cs := [.int .i64 (-1)]) rfl rfl rfl)) rfl ?_
    refine WL.guardY (e := 33) rfl rfl rfl ?_
    refine WL.val (R.neqF (k := .i64) (a := -1) (b := -1) un2 rfl rfl (by decide)) rfl ?_
    refine WL.val (R.pickF (v := .bool false) rfl rfl) rfl ?_
    refine WL.nil ?_
    refine thenN ?_
    refine WC.condF rfl rfl ?_
    refine WC.skip ?_
    refine blockN ?_
    refine thenN ?_
    refine WC.region ?_
    refine WL.val (R.move (v := .int .i64 ((4 : Nat) : Int)) s31) rfl ?_
    refine WL.val (R.add (a := ((4 : Nat) : Int)) (b := 1) (z := ((4 + 1 : Nat) : Int)) rfl rfl (w64e (by omega) (by omega) (by omega))) rfl ?_
    refine WL.val (R.assign (v := .int .i64 ((4 + 1 : Nat) : Int)) rfl) rfl ?_
    refine WL.nil ?_
    exact roundEnd (s := 5) ⟨s27, s28, s29, s30, rfl, (by decide), hs55⟩ (by decide)
  · refine WC.seq ?_
    refine WC.seq ?_
    refine WC.region ?_
    refine WL.val (R.move (v := .int .i64 ((5 : Nat) : Int)) s31) rfl ?_
    refine WL.val (R.lssT (k := .i64) (a := ((5 : Nat) : Int)) (b := 6) un3 rfl rfl (by decide)) rfl ?_
    refine WL.nil ?_
    refine thenN ?_
    refine WC.condT rfl rfl ?_
    refine WC.skip ?_
    refine thenN ?_
    refine WC.seq ?_
    refine WC.block ?_
    refine WC.seq ?_
    refine WC.seq ?_
    refine WC.region ?_
    refine WL.val (R.move (v := .int .i64 0) s28) rfl ?_
    refine WL.val (R.neqF (k := .i64) (a := 0) (b := 0) un66 rfl rfl (by decide)) rfl ?_
    refine WL.nil ?_
    refine thenN ?_
    refine WC.condF rfl rfl ?_
    refine WC.skip ?_
    refine thenN ?_
    refine WC.seq ?_
    refine WC.region ?_
    refine WL.val (R.move (v := .pointer (some ⟨b5, 0, none⟩)) s27) rfl ?_
    refine WL.val (R.move (v := .int .i64 ((5 : Nat) : Int)) s31) rfl ?_
    refine WL.val (R.neqT (k := .i64) (a := ((5 : Nat) : Int)) (b := 4) un3 rfl rfl (by decide)) rfl ?_
    refine WL.call (step18 _ b5 (⟨true, 2, 0, 0, 1⟩ : Pw) true (by decide) rfl (hs32.heap (i := 0) rfl)) (R.call (vs := [.pointer (some ⟨b5, 0, none⟩), .bool true]) (caps := []) bo52 rfl rfl) rfl ?_
    rintro v61 w62 ⟨_, rfl, rfl, hk58, hh59⟩
    have hs60 : St [] w w62 [blk b5 123 (encP (⟨true, 2, 1, 1, 1⟩ : Pw)), blk b11 93 [.int .u8 1, .int .u8 1, .int .u8 2, .int .u8 2, .int .u8 0, .int .u8 1], blk b18 2 [.int .i64 (-1), .int .i64 (-1), .int .i64 0, .int .i64 1, .int .i64 (-1), .int .i64 (-1)]] := hs32.turnedB (i := 0) rfl hk58 hh59 rfl
    refine WL.val (R.move (v := .tuple #[.int .u8 1, .int .i64 (-1)]) rfl) rfl ?_
    refine WL.val (R.extract (v := .int .u8 1) rfl rfl) rfl ?_
    refine WL.val (R.extract (v := .int .i64 (-1)) rfl rfl) rfl ?_
    refine WL.val (R.assign (v := .int .u8 1) rfl) rfl ?_
    refine WL.val (R.assign (v := .int .i64 (-1)) rfl) rfl ?_
    refine WL.nil ?_
    refine thenN ?_
    refine WC.seq ?_
    refine WC.region ?_
    refine WL.val (R.move (v := .int .u8 1) rfl) rfl ?_
    refine WL.val (R.move (v := .slice (some ⟨b11, 0, none⟩) 6 6) s29) rfl ?_
    refine WL.val (R.move (v := .int .i64 ((5 : Nat) : Int)) s31) rfl ?_
    refine WL.val (R.indexS (n := 1) (m := 5) (ad := ⟨b11, 0, none⟩) (len := 6) (cap := 6) (z := ((5 : Nat) : Int)) un228 lf93.size rfl rfl rfl rfl (by decide) rfl) rfl ?_
    refine WL.val (R.loadL (v := .int .u8 1) lf93 rfl (hs60.at (i := 1) (off := 5) (n := 1) (cs := [.int .u8 1]) rfl rfl rfl)) rfl ?_
    refine WL.val (R.neqF (k := .u8) (a := 1) (b := 1) un93 rfl rfl (by decide)) rfl ?_
    refine WL.val (R.move (v := .bool false) rfl) rfl ?_
    refine WL.guardY (e := 33) rfl rfl rfl ?_
    refine WL.val (R.move (v := .int .i64 (-1)) rfl) rfl ?_
    refine WL.guardY (e := 33) rfl rfl rfl ?_
    refine WL.val (R.move (v := .slice (some ⟨b18, 0, none⟩) 6 6) s30) rfl ?_
    refine WL.guardY (e := 33) rfl rfl rfl ?_
    refine WL.val (R.move (v := .int .i64 ((5 : Nat) : Int)) s31) rfl ?_
    refine WL.guardY (e := 33) rfl rfl rfl ?_
    refine WL.val (R.indexS (n := 1) (m := 5) (ad := ⟨b18, 0, none⟩) (len := 6) (cap := 6) (z := ((5 : Nat) : Int)) un196 lf2.size rfl rfl rfl rfl (by decide) rfl) rfl ?_
    refine WL.guardY (e := 33) rfl rfl rfl ?_
    refine WL.val (R.loadL (v := .int .i64 (-1)) lf2 rfl (hs60.at (i := 2) (off := 5) (n := 1) (cs := [.int .i64 (-1)]) rfl rfl rfl)) rfl ?_
    refine WL.guardY (e := 33) rfl rfl rfl ?_
    refine WL.val (R.neqF (k := .i64) (a := -1) (b := -1) un2 rfl rfl (by decide)) rfl ?_
    refine WL.val (R.pickF (v := .bool false) rfl rfl) rfl ?_
    refine WL.nil ?_
    refine thenN ?_
    refine WC.condF rfl rfl ?_
    refine WC.skip ?_
    refine blockN ?_
    refine thenN ?_
    refine WC.region ?_
    refine WL.val (R.move (v := .int .i64 ((5 : Nat) : Int)) s31) rfl ?_
    refine WL.val (R.add (a := ((5 : Nat) : Int)) (b := 1) (z := ((5 + 1 : Nat) : Int)) rfl rfl (w64e (by omega) (by omega) (by omega))) rfl ?_
    refine WL.val (R.assign (v := .int .i64 ((5 + 1 : Nat) : Int)) rfl) rfl ?_
    refine WL.nil ?_
    exact roundEnd (s := 6) ⟨s27, s28, s29, s30, rfl, (by decide), hs60⟩ (by decide)
  · refine WC.seq ?_
    refine WC.seq ?_
    refine WC.region ?_
    refine WL.val (R.move (v := .int .i64 ((6 : Nat) : Int)) s31) rfl ?_
    refine WL.val (R.lssF (k := .i64) (a := ((6 : Nat) : Int)) (b := 6) un3 rfl rfl (by decide)) rfl ?_
    refine WL.nil ?_
    refine thenN ?_
    refine WC.condF rfl rfl ?_
    refine WC.exit ?_
    refine thenE ?_
    refine thenE ?_
    refine blockHit ?_
    refine thenN ?_
    refine WC.seq ?_
    refine WC.region ?_
    refine WL.val (R.assign (v := .bool true) rfl) rfl ?_
    refine WL.nil ?_
    refine thenN ?_
    refine WC.ret ?_
    exact ret1 (P := Try.prog) (n := 41) (fn := Try.f49) (R := fun v w' => v = .bool true ∧ Ext w w') (t := 0) (v := .bool true) rfl rfl rfl ⟨rfl, hs32.kept⟩

end Go.Proofs.Ytckcldimnelklaa
