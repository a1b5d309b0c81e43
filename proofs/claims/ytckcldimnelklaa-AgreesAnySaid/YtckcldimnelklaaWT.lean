/- Spoil, of a table of one's own. -/
import Derived.Test.YtckcldimnelklaaWS
namespace Go.Proofs.Ytckcldimnelklaa
open Go
set_option linter.unusedVariables false
set_option linter.unusedSimpArgs false
set_option maxRecDepth 100000
set_option maxHeartbeats 4000000

theorem spoil13_nil (w : World) (p0 : Rw) :
    Ret Try.prog 64 [Value.agg (List.toArray (encR p0 (Value.slice none 0 0)))] w (fun v w' => v = Value.tuple #[] ∧ St [] w w' []) := by
  have hL : St [] w w [] := St.start w
  refine enter (n := 21) Try.func64 rfl rfl rfl ?_
  refine WC.seq ?_
  refine WC.region ?_
  refine WL.new (L' := fun b1 => [blk b1 62 (encR p0 (Value.slice none 0 0))]) (f := fun b1 => Value.pointer (some ⟨b1, 0, none⟩)) (X.box (v := Value.agg (List.toArray (encR p0 (Value.slice none 0 0)))) (c := encR p0 (Value.slice none 0 0)) (hL.here) rfl rfl (fun _ => rfl)) rfl ?_
  intro b1 w1 ht1 he1 hz1
  have hs1 := hL.trans ht1
  refine WL.nil ?_
  refine thenN ?_
  refine WC.seq ?_
  refine WC.region ?_
  refine WL.val (R.fieldAddr (o := 0) (o' := 56) fa62_2 rfl rfl) rfl ?_
  refine WL.val (R.loadL (v := Value.slice none 0 0) lf28 rfl (hs1.at (i := 0) (off := 56) (n := 1) (cs := [Value.slice none 0 0]) rfl rfl rfl)) rfl ?_
  refine WL.val (R.fieldAddr (o := 0) (o' := 56) fa62_2 rfl rfl) rfl ?_
  refine WL.val (R.loadL (v := Value.slice none 0 0) lf28 rfl (hs1.at (i := 0) (off := 56) (n := 1) (cs := [Value.slice none 0 0]) rfl rfl rfl)) rfl ?_
  refine WL.val (R.cap (a := none) (n := 0) (c := 0) un28 rfl) rfl ?_
  refine WL.val (R.sliceTo (n := 56) (m := 0) un28 ag60.size rfl rfl rfl (by omega)) rfl ?_
  refine WL.val (R.assign (v := Value.slice none 0 0) rfl) rfl ?_
  refine WL.nil ?_
  refine thenN ?_
  refine WC.seq ?_
  refine WC.region ?_
  refine WL.val (R.assign (v := Value.int .i64 0) rfl) rfl ?_
  refine WL.nil ?_
  refine thenN ?_
  refine WC.join (fun σ' w' => St [] w w' [blk b1 62 (encR p0 (Value.slice none 0 0))]) ?_ ?_
  · refine WC.block ?_
    refine WC.loop (T := Nat) (fun i σ' w' => i ≤ 0 ∧ σ' 2 = Value.slice none 0 0 ∧ σ' 3 = Value.int .i64 ((i : Nat) : Int) ∧ St [] w w' [blk b1 62 (encR p0 (Value.slice none 0 0))]) (fun i => 1 - i) 0 ⟨Nat.zero_le _, rfl, rfl, hs1⟩ ?_
    rintro i σ' w' ⟨hi, s2, s3, hs⟩
    refine WC.seq ?_
    refine WC.seq ?_
    refine WC.region ?_
    refine WL.val (R.move (v := Value.int .i64 ((i : Nat) : Int)) (by exact s3)) rfl ?_
    refine WL.val (R.move (v := Value.slice none 0 0) (by exact s2)) rfl ?_
    refine WL.val (R.len (a := none) (n := 0) (c := 0) un28 rfl) rfl ?_
    · refine WL.val (R.lssF (k := .i64) (a := ((i : Nat) : Int)) (b := ((0 : Nat) : Int)) un3 rfl rfl (by omega)) rfl ?_
      refine WL.nil ?_
      refine thenN ?_
      refine WC.condF rfl rfl ?_
      refine WC.exit ?_
      refine thenE ?_
      refine thenE ?_
      refine blockHit ?_
      exact joinI hs
  · rintro σ' w' hs
    have ht := (hs.here).perm (L' := []) (G := [blk b1 62 (encR p0 (Value.slice none 0 0))]) (List.Perm.refl _)
    exact end0 (P := Try.prog) (n := 21) (fn := Try.f64) (R := fun v w' => v = Value.tuple #[] ∧ St [] w w' []) rfl ⟨rfl, hs.trans ht⟩

theorem St.gone {L0 : List Ent} {w w' : World} (h : Kept L0 w w') : St L0 w w' [] :=
  { kept := h, holds := fun _ h => (List.not_mem_nil h).elim, inr := fun _ h => (List.not_mem_nil h).elim, disj := List.Pairwise.nil, sub := fun _ h => (List.not_mem_nil h).elim }
theorem kept_F {E E' : Ent} {w w' : World} (h : Kept [E'] w w') (hF : ∀ b, E'.F b → E.F b) : Kept [E] w w' :=
  ⟨h.os, h.tape, h.output, h.size, fun b hb ho => h.block b hb fun D hD hDF => by
    cases List.mem_singleton.1 hD
    exact ho E (List.mem_singleton.2 rfl) (hF b hDF)⟩

theorem kept_F' {L : List Ent} {w w' : World} (h : Kept [] w w') : Kept L w w' :=
  ⟨h.os, h.tape, h.output, h.size, fun b hb _ => h.block b hb (fun E hE => absurd hE List.not_mem_nil)⟩
theorem spoil13_G (w : World) (p0 : Rw) (a : Option Addr) (n c : Nat) (xs : List Hd) (hL : St [gsl 60 heldE (Value.slice a n c) xs] w w [gsl 60 heldE (Value.slice a n c) xs]) :
    Ret Try.prog 64 [Value.agg (List.toArray (encR p0 (Value.slice a n c)))] w (fun v w' => v = Value.tuple #[] ∧ St [gsl 60 heldE (Value.slice a n c) xs] w w' []) := by
  have hg := hL.get (i := 0) rfl
  cases a with
  | none =>
    obtain ⟨h1, h2, h3⟩ := gslU_data (.inl hg)
    rcases h3 with ⟨-, h5, h6⟩ | ⟨ad, h4, _⟩
    · subst h1; subst h5; subst h6
      exact Ret.mono (spoil13_nil w p0) (fun v w' h => ⟨h.1, St.gone (kept_F' h.2.kept)⟩)
    · cases h4
  | some ad =>
    have had : ad = ⟨ad.block, 0, none⟩ := by
      have ho : w.ownsRow 0 60 heldE.n (.slice (some ad) n c) xs.length (flat heldE xs) := hg
      rcases ho.2 with ⟨q, -⟩ | ⟨g, cap, cur, hv, _⟩
      · cases q
      · injection hv with e1 e2 e3
        injection e1 with e1
        rw [e1]
    rw [had] at hg hL ⊢
    obtain ⟨h1, h2, h3⟩ := roomE_of (e := heldE) rfl hg
    have hR := hL.conv (E' := roomE ad.block c) (i := 0) rfl h1 (fun x hx => congrArg some (show x = ad.block from hx).symm) rfl
    exact Ret.mono (spoil13_ok w p0 ad.block n c h2 h3 hR.here) (fun v w' h => ⟨h.1, St.gone (kept_F h.2.kept (fun x hx => congrArg some (show x = ad.block from hx).symm))⟩)
theorem spoil13_C (w : World) (p0 : Rw) (a : Option Addr) (n c0 : Nat) (xs : List Hd) (hL : St [gslC 60 heldE (Value.slice a n c0) xs] w w [gslC 60 heldE (Value.slice a n c0) xs]) :
    Ret Try.prog 64 [Value.agg (List.toArray (encR p0 (Value.slice a n c0)))] w (fun v w' => v = Value.tuple #[] ∧ St [gslC 60 heldE (Value.slice a n c0) xs] w w' []) := by
  obtain ⟨a', c, hv, hg⟩ := hL.get (i := 0) rfl
  injection hv with e1 e2 e3
  subst e1
  have e4 : c0 = n := by rw [e2, e3]
  subst e4
  cases a with
  | none =>
    obtain ⟨h1, h2, h3⟩ := gslU_data (.inl hg)
    rcases h3 with ⟨-, h5, h6⟩ | ⟨ad, h4, _⟩
    · subst h5
      have e0 : c0 = 0 := e2
      subst e0
      exact Ret.mono (spoil13_nil w p0) (fun v w' h => ⟨h.1, St.gone (kept_F' h.2.kept)⟩)
    · cases h4
  | some ad =>
    have had : ad = ⟨ad.block, 0, none⟩ := by
      have ho : w.ownsRow 0 60 heldE.n (.slice (some ad) xs.length c) xs.length (flat heldE xs) := hg
      rcases ho.2 with ⟨q, -⟩ | ⟨g, cap, cur, hv, _⟩
      · cases q
      · injection hv with e1 e2 e3
        injection e1 with e1
        rw [e1]
    rw [had] at hg hL ⊢
    obtain ⟨⟨cs, h0, h1⟩, h2, h3⟩ := roomE_of (e := heldE) rfl hg
    have hR := hL.conv (E' := roomE ad.block c0) (i := 0) rfl ⟨cs, h0, by omega⟩ (fun x hx => congrArg some (show x = ad.block from hx).symm) rfl
    exact Ret.mono (spoil13_ok w p0 ad.block c0 c0 (Nat.le_refl _) (by omega) hR.here) (fun v w' h => ⟨h.1, St.gone (kept_F h.2.kept (fun x hx => congrArg some (show x = ad.block from hx).symm))⟩)
end Go.Proofs.Ytckcldimnelklaa
