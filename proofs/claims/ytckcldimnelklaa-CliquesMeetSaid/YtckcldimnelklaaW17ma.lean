/- The functions come to what their twins answer: group 17m. -/
import Derived.Test.YtckcldimnelklaaTS
import Derived.Test.YtckcldimnelklaaTU
import Derived.Test.YtckcldimnelklaaLG
import Derived.Test.YtckcldimnelklaaW17a
import Derived.Test.YtckcldimnelklaaW16a
import Derived.Test.YtckcldimnelklaaD17m
namespace Go.Proofs.Ytckcldimnelklaa
open Go
set_option linter.unusedVariables false
set_option linter.unusedSimpArgs false
set_option maxRecDepth 100000
set_option maxHeartbeats 4000000

theorem view17_ok (w : World) (ok : Nat → Prop) (p0 : Int) (p1 : Int) (p2 : List Int) (p3 : Int) (p4 : Hd) (a2 : Option Addr) (c2 : Nat) (he2 : elems (intW .i64) w ok a2 p2) (hc2 : p2.length ≤ c2) {r : (List Hd)} (h : view17 p0 p1 p2 p3 p4 = some r) :
    Ret Try.prog 93 [Value.int .i64 p0, Value.int .i64 p1, Value.slice a2 p2.length c2, Value.int .u16 p3, Value.agg (List.toArray (encH p4))] w (fun v w' => ∃ ra0, ∃ rc0, v = Value.slice ra0 r.length rc0 ∧ r.length ≤ rc0 ∧ elems heldW w' (In ok w [] []) ra0 r ∧ St [] w w' []) := by
  rw [view17] at h
  have hs100 : St [] w w [] := St.start w
  have he1002 := el0 (L0 := []) (fun b _ => out_nil b) he2
  refine enter (n := 47) Try.func93 rfl rfl rfl ?_
  refine WC.seq ?_
  refine WC.region ?_
  refine WL.new (L' := fun b102 => [blk b102 60 (encH p4)]) (f := fun b102 => Value.pointer (some ⟨b102, 0, none⟩)) (X.box (v := Value.agg (List.toArray (encH p4))) (c := encH p4) (hs100.here) rfl rfl (fun _ => rfl)) rfl ?_
  intro b102 w103 ht108 he105 hz106
  have hs109 := hs100.trans ht108
  refine WL.val (R.assign (v := Value.slice none 0 0) rfl) rfl ?_
  refine WL.nil ?_
  refine thenN ?_
  refine WC.seq ?_
  refine WC.region ?_
  refine WL.val (R.move (v := Value.int .i64 p0) rfl) rfl ?_
  obtain ⟨hg110, h111⟩ := ckE (c := 0 ≤ p0 ∧ p0 < 1000000) h
  refine WL.new (L' := fun b112 => [blk b102 60 (encH p4), gsl 60 heldE (Value.slice (some ⟨b112, 0, none⟩) ((List.replicate (p0).toNat Hd.none).length) ((p0).toNat)) (List.replicate (p0).toNat Hd.none)]) (f := fun b112 => Value.slice (some ⟨b112, 0, none⟩) ((List.replicate (p0).toNat Hd.none).length) ((p0).toNat)) (X.makeSliceN (e := heldE) (z := Hd.none) (hs109.here) sl28 rfl rfl rfl hg110 (by decide) List.length_replicate (fun _ => rfl)) rfl ?_
  intro b112 w113 ht117 he114 hz115
  have hs118 := hs109.trans ht117
  refine WL.val (R.assign (v := Value.slice (some ⟨b112, 0, none⟩) ((List.replicate (p0).toNat Hd.none).length) ((p0).toNat)) rfl) rfl ?_
  refine WL.nil ?_
  refine thenN ?_
  refine WC.seq ?_
  refine WC.seq ?_
  refine WC.region ?_
  refine WL.val (R.assign (v := Value.int .i64 0) rfl) rfl ?_
  refine WL.nil ?_
  refine thenN ?_
  have hr238 := elT (ht108.trans ht117) he1002
  obtain ⟨K230, hK231, h232⟩ := kE (G := fun K230 => view17_l1 p0 p1 p3 p2 K230 1000000 0 (List.replicate (p0).toNat Hd.none)) h111
  refine WC.join (fun σ240 w239 => ∃ l227 : List Hd, ∃ a228, ∃ c229, σ240 1 = (Value.int .i64 p1) ∧ σ240 9 = (Value.pointer (some ⟨b102, 0, none⟩)) ∧ σ240 11 = (Value.slice a228 l227.length c229) ∧ K230 l227 = some r ∧ St [] w w239 [blk b102 60 (encH p4), gsl 60 heldE (Value.slice a228 l227.length c229) l227]) ?_ ?_
  · refine WC.block ?_
    refine WC.loop (T := Nat) (fun k236 σ234 w233 => ∃ i223 : Int, ∃ l224 : List Hd, ∃ a225, ∃ c226, σ234 0 = (Value.int .i64 p0) ∧ σ234 1 = (Value.int .i64 p1) ∧ σ234 2 = (Value.slice a2 p2.length c2) ∧ σ234 3 = (Value.int .u16 p3) ∧ σ234 9 = (Value.pointer (some ⟨b102, 0, none⟩)) ∧ σ234 11 = (Value.slice a225 l224.length c226) ∧ σ234 12 = (Value.int .i64 i223) ∧ elems (intW .i64) w233 (In ok w [] [blk b102 60 (encH p4), gsl 60 heldE (Value.slice a225 l224.length c226) l224]) a2 p2 ∧ view17_l1 p0 p1 p3 p2 K230 k236 i223 l224 = some r ∧ St [] w w233 [blk b102 60 (encH p4), gsl 60 heldE (Value.slice a225 l224.length c226) l224]) (fun k236 => k236) 1000000 ⟨0, List.replicate (p0).toNat Hd.none, (some ⟨b112, 0, none⟩), (p0).toNat, rfl, rfl, rfl, rfl, rfl, rfl, rfl, hr238, h232, hs118⟩ ?_
    rintro k236 σ234 w233 ⟨i223, l224, a225, c226, s243, s244, s245, s246, s247, s248, s249, he237, h242, hs235⟩
    rcases k236 with _ | k236
    · rw [view17_l1] at h242; cases h242
    rw [view17_l1] at h242
    refine WC.seq ?_
    refine WC.seq ?_
    refine WC.region ?_
    refine WL.val (R.move (v := Value.int .i64 i223) (by exact s249)) rfl ?_
    refine WL.val (R.move (v := Value.int .i64 p0) (by exact s243)) rfl ?_
    by_cases hc250 : i223 < p0
    · have h251 := ifT hc250 h242
      refine WL.val (R.lssT (k := .i64) (a := i223) (b := p0) un3 rfl rfl hc250) rfl ?_
      refine WL.nil ?_
      refine thenN ?_
      refine WC.condT rfl rfl ?_
      refine WC.skip ?_
      refine thenN ?_
      refine WC.seq ?_
      refine WC.block ?_
      refine WC.seq ?_
      refine WC.region ?_
      refine WL.val (R.move (v := Value.int .i64 i223) (by exact s249)) rfl ?_
      refine WL.val (R.move (v := Value.int .i64 p1) (by exact s244)) rfl ?_
      by_cases hc252 : i223 = p1
      · have h253 := ifT hc252 h251
        refine WL.val (R.neqF (k := .i64) (a := i223) (b := p1) un3 rfl rfl (not_not_intro hc252)) rfl ?_
        refine WL.val (R.move (v := Value.bool false) rfl) rfl ?_
        refine WL.guardN (e := 23) (v := .bool false) rfl rfl rfl rfl ?_
        refine WL.guardN (e := 23) (v := .bool false) rfl rfl rfl rfl ?_
        refine WL.guardN (e := 23) (v := .bool false) rfl rfl rfl rfl ?_
        refine WL.guardN (e := 23) (v := .bool false) rfl rfl rfl rfl ?_
        refine WL.guardN (e := 23) (v := .bool false) rfl rfl rfl rfl ?_
        refine WL.val (R.pickF (v := Value.bool false) rfl rfl) rfl ?_
        refine WL.nil ?_
        refine thenN ?_
        refine WC.condF rfl rfl ?_
        refine WC.skip ?_
        refine blockN ?_
        refine thenN ?_
        refine WC.region ?_
        refine WL.val (R.move (v := Value.int .i64 i223) (by exact s249)) rfl ?_
        obtain ⟨hg254, h255⟩ := ckE (c := -9223372036854775808 ≤ i223 + 1 ∧ i223 + 1 ≤ 9223372036854775807) h253
        refine WL.val (R.add (a := i223) (b := 1) (z := i223 + 1) rfl rfl (w64e rfl hg254.1 hg254.2)) rfl ?_
        refine WL.val (R.assign (v := Value.int .i64 (i223 + 1)) rfl) rfl ?_
        refine WL.nil ?_
        exact roundEnd (s := k236) ⟨i223 + 1, l224, a225, c226, s243, s244, s245, s246, s247, s248, rfl, he237, h255, hs235⟩ (Nat.lt_succ_self _)
      · have h256 := ifF hc252 h251
        refine WL.val (R.neqT (k := .i64) (a := i223) (b := p1) un3 rfl rfl hc252) rfl ?_
        refine WL.val (R.move (v := Value.bool true) rfl) rfl ?_
        refine WL.guardY (e := 23) rfl rfl rfl ?_
        refine WL.val (R.move (v := Value.int .u16 p3) (by exact s246)) rfl ?_
        refine WL.guardY (e := 23) rfl rfl rfl ?_
        refine WL.val (R.move (v := Value.int .i64 i223) (by exact s249)) rfl ?_
        refine WL.guardY (e := 23) rfl rfl rfl ?_
        obtain ⟨hg257, h258⟩ := ckE (c := 0 ≤ i223) h256
        refine WL.val (R.shr rfl rfl hg257) rfl ?_
        refine WL.guardY (e := 23) rfl rfl rfl ?_
        refine WL.val (R.and rfl rfl) rfl ?_
        refine WL.guardY (e := 23) rfl rfl rfl ?_
        by_cases hc259 : (andI .u16 (shrI .u16 p3 i223) 1) = 0
        · have h260 := ifT hc259 h258
          refine WL.val (R.eqlT (k := .u16) (a := andI .u16 (shrI .u16 p3 i223) 1) (b := 0) un52 rfl rfl hc259) rfl ?_
          refine WL.val (R.pickT (v := Value.bool true) rfl rfl) rfl ?_
          refine WL.nil ?_
          refine thenN ?_
          refine WC.condT rfl rfl ?_
          refine WC.region ?_
          refine WL.val (R.move (v := Value.slice a225 l224.length c226) (by exact s248)) rfl ?_
          refine WL.val (R.move (v := Value.int .i64 i223) (by exact s249)) rfl ?_
          refine WL.val (R.move (v := Value.slice a2 p2.length c2) (by exact s245)) rfl ?_
          refine WL.val (R.move (v := Value.int .i64 i223) (by exact s249)) rfl ?_
          refine WL.val (R.move (v := Value.slice a2 p2.length c2) (by exact s245)) rfl ?_
          refine WL.val (R.len (a := a2) (n := p2.length) (c := c2) un196 rfl) rfl ?_
          obtain ⟨hg261, h262⟩ := ckE (c := 0 ≤ i223 ∧ 0 < (((p2.length : Nat) : Int) : Int) ∧ (((p2.length : Nat) : Int) : Int) ≤ 9223372036854775807) h260
          refine WL.val (R.remG (a := i223) (b := ((p2.length : Nat) : Int)) rfl rfl hg261 (by decide)) rfl ?_
          obtain ⟨x263, hx264, h265⟩ := ob (o := rd p2 (i223 % ((p2.length : Nat) : Int))) h262
          obtain ⟨h0266, hx267, hl268, hm269⟩ := rdE hx264
          obtain ⟨ad270, e275, ha271, hp272, hat273, hrd274⟩ := he237 _ _ hx267
          obtain ⟨-, rfl⟩ := hrd274
          refine WL.val (R.indexS (n := 1) (m := (i223 % ((p2.length : Nat) : Int)).toNat) (a := a2) (ad := ad270) (len := p2.length) (cap := c2) (z := i223 % ((p2.length : Nat) : Int)) un196 lf2.size rfl ha271 rfl hm269 hl268 hp272) rfl ?_
          refine WL.val (R.loadL (v := Value.int .i64 x263) lf2 rfl hat273) rfl ?_
          have hd277 : ∀ w, (Instr.build 58 #[(0, Value.int .i64 x263)]).run Try.prog w = .ok (Value.agg (List.toArray (encC (⟨x263, Cl.zero.offer, Cl.zero.report, Cl.zero.view⟩ : Cl)))) w := fun _ => by kernel_rfl
          refine WL.val (R.build (vs := [(0, Value.int .i64 x263)]) rfl hd277) rfl ?_
          have hd278 : ∀ w, (Instr.build 60 #[(0, Value.bool true), (1, Value.agg (List.toArray (encC (⟨x263, Cl.zero.offer, Cl.zero.report, Cl.zero.view⟩ : Cl))))]).run Try.prog w = .ok (Value.agg (List.toArray (encH (⟨true, (⟨x263, Cl.zero.offer, Cl.zero.report, Cl.zero.view⟩ : Cl)⟩ : Hd)))) w := fun _ => by kernel_rfl
          refine WL.val (R.build (vs := [(0, Value.bool true), (1, Value.agg (List.toArray (encC (⟨x263, Cl.zero.offer, Cl.zero.report, Cl.zero.view⟩ : Cl))))]) rfl hd278) rfl ?_
          obtain ⟨x279, hx280, h281⟩ := ob (o := rd l224 i223) h265
          obtain ⟨h0282, hx283, hl284, hm285⟩ := rdE hx280
          obtain ⟨b286, c287, hv288, _⟩ := hs235.gslAt (i := 1) rfl hx283
          refine WL.val (R.indexS (n := 56) (m := (i223).toNat) (ad := ⟨b286, 0, none⟩) (len := (l224).length) (cap := c287) (z := i223) un28 ag60.size (Eq.trans (show _ = Value.slice a225 l224.length c226 from rfl) hv288) rfl rfl hm285 hl284 rfl) rfl ?_
          refine WL.sto (L' := [blk b102 60 (encH p4), gsl 60 heldE (Value.slice a225 l224.length c226) ((l224).set (i223).toNat (⟨true, (⟨x263, Cl.zero.offer, Cl.zero.report, Cl.zero.view⟩ : Cl)⟩ : Hd))]) (X.storeEl (i := 1) (j := (i223).toNat) (off := 0) (n := 56) (x := x279) (y := (⟨true, (⟨x263, Cl.zero.offer, Cl.zero.report, Cl.zero.view⟩ : Cl)⟩ : Hd)) (vs := encH (⟨true, (⟨x263, Cl.zero.offer, Cl.zero.report, Cl.zero.view⟩ : Cl)⟩ : Hd)) (u := Value.agg (List.toArray (encH (⟨true, (⟨x263, Cl.zero.offer, Cl.zero.report, Cl.zero.view⟩ : Cl)⟩ : Hd)))) (hs235.here) rfl hx283 hv288 ag60.size rfl rfl rfl rfl rfl rfl (by decide) (rfl) rfl) rfl rfl ?_
          intro w289 ht290
          have hs291 := hs235.trans ht290
          have hs292 : St [] w w289 [blk b102 60 (encH p4), gsl 60 heldE (Value.slice a225 (((l224).set (i223).toNat (⟨true, (⟨x263, Cl.zero.offer, Cl.zero.report, Cl.zero.view⟩ : Cl)⟩ : Hd)).length) c226) ((l224).set (i223).toNat (⟨true, (⟨x263, Cl.zero.offer, Cl.zero.report, Cl.zero.view⟩ : Cl)⟩ : Hd))] := by simpa only [List.length_set] using hs291
          have ht293 : St [blk b102 60 (encH p4), gsl 60 heldE (Value.slice a225 l224.length c226) l224] w233 w289 [blk b102 60 (encH p4), gsl 60 heldE (Value.slice a225 (((l224).set (i223).toNat (⟨true, (⟨x263, Cl.zero.offer, Cl.zero.report, Cl.zero.view⟩ : Cl)⟩ : Hd)).length) c226) ((l224).set (i223).toNat (⟨true, (⟨x263, Cl.zero.offer, Cl.zero.report, Cl.zero.view⟩ : Cl)⟩ : Hd))] := by simpa only [List.length_set] using ht290
          refine WL.nil ?_
          refine blockN ?_
          refine thenN ?_
          refine WC.region ?_
          refine WL.val (R.move (v := Value.int .i64 i223) (by exact s249)) rfl ?_
          obtain ⟨hg294, h295⟩ := ckE (c := -9223372036854775808 ≤ i223 + 1 ∧ i223 + 1 ≤ 9223372036854775807) h281
          refine WL.val (R.add (a := i223) (b := 1) (z := i223 + 1) rfl rfl (w64e rfl hg294.1 hg294.2)) rfl ?_
          refine WL.val (R.assign (v := Value.int .i64 (i223 + 1)) rfl) rfl ?_
          refine WL.nil ?_
          have hr296 := elT ht293 he237
          exact roundEnd (s := k236) ⟨i223 + 1, (l224).set (i223).toNat (⟨true, (⟨x263, Cl.zero.offer, Cl.zero.report, Cl.zero.view⟩ : Cl)⟩ : Hd), a225, c226, s243, s244, s245, s246, s247, (Eq.trans (show _ = Value.slice a225 l224.length c226 from s248) (by simp only [List.length_set])), rfl, hr296, h295, hs292⟩ (Nat.lt_succ_self _)
        · have h297 := ifF hc259 h258
          refine WL.val (R.eqlF (k := .u16) (a := andI .u16 (shrI .u16 p3 i223) 1) (b := 0) un52 rfl rfl hc259) rfl ?_
          refine WL.val (R.pickT (v := Value.bool false) rfl rfl) rfl ?_
          refine WL.nil ?_
          refine thenN ?_
          refine WC.condF rfl rfl ?_
          refine WC.skip ?_
          refine blockN ?_
          refine thenN ?_
          refine WC.region ?_
          refine WL.val (R.move (v := Value.int .i64 i223) (by exact s249)) rfl ?_
          obtain ⟨hg298, h299⟩ := ckE (c := -9223372036854775808 ≤ i223 + 1 ∧ i223 + 1 ≤ 9223372036854775807) h297
          refine WL.val (R.add (a := i223) (b := 1) (z := i223 + 1) rfl rfl (w64e rfl hg298.1 hg298.2)) rfl ?_
          refine WL.val (R.assign (v := Value.int .i64 (i223 + 1)) rfl) rfl ?_
          refine WL.nil ?_
          exact roundEnd (s := k236) ⟨i223 + 1, l224, a225, c226, s243, s244, s245, s246, s247, s248, rfl, he237, h299, hs235⟩ (Nat.lt_succ_self _)
    · have h300 := ifF hc250 h242
      refine WL.val (R.lssF (k := .i64) (a := i223) (b := p0) un3 rfl rfl hc250) rfl ?_
      refine WL.nil ?_
      refine thenN ?_
      refine WC.condF rfl rfl ?_
      refine WC.exit ?_
      refine thenE ?_
      refine thenE ?_
      refine blockHit ?_
      exact joinI ⟨l224, a225, c226, s244, s247, s248, h300, hs235⟩
  · rintro σ240 w239 ⟨l227, a228, c229, s302, s303, s304, h301, hs241⟩
    subst hK231
    refine thenN ?_
    refine WC.seq ?_
    refine WC.region ?_
    refine WL.val (R.move (v := Value.slice a228 l227.length c229) (by exact s304)) rfl ?_
    refine WL.val (R.move (v := Value.int .i64 p1) (by exact s302)) rfl ?_
    refine WL.val (R.loadA (cs := encH p4) (n := 56) ag60 (by exact s303) (hs241.at (i := 0) (off := 0) (n := 56) (cs := encH p4) rfl rfl rfl) rfl) rfl ?_
    obtain ⟨x305, hx306, h307⟩ := ob (o := rd l227 p1) h301
    obtain ⟨h0308, hx309, hl310, hm311⟩ := rdE hx306
    obtain ⟨b312, c313, hv314, _⟩ := hs241.gslAt (i := 1) rfl hx309
    refine WL.val (R.indexS (n := 56) (m := (p1).toNat) (ad := ⟨b312, 0, none⟩) (len := (l227).length) (cap := c313) (z := p1) un28 ag60.size (Eq.trans (show _ = Value.slice a228 l227.length c229 from rfl) hv314) rfl rfl hm311 hl310 rfl) rfl ?_
    refine WL.sto (L' := [blk b102 60 (encH p4), gsl 60 heldE (Value.slice a228 l227.length c229) ((l227).set (p1).toNat p4)]) (X.storeEl (i := 1) (j := (p1).toNat) (off := 0) (n := 56) (x := x305) (y := p4) (vs := encH p4) (u := Value.agg (List.toArray (encH p4))) (hs241.here) rfl hx309 hv314 ag60.size rfl rfl rfl rfl rfl rfl (by decide) (rfl) rfl) rfl rfl ?_
    intro w315 ht316
    have hs317 := hs241.trans ht316
    have hs318 : St [] w w315 [blk b102 60 (encH p4), gsl 60 heldE (Value.slice a228 (((l227).set (p1).toNat p4).length) c229) ((l227).set (p1).toNat p4)] := by simpa only [List.length_set] using hs317
    have ht319 : St [blk b102 60 (encH p4), gsl 60 heldE (Value.slice a228 l227.length c229) l227] w239 w315 [blk b102 60 (encH p4), gsl 60 heldE (Value.slice a228 (((l227).set (p1).toNat p4).length) c229) ((l227).set (p1).toNat p4)] := by simpa only [List.length_set] using ht316
    refine WL.nil ?_
    refine thenN ?_
    refine WC.seq ?_
    refine WC.region ?_
    refine WL.val (R.move (v := Value.slice a228 (((l227).set (p1).toNat p4).length) c229) (by exact (Eq.trans (show _ = Value.slice a228 l227.length c229 from s304) (by simp only [List.length_set])))) rfl ?_
    refine WL.val (R.assign (v := Value.slice a228 (((l227).set (p1).toNat p4).length) c229) rfl) rfl ?_
    refine WL.nil ?_
    refine thenN ?_
    refine WC.ret ?_
    obtain ⟨a320, c321, hv322, hl323, he324⟩ := el_freeze (k := heldW) (ok := ok) hs318 ((List.perm_middle (l₁ := [blk b102 60 (encH p4)]) (a := gsl 60 heldE (Value.slice a228 (((l227).set (p1).toNat p4).length) c229) ((l227).set (p1).toNat p4)) (l₂ := [])).trans (List.Perm.cons _ (List.Perm.refl _))) rfl (fun _ _ _ => ⟨trivial, rfl⟩)
    obtain ⟨rfl, rfl⟩ : a228 = a320 ∧ c229 = c321 := ⟨(Value.slice.inj hv322).1, (Value.slice.inj hv322).2.2⟩
    have ht325 := (hs318.here).perm (L' := [blk b102 60 (encH p4)]) (G := [gsl 60 heldE (Value.slice a228 (((l227).set (p1).toNat p4).length) c229) ((l227).set (p1).toNat p4)]) ((List.Perm.refl _))
    have hs326 := hs318.trans ht325
    have ht328 := (hs326.here).perm (L' := []) (G := [blk b102 60 (encH p4)]) ((List.Perm.refl _))
    have hs329 := hs326.trans ht328
    have hr330 := elT ht328 he324
    obtain rfl := Option.some.inj (show some ((l227).set (p1).toNat p4) = some r from h307)
    exact ret1 (P := Try.prog) (n := 47) (fn := Try.f93) (R := fun v w' => ∃ ra0, ∃ rc0, v = Value.slice ra0 ((l227).set (p1).toNat p4).length rc0 ∧ ((l227).set (p1).toNat p4).length ≤ rc0 ∧ elems heldW w' (In ok w [] []) ra0 ((l227).set (p1).toNat p4) ∧ St [] w w' []) (t := 10) (v := Value.slice a228 (((l227).set (p1).toNat p4).length) c229) rfl rfl rfl ⟨a228, c229, rfl, hl323, hr330, hs329⟩

theorem meet17_ok (w : World) (ok : Nat → Prop) (p0 : Int × Int) (p1 : List Int) (p2 : ((List Hd) × Int) × ((List Hd) × Int)) (a1 : Option Addr) (c1 : Nat) (he1 : elems (intW .i64) w ok a1 p1) (hc1 : p1.length ≤ c1) (a2 : Option Addr) (c2 : Nat) (he2 : elems heldW w ok a2 p2.1.1) (hc2 : p2.1.1.length ≤ c2) (a2a : Option Addr) (c2a : Nat) (he2a : elems heldW w ok a2a p2.2.1) (hc2a : p2.2.1.length ≤ c2a) {r : Bool} (h : meet17 p0 p1 p2 = some r) :
    Ret Try.prog 24 [Value.agg (List.toArray [Value.int .u8 p0.1, Value.int .u8 p0.2]), Value.slice a1 p1.length c1, Value.agg (List.toArray ([Value.slice a2 p2.1.1.length c2, Value.int .i64 p2.1.2] ++ [Value.slice a2a p2.2.1.length c2a, Value.int .i64 p2.2.2]))] w (fun v w' => v = Value.bool r ∧ St [] w w' []) := by
  rw [meet17] at h
  have hs100 : St [] w w [] := St.start w
  have he1001 := el0 (L0 := []) (fun b _ => out_nil b) he1
  have he1002 := el0 (L0 := []) (fun b _ => out_nil b) he2
  have he1002a := el0 (L0 := []) (fun b _ => out_nil b) he2a
  refine enter (n := 139) Try.func24 rfl rfl rfl ?_
  refine WC.seq ?_
  refine WC.region ?_
  refine WL.new (L' := fun b104 => [blk b104 40 [Value.int .u8 p0.1, Value.int .u8 p0.2]]) (f := fun b104 => Value.pointer (some ⟨b104, 0, none⟩)) (X.box (v := Value.agg (List.toArray [Value.int .u8 p0.1, Value.int .u8 p0.2])) (c := [Value.int .u8 p0.1, Value.int .u8 p0.2]) (hs100.here) rfl rfl (fun _ => rfl)) rfl ?_
  intro b104 w105 ht110 he107 hz108
  have hs111 := hs100.trans ht110
  refine WL.new (L' := fun b112 => [blk b104 40 [Value.int .u8 p0.1, Value.int .u8 p0.2], blk b112 197 ([Value.slice a2 p2.1.1.length c2, Value.int .i64 p2.1.2] ++ [Value.slice a2a p2.2.1.length c2a, Value.int .i64 p2.2.2])]) (f := fun b112 => Value.pointer (some ⟨b112, 0, none⟩)) (X.box (v := Value.agg (List.toArray ([Value.slice a2 p2.1.1.length c2, Value.int .i64 p2.1.2] ++ [Value.slice a2a p2.2.1.length c2a, Value.int .i64 p2.2.2]))) (c := [Value.slice a2 p2.1.1.length c2, Value.int .i64 p2.1.2] ++ [Value.slice a2a p2.2.1.length c2a, Value.int .i64 p2.2.2]) (hs111.here) rfl rfl (fun _ => rfl)) rfl ?_
  intro b112 w113 ht118 he115 hz116
  have hs119 := hs111.trans ht118
  refine WL.val (R.assign (v := Value.bool false) rfl) rfl ?_
  refine WL.nil ?_
  refine thenN ?_
  refine WC.seq ?_
  refine WC.seq ?_
  refine WC.region ?_
  refine WL.val (R.move (v := Value.slice a1 p1.length c1) rfl) rfl ?_
  refine WL.val (R.len (a := a1) (n := p1.length) (c := c1) un196 rfl) rfl ?_
  by_cases hc120 : ((p1.length : Nat) : Int) = 0
  · have h121 := ifT hc120 h
    refine WL.val (R.eqlT (k := .i64) (a := ((p1.length : Nat) : Int)) (b := 0) un3 rfl rfl hc120) rfl ?_
    refine WL.val (R.move (v := Value.bool true) rfl) rfl ?_
    refine WL.guardN (e := 21) (v := .bool true) rfl rfl rfl rfl ?_
    refine WL.guardN (e := 21) (v := .bool true) rfl rfl rfl rfl ?_
    refine WL.guardN (e := 21) (v := .bool true) rfl rfl rfl rfl ?_
    refine WL.val (R.pickT (v := Value.bool true) rfl rfl) rfl ?_
    refine WL.nil ?_
    refine thenN ?_
    refine WC.condT rfl rfl ?_
    refine WC.seq ?_
    refine WC.region ?_
    obtain ⟨y122, hx123, h124⟩ := ob (o := lives17 ) h121
    refine WL.call (lives17_ok _ (In ok w [] [blk b104 40 [Value.int .u8 p0.1, Value.int .u8 p0.2], blk b112 197 ([Value.slice a2 p2.1.1.length c2, Value.int .i64 p2.1.2] ++ [Value.slice a2a p2.2.1.length c2a, Value.int .i64 p2.2.2])])   hx123) (R.call (vs := []) (caps := []) bo41 rfl rfl) rfl ?_
    rintro v127 w128 ⟨rfl, ht125⟩
    have ht126 := hs119.call (N := [blk b104 40 [Value.int .u8 p0.1, Value.int .u8 p0.2], blk b112 197 ([Value.slice a2 p2.1.1.length c2, Value.int .i64 p2.1.2] ++ [Value.slice a2a p2.2.1.length c2a, Value.int .i64 p2.2.2])]) (M := []) (List.Perm.refl _) ht125
    have hs129 := hs119.trans ht126
    refine WL.val (R.assign (v := Value.bool y122) rfl) rfl ?_
    refine WL.nil ?_
    refine thenN ?_
    refine WC.ret ?_
    have ht130 := (hs129.here).perm (L' := []) (G := [blk b104 40 [Value.int .u8 p0.1, Value.int .u8 p0.2], blk b112 197 ([Value.slice a2 p2.1.1.length c2, Value.int .i64 p2.1.2] ++ [Value.slice a2a p2.2.1.length c2a, Value.int .i64 p2.2.2])]) ((List.Perm.refl _))
    have hs131 := hs129.trans ht130
    obtain rfl := Option.some.inj (show some y122 = some r from h124)
    exact ret1 (P := Try.prog) (n := 139) (fn := Try.f24) (R := fun v w' => v = Value.bool y122 ∧ St [] w w' []) (t := 6) (v := Value.bool y122) rfl rfl rfl ⟨rfl, hs131⟩
  · have h132 := ifF hc120 h
    refine WL.val (R.eqlF (k := .i64) (a := ((p1.length : Nat) : Int)) (b := 0) un3 rfl rfl hc120) rfl ?_
    refine WL.val (R.move (v := Value.bool false) rfl) rfl ?_
    refine WL.guardY (e := 21) rfl rfl rfl ?_
    refine WL.val (R.move (v := Value.slice a1 p1.length c1) rfl) rfl ?_
    refine WL.guardY (e := 21) rfl rfl rfl ?_
    refine WL.val (R.len (a := a1) (n := p1.length) (c := c1) un196 rfl) rfl ?_
    refine WL.guardY (e := 21) rfl rfl rfl ?_
    by_cases hc133 : 40 < ((p1.length : Nat) : Int)
    · have h134 := ifT hc133 h132
      refine WL.val (R.gtrT (k := .i64) (a := ((p1.length : Nat) : Int)) (b := 40) un3 rfl rfl hc133) rfl ?_
      refine WL.val (R.pickF (v := Value.bool true) rfl rfl) rfl ?_
      refine WL.nil ?_
      refine thenN ?_
      refine WC.condT rfl rfl ?_
      refine WC.seq ?_
      refine WC.region ?_
      obtain ⟨y135, hx136, h137⟩ := ob (o := lives17 ) h134
      refine WL.call (lives17_ok _ (In ok w [] [blk b104 40 [Value.int .u8 p0.1, Value.int .u8 p0.2], blk b112 197 ([Value.slice a2 p2.1.1.length c2, Value.int .i64 p2.1.2] ++ [Value.slice a2a p2.2.1.length c2a, Value.int .i64 p2.2.2])])   hx136) (R.call (vs := []) (caps := []) bo41 rfl rfl) rfl ?_
      rintro v140 w141 ⟨rfl, ht138⟩
      have ht139 := hs119.call (N := [blk b104 40 [Value.int .u8 p0.1, Value.int .u8 p0.2], blk b112 197 ([Value.slice a2 p2.1.1.length c2, Value.int .i64 p2.1.2] ++ [Value.slice a2a p2.2.1.length c2a, Value.int .i64 p2.2.2])]) (M := []) (List.Perm.refl _) ht138
      have hs142 := hs119.trans ht139
      refine WL.val (R.assign (v := Value.bool y135) rfl) rfl ?_
      refine WL.nil ?_
      refine thenN ?_
      refine WC.ret ?_
      have ht143 := (hs142.here).perm (L' := []) (G := [blk b104 40 [Value.int .u8 p0.1, Value.int .u8 p0.2], blk b112 197 ([Value.slice a2 p2.1.1.length c2, Value.int .i64 p2.1.2] ++ [Value.slice a2a p2.2.1.length c2a, Value.int .i64 p2.2.2])]) ((List.Perm.refl _))
      have hs144 := hs142.trans ht143
      obtain rfl := Option.some.inj (show some y135 = some r from h137)
      exact ret1 (P := Try.prog) (n := 139) (fn := Try.f24) (R := fun v w' => v = Value.bool y135 ∧ St [] w w' []) (t := 6) (v := Value.bool y135) rfl rfl rfl ⟨rfl, hs144⟩
    · have h145 := ifF hc133 h132
      refine WL.val (R.gtrF (k := .i64) (a := ((p1.length : Nat) : Int)) (b := 40) un3 rfl rfl hc133) rfl ?_
      refine WL.val (R.pickF (v := Value.bool false) rfl rfl) rfl ?_
      refine WL.nil ?_
      refine thenN ?_
      refine WC.condF rfl rfl ?_
      refine WC.skip ?_
      refine thenN ?_
      refine WC.seq ?_
      refine WC.region ?_
      refine WL.val (R.indexA (n := 1) (m := 0) (b := b104) (o := 0) (z := 0) un40 lf5.size rfl rfl rfl (by decide)) rfl ?_
      refine WL.val (R.loadL (v := Value.int .u8 p0.1) lf5 rfl (hs119.at (i := 0) (off := 0) (n := 1) (cs := [Value.int .u8 p0.1]) rfl rfl rfl)) rfl ?_
      obtain ⟨hg146, h147⟩ := ckE (c := -9223372036854775808 ≤ p0.1 ∧ p0.1 ≤ 9223372036854775807) h145
      refine WL.val (R.convII (n := p0.1) (z := p0.1) un5 un3 rfl (w64 hg146.1 hg146.2)) rfl ?_
      obtain ⟨hg148, h149⟩ := ckE (c := 0 ≤ p0.1 ∧ 0 < (13 : Int) ∧ (13 : Int) ≤ 9223372036854775807) h147
      refine WL.val (R.remG (a := p0.1) (b := 13) rfl rfl hg148 (by decide)) rfl ?_
      obtain ⟨hg150, h151⟩ := ckE (c := -9223372036854775808 ≤ 4 + (p0.1 % 13) ∧ 4 + (p0.1 % 13) ≤ 9223372036854775807) h149
      refine WL.val (R.add (a := 4) (b := p0.1 % 13) (z := 4 + (p0.1 % 13)) rfl rfl (w64e rfl hg150.1 hg150.2)) rfl ?_
      refine WL.val (R.assign (v := Value.int .i64 (4 + (p0.1 % 13))) rfl) rfl ?_
      refine WL.nil ?_
      refine thenN ?_
      refine WC.seq ?_
      refine WC.region ?_
      refine WL.val (R.indexA (n := 1) (m := 1) (b := b104) (o := 0) (z := 1) un40 lf5.size rfl rfl rfl (by decide)) rfl ?_
      refine WL.val (R.loadL (v := Value.int .u8 p0.2) lf5 rfl (hs119.at (i := 0) (off := 1) (n := 1) (cs := [Value.int .u8 p0.2]) rfl rfl rfl)) rfl ?_
      obtain ⟨hg152, h153⟩ := ckE (c := -9223372036854775808 ≤ p0.2 ∧ p0.2 ≤ 9223372036854775807) h151
      refine WL.val (R.convII (n := p0.2) (z := p0.2) un5 un3 rfl (w64 hg152.1 hg152.2)) rfl ?_
      refine WL.val (R.move (v := Value.int .i64 (4 + (p0.1 % 13))) rfl) rfl ?_
      obtain ⟨hg154, h155⟩ := ckE (c := 0 ≤ p0.2 ∧ 0 < (4 + (p0.1 % 13) : Int) ∧ (4 + (p0.1 % 13) : Int) ≤ 9223372036854775807) h153
      refine WL.val (R.remG (a := p0.2) (b := 4 + (p0.1 % 13)) rfl rfl hg154 (by decide)) rfl ?_
      refine WL.val (R.assign (v := Value.int .i64 (p0.2 % (4 + (p0.1 % 13)))) rfl) rfl ?_
      refine WL.nil ?_
      refine thenN ?_
      refine WC.seq ?_
      refine WC.region ?_
      refine WL.new (L' := fun b156 => [blk b104 40 [Value.int .u8 p0.1, Value.int .u8 p0.2], blk b112 197 ([Value.slice a2 p2.1.1.length c2, Value.int .i64 p2.1.2] ++ [Value.slice a2a p2.2.1.length c2a, Value.int .i64 p2.2.2]), blk b156 198 [Value.slice none 0 0, Value.slice none 0 0]]) (f := fun b156 => Value.pointer (some ⟨b156, 0, none⟩)) (X.alloc (c := [Value.slice none 0 0, Value.slice none 0 0]) (hs119.here) zr198 rfl (fun _ => rfl)) rfl ?_
      intro b156 w157 ht162 he159 hz160
      have hs163 := hs119.trans ht162
      refine WL.nil ?_
      refine thenN ?_
      refine WC.seq ?_
      refine WC.seq ?_
      refine WC.region ?_
      refine WL.val (R.assign (v := Value.int .i64 0) rfl) rfl ?_
      refine WL.nil ?_
      refine thenN ?_
      have ht581 := (hs163.here).perm (L' := [blk b112 197 ([Value.slice a2 p2.1.1.length c2, Value.int .i64 p2.1.2] ++ [Value.slice a2a p2.2.1.length c2a, Value.int .i64 p2.2.2]), blk b156 198 [Value.slice none 0 0, Value.slice none 0 0]]) (G := [blk b104 40 [Value.int .u8 p0.1, Value.int .u8 p0.2]]) (((List.perm_middle (l₁ := [blk b104 40 [Value.int .u8 p0.1, Value.int .u8 p0.2]]) (a := blk b112 197 ([Value.slice a2 p2.1.1.length c2, Value.int .i64 p2.1.2] ++ [Value.slice a2a p2.2.1.length c2a, Value.int .i64 p2.2.2])) (l₂ := [blk b156 198 [Value.slice none 0 0, Value.slice none 0 0]])).trans (List.Perm.cons _ ((List.perm_middle (l₁ := [blk b104 40 [Value.int .u8 p0.1, Value.int .u8 p0.2]]) (a := blk b156 198 [Value.slice none 0 0, Value.slice none 0 0]) (l₂ := [])).trans (List.Perm.cons _ (List.Perm.refl _))))))
      have hs582 := hs163.trans ht581
      have hr583 := elT (((ht110.trans ht118).trans ht162).trans ht581) he1001
      have hr584 := elT (((ht110.trans ht118).trans ht162).trans ht581) he1002
      have hr585 := elT (((ht110.trans ht118).trans ht162).trans ht581) he1002a
      obtain ⟨K567, hK568, h569⟩ := kE (G := fun K567 => meet17_l1 p2 p0 p1 K567 1000000 0 [] []) h155
      refine WC.join (fun σ587 w586 => ∃ l561 : List Hd, ∃ l564 : List Hd, ∃ a562, ∃ c563, ∃ a565, ∃ c566, σ587 5 = (Value.pointer (some ⟨b112, 0, none⟩)) ∧ σ587 7 = (Value.int .i64 (4 + (p0.1 % 13))) ∧ σ587 9 = (Value.pointer (some ⟨b156, 0, none⟩)) ∧ elems heldW w586 (In ok w [] [blk b112 197 ([Value.slice a2 p2.1.1.length c2, Value.int .i64 p2.1.2] ++ [Value.slice a2a p2.2.1.length c2a, Value.int .i64 p2.2.2]), blk b156 198 [Value.slice a562 l561.length c563, Value.slice a565 l564.length c566]]) a2 p2.1.1 ∧ elems heldW w586 (In ok w [] [blk b112 197 ([Value.slice a2 p2.1.1.length c2, Value.int .i64 p2.1.2] ++ [Value.slice a2a p2.2.1.length c2a, Value.int .i64 p2.2.2]), blk b156 198 [Value.slice a562 l561.length c563, Value.slice a565 l564.length c566]]) a2a p2.2.1 ∧ l561.length ≤ c563 ∧ elems heldW w586 (In ok w [] [blk b112 197 ([Value.slice a2 p2.1.1.length c2, Value.int .i64 p2.1.2] ++ [Value.slice a2a p2.2.1.length c2a, Value.int .i64 p2.2.2]), blk b156 198 [Value.slice a562 l561.length c563, Value.slice a565 l564.length c566]]) a562 l561 ∧ l564.length ≤ c566 ∧ elems heldW w586 (In ok w [] [blk b112 197 ([Value.slice a2 p2.1.1.length c2, Value.int .i64 p2.1.2] ++ [Value.slice a2a p2.2.1.length c2a, Value.int .i64 p2.2.2]), blk b156 198 [Value.slice a562 l561.length c563, Value.slice a565 l564.length c566]]) a565 l564 ∧ K567 l561 l564 = some r ∧ St [] w w586 [blk b112 197 ([Value.slice a2 p2.1.1.length c2, Value.int .i64 p2.1.2] ++ [Value.slice a2a p2.2.1.length c2a, Value.int .i64 p2.2.2]), blk b156 198 [Value.slice a562 l561.length c563, Value.slice a565 l564.length c566]]) ?_ ?_
      · refine WC.block ?_
        refine WC.loop (T := Nat) (fun k573 σ571 w570 => ∃ i554 : Int, ∃ l555 : List Hd, ∃ l558 : List Hd, ∃ a556, ∃ c557, ∃ a559, ∃ c560, σ571 1 = (Value.slice a1 p1.length c1) ∧ σ571 5 = (Value.pointer (some ⟨b112, 0, none⟩)) ∧ σ571 7 = (Value.int .i64 (4 + (p0.1 % 13))) ∧ σ571 8 = (Value.int .i64 (p0.2 % (4 + (p0.1 % 13)))) ∧ σ571 9 = (Value.pointer (some ⟨b156, 0, none⟩)) ∧ σ571 10 = (Value.int .i64 i554) ∧ elems (intW .i64) w570 (In ok w [] [blk b112 197 ([Value.slice a2 p2.1.1.length c2, Value.int .i64 p2.1.2] ++ [Value.slice a2a p2.2.1.length c2a, Value.int .i64 p2.2.2]), blk b156 198 [Value.slice a556 l555.length c557, Value.slice a559 l558.length c560]]) a1 p1 ∧ elems heldW w570 (In ok w [] [blk b112 197 ([Value.slice a2 p2.1.1.length c2, Value.int .i64 p2.1.2] ++ [Value.slice a2a p2.2.1.length c2a, Value.int .i64 p2.2.2]), blk b156 198 [Value.slice a556 l555.length c557, Value.slice a559 l558.length c560]]) a2 p2.1.1 ∧ elems heldW w570 (In ok w [] [blk b112 197 ([Value.slice a2 p2.1.1.length c2, Value.int .i64 p2.1.2] ++ [Value.slice a2a p2.2.1.length c2a, Value.int .i64 p2.2.2]), blk b156 198 [Value.slice a556 l555.length c557, Value.slice a559 l558.length c560]]) a2a p2.2.1 ∧ l555.length ≤ c557 ∧ elems heldW w570 (In ok w [] [blk b112 197 ([Value.slice a2 p2.1.1.length c2, Value.int .i64 p2.1.2] ++ [Value.slice a2a p2.2.1.length c2a, Value.int .i64 p2.2.2]), blk b156 198 [Value.slice a556 l555.length c557, Value.slice a559 l558.length c560]]) a556 l555 ∧ l558.length ≤ c560 ∧ elems heldW w570 (In ok w [] [blk b112 197 ([Value.slice a2 p2.1.1.length c2, Value.int .i64 p2.1.2] ++ [Value.slice a2a p2.2.1.length c2a, Value.int .i64 p2.2.2]), blk b156 198 [Value.slice a556 l555.length c557, Value.slice a559 l558.length c560]]) a559 l558 ∧ meet17_l1 p2 p0 p1 K567 k573 i554 l555 l558 = some r ∧ St [] w w570 [blk b112 197 ([Value.slice a2 p2.1.1.length c2, Value.int .i64 p2.1.2] ++ [Value.slice a2a p2.2.1.length c2a, Value.int .i64 p2.2.2]), blk b156 198 [Value.slice a556 l555.length c557, Value.slice a559 l558.length c560]]) (fun k573 => k573) 1000000 ⟨0, [], [], none, 0, none, 0, rfl, rfl, rfl, rfl, rfl, rfl, hr583, hr584, hr585, (Nat.le_refl _), elems_nil, (Nat.le_refl _), elems_nil, h569, hs582⟩ ?_
        rintro k573 σ571 w570 ⟨i554, l555, l558, a556, c557, a559, c560, s596, s597, s598, s599, s600, s601, he574, he575, he576, hl578, he577, hl580, he579, h595, hs572⟩
        rcases k573 with _ | k573
        · rw [meet17_l1] at h595; cases h595
        rw [meet17_l1] at h595
        refine WC.seq ?_
        refine WC.seq ?_
        refine WC.region ?_
        refine WL.val (R.move (v := Value.int .i64 i554) (by exact s601)) rfl ?_
        by_cases hc602 : i554 < 2
        · have h603 := ifT hc602 h595
          refine WL.val (R.lssT (k := .i64) (a := i554) (b := 2) un3 rfl rfl hc602) rfl ?_
          refine WL.nil ?_
          refine thenN ?_
          refine WC.condT rfl rfl ?_
          refine WC.skip ?_
          refine thenN ?_
          refine WC.seq ?_
          refine WC.block ?_
          refine WC.seq ?_
          refine WC.region ?_
          have hd604 : ∀ w, (Instr.build 60 #[]).run Try.prog w = .ok (Value.agg (List.toArray (encH Hd.none))) w := fun _ => by kernel_rfl
          refine WL.val (R.build (vs := []) rfl hd604) rfl ?_
          refine WL.new (L' := fun b605 => [blk b112 197 ([Value.slice a2 p2.1.1.length c2, Value.int .i64 p2.1.2] ++ [Value.slice a2a p2.2.1.length c2a, Value.int .i64 p2.2.2]), blk b156 198 [Value.slice a556 l555.length c557, Value.slice a559 l558.length c560], blk b605 60 (encH Hd.none)]) (f := fun b605 => Value.pointer (some ⟨b605, 0, none⟩)) (X.alloc (c := encH Hd.none) (hs572.here) zr60 rfl (fun _ => rfl)) rfl ?_
          intro b605 w606 ht611 he608 hz609
          have hs612 := hs572.trans ht611
          refine WL.sto (L' := [blk b112 197 ([Value.slice a2 p2.1.1.length c2, Value.int .i64 p2.1.2] ++ [Value.slice a2a p2.2.1.length c2a, Value.int .i64 p2.2.2]), blk b156 198 [Value.slice a556 l555.length c557, Value.slice a559 l558.length c560], blk b605 60 (encH Hd.none)]) (X.store (i := 2) (n := 56) (b := b605) (off := 0) (c := encH Hd.none) (U := 60) (vs := encH Hd.none) (v := Value.agg (List.toArray (encH Hd.none))) (c' := encH Hd.none) (hs612.here) rfl ag60.size rfl rfl rfl rfl rfl rfl rfl rfl) rfl rfl ?_
          intro w613 ht614
          have hs615 := hs612.trans ht614
          refine WL.nil ?_
          refine thenN ?_
          refine WC.seq ?_
          refine WC.region ?_
          refine WL.val (R.assign (v := Value.int .u16 0) rfl) rfl ?_
          refine WL.nil ?_
          refine thenN ?_
          refine WC.seq ?_
          refine WC.seq ?_
          refine WC.region ?_
          refine WL.val (R.move (v := Value.int .i64 i554) (by exact s601)) rfl ?_
          by_cases hc616 : i554 = 0
          · have h617 := ifT hc616 h603
            refine WL.val (R.indexA (n := 2) (m := 0) (b := b112) (o := 0) (z := 0) un197 ag73.size (by exact s597) (Eq.trans (show _ = Value.int .i64 i554 from rfl) (congrArg (Value.int .i64) hc616)) rfl (by decide)) rfl ?_
            refine WL.val (R.fieldAddr (o := 0) (o' := 0) fa73_0 rfl rfl) rfl ?_
            refine WL.val (R.loadL (v := Value.slice a2 p2.1.1.length c2) lf28 rfl (hs615.at (i := 0) (off := 0) (n := 1) (cs := [Value.slice a2 p2.1.1.length c2]) rfl rfl rfl)) rfl ?_
            refine WL.val (R.len (a := a2) (n := p2.1.1.length) (c := c2) un28 rfl) rfl ?_
            by_cases hc618 : 0 < ((p2.1.1.length : Nat) : Int)
            · have h619 := ifT hc618 h617
              refine WL.val (R.gtrT (k := .i64) (a := ((p2.1.1.length : Nat) : Int)) (b := 0) un3 rfl rfl hc618) rfl ?_
              refine WL.nil ?_
              refine thenN ?_
              refine WC.condT rfl rfl ?_
              refine WC.seq ?_
              refine WC.region ?_
              refine WL.val (R.move (v := Value.int .i64 i554) (by exact s601)) rfl ?_
              refine WL.val (R.indexA (n := 2) (m := 0) (b := b112) (o := 0) (z := 0) un197 ag73.size (by exact s597) (Eq.trans (show _ = Value.int .i64 i554 from rfl) (congrArg (Value.int .i64) hc616)) rfl (by decide)) rfl ?_
              refine WL.val (R.fieldAddr (o := 0) (o' := 0) fa73_0 rfl rfl) rfl ?_
              refine WL.val (R.loadL (v := Value.slice a2 p2.1.1.length c2) lf28 rfl (hs615.at (i := 0) (off := 0) (n := 1) (cs := [Value.slice a2 p2.1.1.length c2]) rfl rfl rfl)) rfl ?_
              obtain ⟨x620, hx621, h622⟩ := ob (o := rd p2.1.1 0) h619
              obtain ⟨h0623, hx624, hl625, hm626⟩ := rdE hx621
              have hr627 := elT (ht611.trans ht614) he575
              obtain ⟨ad628, e633, ha629, hp630, hat631, hrd632⟩ := hr627 _ _ hx624
              obtain ⟨-, rfl⟩ := hrd632
              refine WL.val (R.indexS (n := 56) (m := (0 : Int).toNat) (a := a2) (ad := ad628) (len := p2.1.1.length) (cap := c2) (z := 0) un28 ag60.size rfl ha629 rfl hm626 hl625 hp630) rfl ?_
              refine WL.val (R.loadA (cs := encH x620) (n := 56) ag60 rfl hat631 rfl) rfl ?_
              refine WL.sto (L' := [blk b112 197 ([Value.slice a2 p2.1.1.length c2, Value.int .i64 p2.1.2] ++ [Value.slice a2a p2.2.1.length c2a, Value.int .i64 p2.2.2]), blk b156 198 [Value.slice a556 l555.length c557, Value.slice a559 l558.length c560], blk b605 60 (encH x620)]) (X.store (i := 2) (n := 56) (b := b605) (off := 0) (c := encH Hd.none) (U := 60) (vs := encH x620) (v := Value.agg (List.toArray (encH x620))) (c' := encH x620) (hs615.here) rfl ag60.size rfl rfl rfl rfl rfl rfl rfl rfl) rfl rfl ?_
              intro w635 ht636
              have hs637 := hs615.trans ht636
              refine WL.nil ?_
              refine thenN ?_
              refine WC.region ?_
              refine WL.val (R.move (v := Value.int .i64 i554) (by exact s601)) rfl ?_
              refine WL.val (R.indexA (n := 2) (m := 0) (b := b112) (o := 0) (z := 0) un197 ag73.size (by exact s597) (Eq.trans (show _ = Value.int .i64 i554 from rfl) (congrArg (Value.int .i64) hc616)) rfl (by decide)) rfl ?_
              refine WL.val (R.fieldAddr (o := 0) (o' := 0) fa73_0 rfl rfl) rfl ?_
              refine WL.val (R.loadL (v := Value.slice a2 p2.1.1.length c2) lf28 rfl (hs637.at (i := 0) (off := 0) (n := 1) (cs := [Value.slice a2 p2.1.1.length c2]) rfl rfl rfl)) rfl ?_
              refine WL.val (R.indexS (n := 56) (m := (0 : Int).toNat) (a := a2) (ad := ad628) (len := p2.1.1.length) (cap := c2) (z := 0) un28 ag60.size rfl ha629 rfl hm626 hl625 hp630) rfl ?_
              refine WL.val (R.fieldAddr (o := ad628.off + (0 : Int).toNat * 56) (o' := ad628.off + (0 : Int).toNat * 56 + 1) fa60_1 rfl rfl) rfl ?_
              refine WL.val (R.fieldAddr (o := ad628.off + (0 : Int).toNat * 56 + 1) (o' := ad628.off + (0 : Int).toNat * 56 + 1 + 1) fa58_1 rfl rfl) rfl ?_
              refine WL.val (R.fieldAddr (o := ad628.off + (0 : Int).toNat * 56 + 1 + 1) (o' := ad628.off + (0 : Int).toNat * 56 + 1 + 1 + 2) fa49_2 rfl rfl) rfl ?_
              refine WL.val (R.fieldAddr (o := ad628.off + (0 : Int).toNat * 56 + 1 + 1 + 2) (o' := ad628.off + (0 : Int).toNat * 56 + 1 + 1 + 2 + 3) fa47_3 rfl rfl) rfl ?_
              have hr638 := At.trT ht636 hat631
              refine WL.val (R.loadL (v := Value.int .u32 x620.cell.offer.value) lf45 rfl (At.sub (a := ⟨ad628.block, ad628.off + (0 : Int).toNat * 56, none⟩) (off := 7) (n := 1) (cs := encH x620) (ds := [Value.int .u32 x620.cell.offer.value]) hr638 rfl rfl)) rfl ?_
              refine WL.val (R.convII (n := x620.cell.offer.value) (z := IntKind.wrap .u16 x620.cell.offer.value) un45 un52 rfl (rfl)) rfl ?_
              refine WL.val (R.assign (v := Value.int .u16 (IntKind.wrap .u16 x620.cell.offer.value)) rfl) rfl ?_
              refine WL.nil ?_
              refine thenN ?_
              refine WC.region ?_
              refine WL.val (R.move (v := Value.int .i64 i554) (by exact s601)) rfl ?_
              refine WL.val (R.move (v := Value.int .i64 (4 + (p0.1 % 13))) (by exact s598)) rfl ?_
              refine WL.val (R.move (v := Value.int .i64 (p0.2 % (4 + (p0.1 % 13)))) (by exact s599)) rfl ?_
              refine WL.val (R.move (v := Value.slice a1 p1.length c1) (by exact s596)) rfl ?_
              refine WL.val (R.move (v := Value.int .u16 (IntKind.wrap .u16 x620.cell.offer.value)) rfl) rfl ?_
              refine WL.val (R.loadA (cs := encH x620) (n := 56) ag60 rfl (hs637.at (i := 2) (off := 0) (n := 56) (cs := encH x620) rfl rfl rfl) rfl) rfl ?_
              obtain ⟨y639, hx640, h641⟩ := ob (o := view17 (4 + (p0.1 % 13)) (p0.2 % (4 + (p0.1 % 13))) p1 (IntKind.wrap .u16 x620.cell.offer.value) x620) h622
              have hr642 := elT ((ht611.trans ht614).trans ht636) he574
              refine WL.call (view17_ok _ _ (4 + (p0.1 % 13)) (p0.2 % (4 + (p0.1 % 13))) p1 (IntKind.wrap .u16 x620.cell.offer.value) x620 _ _ hr642 hc1 hx640) (R.call (vs := [Value.int .i64 (4 + (p0.1 % 13)), Value.int .i64 (p0.2 % (4 + (p0.1 % 13))), Value.slice a1 p1.length c1, Value.int .u16 (IntKind.wrap .u16 x620.cell.offer.value), Value.agg (List.toArray (encH x620))]) (caps := []) bo93 rfl rfl) rfl ?_
              rintro v649 w650 ⟨a645, c646, rfl, hl647, he648, ht643⟩
              have ht644 := hs637.call (N := [blk b112 197 ([Value.slice a2 p2.1.1.length c2, Value.int .i64 p2.1.2] ++ [Value.slice a2a p2.2.1.length c2a, Value.int .i64 p2.2.2]), blk b156 198 [Value.slice a556 l555.length c557, Value.slice a559 l558.length c560], blk b605 60 (encH x620)]) (M := []) (List.Perm.refl _) ht643
              have he651 := elC hs637 (M := []) (List.Perm.refl _) ht643 he648
              have hs652 := hs637.trans ht644
              refine WL.val (R.indexA (n := 1) (m := 0) (b := b156) (o := 0) (z := 0) un198 lf28.size (by exact s600) (Eq.trans (show _ = Value.int .i64 i554 from rfl) (congrArg (Value.int .i64) hc616)) rfl (by decide)) rfl ?_
              refine WL.sto (L' := [blk b112 197 ([Value.slice a2 p2.1.1.length c2, Value.int .i64 p2.1.2] ++ [Value.slice a2a p2.2.1.length c2a, Value.int .i64 p2.2.2]), blk b156 198 [Value.slice a645 y639.length c646, Value.slice a559 l558.length c560], blk b605 60 (encH x620)]) (X.store (i := 1) (n := 1) (b := b156) (off := 0) (c := [Value.slice a556 l555.length c557, Value.slice a559 l558.length c560]) (U := 198) (vs := [Value.slice a645 y639.length c646]) (v := Value.slice a645 y639.length c646) (c' := [Value.slice a645 y639.length c646, Value.slice a559 l558.length c560]) (hs652.here) rfl lf28.size rfl rfl rfl rfl rfl rfl rfl rfl) rfl rfl ?_
              intro w654 ht655
              have hs656 := hs652.trans ht655
              refine WL.nil ?_
              refine blockN ?_
              refine thenN ?_
              refine WC.region ?_
              refine WL.val (R.move (v := Value.int .i64 i554) (by exact s601)) rfl ?_
              obtain ⟨hg657, h658⟩ := ckE (c := -9223372036854775808 ≤ i554 + 1 ∧ i554 + 1 ≤ 9223372036854775807) h641
              refine WL.val (R.add (a := i554) (b := 1) (z := i554 + 1) rfl rfl (w64e rfl hg657.1 hg657.2)) rfl ?_
              refine WL.val (R.assign (v := Value.int .i64 (i554 + 1)) rfl) rfl ?_
              refine WL.nil ?_
              have ht659 := (hs656.here).perm (L' := [blk b112 197 ([Value.slice a2 p2.1.1.length c2, Value.int .i64 p2.1.2] ++ [Value.slice a2a p2.2.1.length c2a, Value.int .i64 p2.2.2]), blk b156 198 [Value.slice a645 y639.length c646, Value.slice a559 l558.length c560]]) (G := [blk b605 60 (encH x620)]) ((List.Perm.refl _))
              have hs660 := hs656.trans ht659
              have hr661 := elT ((ht644.trans ht655).trans ht659) hr642
              have hr662 := elT (((ht636.trans ht644).trans ht655).trans ht659) hr627
              have hr663 := elT (((((ht611.trans ht614).trans ht636).trans ht644).trans ht655).trans ht659) he576
              have hr664 := elT (ht655.trans ht659) he651
              have hr665 := elT (((((ht611.trans ht614).trans ht636).trans ht644).trans ht655).trans ht659) he579
              exact roundEnd (s := k573) ⟨i554 + 1, y639, l558, a645, c646, a559, c560, s596, s597, s598, s599, s600, rfl, hr661, hr662, hr663, hl647, hr664, hl580, hr665, h658, hs660⟩ (Nat.lt_succ_self _)
            · have h666 := ifF hc618 h617
              refine WL.val (R.gtrF (k := .i64) (a := ((p2.1.1.length : Nat) : Int)) (b := 0) un3 rfl rfl hc618) rfl ?_
              refine WL.nil ?_
              refine thenN ?_
              refine WC.condF rfl rfl ?_
              refine WC.skip ?_
              refine thenN ?_
              refine WC.region ?_
              refine WL.val (R.move (v := Value.int .i64 i554) (by exact s601)) rfl ?_
              refine WL.val (R.move (v := Value.int .i64 (4 + (p0.1 % 13))) (by exact s598)) rfl ?_
              refine WL.val (R.move (v := Value.int .i64 (p0.2 % (4 + (p0.1 % 13)))) (by exact s599)) rfl ?_
              refine WL.val (R.move (v := Value.slice a1 p1.length c1) (by exact s596)) rfl ?_
              refine WL.val (R.move (v := Value.int .u16 0) rfl) rfl ?_
              refine WL.val (R.loadA (cs := encH Hd.none) (n := 56) ag60 rfl (hs615.at (i := 2) (off := 0) (n := 56) (cs := encH Hd.none) rfl rfl rfl) rfl) rfl ?_
              obtain ⟨y667, hx668, h669⟩ := ob (o := view17 (4 + (p0.1 % 13)) (p0.2 % (4 + (p0.1 % 13))) p1 0 Hd.none) h666
              have hr670 := elT (ht611.trans ht614) he574
              refine WL.call (view17_ok _ _ (4 + (p0.1 % 13)) (p0.2 % (4 + (p0.1 % 13))) p1 0 Hd.none _ _ hr670 hc1 hx668) (R.call (vs := [Value.int .i64 (4 + (p0.1 % 13)), Value.int .i64 (p0.2 % (4 + (p0.1 % 13))), Value.slice a1 p1.length c1, Value.int .u16 0, Value.agg (List.toArray (encH Hd.none))]) (caps := []) bo93 rfl rfl) rfl ?_
              rintro v677 w678 ⟨a673, c674, rfl, hl675, he676, ht671⟩
              have ht672 := hs615.call (N := [blk b112 197 ([Value.slice a2 p2.1.1.length c2, Value.int .i64 p2.1.2] ++ [Value.slice a2a p2.2.1.length c2a, Value.int .i64 p2.2.2]), blk b156 198 [Value.slice a556 l555.length c557, Value.slice a559 l558.length c560], blk b605 60 (encH Hd.none)]) (M := []) (List.Perm.refl _) ht671
              have he679 := elC hs615 (M := []) (List.Perm.refl _) ht671 he676
              have hs680 := hs615.trans ht672
              refine WL.val (R.indexA (n := 1) (m := 0) (b := b156) (o := 0) (z := 0) un198 lf28.size (by exact s600) (Eq.trans (show _ = Value.int .i64 i554 from rfl) (congrArg (Value.int .i64) hc616)) rfl (by decide)) rfl ?_
              refine WL.sto (L' := [blk b112 197 ([Value.slice a2 p2.1.1.length c2, Value.int .i64 p2.1.2] ++ [Value.slice a2a p2.2.1.length c2a, Value.int .i64 p2.2.2]), blk b156 198 [Value.slice a673 y667.length c674, Value.slice a559 l558.length c560], blk b605 60 (encH Hd.none)]) (X.store (i := 1) (n := 1) (b := b156) (off := 0) (c := [Value.slice a556 l555.length c557, Value.slice a559 l558.length c560]) (U := 198) (vs := [Value.slice a673 y667.length c674]) (v := Value.slice a673 y667.length c674) (c' := [Value.slice a673 y667.length c674, Value.slice a559 l558.length c560]) (hs680.here) rfl lf28.size rfl rfl rfl rfl rfl rfl rfl rfl) rfl rfl ?_
              intro w682 ht683
              have hs684 := hs680.trans ht683
              refine WL.nil ?_
              refine blockN ?_
              refine thenN ?_
              refine WC.region ?_
              refine WL.val (R.move (v := Value.int .i64 i554) (by exact s601)) rfl ?_
              obtain ⟨hg685, h686⟩ := ckE (c := -9223372036854775808 ≤ i554 + 1 ∧ i554 + 1 ≤ 9223372036854775807) h669
              refine WL.val (R.add (a := i554) (b := 1) (z := i554 + 1) rfl rfl (w64e rfl hg685.1 hg685.2)) rfl ?_
              refine WL.val (R.assign (v := Value.int .i64 (i554 + 1)) rfl) rfl ?_
              refine WL.nil ?_
              have ht687 := (hs684.here).perm (L' := [blk b112 197 ([Value.slice a2 p2.1.1.length c2, Value.int .i64 p2.1.2] ++ [Value.slice a2a p2.2.1.length c2a, Value.int .i64 p2.2.2]), blk b156 198 [Value.slice a673 y667.length c674, Value.slice a559 l558.length c560]]) (G := [blk b605 60 (encH Hd.none)]) ((List.Perm.refl _))
              have hs688 := hs684.trans ht687
              have hr689 := elT ((ht672.trans ht683).trans ht687) hr670
              have hr690 := elT ((((ht611.trans ht614).trans ht672).trans ht683).trans ht687) he575
              have hr691 := elT ((((ht611.trans ht614).trans ht672).trans ht683).trans ht687) he576
              have hr692 := elT (ht683.trans ht687) he679
              have hr693 := elT ((((ht611.trans ht614).trans ht672).trans ht683).trans ht687) he579
              exact roundEnd (s := k573) ⟨i554 + 1, y667, l558, a673, c674, a559, c560, s596, s597, s598, s599, s600, rfl, hr689, hr690, hr691, hl675, hr692, hl580, hr693, h686, hs688⟩ (Nat.lt_succ_self _)
          · have h694 := ifF hc616 h603
            obtain ⟨hg695, h696⟩ := ckE (c := i554 = 1) h694
            refine WL.val (R.indexA (n := 2) (m := 1) (b := b112) (o := 0) (z := 1) un197 ag73.size (by exact s597) (Eq.trans (show _ = Value.int .i64 i554 from rfl) (congrArg (Value.int .i64) hg695)) rfl (by decide)) rfl ?_
            refine WL.val (R.fieldAddr (o := 2) (o' := 2) fa73_0 rfl rfl) rfl ?_
            refine WL.val (R.loadL (v := Value.slice a2a p2.2.1.length c2a) lf28 rfl (hs615.at (i := 0) (off := 2) (n := 1) (cs := [Value.slice a2a p2.2.1.length c2a]) rfl rfl rfl)) rfl ?_
            refine WL.val (R.len (a := a2a) (n := p2.2.1.length) (c := c2a) un28 rfl) rfl ?_
            by_cases hc697 : 0 < ((p2.2.1.length : Nat) : Int)
            · have h698 := ifT hc697 h696
              refine WL.val (R.gtrT (k := .i64) (a := ((p2.2.1.length : Nat) : Int)) (b := 0) un3 rfl rfl hc697) rfl ?_
              refine WL.nil ?_
              refine thenN ?_
              refine WC.condT rfl rfl ?_
              refine WC.seq ?_
              refine WC.region ?_
              refine WL.val (R.move (v := Value.int .i64 i554) (by exact s601)) rfl ?_
              refine WL.val (R.indexA (n := 2) (m := 1) (b := b112) (o := 0) (z := 1) un197 ag73.size (by exact s597) (Eq.trans (show _ = Value.int .i64 i554 from rfl) (congrArg (Value.int .i64) hg695)) rfl (by decide)) rfl ?_
              refine WL.val (R.fieldAddr (o := 2) (o' := 2) fa73_0 rfl rfl) rfl ?_
              refine WL.val (R.loadL (v := Value.slice a2a p2.2.1.length c2a) lf28 rfl (hs615.at (i := 0) (off := 2) (n := 1) (cs := [Value.slice a2a p2.2.1.length c2a]) rfl rfl rfl)) rfl ?_
              obtain ⟨x699, hx700, h701⟩ := ob (o := rd p2.2.1 0) h698
              obtain ⟨h0702, hx703, hl704, hm705⟩ := rdE hx700
              have hr706 := elT (ht611.trans ht614) he576
              obtain ⟨ad707, e712, ha708, hp709, hat710, hrd711⟩ := hr706 _ _ hx703
              obtain ⟨-, rfl⟩ := hrd711
              refine WL.val (R.indexS (n := 56) (m := (0 : Int).toNat) (a := a2a) (ad := ad707) (len := p2.2.1.length) (cap := c2a) (z := 0) un28 ag60.size rfl ha708 rfl hm705 hl704 hp709) rfl ?_
              refine WL.val (R.loadA (cs := encH x699) (n := 56) ag60 rfl hat710 rfl) rfl ?_
              refine WL.sto (L' := [blk b112 197 ([Value.slice a2 p2.1.1.length c2, Value.int .i64 p2.1.2] ++ [Value.slice a2a p2.2.1.length c2a, Value.int .i64 p2.2.2]), blk b156 198 [Value.slice a556 l555.length c557, Value.slice a559 l558.length c560], blk b605 60 (encH x699)]) (X.store (i := 2) (n := 56) (b := b605) (off := 0) (c := encH Hd.none) (U := 60) (vs := encH x699) (v := Value.agg (List.toArray (encH x699))) (c' := encH x699) (hs615.here) rfl ag60.size rfl rfl rfl rfl rfl rfl rfl rfl) rfl rfl ?_
              intro w714 ht715
              have hs716 := hs615.trans ht715
              refine WL.nil ?_
              refine thenN ?_
              refine WC.region ?_
              refine WL.val (R.move (v := Value.int .i64 i554) (by exact s601)) rfl ?_
              refine WL.val (R.indexA (n := 2) (m := 1) (b := b112) (o := 0) (z := 1) un197 ag73.size (by exact s597) (Eq.trans (show _ = Value.int .i64 i554 from rfl) (congrArg (Value.int .i64) hg695)) rfl (by decide)) rfl ?_
              refine WL.val (R.fieldAddr (o := 2) (o' := 2) fa73_0 rfl rfl) rfl ?_
              refine WL.val (R.loadL (v := Value.slice a2a p2.2.1.length c2a) lf28 rfl (hs716.at (i := 0) (off := 2) (n := 1) (cs := [Value.slice a2a p2.2.1.length c2a]) rfl rfl rfl)) rfl ?_
              refine WL.val (R.indexS (n := 56) (m := (0 : Int).toNat) (a := a2a) (ad := ad707) (len := p2.2.1.length) (cap := c2a) (z := 0) un28 ag60.size rfl ha708 rfl hm705 hl704 hp709) rfl ?_
              refine WL.val (R.fieldAddr (o := ad707.off + (0 : Int).toNat * 56) (o' := ad707.off + (0 : Int).toNat * 56 + 1) fa60_1 rfl rfl) rfl ?_
              refine WL.val (R.fieldAddr (o := ad707.off + (0 : Int).toNat * 56 + 1) (o' := ad707.off + (0 : Int).toNat * 56 + 1 + 1) fa58_1 rfl rfl) rfl ?_
              refine WL.val (R.fieldAddr (o := ad707.off + (0 : Int).toNat * 56 + 1 + 1) (o' := ad707.off + (0 : Int).toNat * 56 + 1 + 1 + 2) fa49_2 rfl rfl) rfl ?_
              refine WL.val (R.fieldAddr (o := ad707.off + (0 : Int).toNat * 56 + 1 + 1 + 2) (o' := ad707.off + (0 : Int).toNat * 56 + 1 + 1 + 2 + 3) fa47_3 rfl rfl) rfl ?_
              have hr717 := At.trT ht715 hat710
              refine WL.val (R.loadL (v := Value.int .u32 x699.cell.offer.value) lf45 rfl (At.sub (a := ⟨ad707.block, ad707.off + (0 : Int).toNat * 56, none⟩) (off := 7) (n := 1) (cs := encH x699) (ds := [Value.int .u32 x699.cell.offer.value]) hr717 rfl rfl)) rfl ?_
              refine WL.val (R.convII (n := x699.cell.offer.value) (z := IntKind.wrap .u16 x699.cell.offer.value) un45 un52 rfl (rfl)) rfl ?_
              refine WL.val (R.assign (v := Value.int .u16 (IntKind.wrap .u16 x699.cell.offer.value)) rfl) rfl ?_
              refine WL.nil ?_
              refine thenN ?_
              refine WC.region ?_
              refine WL.val (R.move (v := Value.int .i64 i554) (by exact s601)) rfl ?_
              refine WL.val (R.move (v := Value.int .i64 (4 + (p0.1 % 13))) (by exact s598)) rfl ?_
              refine WL.val (R.move (v := Value.int .i64 (p0.2 % (4 + (p0.1 % 13)))) (by exact s599)) rfl ?_
              refine WL.val (R.move (v := Value.slice a1 p1.length c1) (by exact s596)) rfl ?_
              refine WL.val (R.move (v := Value.int .u16 (IntKind.wrap .u16 x699.cell.offer.value)) rfl) rfl ?_
              refine WL.val (R.loadA (cs := encH x699) (n := 56) ag60 rfl (hs716.at (i := 2) (off := 0) (n := 56) (cs := encH x699) rfl rfl rfl) rfl) rfl ?_
              obtain ⟨y718, hx719, h720⟩ := ob (o := view17 (4 + (p0.1 % 13)) (p0.2 % (4 + (p0.1 % 13))) p1 (IntKind.wrap .u16 x699.cell.offer.value) x699) h701
              have hr721 := elT ((ht611.trans ht614).trans ht715) he574
              refine WL.call (view17_ok _ _ (4 + (p0.1 % 13)) (p0.2 % (4 + (p0.1 % 13))) p1 (IntKind.wrap .u16 x699.cell.offer.value) x699 _ _ hr721 hc1 hx719) (R.call (vs := [Value.int .i64 (4 + (p0.1 % 13)), Value.int .i64 (p0.2 % (4 + (p0.1 % 13))), Value.slice a1 p1.length c1, Value.int .u16 (IntKind.wrap .u16 x699.cell.offer.value), Value.agg (List.toArray (encH x699))]) (caps := []) bo93 rfl rfl) rfl ?_
              rintro v728 w729 ⟨a724, c725, rfl, hl726, he727, ht722⟩
              have ht723 := hs716.call (N := [blk b112 197 ([Value.slice a2 p2.1.1.length c2, Value.int .i64 p2.1.2] ++ [Value.slice a2a p2.2.1.length c2a, Value.int .i64 p2.2.2]), blk b156 198 [Value.slice a556 l555.length c557, Value.slice a559 l558.length c560], blk b605 60 (encH x699)]) (M := []) (List.Perm.refl _) ht722
              have he730 := elC hs716 (M := []) (List.Perm.refl _) ht722 he727
              have hs731 := hs716.trans ht723
              refine WL.val (R.indexA (n := 1) (m := 1) (b := b156) (o := 0) (z := 1) un198 lf28.size (by exact s600) (Eq.trans (show _ = Value.int .i64 i554 from rfl) (congrArg (Value.int .i64) hg695)) rfl (by decide)) rfl ?_
              refine WL.sto (L' := [blk b112 197 ([Value.slice a2 p2.1.1.length c2, Value.int .i64 p2.1.2] ++ [Value.slice a2a p2.2.1.length c2a, Value.int .i64 p2.2.2]), blk b156 198 [Value.slice a556 l555.length c557, Value.slice a724 y718.length c725], blk b605 60 (encH x699)]) (X.store (i := 1) (n := 1) (b := b156) (off := 1) (c := [Value.slice a556 l555.length c557, Value.slice a559 l558.length c560]) (U := 198) (vs := [Value.slice a724 y718.length c725]) (v := Value.slice a724 y718.length c725) (c' := [Value.slice a556 l555.length c557, Value.slice a724 y718.length c725]) (hs731.here) rfl lf28.size rfl rfl rfl rfl rfl rfl rfl rfl) rfl rfl ?_
              intro w733 ht734
              have hs735 := hs731.trans ht734
              refine WL.nil ?_
              refine blockN ?_
              refine thenN ?_
              refine WC.region ?_
              refine WL.val (R.move (v := Value.int .i64 i554) (by exact s601)) rfl ?_
              obtain ⟨hg736, h737⟩ := ckE (c := -9223372036854775808 ≤ i554 + 1 ∧ i554 + 1 ≤ 9223372036854775807) h720
              refine WL.val (R.add (a := i554) (b := 1) (z := i554 + 1) rfl rfl (w64e rfl hg736.1 hg736.2)) rfl ?_
              refine WL.val (R.assign (v := Value.int .i64 (i554 + 1)) rfl) rfl ?_
              refine WL.nil ?_
              have ht738 := (hs735.here).perm (L' := [blk b112 197 ([Value.slice a2 p2.1.1.length c2, Value.int .i64 p2.1.2] ++ [Value.slice a2a p2.2.1.length c2a, Value.int .i64 p2.2.2]), blk b156 198 [Value.slice a556 l555.length c557, Value.slice a724 y718.length c725]]) (G := [blk b605 60 (encH x699)]) ((List.Perm.refl _))
              have hs739 := hs735.trans ht738
              have hr740 := elT ((ht723.trans ht734).trans ht738) hr721
              have hr741 := elT (((((ht611.trans ht614).trans ht715).trans ht723).trans ht734).trans ht738) he575
              have hr742 := elT (((ht715.trans ht723).trans ht734).trans ht738) hr706
              have hr743 := elT (((((ht611.trans ht614).trans ht715).trans ht723).trans ht734).trans ht738) he577
              have hr744 := elT (ht734.trans ht738) he730
              exact roundEnd (s := k573) ⟨i554 + 1, l555, y718, a556, c557, a724, c725, s596, s597, s598, s599, s600, rfl, hr740, hr741, hr742, hl578, hr743, hl726, hr744, h737, hs739⟩ (Nat.lt_succ_self _)
            · have h745 := ifF hc697 h696
              refine WL.val (R.gtrF (k := .i64) (a := ((p2.2.1.length : Nat) : Int)) (b := 0) un3 rfl rfl hc697) rfl ?_
              refine WL.nil ?_
              refine thenN ?_
              refine WC.condF rfl rfl ?_
              refine WC.skip ?_
              refine thenN ?_
              refine WC.region ?_
              refine WL.val (R.move (v := Value.int .i64 i554) (by exact s601)) rfl ?_
              refine WL.val (R.move (v := Value.int .i64 (4 + (p0.1 % 13))) (by exact s598)) rfl ?_
              refine WL.val (R.move (v := Value.int .i64 (p0.2 % (4 + (p0.1 % 13)))) (by exact s599)) rfl ?_
              refine WL.val (R.move (v := Value.slice a1 p1.length c1) (by exact s596)) rfl ?_
              refine WL.val (R.move (v := Value.int .u16 0) rfl) rfl ?_
              refine WL.val (R.loadA (cs := encH Hd.none) (n := 56) ag60 rfl (hs615.at (i := 2) (off := 0) (n := 56) (cs := encH Hd.none) rfl rfl rfl) rfl) rfl ?_
              obtain ⟨y746, hx747, h748⟩ := ob (o := view17 (4 + (p0.1 % 13)) (p0.2 % (4 + (p0.1 % 13))) p1 0 Hd.none) h745
              have hr749 := elT (ht611.trans ht614) he574
              refine WL.call (view17_ok _ _ (4 + (p0.1 % 13)) (p0.2 % (4 + (p0.1 % 13))) p1 0 Hd.none _ _ hr749 hc1 hx747) (R.call (vs := [Value.int .i64 (4 + (p0.1 % 13)), Value.int .i64 (p0.2 % (4 + (p0.1 % 13))), Value.slice a1 p1.length c1, Value.int .u16 0, Value.agg (List.toArray (encH Hd.none))]) (caps := []) bo93 rfl rfl) rfl ?_
              rintro v756 w757 ⟨a752, c753, rfl, hl754, he755, ht750⟩
              have ht751 := hs615.call (N := [blk b112 197 ([Value.slice a2 p2.1.1.length c2, Value.int .i64 p2.1.2] ++ [Value.slice a2a p2.2.1.length c2a, Value.int .i64 p2.2.2]), blk b156 198 [Value.slice a556 l555.length c557, Value.slice a559 l558.length c560], blk b605 60 (encH Hd.none)]) (M := []) (List.Perm.refl _) ht750
              have he758 := elC hs615 (M := []) (List.Perm.refl _) ht750 he755
              have hs759 := hs615.trans ht751
              refine WL.val (R.indexA (n := 1) (m := 1) (b := b156) (o := 0) (z := 1) un198 lf28.size (by exact s600) (Eq.trans (show _ = Value.int .i64 i554 from rfl) (congrArg (Value.int .i64) hg695)) rfl (by decide)) rfl ?_
              refine WL.sto (L' := [blk b112 197 ([Value.slice a2 p2.1.1.length c2, Value.int .i64 p2.1.2] ++ [Value.slice a2a p2.2.1.length c2a, Value.int .i64 p2.2.2]), blk b156 198 [Value.slice a556 l555.length c557, Value.slice a752 y746.length c753], blk b605 60 (encH Hd.none)]) (X.store (i := 1) (n := 1) (b := b156) (off := 1) (c := [Value.slice a556 l555.length c557, Value.slice a559 l558.length c560]) (U := 198) (vs := [Value.slice a752 y746.length c753]) (v := Value.slice a752 y746.length c753) (c' := [Value.slice a556 l555.length c557, Value.slice a752 y746.length c753]) (hs759.here) rfl lf28.size rfl rfl rfl rfl rfl rfl rfl rfl) rfl rfl ?_
              intro w761 ht762
              have hs763 := hs759.trans ht762
              refine WL.nil ?_
              refine blockN ?_
              refine thenN ?_
              refine WC.region ?_
              refine WL.val (R.move (v := Value.int .i64 i554) (by exact s601)) rfl ?_
              obtain ⟨hg764, h765⟩ := ckE (c := -9223372036854775808 ≤ i554 + 1 ∧ i554 + 1 ≤ 9223372036854775807) h748
              refine WL.val (R.add (a := i554) (b := 1) (z := i554 + 1) rfl rfl (w64e rfl hg764.1 hg764.2)) rfl ?_
              refine WL.val (R.assign (v := Value.int .i64 (i554 + 1)) rfl) rfl ?_
              refine WL.nil ?_
              have ht766 := (hs763.here).perm (L' := [blk b112 197 ([Value.slice a2 p2.1.1.length c2, Value.int .i64 p2.1.2] ++ [Value.slice a2a p2.2.1.length c2a, Value.int .i64 p2.2.2]), blk b156 198 [Value.slice a556 l555.length c557, Value.slice a752 y746.length c753]]) (G := [blk b605 60 (encH Hd.none)]) ((List.Perm.refl _))
              have hs767 := hs763.trans ht766
              have hr768 := elT ((ht751.trans ht762).trans ht766) hr749
              have hr769 := elT ((((ht611.trans ht614).trans ht751).trans ht762).trans ht766) he575
              have hr770 := elT ((((ht611.trans ht614).trans ht751).trans ht762).trans ht766) he576
              have hr771 := elT ((((ht611.trans ht614).trans ht751).trans ht762).trans ht766) he577
              have hr772 := elT (ht762.trans ht766) he758
              exact roundEnd (s := k573) ⟨i554 + 1, l555, y746, a556, c557, a752, c753, s596, s597, s598, s599, s600, rfl, hr768, hr769, hr770, hl578, hr771, hl754, hr772, h765, hs767⟩ (Nat.lt_succ_self _)
        · have h773 := ifF hc602 h595
          refine WL.val (R.lssF (k := .i64) (a := i554) (b := 2) un3 rfl rfl hc602) rfl ?_
          refine WL.nil ?_
          refine thenN ?_
          refine WC.condF rfl rfl ?_
          refine WC.exit ?_
          refine thenE ?_
          refine thenE ?_
          refine blockHit ?_
          exact joinI ⟨l555, l558, a556, c557, a559, c560, s597, s598, s600, he575, he576, hl578, he577, hl580, he579, h773, hs572⟩
      · rintro σ587 w586 ⟨l561, l564, a562, c563, a565, c566, s775, s776, s777, he589, he590, hl592, he591, hl594, he593, h774, hs588⟩
        subst hK568
        refine thenN ?_
        refine WC.seq ?_
        refine WC.seq ?_
        refine WC.region ?_
        refine WL.val (R.assign (v := Value.int .i64 0) rfl) rfl ?_
        refine WL.nil ?_
        refine thenN ?_
        obtain ⟨K1490, hK1491, h1492⟩ := kE (G := fun K1490 => meet17_l2 p0 l561 l564 p2 K1490 1000000 0) h774
        refine WC.join (fun σ1502 w1501 => K1490 () = some r ∧ St [] w w1501 []) ?_ ?_
        · refine WC.block ?_
          refine WC.loop (T := Nat) (fun k1496 σ1494 w1493 => ∃ i1489 : Int, σ1494 5 = (Value.pointer (some ⟨b112, 0, none⟩)) ∧ σ1494 7 = (Value.int .i64 (4 + (p0.1 % 13))) ∧ σ1494 9 = (Value.pointer (some ⟨b156, 0, none⟩)) ∧ σ1494 13 = (Value.int .i64 i1489) ∧ elems heldW w1493 (In ok w [] [blk b112 197 ([Value.slice a2 p2.1.1.length c2, Value.int .i64 p2.1.2] ++ [Value.slice a2a p2.2.1.length c2a, Value.int .i64 p2.2.2]), blk b156 198 [Value.slice a562 l561.length c563, Value.slice a565 l564.length c566]]) a2 p2.1.1 ∧ elems heldW w1493 (In ok w [] [blk b112 197 ([Value.slice a2 p2.1.1.length c2, Value.int .i64 p2.1.2] ++ [Value.slice a2a p2.2.1.length c2a, Value.int .i64 p2.2.2]), blk b156 198 [Value.slice a562 l561.length c563, Value.slice a565 l564.length c566]]) a2a p2.2.1 ∧ elems heldW w1493 (In ok w [] [blk b112 197 ([Value.slice a2 p2.1.1.length c2, Value.int .i64 p2.1.2] ++ [Value.slice a2a p2.2.1.length c2a, Value.int .i64 p2.2.2]), blk b156 198 [Value.slice a562 l561.length c563, Value.slice a565 l564.length c566]]) a562 l561 ∧ elems heldW w1493 (In ok w [] [blk b112 197 ([Value.slice a2 p2.1.1.length c2, Value.int .i64 p2.1.2] ++ [Value.slice a2a p2.2.1.length c2a, Value.int .i64 p2.2.2]), blk b156 198 [Value.slice a562 l561.length c563, Value.slice a565 l564.length c566]]) a565 l564 ∧ meet17_l2 p0 l561 l564 p2 K1490 k1496 i1489 = some r ∧ St [] w w1493 [blk b112 197 ([Value.slice a2 p2.1.1.length c2, Value.int .i64 p2.1.2] ++ [Value.slice a2a p2.2.1.length c2a, Value.int .i64 p2.2.2]), blk b156 198 [Value.slice a562 l561.length c563, Value.slice a565 l564.length c566]]) (fun k1496 => k1496) 1000000 ⟨0, s775, s776, s777, rfl, he589, he590, he591, he593, h1492, hs588⟩ ?_
          rintro k1496 σ1494 w1493 ⟨i1489, s1505, s1506, s1507, s1508, he1497, he1498, he1499, he1500, h1504, hs1495⟩
          rcases k1496 with _ | k1496
          · rw [meet17_l2] at h1504; cases h1504
          rw [meet17_l2] at h1504
          refine WC.seq ?_
          refine WC.seq ?_
          refine WC.region ?_
          refine WL.val (R.move (v := Value.int .i64 i1489) (by exact s1508)) rfl ?_
          refine WL.val (R.move (v := Value.int .i64 (4 + (p0.1 % 13))) (by exact s1506)) rfl ?_
          by_cases hc1509 : i1489 < (4 + (p0.1 % 13))
          · have h1510 := ifT hc1509 h1504
            refine WL.val (R.lssT (k := .i64) (a := i1489) (b := 4 + (p0.1 % 13)) un3 rfl rfl hc1509) rfl ?_
            refine WL.nil ?_
            refine thenN ?_
            refine WC.condT rfl rfl ?_
            refine WC.skip ?_
            refine thenN ?_
            refine WC.seq ?_
            refine WC.block ?_
            refine WC.seq ?_
            refine WC.region ?_
            refine WL.val (R.assign (v := Value.int .i64 0) rfl) rfl ?_
            refine WL.nil ?_
            refine thenN ?_
            obtain ⟨K1727, hK1728, h1729⟩ := kE (G := fun K1727 => meet17_l3 p0 l561 i1489 l564 p2 K1727 1000000 0) h1510
            refine WC.join (fun σ1739 w1738 => σ1739 5 = (Value.pointer (some ⟨b112, 0, none⟩)) ∧ σ1739 7 = (Value.int .i64 (4 + (p0.1 % 13))) ∧ σ1739 9 = (Value.pointer (some ⟨b156, 0, none⟩)) ∧ σ1739 13 = (Value.int .i64 i1489) ∧ elems heldW w1738 (In ok w [] [blk b112 197 ([Value.slice a2 p2.1.1.length c2, Value.int .i64 p2.1.2] ++ [Value.slice a2a p2.2.1.length c2a, Value.int .i64 p2.2.2]), blk b156 198 [Value.slice a562 l561.length c563, Value.slice a565 l564.length c566]]) a2 p2.1.1 ∧ elems heldW w1738 (In ok w [] [blk b112 197 ([Value.slice a2 p2.1.1.length c2, Value.int .i64 p2.1.2] ++ [Value.slice a2a p2.2.1.length c2a, Value.int .i64 p2.2.2]), blk b156 198 [Value.slice a562 l561.length c563, Value.slice a565 l564.length c566]]) a2a p2.2.1 ∧ elems heldW w1738 (In ok w [] [blk b112 197 ([Value.slice a2 p2.1.1.length c2, Value.int .i64 p2.1.2] ++ [Value.slice a2a p2.2.1.length c2a, Value.int .i64 p2.2.2]), blk b156 198 [Value.slice a562 l561.length c563, Value.slice a565 l564.length c566]]) a562 l561 ∧ elems heldW w1738 (In ok w [] [blk b112 197 ([Value.slice a2 p2.1.1.length c2, Value.int .i64 p2.1.2] ++ [Value.slice a2a p2.2.1.length c2a, Value.int .i64 p2.2.2]), blk b156 198 [Value.slice a562 l561.length c563, Value.slice a565 l564.length c566]]) a565 l564 ∧ K1727 () = some r ∧ St [] w w1738 [blk b112 197 ([Value.slice a2 p2.1.1.length c2, Value.int .i64 p2.1.2] ++ [Value.slice a2a p2.2.1.length c2a, Value.int .i64 p2.2.2]), blk b156 198 [Value.slice a562 l561.length c563, Value.slice a565 l564.length c566]]) ?_ ?_
            · refine WC.block ?_
              refine WC.loop (T := Nat) (fun k1733 σ1731 w1730 => ∃ i1726 : Int, σ1731 5 = (Value.pointer (some ⟨b112, 0, none⟩)) ∧ σ1731 7 = (Value.int .i64 (4 + (p0.1 % 13))) ∧ σ1731 9 = (Value.pointer (some ⟨b156, 0, none⟩)) ∧ σ1731 13 = (Value.int .i64 i1489) ∧ σ1731 14 = (Value.int .i64 i1726) ∧ elems heldW w1730 (In ok w [] [blk b112 197 ([Value.slice a2 p2.1.1.length c2, Value.int .i64 p2.1.2] ++ [Value.slice a2a p2.2.1.length c2a, Value.int .i64 p2.2.2]), blk b156 198 [Value.slice a562 l561.length c563, Value.slice a565 l564.length c566]]) a2 p2.1.1 ∧ elems heldW w1730 (In ok w [] [blk b112 197 ([Value.slice a2 p2.1.1.length c2, Value.int .i64 p2.1.2] ++ [Value.slice a2a p2.2.1.length c2a, Value.int .i64 p2.2.2]), blk b156 198 [Value.slice a562 l561.length c563, Value.slice a565 l564.length c566]]) a2a p2.2.1 ∧ elems heldW w1730 (In ok w [] [blk b112 197 ([Value.slice a2 p2.1.1.length c2, Value.int .i64 p2.1.2] ++ [Value.slice a2a p2.2.1.length c2a, Value.int .i64 p2.2.2]), blk b156 198 [Value.slice a562 l561.length c563, Value.slice a565 l564.length c566]]) a562 l561 ∧ elems heldW w1730 (In ok w [] [blk b112 197 ([Value.slice a2 p2.1.1.length c2, Value.int .i64 p2.1.2] ++ [Value.slice a2a p2.2.1.length c2a, Value.int .i64 p2.2.2]), blk b156 198 [Value.slice a562 l561.length c563, Value.slice a565 l564.length c566]]) a565 l564 ∧ meet17_l3 p0 l561 i1489 l564 p2 K1727 k1733 i1726 = some r ∧ St [] w w1730 [blk b112 197 ([Value.slice a2 p2.1.1.length c2, Value.int .i64 p2.1.2] ++ [Value.slice a2a p2.2.1.length c2a, Value.int .i64 p2.2.2]), blk b156 198 [Value.slice a562 l561.length c563, Value.slice a565 l564.length c566]]) (fun k1733 => k1733) 1000000 ⟨0, s1505, s1506, s1507, s1508, rfl, he1497, he1498, he1499, he1500, h1729, hs1495⟩ ?_
              rintro k1733 σ1731 w1730 ⟨i1726, s1746, s1747, s1748, s1749, s1750, he1734, he1735, he1736, he1737, h1745, hs1732⟩
              rcases k1733 with _ | k1733
              · rw [meet17_l3] at h1745; cases h1745
              rw [meet17_l3] at h1745
              refine WC.seq ?_
              refine WC.seq ?_
              refine WC.region ?_
              refine WL.val (R.move (v := Value.int .i64 i1726) (by exact s1750)) rfl ?_
              refine WL.val (R.move (v := Value.int .i64 (4 + (p0.1 % 13))) (by exact s1747)) rfl ?_
              by_cases hc1751 : i1726 < (4 + (p0.1 % 13))
              · have h1752 := ifT hc1751 h1745
                refine WL.val (R.lssT (k := .i64) (a := i1726) (b := 4 + (p0.1 % 13)) un3 rfl rfl hc1751) rfl ?_
                refine WL.nil ?_
                refine thenN ?_
                refine WC.condT rfl rfl ?_
                refine WC.skip ?_
                refine thenN ?_
                refine WC.seq ?_
                refine WC.block ?_
                refine WC.seq ?_
                refine WC.region ?_
                refine WL.val (R.indexA (n := 1) (m := 0) (b := b156) (o := 0) (z := 0) un198 lf28.size (by exact s1748) rfl rfl (by decide)) rfl ?_
                refine WL.val (R.loadL (v := Value.slice a562 l561.length c563) lf28 rfl (hs1732.at (i := 1) (off := 0) (n := 1) (cs := [Value.slice a562 l561.length c563]) rfl rfl rfl)) rfl ?_
                refine WL.val (R.move (v := Value.int .i64 i1489) (by exact s1749)) rfl ?_
                obtain ⟨x1753, hx1754, h1755⟩ := ob (o := rd l561 i1489) h1752
                obtain ⟨h01756, hx1757, hl1758, hm1759⟩ := rdE hx1754
                obtain ⟨ad1760, e1765, ha1761, hp1762, hat1763, hrd1764⟩ := he1736 _ _ hx1757
                obtain ⟨-, rfl⟩ := hrd1764
                refine WL.val (R.indexS (n := 56) (m := (i1489).toNat) (a := a562) (ad := ad1760) (len := l561.length) (cap := c563) (z := i1489) un28 ag60.size rfl ha1761 rfl hm1759 hl1758 hp1762) rfl ?_
                refine WL.val (R.fieldAddr (o := ad1760.off + (i1489).toNat * 56) (o' := ad1760.off + (i1489).toNat * 56 + 1) fa60_1 rfl rfl) rfl ?_
                refine WL.val (R.fieldAddr (o := ad1760.off + (i1489).toNat * 56 + 1) (o' := ad1760.off + (i1489).toNat * 56 + 1) fa58_0 rfl rfl) rfl ?_
                refine WL.val (R.loadL (v := Value.int .i64 x1753.cell.age) lf2 rfl (At.sub (a := ⟨ad1760.block, ad1760.off + (i1489).toNat * 56, none⟩) (off := 1) (n := 1) (cs := encH x1753) (ds := [Value.int .i64 x1753.cell.age]) hat1763 rfl rfl)) rfl ?_
                refine WL.val (R.assign (v := Value.int .i64 x1753.cell.age) rfl) rfl ?_
                refine WL.nil ?_
                refine thenN ?_
                refine WC.seq ?_
                refine WC.region ?_
                refine WL.val (R.indexA (n := 1) (m := 1) (b := b156) (o := 0) (z := 1) un198 lf28.size (by exact s1748) rfl rfl (by decide)) rfl ?_
                refine WL.val (R.loadL (v := Value.slice a565 l564.length c566) lf28 rfl (hs1732.at (i := 1) (off := 1) (n := 1) (cs := [Value.slice a565 l564.length c566]) rfl rfl rfl)) rfl ?_
                refine WL.val (R.move (v := Value.int .i64 i1726) (by exact s1750)) rfl ?_
                obtain ⟨x1767, hx1768, h1769⟩ := ob (o := rd l564 i1726) h1755
                obtain ⟨h01770, hx1771, hl1772, hm1773⟩ := rdE hx1768
                obtain ⟨ad1774, e1779, ha1775, hp1776, hat1777, hrd1778⟩ := he1737 _ _ hx1771
                obtain ⟨-, rfl⟩ := hrd1778
                refine WL.val (R.indexS (n := 56) (m := (i1726).toNat) (a := a565) (ad := ad1774) (len := l564.length) (cap := c566) (z := i1726) un28 ag60.size rfl ha1775 rfl hm1773 hl1772 hp1776) rfl ?_
                refine WL.val (R.fieldAddr (o := ad1774.off + (i1726).toNat * 56) (o' := ad1774.off + (i1726).toNat * 56 + 1) fa60_1 rfl rfl) rfl ?_
                refine WL.val (R.fieldAddr (o := ad1774.off + (i1726).toNat * 56 + 1) (o' := ad1774.off + (i1726).toNat * 56 + 1) fa58_0 rfl rfl) rfl ?_
                refine WL.val (R.loadL (v := Value.int .i64 x1767.cell.age) lf2 rfl (At.sub (a := ⟨ad1774.block, ad1774.off + (i1726).toNat * 56, none⟩) (off := 1) (n := 1) (cs := encH x1767) (ds := [Value.int .i64 x1767.cell.age]) hat1777 rfl rfl)) rfl ?_
                refine WL.val (R.assign (v := Value.int .i64 x1767.cell.age) rfl) rfl ?_
                refine WL.nil ?_
                refine thenN ?_
                obtain ⟨J1789, hJ1790, h1791⟩ := jnE h1769
                refine WC.seq ?_
                refine WC.join (fun σ1793 w1792 => ∃ i1787 : Int, ∃ i1788 : Int, σ1793 5 = (Value.pointer (some ⟨b112, 0, none⟩)) ∧ σ1793 7 = (Value.int .i64 (4 + (p0.1 % 13))) ∧ σ1793 9 = (Value.pointer (some ⟨b156, 0, none⟩)) ∧ σ1793 13 = (Value.int .i64 i1489) ∧ σ1793 14 = (Value.int .i64 i1726) ∧ σ1793 15 = (Value.int .i64 i1787) ∧ σ1793 16 = (Value.int .i64 i1788) ∧ elems heldW w1792 (In ok w [] [blk b112 197 ([Value.slice a2 p2.1.1.length c2, Value.int .i64 p2.1.2] ++ [Value.slice a2a p2.2.1.length c2a, Value.int .i64 p2.2.2]), blk b156 198 [Value.slice a562 l561.length c563, Value.slice a565 l564.length c566]]) a2 p2.1.1 ∧ elems heldW w1792 (In ok w [] [blk b112 197 ([Value.slice a2 p2.1.1.length c2, Value.int .i64 p2.1.2] ++ [Value.slice a2a p2.2.1.length c2a, Value.int .i64 p2.2.2]), blk b156 198 [Value.slice a562 l561.length c563, Value.slice a565 l564.length c566]]) a2a p2.2.1 ∧ elems heldW w1792 (In ok w [] [blk b112 197 ([Value.slice a2 p2.1.1.length c2, Value.int .i64 p2.1.2] ++ [Value.slice a2a p2.2.1.length c2a, Value.int .i64 p2.2.2]), blk b156 198 [Value.slice a562 l561.length c563, Value.slice a565 l564.length c566]]) a562 l561 ∧ elems heldW w1792 (In ok w [] [blk b112 197 ([Value.slice a2 p2.1.1.length c2, Value.int .i64 p2.1.2] ++ [Value.slice a2a p2.2.1.length c2a, Value.int .i64 p2.2.2]), blk b156 198 [Value.slice a562 l561.length c563, Value.slice a565 l564.length c566]]) a565 l564 ∧ J1789 i1787 i1788 = some r ∧ St [] w w1792 [blk b112 197 ([Value.slice a2 p2.1.1.length c2, Value.int .i64 p2.1.2] ++ [Value.slice a2a p2.2.1.length c2a, Value.int .i64 p2.2.2]), blk b156 198 [Value.slice a562 l561.length c563, Value.slice a565 l564.length c566]]) ?_ ?_
                · refine WC.seq ?_
                  refine WC.region ?_
                  refine WL.val (R.move (v := Value.int .i64 i1489) (by exact s1749)) rfl ?_
                  by_cases hc1799 : i1489 = 0
                  · have h1800 := ifT hc1799 h1791
                    refine WL.val (R.eqlT (k := .i64) (a := i1489) (b := 0) un3 rfl rfl hc1799) rfl ?_
                    refine WL.val (R.move (v := Value.bool true) rfl) rfl ?_
                    refine WL.guardY (e := 99) rfl rfl rfl ?_
                    refine WL.val (R.move (v := Value.int .i64 i1726) (by exact s1750)) rfl ?_
                    refine WL.guardY (e := 99) rfl rfl rfl ?_
                    by_cases hc1801 : i1726 = 0
                    · have h1802 := ifT hc1801 h1800
                      refine WL.val (R.eqlT (k := .i64) (a := i1726) (b := 0) un3 rfl rfl hc1801) rfl ?_
                      refine WL.val (R.pickT (v := Value.bool true) rfl rfl) rfl ?_
                      refine WL.nil ?_
                      refine thenN ?_
                      refine WC.condT rfl rfl ?_
                      refine WC.seq ?_
                      refine WC.region ?_
                      refine WL.val (R.indexA (n := 2) (m := 0) (b := b112) (o := 0) (z := 0) un197 ag73.size (by exact s1746) rfl rfl (by decide)) rfl ?_
                      refine WL.val (R.fieldAddr (o := 0) (o' := 1) fa73_1 rfl rfl) rfl ?_
                      refine WL.val (R.loadL (v := Value.int .i64 p2.1.2) lf2 rfl (hs1732.at (i := 0) (off := 1) (n := 1) (cs := [Value.int .i64 p2.1.2]) rfl rfl rfl)) rfl ?_
                      refine WL.val (R.assign (v := Value.int .i64 p2.1.2) rfl) rfl ?_
                      refine WL.nil ?_
                      refine thenN ?_
                      refine WC.region ?_
                      refine WL.val (R.indexA (n := 2) (m := 1) (b := b112) (o := 0) (z := 1) un197 ag73.size (by exact s1746) rfl rfl (by decide)) rfl ?_
                      refine WL.val (R.fieldAddr (o := 2) (o' := 3) fa73_1 rfl rfl) rfl ?_
                      refine WL.val (R.loadL (v := Value.int .i64 p2.2.2) lf2 rfl (hs1732.at (i := 0) (off := 3) (n := 1) (cs := [Value.int .i64 p2.2.2]) rfl rfl rfl)) rfl ?_
                      refine WL.val (R.assign (v := Value.int .i64 p2.2.2) rfl) rfl ?_
                      refine WL.nil ?_
                      exact joinI ⟨p2.1.2, p2.2.2, s1746, s1747, s1748, s1749, s1750, rfl, rfl, he1734, he1735, he1736, he1737, h1802, hs1732⟩
                    · have h1803 := ifF hc1801 h1800
                      refine WL.val (R.eqlF (k := .i64) (a := i1726) (b := 0) un3 rfl rfl hc1801) rfl ?_
                      refine WL.val (R.pickT (v := Value.bool false) rfl rfl) rfl ?_
                      refine WL.nil ?_
                      refine thenN ?_
                      refine WC.condF rfl rfl ?_
                      refine WC.skip ?_
                      exact joinI ⟨x1753.cell.age, x1767.cell.age, s1746, s1747, s1748, s1749, s1750, rfl, rfl, he1734, he1735, he1736, he1737, h1803, hs1732⟩
                  · have h1804 := ifF hc1799 h1791
                    refine WL.val (R.eqlF (k := .i64) (a := i1489) (b := 0) un3 rfl rfl hc1799) rfl ?_
                    refine WL.val (R.move (v := Value.bool false) rfl) rfl ?_
                    refine WL.guardN (e := 99) (v := .bool false) rfl rfl rfl rfl ?_
                    refine WL.guardN (e := 99) (v := .bool false) rfl rfl rfl rfl ?_
                    refine WL.val (R.pickF (v := Value.bool false) rfl rfl) rfl ?_
                    refine WL.nil ?_
                    refine thenN ?_
                    refine WC.condF rfl rfl ?_
                    refine WC.skip ?_
                    exact joinI ⟨x1753.cell.age, x1767.cell.age, s1746, s1747, s1748, s1749, s1750, rfl, rfl, he1734, he1735, he1736, he1737, h1804, hs1732⟩
                · rintro σ1793 w1792 ⟨i1787, i1788, s1806, s1807, s1808, s1809, s1810, s1811, s1812, he1795, he1796, he1797, he1798, h1805, hs1794⟩
                  subst hJ1790
                  refine thenN ?_
                  refine WC.seq ?_
                  refine WC.region ?_
                  refine WL.val (R.move (v := Value.int .i64 (4 + (p0.1 % 13))) (by exact s1807)) rfl ?_
                  refine WL.val (R.indexA (n := 1) (m := 0) (b := b156) (o := 0) (z := 0) un198 lf28.size (by exact s1808) rfl rfl (by decide)) rfl ?_
                  refine WL.val (R.loadL (v := Value.slice a562 l561.length c563) lf28 rfl (hs1794.at (i := 1) (off := 0) (n := 1) (cs := [Value.slice a562 l561.length c563]) rfl rfl rfl)) rfl ?_
                  refine WL.val (R.move (v := Value.int .i64 i1787) (by exact s1811)) rfl ?_
                  obtain ⟨y1813, hx1814, h1815⟩ := ob (o := even17 (4 + (p0.1 % 13)) l561 i1787) h1805
                  refine WL.call (even17_ok _ _ (4 + (p0.1 % 13)) l561 i1787 _ _ he1797 hl592 hx1814) (R.call (vs := [Value.int .i64 (4 + (p0.1 % 13)), Value.slice a562 l561.length c563, Value.int .i64 i1787]) (caps := []) bo45 rfl rfl) rfl ?_
                  rintro v1818 w1819 ⟨rfl, ht1816⟩
                  have ht1817 := hs1794.call (N := [blk b112 197 ([Value.slice a2 p2.1.1.length c2, Value.int .i64 p2.1.2] ++ [Value.slice a2a p2.2.1.length c2a, Value.int .i64 p2.2.2]), blk b156 198 [Value.slice a562 l561.length c563, Value.slice a565 l564.length c566]]) (M := []) (List.Perm.refl _) ht1816
                  have hs1820 := hs1794.trans ht1817
                  refine WL.val (R.assign (v := Value.bool y1813) rfl) rfl ?_
                  refine WL.nil ?_
                  refine thenN ?_
                  refine WC.seq ?_
                  refine WC.region ?_
                  refine WL.val (R.move (v := Value.bool y1813) rfl) rfl ?_
                  refine WL.val (R.move (v := Value.bool y1813) rfl) rfl ?_
                  by_cases hc1821 : y1813 = true
                  · have h1822 := ifT hc1821 h1815
                    refine WL.guardY (e := 115) (Eq.trans (show _ = Value.bool y1813 from rfl) (congrArg Value.bool hc1821)) rfl rfl ?_
                    refine WL.val (R.move (v := Value.int .i64 (4 + (p0.1 % 13))) (by exact s1807)) rfl ?_
                    refine WL.guardY (e := 115) (Eq.trans (show _ = Value.bool y1813 from rfl) (congrArg Value.bool hc1821)) rfl rfl ?_
                    refine WL.val (R.indexA (n := 1) (m := 0) (b := b156) (o := 0) (z := 0) un198 lf28.size (by exact s1808) rfl rfl (by decide)) rfl ?_
                    refine WL.guardY (e := 115) (Eq.trans (show _ = Value.bool y1813 from rfl) (congrArg Value.bool hc1821)) rfl rfl ?_
                    refine WL.val (R.loadL (v := Value.slice a562 l561.length c563) lf28 rfl (hs1820.at (i := 1) (off := 0) (n := 1) (cs := [Value.slice a562 l561.length c563]) rfl rfl rfl)) rfl ?_
                    refine WL.guardY (e := 115) (Eq.trans (show _ = Value.bool y1813 from rfl) (congrArg Value.bool hc1821)) rfl rfl ?_
                    obtain ⟨y1823, hx1824, h1825⟩ := ob (o := common16 (4 + (p0.1 % 13)) l561) h1822
                    have hr1826 := elT ht1817 he1797
                    refine WL.call (common16_ok _ _ (4 + (p0.1 % 13)) l561 _ _ hr1826 hl592 hx1824) (R.call (vs := [Value.int .i64 (4 + (p0.1 % 13)), Value.slice a562 l561.length c563]) (caps := []) bo94 rfl rfl) rfl ?_
                    rintro v1829 w1830 ⟨rfl, ht1827⟩
                    have ht1828 := hs1820.call (N := [blk b112 197 ([Value.slice a2 p2.1.1.length c2, Value.int .i64 p2.1.2] ++ [Value.slice a2a p2.2.1.length c2a, Value.int .i64 p2.2.2]), blk b156 198 [Value.slice a562 l561.length c563, Value.slice a565 l564.length c566]]) (M := []) (List.Perm.refl _) ht1827
                    have hs1831 := hs1820.trans ht1828
                    refine WL.guardY (e := 115) (Eq.trans (show _ = Value.bool y1813 from rfl) (congrArg Value.bool hc1821)) rfl rfl ?_
                    refine WL.val (R.move (v := Value.int .i64 i1787) (by exact s1811)) rfl ?_
                    refine WL.guardY (e := 115) (Eq.trans (show _ = Value.bool y1813 from rfl) (congrArg Value.bool hc1821)) rfl rfl ?_
                    by_cases hc1832 : y1823 = i1787
                    · have h1833 := ifT hc1832 h1825
                      refine WL.val (R.neqF (k := .i64) (a := y1823) (b := i1787) un2 rfl rfl (not_not_intro hc1832)) rfl ?_
                      refine WL.val (R.pickT (v := Value.bool false) (Eq.trans (show _ = Value.bool y1813 from rfl) (congrArg Value.bool hc1821)) rfl) rfl ?_
                      refine WL.val (R.move (v := Value.bool false) rfl) rfl ?_
                      refine WL.guardY (e := 123) rfl rfl rfl ?_
                      refine WL.val (R.move (v := Value.bool y1813) rfl) rfl ?_
                      refine WL.guardY (e := 123) rfl rfl rfl ?_
                      refine WL.val (R.move (v := Value.bool y1813) rfl) rfl ?_
                      refine WL.guardY (e := 125) (Eq.trans (show _ = Value.bool y1813 from rfl) (congrArg Value.bool hc1821)) rfl rfl ?_
                      refine WL.val (R.move (v := Value.int .i64 (4 + (p0.1 % 13))) (by exact s1807)) rfl ?_
                      refine WL.guardY (e := 125) (Eq.trans (show _ = Value.bool y1813 from rfl) (congrArg Value.bool hc1821)) rfl rfl ?_
                      refine WL.val (R.indexA (n := 1) (m := 1) (b := b156) (o := 0) (z := 1) un198 lf28.size (by exact s1808) rfl rfl (by decide)) rfl ?_
                      refine WL.guardY (e := 125) (Eq.trans (show _ = Value.bool y1813 from rfl) (congrArg Value.bool hc1821)) rfl rfl ?_
                      refine WL.val (R.loadL (v := Value.slice a565 l564.length c566) lf28 rfl (hs1831.at (i := 1) (off := 1) (n := 1) (cs := [Value.slice a565 l564.length c566]) rfl rfl rfl)) rfl ?_
                      refine WL.guardY (e := 125) (Eq.trans (show _ = Value.bool y1813 from rfl) (congrArg Value.bool hc1821)) rfl rfl ?_
                      refine WL.val (R.move (v := Value.int .i64 i1788) (by exact s1812)) rfl ?_
                      refine WL.guardY (e := 125) (Eq.trans (show _ = Value.bool y1813 from rfl) (congrArg Value.bool hc1821)) rfl rfl ?_
                      obtain ⟨y1834, hx1835, h1836⟩ := ob (o := even17 (4 + (p0.1 % 13)) l564 i1788) h1833
                      have hr1837 := elT (ht1817.trans ht1828) he1798
                      refine WL.call (even17_ok _ _ (4 + (p0.1 % 13)) l564 i1788 _ _ hr1837 hl594 hx1835) (R.call (vs := [Value.int .i64 (4 + (p0.1 % 13)), Value.slice a565 l564.length c566, Value.int .i64 i1788]) (caps := []) bo45 rfl rfl) rfl ?_
                      rintro v1840 w1841 ⟨rfl, ht1838⟩
                      have ht1839 := hs1831.call (N := [blk b112 197 ([Value.slice a2 p2.1.1.length c2, Value.int .i64 p2.1.2] ++ [Value.slice a2a p2.2.1.length c2a, Value.int .i64 p2.2.2]), blk b156 198 [Value.slice a562 l561.length c563, Value.slice a565 l564.length c566]]) (M := []) (List.Perm.refl _) ht1838
                      have hs1842 := hs1831.trans ht1839
                      refine WL.guardY (e := 123) rfl rfl rfl ?_
                      refine WL.val (R.pickT (v := Value.bool y1834) (Eq.trans (show _ = Value.bool y1813 from rfl) (congrArg Value.bool hc1821)) rfl) rfl ?_
                      refine WL.guardY (e := 123) rfl rfl rfl ?_
                      refine WL.val (R.move (v := Value.bool y1834) rfl) rfl ?_
                      by_cases hc1843 : y1834 = true
                      · have h1844 := ifT hc1843 h1836
                        refine WL.guardY (e := 132) (Eq.trans (show _ = Value.bool y1834 from rfl) (congrArg Value.bool hc1843)) rfl rfl ?_
                        refine WL.val (R.move (v := Value.int .i64 i1787) (by exact s1811)) rfl ?_
                        refine WL.guardY (e := 132) (Eq.trans (show _ = Value.bool y1834 from rfl) (congrArg Value.bool hc1843)) rfl rfl ?_
                        refine WL.val (R.move (v := Value.int .i64 i1788) (by exact s1812)) rfl ?_
                        refine WL.guardY (e := 132) (Eq.trans (show _ = Value.bool y1834 from rfl) (congrArg Value.bool hc1843)) rfl rfl ?_
                        by_cases hc1845 : i1787 = i1788
                        · have h1846 := ifT hc1845 h1844
                          refine WL.val (R.neqF (k := .i64) (a := i1787) (b := i1788) un2 rfl rfl (not_not_intro hc1845)) rfl ?_
                          refine WL.guardY (e := 123) rfl rfl rfl ?_
                          refine WL.val (R.pickT (v := Value.bool false) (Eq.trans (show _ = Value.bool y1834 from rfl) (congrArg Value.bool hc1843)) rfl) rfl ?_
                          refine WL.val (R.pickF (v := Value.bool false) rfl rfl) rfl ?_
                          refine WL.nil ?_
                          refine thenN ?_
                          refine WC.condF rfl rfl ?_
                          refine WC.skip ?_
                          refine blockN ?_
                          refine thenN ?_
                          refine WC.region ?_
                          refine WL.val (R.move (v := Value.int .i64 i1726) (by exact s1810)) rfl ?_
                          obtain ⟨hg1847, h1848⟩ := ckE (c := -9223372036854775808 ≤ i1726 + 1 ∧ i1726 + 1 ≤ 9223372036854775807) h1846
                          refine WL.val (R.add (a := i1726) (b := 1) (z := i1726 + 1) rfl rfl (w64e rfl hg1847.1 hg1847.2)) rfl ?_
                          refine WL.val (R.assign (v := Value.int .i64 (i1726 + 1)) rfl) rfl ?_
                          refine WL.nil ?_
                          have hr1849 := elT ((ht1817.trans ht1828).trans ht1839) he1795
                          have hr1850 := elT ((ht1817.trans ht1828).trans ht1839) he1796
                          have hr1851 := elT (ht1828.trans ht1839) hr1826
                          have hr1852 := elT ht1839 hr1837
                          exact roundEnd (s := k1733) ⟨i1726 + 1, s1806, s1807, s1808, s1809, rfl, hr1849, hr1850, hr1851, hr1852, h1848, hs1842⟩ (Nat.lt_succ_self _)
                        · have h1853 := ifF hc1845 h1844
                          refine WL.val (R.neqT (k := .i64) (a := i1787) (b := i1788) un2 rfl rfl hc1845) rfl ?_
                          refine WL.guardY (e := 123) rfl rfl rfl ?_
                          refine WL.val (R.pickT (v := Value.bool true) (Eq.trans (show _ = Value.bool y1834 from rfl) (congrArg Value.bool hc1843)) rfl) rfl ?_
                          refine WL.val (R.pickF (v := Value.bool true) rfl rfl) rfl ?_
                          refine WL.nil ?_
                          refine thenN ?_
                          refine WC.condT rfl rfl ?_
                          refine WC.seq ?_
                          refine WC.region ?_
                          refine WL.val (R.assign (v := Value.bool false) rfl) rfl ?_
                          refine WL.nil ?_
                          refine thenN ?_
                          refine WC.ret ?_
                          have ht1854 := (hs1842.here).perm (L' := []) (G := [blk b112 197 ([Value.slice a2 p2.1.1.length c2, Value.int .i64 p2.1.2] ++ [Value.slice a2a p2.2.1.length c2a, Value.int .i64 p2.2.2]), blk b156 198 [Value.slice a562 l561.length c563, Value.slice a565 l564.length c566]]) ((List.Perm.refl _))
                          have hs1855 := hs1842.trans ht1854
                          obtain rfl := Option.some.inj (show some false = some r from h1853)
                          exact ret1 (P := Try.prog) (n := 139) (fn := Try.f24) (R := fun v w' => v = Value.bool false ∧ St [] w w' []) (t := 6) (v := Value.bool false) rfl rfl rfl ⟨rfl, hs1855⟩
                      · have h1856 := ifF hc1843 h1836
                        refine WL.guardN (e := 132) (v := .bool false) (Eq.trans (show _ = Value.bool y1834 from rfl) (congrArg Value.bool (Bool.eq_false_iff.2 hc1843))) rfl rfl rfl ?_
                        refine WL.guardN (e := 132) (v := .bool false) (Eq.trans (show _ = Value.bool y1834 from rfl) (congrArg Value.bool (Bool.eq_false_iff.2 hc1843))) rfl rfl rfl ?_
                        refine WL.guardN (e := 132) (v := .bool false) (Eq.trans (show _ = Value.bool y1834 from rfl) (congrArg Value.bool (Bool.eq_false_iff.2 hc1843))) rfl rfl rfl ?_
                        refine WL.guardY (e := 123) rfl rfl rfl ?_
                        refine WL.val (R.pickF (v := Value.bool false) (Eq.trans (show _ = Value.bool y1834 from rfl) (congrArg Value.bool (Bool.eq_false_iff.2 hc1843))) rfl) rfl ?_
                        refine WL.val (R.pickF (v := Value.bool false) rfl rfl) rfl ?_
                        refine WL.nil ?_
                        refine thenN ?_
                        refine WC.condF rfl rfl ?_
                        refine WC.skip ?_
                        refine blockN ?_
                        refine thenN ?_
                        refine WC.region ?_
                        refine WL.val (R.move (v := Value.int .i64 i1726) (by exact s1810)) rfl ?_
                        obtain ⟨hg1857, h1858⟩ := ckE (c := -9223372036854775808 ≤ i1726 + 1 ∧ i1726 + 1 ≤ 9223372036854775807) h1856
                        refine WL.val (R.add (a := i1726) (b := 1) (z := i1726 + 1) rfl rfl (w64e rfl hg1857.1 hg1857.2)) rfl ?_
                        refine WL.val (R.assign (v := Value.int .i64 (i1726 + 1)) rfl) rfl ?_
                        refine WL.nil ?_
                        have hr1859 := elT ((ht1817.trans ht1828).trans ht1839) he1795
                        have hr1860 := elT ((ht1817.trans ht1828).trans ht1839) he1796
                        have hr1861 := elT (ht1828.trans ht1839) hr1826
                        have hr1862 := elT ht1839 hr1837
                        exact roundEnd (s := k1733) ⟨i1726 + 1, s1806, s1807, s1808, s1809, rfl, hr1859, hr1860, hr1861, hr1862, h1858, hs1842⟩ (Nat.lt_succ_self _)
                    · have h1863 := ifF hc1832 h1825
                      refine WL.val (R.neqT (k := .i64) (a := y1823) (b := i1787) un2 rfl rfl hc1832) rfl ?_
                      refine WL.val (R.pickT (v := Value.bool true) (Eq.trans (show _ = Value.bool y1813 from rfl) (congrArg Value.bool hc1821)) rfl) rfl ?_
                      refine WL.val (R.move (v := Value.bool true) rfl) rfl ?_
                      refine WL.guardN (e := 123) (v := .bool true) rfl rfl rfl rfl ?_
                      refine WL.guardN (e := 123) (v := .bool true) rfl rfl rfl rfl ?_
                      refine WL.guardN (e := 125) (v := undef) rfl rfl rfl rfl ?_
                      refine WL.guardN (e := 125) (v := undef) rfl rfl rfl rfl ?_
                      refine WL.guardN (e := 125) (v := undef) rfl rfl rfl rfl ?_
                      refine WL.guardN (e := 125) (v := undef) rfl rfl rfl rfl ?_
                      refine WL.guardN (e := 125) (v := undef) rfl rfl rfl rfl ?_
                      refine WL.guardN (e := 123) (v := .bool true) rfl rfl rfl rfl ?_
                      refine WL.guardN (e := 123) (v := .bool true) rfl rfl rfl rfl ?_
                      refine WL.guardN (e := 132) (v := undef) rfl rfl rfl rfl ?_
                      refine WL.guardN (e := 132) (v := undef) rfl rfl rfl rfl ?_
                      refine WL.guardN (e := 132) (v := undef) rfl rfl rfl rfl ?_
                      refine WL.guardN (e := 123) (v := .bool true) rfl rfl rfl rfl ?_
                      refine WL.val (R.pickT (v := Value.bool true) rfl rfl) rfl ?_
                      refine WL.nil ?_
                      refine thenN ?_
                      refine WC.condT rfl rfl ?_
                      refine WC.seq ?_
                      refine WC.region ?_
                      refine WL.val (R.assign (v := Value.bool false) rfl) rfl ?_
                      refine WL.nil ?_
                      refine thenN ?_
                      refine WC.ret ?_
                      have ht1864 := (hs1831.here).perm (L' := []) (G := [blk b112 197 ([Value.slice a2 p2.1.1.length c2, Value.int .i64 p2.1.2] ++ [Value.slice a2a p2.2.1.length c2a, Value.int .i64 p2.2.2]), blk b156 198 [Value.slice a562 l561.length c563, Value.slice a565 l564.length c566]]) ((List.Perm.refl _))
                      have hs1865 := hs1831.trans ht1864
                      obtain rfl := Option.some.inj (show some false = some r from h1863)
                      exact ret1 (P := Try.prog) (n := 139) (fn := Try.f24) (R := fun v w' => v = Value.bool false ∧ St [] w w' []) (t := 6) (v := Value.bool false) rfl rfl rfl ⟨rfl, hs1865⟩
                  · have h1866 := ifF hc1821 h1815
                    refine WL.guardN (e := 115) (v := .bool false) (Eq.trans (show _ = Value.bool y1813 from rfl) (congrArg Value.bool (Bool.eq_false_iff.2 hc1821))) rfl rfl rfl ?_
                    refine WL.guardN (e := 115) (v := .bool false) (Eq.trans (show _ = Value.bool y1813 from rfl) (congrArg Value.bool (Bool.eq_false_iff.2 hc1821))) rfl rfl rfl ?_
                    refine WL.guardN (e := 115) (v := .bool false) (Eq.trans (show _ = Value.bool y1813 from rfl) (congrArg Value.bool (Bool.eq_false_iff.2 hc1821))) rfl rfl rfl ?_
                    refine WL.guardN (e := 115) (v := .bool false) (Eq.trans (show _ = Value.bool y1813 from rfl) (congrArg Value.bool (Bool.eq_false_iff.2 hc1821))) rfl rfl rfl ?_
                    refine WL.guardN (e := 115) (v := .bool false) (Eq.trans (show _ = Value.bool y1813 from rfl) (congrArg Value.bool (Bool.eq_false_iff.2 hc1821))) rfl rfl rfl ?_
                    refine WL.guardN (e := 115) (v := .bool false) (Eq.trans (show _ = Value.bool y1813 from rfl) (congrArg Value.bool (Bool.eq_false_iff.2 hc1821))) rfl rfl rfl ?_
                    refine WL.val (R.pickF (v := Value.bool false) (Eq.trans (show _ = Value.bool y1813 from rfl) (congrArg Value.bool (Bool.eq_false_iff.2 hc1821))) rfl) rfl ?_
                    refine WL.val (R.move (v := Value.bool false) rfl) rfl ?_
                    refine WL.guardY (e := 123) rfl rfl rfl ?_
                    refine WL.val (R.move (v := Value.bool y1813) rfl) rfl ?_
                    refine WL.guardY (e := 123) rfl rfl rfl ?_
                    refine WL.val (R.move (v := Value.bool y1813) rfl) rfl ?_
                    refine WL.guardN (e := 125) (v := .bool false) (Eq.trans (show _ = Value.bool y1813 from rfl) (congrArg Value.bool (Bool.eq_false_iff.2 hc1821))) rfl rfl rfl ?_
                    refine WL.guardN (e := 125) (v := .bool false) (Eq.trans (show _ = Value.bool y1813 from rfl) (congrArg Value.bool (Bool.eq_false_iff.2 hc1821))) rfl rfl rfl ?_
                    refine WL.guardN (e := 125) (v := .bool false) (Eq.trans (show _ = Value.bool y1813 from rfl) (congrArg Value.bool (Bool.eq_false_iff.2 hc1821))) rfl rfl rfl ?_
                    refine WL.guardN (e := 125) (v := .bool false) (Eq.trans (show _ = Value.bool y1813 from rfl) (congrArg Value.bool (Bool.eq_false_iff.2 hc1821))) rfl rfl rfl ?_
                    refine WL.guardN (e := 125) (v := .bool false) (Eq.trans (show _ = Value.bool y1813 from rfl) (congrArg Value.bool (Bool.eq_false_iff.2 hc1821))) rfl rfl rfl ?_
                    refine WL.guardY (e := 123) rfl rfl rfl ?_
                    refine WL.val (R.pickF (v := Value.bool false) (Eq.trans (show _ = Value.bool y1813 from rfl) (congrArg Value.bool (Bool.eq_false_iff.2 hc1821))) rfl) rfl ?_
                    refine WL.guardY (e := 123) rfl rfl rfl ?_
                    refine WL.val (R.move (v := Value.bool false) rfl) rfl ?_
                    refine WL.guardN (e := 132) (v := .bool false) rfl rfl rfl rfl ?_
                    refine WL.guardN (e := 132) (v := .bool false) rfl rfl rfl rfl ?_
                    refine WL.guardN (e := 132) (v := .bool false) rfl rfl rfl rfl ?_
                    refine WL.guardY (e := 123) rfl rfl rfl ?_
                    refine WL.val (R.pickF (v := Value.bool false) rfl rfl) rfl ?_
                    refine WL.val (R.pickF (v := Value.bool false) rfl rfl) rfl ?_
                    refine WL.nil ?_
                    refine thenN ?_
                    refine WC.condF rfl rfl ?_
                    refine WC.skip ?_
                    refine blockN ?_
                    refine thenN ?_
                    refine WC.region ?_
                    refine WL.val (R.move (v := Value.int .i64 i1726) (by exact s1810)) rfl ?_
                    obtain ⟨hg1867, h1868⟩ := ckE (c := -9223372036854775808 ≤ i1726 + 1 ∧ i1726 + 1 ≤ 9223372036854775807) h1866
                    refine WL.val (R.add (a := i1726) (b := 1) (z := i1726 + 1) rfl rfl (w64e rfl hg1867.1 hg1867.2)) rfl ?_
                    refine WL.val (R.assign (v := Value.int .i64 (i1726 + 1)) rfl) rfl ?_
                    refine WL.nil ?_
                    have hr1869 := elT ht1817 he1795
                    have hr1870 := elT ht1817 he1796
                    have hr1871 := elT ht1817 he1797
                    have hr1872 := elT ht1817 he1798
                    exact roundEnd (s := k1733) ⟨i1726 + 1, s1806, s1807, s1808, s1809, rfl, hr1869, hr1870, hr1871, hr1872, h1868, hs1820⟩ (Nat.lt_succ_self _)
              · have h1873 := ifF hc1751 h1745
                refine WL.val (R.lssF (k := .i64) (a := i1726) (b := 4 + (p0.1 % 13)) un3 rfl rfl hc1751) rfl ?_
                refine WL.nil ?_
                refine thenN ?_
                refine WC.condF rfl rfl ?_
                refine WC.exit ?_
                refine thenE ?_
                refine thenE ?_
                refine blockHit ?_
                exact joinI ⟨s1746, s1747, s1748, s1749, he1734, he1735, he1736, he1737, h1873, hs1732⟩
            · rintro σ1739 w1738 ⟨s1875, s1876, s1877, s1878, he1741, he1742, he1743, he1744, h1874, hs1740⟩
              subst hK1728
              refine blockN ?_
              refine thenN ?_
              refine WC.region ?_
              refine WL.val (R.move (v := Value.int .i64 i1489) (by exact s1878)) rfl ?_
              obtain ⟨hg1879, h1880⟩ := ckE (c := -9223372036854775808 ≤ i1489 + 1 ∧ i1489 + 1 ≤ 9223372036854775807) h1874
              refine WL.val (R.add (a := i1489) (b := 1) (z := i1489 + 1) rfl rfl (w64e rfl hg1879.1 hg1879.2)) rfl ?_
              refine WL.val (R.assign (v := Value.int .i64 (i1489 + 1)) rfl) rfl ?_
              refine WL.nil ?_
              exact roundEnd (s := k1496) ⟨i1489 + 1, s1875, s1876, s1877, rfl, he1741, he1742, he1743, he1744, h1880, hs1740⟩ (Nat.lt_succ_self _)
          · have h1881 := ifF hc1509 h1504
            refine WL.val (R.lssF (k := .i64) (a := i1489) (b := 4 + (p0.1 % 13)) un3 rfl rfl hc1509) rfl ?_
            refine WL.nil ?_
            refine thenN ?_
            refine WC.condF rfl rfl ?_
            refine WC.exit ?_
            refine thenE ?_
            refine thenE ?_
            refine blockHit ?_
            have ht1882 := (hs1495.here).perm (L' := []) (G := [blk b112 197 ([Value.slice a2 p2.1.1.length c2, Value.int .i64 p2.1.2] ++ [Value.slice a2a p2.2.1.length c2a, Value.int .i64 p2.2.2]), blk b156 198 [Value.slice a562 l561.length c563, Value.slice a565 l564.length c566]]) ((List.Perm.refl _))
            have hs1883 := hs1495.trans ht1882
            exact joinI ⟨h1881, hs1883⟩
        · rintro σ1502 w1501 ⟨h1884, hs1503⟩
          subst hK1491
          refine thenN ?_
          refine WC.seq ?_
          refine WC.region ?_
          obtain ⟨y1885, hx1886, h1887⟩ := ob (o := lives17 ) h1884
          refine WL.call (lives17_ok _ (In ok w [] [])   hx1886) (R.call (vs := []) (caps := []) bo41 rfl rfl) rfl ?_
          rintro v1890 w1891 ⟨rfl, ht1888⟩
          have ht1889 := hs1503.call (N := []) (M := []) (List.Perm.refl _) ht1888
          have hs1892 := hs1503.trans ht1889
          refine WL.val (R.assign (v := Value.bool y1885) rfl) rfl ?_
          refine WL.nil ?_
          refine thenN ?_
          refine WC.ret ?_
          obtain rfl := Option.some.inj (show some y1885 = some r from h1887)
          exact ret1 (P := Try.prog) (n := 139) (fn := Try.f24) (R := fun v w' => v = Value.bool y1885 ∧ St [] w w' []) (t := 6) (v := Value.bool y1885) rfl rfl rfl ⟨rfl, hs1892⟩

end Go.Proofs.Ytckcldimnelklaa
