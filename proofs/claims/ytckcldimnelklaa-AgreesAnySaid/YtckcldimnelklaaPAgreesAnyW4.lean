/- Parts of the proof, put together: W15ya. -/
import Derived.Test.YtckcldimnelklaaPAgreesAnyW3
import Derived.Test.YtckcldimnelklaaKAgreesAnyW15t
import Derived.Test.YtckcldimnelklaaPAgreesAnyW1
import Derived.Test.YtckcldimnelklaaPAgreesAnyD0
/- The functions come to what their twins answer: group 15y. -/
namespace Go.Proofs.Ytckcldimnelklaa
open Go
set_option linter.unusedVariables false
set_option linter.unusedSimpArgs false
set_option maxRecDepth 100000
set_option maxHeartbeats 4000000

theorem rtable15_ok (w : World) (ok : Nat → Prop) (p0 : List Rw) (a0 : Option Addr) (c0 : Nat) (he0 : elems rowW w ok a0 p0) (hc0 : p0.length ≤ c0) {r : (List Hd)} (h : rtable15 p0 = some r) :
    Ret Try.prog 35 [Value.slice a0 p0.length c0] w (fun v w' => ∃ ra0, ∃ rc0, v = Value.slice ra0 r.length rc0 ∧ r.length ≤ rc0 ∧ elems heldW w' (In ok w [] []) ra0 r ∧ St [] w w' []) := by
  rw [rtable15] at h
  have hs100 : St [] w w [] := St.start w
  have he1000 := el0 (L0 := []) (fun b _ => out_nil b) he0
  refine enter (n := 26) Try.func35 rfl rfl rfl ?_
  refine WC.seq ?_
  refine WC.region ?_
  refine WL.val (R.assign (v := Value.slice none 0 0) rfl) rfl ?_
  refine WL.nil ?_
  refine thenN ?_
  refine WC.seq ?_
  refine WC.region ?_
  refine WL.val (R.assign (v := Value.slice none 0 0) rfl) rfl ?_
  refine WL.nil ?_
  refine thenN ?_
  refine WC.seq ?_
  refine WC.seq ?_
  refine WC.region ?_
  refine WL.val (R.assign (v := Value.int .i64 0) rfl) rfl ?_
  refine WL.nil ?_
  refine thenN ?_
  have ht155 := (hs100.here).addNil 202 heldE rfl
  have hs157 := hs100.trans ht155
  have hr279 := elT ht155 he1000
  obtain ⟨K271, hK272, h273⟩ := kE (G := fun K271 => rtable15_l1 p0 K271 1000000 0 ([] : List Hd)) h
  refine WC.join (fun σ281 w280 => ∃ l268 : List Hd, ∃ a269, ∃ c270, σ281 3 = (Value.slice a269 l268.length c270) ∧ K271 l268 = some r ∧ St [] w w280 [gsl 202 heldE (Value.slice a269 l268.length c270) l268]) ?_ ?_
  · refine WC.block ?_
    refine WC.loop (T := Nat) (fun k277 σ275 w274 => ∃ i264 : Int, ∃ l265 : List Hd, ∃ a266, ∃ c267, σ275 0 = (Value.slice a0 p0.length c0) ∧ σ275 3 = (Value.slice a266 l265.length c267) ∧ σ275 4 = (Value.int .i64 i264) ∧ elems rowW w274 (In ok w [] [gsl 202 heldE (Value.slice a266 l265.length c267) l265]) a0 p0 ∧ rtable15_l1 p0 K271 k277 i264 l265 = some r ∧ St [] w w274 [gsl 202 heldE (Value.slice a266 l265.length c267) l265]) (fun k277 => k277) 1000000 ⟨0, ([] : List Hd), none, 0, rfl, rfl, rfl, hr279, h273, hs157⟩ ?_
    rintro k277 σ275 w274 ⟨i264, l265, a266, c267, s284, s285, s286, he278, h283, hs276⟩
    rcases k277 with _ | k277
    · rw [rtable15_l1] at h283; cases h283
    rw [rtable15_l1] at h283
    refine WC.seq ?_
    refine WC.seq ?_
    refine WC.region ?_
    refine WL.val (R.move (v := Value.int .i64 i264) (by exact s286)) rfl ?_
    refine WL.val (R.move (v := Value.slice a0 p0.length c0) (by exact s284)) rfl ?_
    refine WL.val (R.len (a := a0) (n := p0.length) (c := c0) un33 rfl) rfl ?_
    by_cases hc287 : i264 < ((p0.length : Nat) : Int)
    · have h288 := ifT hc287 h283
      refine WL.val (R.lssT (k := .i64) (a := i264) (b := ((p0.length : Nat) : Int)) un3 rfl rfl hc287) rfl ?_
      refine WL.nil ?_
      refine thenN ?_
      refine WC.condT rfl rfl ?_
      refine WC.skip ?_
      refine thenN ?_
      refine WC.seq ?_
      refine WC.block ?_
      refine WC.drawE mixed (NP.block (NP.then (NP.then (NP.block (NP.join (NP.then NP.rq)))))) ?_
      have ht289 := (hs276.here).ext (Ext.drew _)
      have hs290 := hs276.trans ht289
      refine WE.take 0 rfl (by decide +kernel) (by decide +kernel) (by decide +kernel) (by decide +kernel) rfl rfl (fun wq hq => R.move (v := Value.slice a266 l265.length c267) (by exact s285)) ?_
      refine WE.take 1 rfl (by decide +kernel) (by decide +kernel) (by decide +kernel) (by decide +kernel) rfl rfl (fun wq hq => R.move (v := Value.slice a0 p0.length c0) (by exact s284)) ?_
      refine WE.take 2 rfl (by decide +kernel) (by decide +kernel) (by decide +kernel) (by decide +kernel) rfl rfl (fun wq hq => R.move (v := Value.int .i64 i264) (by exact s286)) ?_
      obtain ⟨x291, hx292, h293⟩ := ob (o := rd p0 i264) h288
      obtain ⟨h0294, hx295, hl296, hm297⟩ := rdE hx292
      have hr298 := elT ht289 he278
      obtain ⟨ad299, e304, ha300, hp301, hat302, hrd303⟩ := hr298 _ _ hx295
      obtain ⟨t305, rfl, a307, c308, he311, hl309, he310⟩ := hrd303
      cases he311
      refine WE.take 3 rfl (by decide +kernel) (by decide +kernel) (by decide +kernel) (by decide +kernel) rfl rfl (fun wq hq => R.indexS (n := 57) (m := (i264).toNat) (a := a0) (ad := ad299) (len := p0.length) (cap := c0) (z := i264) un33 ag143.size rfl ha300 rfl hm297 hl296 hp301) ?_
      refine WE.take 4 rfl (by decide +kernel) (by decide +kernel) (by decide +kernel) (by decide +kernel) rfl rfl (fun wq hq => R.fieldAddr (o := ad299.off + (i264).toNat * 57) (o' := ad299.off + (i264).toNat * 57) fa143_0 rfl rfl) ?_
      refine WE.take 5 rfl (by decide +kernel) (by decide +kernel) (by decide +kernel) (by decide +kernel) rfl rfl (fun wq hq => R.loadL (v := Value.bool x291.is) lf4 rfl (At.sub (a := ⟨ad299.block, ad299.off + (i264).toNat * 57, none⟩) (off := 0) (n := 1) (cs := encR x291 (Value.slice a307 x291.table.length c308)) (ds := [Value.bool x291.is]) (At.exT hq hat302) rfl rfl)) ?_
      refine WE.take 6 rfl (by decide +kernel) (by decide +kernel) (by decide +kernel) (by decide +kernel) rfl rfl (fun wq hq => R.move (v := Value.slice a0 p0.length c0) (by exact s284)) ?_
      refine WE.take 7 rfl (by decide +kernel) (by decide +kernel) (by decide +kernel) (by decide +kernel) rfl rfl (fun wq hq => R.move (v := Value.int .i64 i264) (by exact s286)) ?_
      refine WE.take 8 rfl (by decide +kernel) (by decide +kernel) (by decide +kernel) (by decide +kernel) rfl rfl (fun wq hq => R.indexS (n := 57) (m := (i264).toNat) (a := a0) (ad := ad299) (len := p0.length) (cap := c0) (z := i264) un33 ag143.size rfl ha300 rfl hm297 hl296 hp301) ?_
      refine WE.take 9 rfl (by decide +kernel) (by decide +kernel) (by decide +kernel) (by decide +kernel) rfl rfl (fun wq hq => R.fieldAddr (o := ad299.off + (i264).toNat * 57) (o' := ad299.off + (i264).toNat * 57 + 1) fa143_1 rfl rfl) ?_
      refine WE.take 10 rfl (by decide +kernel) (by decide +kernel) (by decide +kernel) (by decide +kernel) rfl rfl (fun wq hq => R.loadA (cs := encC x291.cell) (n := 55) ag58 rfl (At.sub (a := ⟨ad299.block, ad299.off + (i264).toNat * 57, none⟩) (off := 1) (n := 55) (cs := encR x291 (Value.slice a307 x291.table.length c308)) (ds := encC x291.cell) (At.exT hq hat302) rfl rfl) rfl) ?_
      have hd314 : ∀ w, (Instr.build 202 #[(0, Value.bool x291.is), (1, Value.agg (List.toArray (encC x291.cell)))]).run Try.prog w = .ok (Value.agg (List.toArray (encH (⟨x291.is, x291.cell⟩ : Hd)))) w := fun _ => by kernel_rfl
      refine WE.take 11 rfl (by decide +kernel) (by decide +kernel) (by decide +kernel) (by decide +kernel) rfl rfl (fun wq hq => R.build (vs := [(0, Value.bool x291.is), (1, Value.agg (List.toArray (encC x291.cell)))]) rfl hd314) ?_
      have hd320 : ∀ w : World, (Instr.buildSlice 31 1 #[(0, Value.agg (List.toArray (encH (⟨x291.is, x291.cell⟩ : Hd))))]).run Try.prog w = .ok (.slice (some ⟨w.heap.size, 0, none⟩) 1 1) { w with heap := w.heap.push (.cells (List.toArray (encH (⟨x291.is, x291.cell⟩ : Hd))) 202) } := fun _ => by kernel_rfl
      refine WE.new (L' := fun b315 => [gsl 202 heldE (Value.slice a266 l265.length c267) l265, blk b315 202 (encH (⟨x291.is, x291.cell⟩ : Hd))]) (f := fun b315 => Value.slice (some ⟨b315, 0, none⟩) 1 1) 12 (by decide +kernel) rfl rfl rfl (X.buildSlice (c := (encH (⟨x291.is, x291.cell⟩ : Hd))) (vs := [(0, Value.agg (List.toArray (encH (⟨x291.is, x291.cell⟩ : Hd))))]) (hs290.here) rfl hd320 (fun _ => rfl)) ?_
      intro b315 w316 ht322 he318 hz319
      have hs323 := hs290.trans ht322
      obtain ⟨hg324, h325⟩ := ckE (c := l265.length < 1000000) h293
      refine WE.grow (L' := fun v326 => [gsl 202 heldE v326 (l265 ++ [(⟨x291.is, x291.cell⟩ : Hd)]), blk b315 202 (encH (⟨x291.is, x291.cell⟩ : Hd))]) 13 (by decide +kernel) (by decide +kernel) rfl rfl rfl (X.append (i := 0) (e := heldE) (xs := l265) (ys := [(⟨x291.is, x291.cell⟩ : Hd)]) (ad := ⟨b315, 0, none⟩) (m := 1) (c := 1) (hs323.here) sl31 rfl rfl rfl rfl ((hs323.here).at (i := 1) (off := 0) (n := 56) (cs := flat heldE [(⟨x291.is, x291.cell⟩ : Hd)]) rfl rfl rfl) rfl rfl (room (n := 1) hg324 rfl (by decide)) (room63 (n := 1) hg324 rfl (by decide)) (fun _ => rfl)) ?_
      intro v326 w327 ht328
      obtain ⟨a329, c330, hv331⟩ := gsl_sl (ht328.get (i := 0) rfl)
      subst hv331
      have hs332 := hs323.trans ht328
      refine WE.take 14 rfl (by decide +kernel) (by decide +kernel) (by decide +kernel) (by decide +kernel) rfl rfl (fun wq hq => R.assign (v := Value.slice a329 ((l265 ++ [(⟨x291.is, x291.cell⟩ : Hd)]).length) c330) rfl) ?_
      refine WE.done (by decide +kernel) ?_
      refine blockN ?_
      refine thenN ?_
      refine WC.region ?_
      refine WL.val (R.move (v := Value.int .i64 i264) (by exact s286)) rfl ?_
      obtain ⟨hg333, h334⟩ := ckE (c := -9223372036854775808 ≤ i264 + 1 ∧ i264 + 1 ≤ 9223372036854775807) h325
      refine WL.val (R.add (a := i264) (b := 1) (z := i264 + 1) rfl rfl (w64e rfl hg333.1 hg333.2)) rfl ?_
      refine WL.val (R.assign (v := Value.int .i64 (i264 + 1)) rfl) rfl ?_
      refine WL.nil ?_
      have ht335 := (hs332.here).perm (L' := [gsl 202 heldE (Value.slice a329 ((l265 ++ [(⟨x291.is, x291.cell⟩ : Hd)]).length) c330) (l265 ++ [(⟨x291.is, x291.cell⟩ : Hd)])]) (G := [blk b315 202 (encH (⟨x291.is, x291.cell⟩ : Hd))]) ((List.Perm.refl _))
      have hs336 := hs332.trans ht335
      have hr337 := elT ((ht322.trans ht328).trans ht335) hr298
      exact roundEnd (s := k277) ⟨i264 + 1, l265 ++ [(⟨x291.is, x291.cell⟩ : Hd)], a329, c330, s284, rfl, rfl, hr337, h334, hs336⟩ (Nat.lt_succ_self _)
    · have h338 := ifF hc287 h283
      refine WL.val (R.lssF (k := .i64) (a := i264) (b := ((p0.length : Nat) : Int)) un3 rfl rfl hc287) rfl ?_
      refine WL.nil ?_
      refine thenN ?_
      refine WC.condF rfl rfl ?_
      refine WC.exit ?_
      refine thenE ?_
      refine thenE ?_
      refine blockHit ?_
      exact joinI ⟨l265, a266, c267, s285, h338, hs276⟩
  · rintro σ281 w280 ⟨l268, a269, c270, s340, h339, hs282⟩
    subst hK272
    refine thenN ?_
    refine WC.seq ?_
    refine WC.region ?_
    refine WL.val (R.move (v := Value.slice a269 l268.length c270) (by exact s340)) rfl ?_
    refine WL.val (R.assign (v := Value.slice a269 l268.length c270) rfl) rfl ?_
    refine WL.nil ?_
    refine thenN ?_
    refine WC.ret ?_
    obtain ⟨a341, c342, hv343, hl344, he345⟩ := el_freeze (k := heldW) (ok := fun _ => False) hs282 (List.Perm.refl _) rfl (fun _ _ _ => ⟨trivial, rfl⟩)
    obtain ⟨rfl, rfl⟩ : a269 = a341 ∧ c270 = c342 := ⟨(Value.slice.inj hv343).1, (Value.slice.inj hv343).2.2⟩
    have ht346 := (hs282.here).perm (L' := []) (G := [gsl 202 heldE (Value.slice a269 l268.length c270) l268]) ((List.Perm.refl _))
    have hs347 := hs282.trans ht346
    obtain rfl := Option.some.inj (show some l268 = some r from h339)
    exact ret1 (P := Try.prog) (n := 26) (fn := Try.f35) (R := fun v w' => ∃ ra0, ∃ rc0, v = Value.slice ra0 l268.length rc0 ∧ l268.length ≤ rc0 ∧ elems heldW w' (In ok w [] []) ra0 l268 ∧ St [] w w' []) (t := 2) (v := Value.slice a269 l268.length c270) rfl rfl rfl ⟨a269, c270, rfl, hl344, (elN (ok' := ok) he345), hs347⟩

theorem rhas15_ok (w : World) (ok : Nat → Prop) (p0 : List Rw) (p1 : Int) (p2 : Int) (a0 : Option Addr) (c0 : Nat) (he0 : elems rowW w ok a0 p0) (hc0 : p0.length ≤ c0) {r : Hd} (h : rhas15 p0 p1 p2 = some r) :
    Ret Try.prog 103 [Value.slice a0 p0.length c0, Value.int .i64 p1, Value.int .i64 p2] w (fun v w' => v = Value.agg (List.toArray (encH r)) ∧ St [] w w' []) := by
  rw [rhas15] at h
  have hs100 : St [] w w [] := St.start w
  have he1000 := el0 (L0 := []) (fun b _ => out_nil b) he0
  refine enter (n := 38) Try.func103 rfl rfl rfl ?_
  refine WC.seq ?_
  refine WC.region ?_
  refine WL.new (L' := fun b102 => [blk b102 202 (encH Hd.none)]) (f := fun b102 => Value.pointer (some ⟨b102, 0, none⟩)) (X.alloc (c := encH Hd.none) (hs100.here) zr202 rfl (fun _ => rfl)) rfl ?_
  intro b102 w103 ht108 he105 hz106
  have hs109 := hs100.trans ht108
  refine WL.nil ?_
  refine thenN ?_
  refine WC.seq ?_
  refine WC.seq ?_
  refine WC.region ?_
  refine WL.val (R.move (v := Value.int .i64 p1) rfl) rfl ?_
  refine WL.val (R.move (v := Value.slice a0 p0.length c0) rfl) rfl ?_
  refine WL.val (R.len (a := a0) (n := p0.length) (c := c0) un33 rfl) rfl ?_
  by_cases hc110 : ((p0.length : Nat) : Int) ≤ p1
  · have h111 := ifT hc110 h
    refine WL.val (R.geqT (k := .i64) (a := p1) (b := ((p0.length : Nat) : Int)) un3 rfl rfl hc110) rfl ?_
    refine WL.val (R.move (v := Value.bool true) rfl) rfl ?_
    refine WL.guardN (e := 11) (v := .bool true) rfl rfl rfl rfl ?_
    refine WL.guardN (e := 11) (v := .bool true) rfl rfl rfl rfl ?_
    refine WL.guardN (e := 11) (v := .bool true) rfl rfl rfl rfl ?_
    refine WL.guardN (e := 11) (v := .bool true) rfl rfl rfl rfl ?_
    refine WL.guardN (e := 11) (v := .bool true) rfl rfl rfl rfl ?_
    refine WL.guardN (e := 11) (v := .bool true) rfl rfl rfl rfl ?_
    refine WL.val (R.pickT (v := Value.bool true) rfl rfl) rfl ?_
    refine WL.val (R.move (v := Value.bool true) rfl) rfl ?_
    refine WL.guardN (e := 19) (v := .bool true) rfl rfl rfl rfl ?_
    refine WL.guardN (e := 19) (v := .bool true) rfl rfl rfl rfl ?_
    refine WL.guardN (e := 19) (v := .bool true) rfl rfl rfl rfl ?_
    refine WL.guardN (e := 19) (v := .bool true) rfl rfl rfl rfl ?_
    refine WL.guardN (e := 19) (v := .bool true) rfl rfl rfl rfl ?_
    refine WL.guardN (e := 19) (v := .bool true) rfl rfl rfl rfl ?_
    refine WL.guardN (e := 19) (v := .bool true) rfl rfl rfl rfl ?_
    refine WL.guardN (e := 19) (v := .bool true) rfl rfl rfl rfl ?_
    refine WL.val (R.pickT (v := Value.bool true) rfl rfl) rfl ?_
    refine WL.nil ?_
    refine thenN ?_
    refine WC.condT rfl rfl ?_
    refine WC.seq ?_
    refine WC.region ?_
    have hd112 : ∀ w, (Instr.build 202 #[]).run Try.prog w = .ok (Value.agg (List.toArray (encH Hd.none))) w := fun _ => by kernel_rfl
    refine WL.val (R.build (vs := []) rfl hd112) rfl ?_
    refine WL.sto (L' := [blk b102 202 (encH Hd.none)]) (X.store (i := 0) (n := 56) (b := b102) (off := 0) (c := encH Hd.none) (U := 202) (vs := encH Hd.none) (v := Value.agg (List.toArray (encH Hd.none))) (c' := encH Hd.none) (hs109.here) rfl ag202.size rfl rfl rfl rfl rfl rfl rfl rfl) rfl rfl ?_
    intro w113 ht114
    have hs115 := hs109.trans ht114
    refine WL.nil ?_
    refine thenN ?_
    refine WC.ret ?_
    have hl116 := run_loadA (P := Try.prog) (n := 56) ag202 (hs115.at (i := 0) (off := 0) (n := 56) (cs := encH Hd.none) rfl rfl rfl) rfl
    have ht117 := (hs115.here).perm (L' := []) (G := [blk b102 202 (encH Hd.none)]) ((List.Perm.refl _))
    have hs118 := hs115.trans ht117
    obtain rfl := Option.some.inj (show some Hd.none = some r from h111)
    exact retCell (P := Try.prog) (n := 38) (fn := Try.f103) (R := fun v w' => v = Value.agg (List.toArray (encH Hd.none)) ∧ St [] w w' []) (t := 6) (v := Value.agg (List.toArray (encH Hd.none))) rfl rfl rfl hl116 ⟨rfl, hs118⟩
  · have h119 := ifF hc110 h
    refine WL.val (R.geqF (k := .i64) (a := p1) (b := ((p0.length : Nat) : Int)) un3 rfl rfl hc110) rfl ?_
    refine WL.val (R.move (v := Value.bool false) rfl) rfl ?_
    refine WL.guardY (e := 11) rfl rfl rfl ?_
    refine WL.val (R.move (v := Value.slice a0 p0.length c0) rfl) rfl ?_
    refine WL.guardY (e := 11) rfl rfl rfl ?_
    refine WL.val (R.move (v := Value.int .i64 p1) rfl) rfl ?_
    refine WL.guardY (e := 11) rfl rfl rfl ?_
    obtain ⟨x120, hx121, h122⟩ := ob (o := rd p0 p1) h119
    obtain ⟨h0123, hx124, hl125, hm126⟩ := rdE hx121
    have hr127 := elT ht108 he1000
    obtain ⟨ad128, e133, ha129, hp130, hat131, hrd132⟩ := hr127 _ _ hx124
    obtain ⟨t134, rfl, a136, c137, he140, hl138, he139⟩ := hrd132
    cases he140
    refine WL.val (R.indexS (n := 57) (m := (p1).toNat) (a := a0) (ad := ad128) (len := p0.length) (cap := c0) (z := p1) un33 ag143.size rfl ha129 rfl hm126 hl125 hp130) rfl ?_
    refine WL.guardY (e := 11) rfl rfl rfl ?_
    refine WL.val (R.fieldAddr (o := ad128.off + (p1).toNat * 57) (o' := ad128.off + (p1).toNat * 57) fa143_0 rfl rfl) rfl ?_
    refine WL.guardY (e := 11) rfl rfl rfl ?_
    refine WL.val (R.loadL (v := Value.bool x120.is) lf4 rfl (At.sub (a := ⟨ad128.block, ad128.off + (p1).toNat * 57, none⟩) (off := 0) (n := 1) (cs := encR x120 (Value.slice a136 x120.table.length c137)) (ds := [Value.bool x120.is]) hat131 rfl rfl)) rfl ?_
    refine WL.guardY (e := 11) rfl rfl rfl ?_
    refine WL.val (R.not (b := x120.is) rfl) rfl ?_
    refine WL.val (R.pickF (v := Value.bool (!x120.is)) rfl rfl) rfl ?_
    refine WL.val (R.move (v := Value.bool (!x120.is)) rfl) rfl ?_
    by_cases hc143 : x120.is = true
    · have h144 := ifT hc143 h122
      have hk145 : (!x120.is) = false := by simp [hc143]
      refine WL.guardY (e := 19) (Eq.trans (show _ = Value.bool (!x120.is) from rfl) (congrArg Value.bool hk145)) rfl rfl ?_
      refine WL.val (R.move (v := Value.int .i64 p2) rfl) rfl ?_
      refine WL.guardY (e := 19) (Eq.trans (show _ = Value.bool (!x120.is) from rfl) (congrArg Value.bool hk145)) rfl rfl ?_
      refine WL.val (R.move (v := Value.slice a0 p0.length c0) rfl) rfl ?_
      refine WL.guardY (e := 19) (Eq.trans (show _ = Value.bool (!x120.is) from rfl) (congrArg Value.bool hk145)) rfl rfl ?_
      refine WL.val (R.move (v := Value.int .i64 p1) rfl) rfl ?_
      refine WL.guardY (e := 19) (Eq.trans (show _ = Value.bool (!x120.is) from rfl) (congrArg Value.bool hk145)) rfl rfl ?_
      refine WL.val (R.indexS (n := 57) (m := (p1).toNat) (a := a0) (ad := ad128) (len := p0.length) (cap := c0) (z := p1) un33 ag143.size rfl ha129 rfl hm126 hl125 hp130) rfl ?_
      refine WL.guardY (e := 19) (Eq.trans (show _ = Value.bool (!x120.is) from rfl) (congrArg Value.bool hk145)) rfl rfl ?_
      refine WL.val (R.fieldAddr (o := ad128.off + (p1).toNat * 57) (o' := ad128.off + (p1).toNat * 57 + 56) fa143_2 rfl rfl) rfl ?_
      refine WL.guardY (e := 19) (Eq.trans (show _ = Value.bool (!x120.is) from rfl) (congrArg Value.bool hk145)) rfl rfl ?_
      refine WL.val (R.loadL (v := Value.slice a136 x120.table.length c137) lf31 rfl (At.sub (a := ⟨ad128.block, ad128.off + (p1).toNat * 57, none⟩) (off := 56) (n := 1) (cs := encR x120 (Value.slice a136 x120.table.length c137)) (ds := [Value.slice a136 x120.table.length c137]) hat131 rfl rfl)) rfl ?_
      refine WL.guardY (e := 19) (Eq.trans (show _ = Value.bool (!x120.is) from rfl) (congrArg Value.bool hk145)) rfl rfl ?_
      refine WL.val (R.len (a := a136) (n := x120.table.length) (c := c137) un31 rfl) rfl ?_
      refine WL.guardY (e := 19) (Eq.trans (show _ = Value.bool (!x120.is) from rfl) (congrArg Value.bool hk145)) rfl rfl ?_
      by_cases hc146 : ((x120.table.length : Nat) : Int) ≤ p2
      · have h147 := ifT hc146 h144
        refine WL.val (R.geqT (k := .i64) (a := p2) (b := ((x120.table.length : Nat) : Int)) un3 rfl rfl hc146) rfl ?_
        refine WL.val (R.pickF (v := Value.bool true) (Eq.trans (show _ = Value.bool (!x120.is) from rfl) (congrArg Value.bool hk145)) rfl) rfl ?_
        refine WL.nil ?_
        refine thenN ?_
        refine WC.condT rfl rfl ?_
        refine WC.seq ?_
        refine WC.region ?_
        have hd148 : ∀ w, (Instr.build 202 #[]).run Try.prog w = .ok (Value.agg (List.toArray (encH Hd.none))) w := fun _ => by kernel_rfl
        refine WL.val (R.build (vs := []) rfl hd148) rfl ?_
        refine WL.sto (L' := [blk b102 202 (encH Hd.none)]) (X.store (i := 0) (n := 56) (b := b102) (off := 0) (c := encH Hd.none) (U := 202) (vs := encH Hd.none) (v := Value.agg (List.toArray (encH Hd.none))) (c' := encH Hd.none) (hs109.here) rfl ag202.size rfl rfl rfl rfl rfl rfl rfl rfl) rfl rfl ?_
        intro w149 ht150
        have hs151 := hs109.trans ht150
        refine WL.nil ?_
        refine thenN ?_
        refine WC.ret ?_
        have hl152 := run_loadA (P := Try.prog) (n := 56) ag202 (hs151.at (i := 0) (off := 0) (n := 56) (cs := encH Hd.none) rfl rfl rfl) rfl
        have ht153 := (hs151.here).perm (L' := []) (G := [blk b102 202 (encH Hd.none)]) ((List.Perm.refl _))
        have hs154 := hs151.trans ht153
        obtain rfl := Option.some.inj (show some Hd.none = some r from h147)
        exact retCell (P := Try.prog) (n := 38) (fn := Try.f103) (R := fun v w' => v = Value.agg (List.toArray (encH Hd.none)) ∧ St [] w w' []) (t := 6) (v := Value.agg (List.toArray (encH Hd.none))) rfl rfl rfl hl152 ⟨rfl, hs154⟩
      · have h155 := ifF hc146 h144
        refine WL.val (R.geqF (k := .i64) (a := p2) (b := ((x120.table.length : Nat) : Int)) un3 rfl rfl hc146) rfl ?_
        refine WL.val (R.pickF (v := Value.bool false) (Eq.trans (show _ = Value.bool (!x120.is) from rfl) (congrArg Value.bool hk145)) rfl) rfl ?_
        refine WL.nil ?_
        refine thenN ?_
        refine WC.condF rfl rfl ?_
        refine WC.skip ?_
        refine thenN ?_
        refine WC.seq ?_
        refine WC.region ?_
        refine WL.val (R.move (v := Value.slice a0 p0.length c0) rfl) rfl ?_
        refine WL.val (R.move (v := Value.int .i64 p1) rfl) rfl ?_
        refine WL.val (R.indexS (n := 57) (m := (p1).toNat) (a := a0) (ad := ad128) (len := p0.length) (cap := c0) (z := p1) un33 ag143.size rfl ha129 rfl hm126 hl125 hp130) rfl ?_
        refine WL.val (R.fieldAddr (o := ad128.off + (p1).toNat * 57) (o' := ad128.off + (p1).toNat * 57 + 56) fa143_2 rfl rfl) rfl ?_
        refine WL.val (R.loadL (v := Value.slice a136 x120.table.length c137) lf31 rfl (At.sub (a := ⟨ad128.block, ad128.off + (p1).toNat * 57, none⟩) (off := 56) (n := 1) (cs := encR x120 (Value.slice a136 x120.table.length c137)) (ds := [Value.slice a136 x120.table.length c137]) hat131 rfl rfl)) rfl ?_
        refine WL.val (R.move (v := Value.int .i64 p2) rfl) rfl ?_
        obtain ⟨x156, hx157, h158⟩ := ob (o := rd x120.table p2) h155
        obtain ⟨h0159, hx160, hl161, hm162⟩ := rdE hx157
        obtain ⟨ad163, e168, ha164, hp165, hat166, hrd167⟩ := he139 _ _ hx160
        obtain ⟨-, rfl⟩ := hrd167
        refine WL.val (R.indexS (n := 56) (m := (p2).toNat) (a := a136) (ad := ad163) (len := x120.table.length) (cap := c137) (z := p2) un31 ag202.size rfl ha164 rfl hm162 hl161 hp165) rfl ?_
        refine WL.val (R.loadA (cs := encH x156) (n := 56) ag202 rfl hat166 rfl) rfl ?_
        refine WL.sto (L' := [blk b102 202 (encH x156)]) (X.store (i := 0) (n := 56) (b := b102) (off := 0) (c := encH Hd.none) (U := 202) (vs := encH x156) (v := Value.agg (List.toArray (encH x156))) (c' := encH x156) (hs109.here) rfl ag202.size rfl rfl rfl rfl rfl rfl rfl rfl) rfl rfl ?_
        intro w170 ht171
        have hs172 := hs109.trans ht171
        refine WL.nil ?_
        refine thenN ?_
        refine WC.ret ?_
        have hl173 := run_loadA (P := Try.prog) (n := 56) ag202 (hs172.at (i := 0) (off := 0) (n := 56) (cs := encH x156) rfl rfl rfl) rfl
        have ht174 := (hs172.here).perm (L' := []) (G := [blk b102 202 (encH x156)]) ((List.Perm.refl _))
        have hs175 := hs172.trans ht174
        obtain rfl := Option.some.inj (show some x156 = some r from h158)
        exact retCell (P := Try.prog) (n := 38) (fn := Try.f103) (R := fun v w' => v = Value.agg (List.toArray (encH x156)) ∧ St [] w w' []) (t := 6) (v := Value.agg (List.toArray (encH x156))) rfl rfl rfl hl173 ⟨rfl, hs175⟩
    · have h176 := ifF hc143 h122
      have hk177 : (!x120.is) = true := by simp [hc143]
      refine WL.guardN (e := 19) (v := .bool true) (Eq.trans (show _ = Value.bool (!x120.is) from rfl) (congrArg Value.bool hk177)) rfl rfl rfl ?_
      refine WL.guardN (e := 19) (v := .bool true) (Eq.trans (show _ = Value.bool (!x120.is) from rfl) (congrArg Value.bool hk177)) rfl rfl rfl ?_
      refine WL.guardN (e := 19) (v := .bool true) (Eq.trans (show _ = Value.bool (!x120.is) from rfl) (congrArg Value.bool hk177)) rfl rfl rfl ?_
      refine WL.guardN (e := 19) (v := .bool true) (Eq.trans (show _ = Value.bool (!x120.is) from rfl) (congrArg Value.bool hk177)) rfl rfl rfl ?_
      refine WL.guardN (e := 19) (v := .bool true) (Eq.trans (show _ = Value.bool (!x120.is) from rfl) (congrArg Value.bool hk177)) rfl rfl rfl ?_
      refine WL.guardN (e := 19) (v := .bool true) (Eq.trans (show _ = Value.bool (!x120.is) from rfl) (congrArg Value.bool hk177)) rfl rfl rfl ?_
      refine WL.guardN (e := 19) (v := .bool true) (Eq.trans (show _ = Value.bool (!x120.is) from rfl) (congrArg Value.bool hk177)) rfl rfl rfl ?_
      refine WL.guardN (e := 19) (v := .bool true) (Eq.trans (show _ = Value.bool (!x120.is) from rfl) (congrArg Value.bool hk177)) rfl rfl rfl ?_
      refine WL.val (R.pickT (v := Value.bool true) (Eq.trans (show _ = Value.bool (!x120.is) from rfl) (congrArg Value.bool hk177)) rfl) rfl ?_
      refine WL.nil ?_
      refine thenN ?_
      refine WC.condT rfl rfl ?_
      refine WC.seq ?_
      refine WC.region ?_
      have hd178 : ∀ w, (Instr.build 202 #[]).run Try.prog w = .ok (Value.agg (List.toArray (encH Hd.none))) w := fun _ => by kernel_rfl
      refine WL.val (R.build (vs := []) rfl hd178) rfl ?_
      refine WL.sto (L' := [blk b102 202 (encH Hd.none)]) (X.store (i := 0) (n := 56) (b := b102) (off := 0) (c := encH Hd.none) (U := 202) (vs := encH Hd.none) (v := Value.agg (List.toArray (encH Hd.none))) (c' := encH Hd.none) (hs109.here) rfl ag202.size rfl rfl rfl rfl rfl rfl rfl rfl) rfl rfl ?_
      intro w179 ht180
      have hs181 := hs109.trans ht180
      refine WL.nil ?_
      refine thenN ?_
      refine WC.ret ?_
      have hl182 := run_loadA (P := Try.prog) (n := 56) ag202 (hs181.at (i := 0) (off := 0) (n := 56) (cs := encH Hd.none) rfl rfl rfl) rfl
      have ht183 := (hs181.here).perm (L' := []) (G := [blk b102 202 (encH Hd.none)]) ((List.Perm.refl _))
      have hs184 := hs181.trans ht183
      obtain rfl := Option.some.inj (show some Hd.none = some r from h176)
      exact retCell (P := Try.prog) (n := 38) (fn := Try.f103) (R := fun v w' => v = Value.agg (List.toArray (encH Hd.none)) ∧ St [] w w' []) (t := 6) (v := Value.agg (List.toArray (encH Hd.none))) rfl rfl rfl hl182 ⟨rfl, hs184⟩

theorem ragree15_ok (w : World) (ok : Nat → Prop) (p0 : Int) (p1 : List Rw) (a1 : Option Addr) (c1 : Nat) (he1 : elems rowW w ok a1 p1) (hc1 : p1.length ≤ c1) {r : (List Hd)} (h : ragree15 p0 p1 = some r) :
    Ret Try.prog 37 [Value.int .i64 p0, Value.slice a1 p1.length c1] w (fun v w' => ∃ ra0, ∃ rc0, v = Value.slice ra0 r.length rc0 ∧ r.length ≤ rc0 ∧ elems heldW w' (In ok w [] []) ra0 r ∧ St [] w w' []) := by
  rw [ragree15] at h
  have hs100 : St [] w w [] := St.start w
  have he1001 := el0 (L0 := []) (fun b _ => out_nil b) he1
  refine enter (n := 70) Try.func37 rfl rfl rfl ?_
  refine WC.seq ?_
  refine WC.region ?_
  refine WL.val (R.assign (v := Value.slice none 0 0) rfl) rfl ?_
  refine WL.nil ?_
  refine thenN ?_
  refine WC.seq ?_
  refine WC.seq ?_
  refine WC.region ?_
  refine WL.val (R.move (v := Value.int .i64 p0) rfl) rfl ?_
  by_cases hc102 : p0 < 4
  · have h103 := ifT hc102 h
    refine WL.val (R.lssT (k := .i64) (a := p0) (b := 4) un3 rfl rfl hc102) rfl ?_
    refine WL.val (R.move (v := Value.bool true) rfl) rfl ?_
    refine WL.guardN (e := 14) (v := .bool true) rfl rfl rfl rfl ?_
    refine WL.guardN (e := 14) (v := .bool true) rfl rfl rfl rfl ?_
    refine WL.val (R.pickT (v := Value.bool true) rfl rfl) rfl ?_
    refine WL.nil ?_
    refine thenN ?_
    refine WC.condT rfl rfl ?_
    refine WC.seq ?_
    refine WC.region ?_
    refine WL.val (R.assign (v := Value.slice none 0 0) rfl) rfl ?_
    refine WL.nil ?_
    refine thenN ?_
    refine WC.ret ?_
    obtain rfl := Option.some.inj (show some [] = some r from h103)
    exact ret1 (P := Try.prog) (n := 70) (fn := Try.f37) (R := fun v w' => ∃ ra0, ∃ rc0, v = Value.slice ra0 [].length rc0 ∧ [].length ≤ rc0 ∧ elems heldW w' (In ok w [] []) ra0 [] ∧ St [] w w' []) (t := 4) (v := Value.slice none 0 0) rfl rfl rfl ⟨none, 0, rfl, (Nat.le_refl _), elems_nil, hs100⟩
  · have h104 := ifF hc102 h
    refine WL.val (R.lssF (k := .i64) (a := p0) (b := 4) un3 rfl rfl hc102) rfl ?_
    refine WL.val (R.move (v := Value.bool false) rfl) rfl ?_
    refine WL.guardY (e := 14) rfl rfl rfl ?_
    refine WL.val (R.move (v := Value.int .i64 p0) rfl) rfl ?_
    refine WL.guardY (e := 14) rfl rfl rfl ?_
    by_cases hc105 : 16 < p0
    · have h106 := ifT hc105 h104
      refine WL.val (R.gtrT (k := .i64) (a := p0) (b := 16) un3 rfl rfl hc105) rfl ?_
      refine WL.val (R.pickF (v := Value.bool true) rfl rfl) rfl ?_
      refine WL.nil ?_
      refine thenN ?_
      refine WC.condT rfl rfl ?_
      refine WC.seq ?_
      refine WC.region ?_
      refine WL.val (R.assign (v := Value.slice none 0 0) rfl) rfl ?_
      refine WL.nil ?_
      refine thenN ?_
      refine WC.ret ?_
      obtain rfl := Option.some.inj (show some [] = some r from h106)
      exact ret1 (P := Try.prog) (n := 70) (fn := Try.f37) (R := fun v w' => ∃ ra0, ∃ rc0, v = Value.slice ra0 [].length rc0 ∧ [].length ≤ rc0 ∧ elems heldW w' (In ok w [] []) ra0 [] ∧ St [] w w' []) (t := 4) (v := Value.slice none 0 0) rfl rfl rfl ⟨none, 0, rfl, (Nat.le_refl _), elems_nil, hs100⟩
    · have h107 := ifF hc105 h104
      refine WL.val (R.gtrF (k := .i64) (a := p0) (b := 16) un3 rfl rfl hc105) rfl ?_
      refine WL.val (R.pickF (v := Value.bool false) rfl rfl) rfl ?_
      refine WL.nil ?_
      refine thenN ?_
      refine WC.condF rfl rfl ?_
      refine WC.skip ?_
      refine thenN ?_
      refine WC.seq ?_
      refine WC.region ?_
      refine WL.val (R.assign (v := Value.slice none 0 0) rfl) rfl ?_
      refine WL.nil ?_
      refine thenN ?_
      refine WC.seq ?_
      refine WC.seq ?_
      refine WC.region ?_
      refine WL.val (R.assign (v := Value.int .i64 0) rfl) rfl ?_
      refine WL.nil ?_
      refine thenN ?_
      have ht777 := (hs100.here).addNil 202 heldE rfl
      have hs779 := hs100.trans ht777
      have hr2054 := elT ht777 he1001
      obtain ⟨K2046, hK2047, h2048⟩ := kE (G := fun K2046 => ragree15_l1 p0 p1 K2046 1000000 0 ([] : List Hd)) h107
      refine WC.join (fun σ2056 w2055 => ∃ l2043 : List Hd, ∃ a2044, ∃ c2045, σ2056 5 = (Value.slice a2044 l2043.length c2045) ∧ K2046 l2043 = some r ∧ St [] w w2055 [gsl 202 heldE (Value.slice a2044 l2043.length c2045) l2043]) ?_ ?_
      · refine WC.block ?_
        refine WC.loop (T := Nat) (fun k2052 σ2050 w2049 => ∃ i2039 : Int, ∃ l2040 : List Hd, ∃ a2041, ∃ c2042, σ2050 0 = (Value.int .i64 p0) ∧ σ2050 1 = (Value.slice a1 p1.length c1) ∧ σ2050 5 = (Value.slice a2041 l2040.length c2042) ∧ σ2050 6 = (Value.int .i64 i2039) ∧ elems rowW w2049 (In ok w [] [gsl 202 heldE (Value.slice a2041 l2040.length c2042) l2040]) a1 p1 ∧ ragree15_l1 p0 p1 K2046 k2052 i2039 l2040 = some r ∧ St [] w w2049 [gsl 202 heldE (Value.slice a2041 l2040.length c2042) l2040]) (fun k2052 => k2052) 1000000 ⟨0, ([] : List Hd), none, 0, rfl, rfl, rfl, rfl, hr2054, h2048, hs779⟩ ?_
        rintro k2052 σ2050 w2049 ⟨i2039, l2040, a2041, c2042, s2059, s2060, s2061, s2062, he2053, h2058, hs2051⟩
        rcases k2052 with _ | k2052
        · rw [ragree15_l1] at h2058; cases h2058
        rw [ragree15_l1] at h2058
        refine WC.seq ?_
        refine WC.seq ?_
        refine WC.region ?_
        refine WL.val (R.move (v := Value.int .i64 i2039) (by exact s2062)) rfl ?_
        refine WL.val (R.move (v := Value.int .i64 p0) (by exact s2059)) rfl ?_
        by_cases hc2063 : i2039 < p0
        · have h2064 := ifT hc2063 h2058
          refine WL.val (R.lssT (k := .i64) (a := i2039) (b := p0) un3 rfl rfl hc2063) rfl ?_
          refine WL.nil ?_
          refine thenN ?_
          refine WC.condT rfl rfl ?_
          refine WC.skip ?_
          refine thenN ?_
          refine WC.seq ?_
          refine WC.block ?_
          refine WC.seq ?_
          refine WC.region ?_
          have hd2065 : ∀ w, (Instr.build 202 #[]).run Try.prog w = .ok (Value.agg (List.toArray (encH Hd.none))) w := fun _ => by kernel_rfl
          refine WL.val (R.build (vs := []) rfl hd2065) rfl ?_
          refine WL.new (L' := fun b2066 => [gsl 202 heldE (Value.slice a2041 l2040.length c2042) l2040, blk b2066 202 (encH Hd.none)]) (f := fun b2066 => Value.pointer (some ⟨b2066, 0, none⟩)) (X.alloc (c := encH Hd.none) (hs2051.here) zr202 rfl (fun _ => rfl)) rfl ?_
          intro b2066 w2067 ht2072 he2069 hz2070
          have hs2073 := hs2051.trans ht2072
          refine WL.sto (L' := [gsl 202 heldE (Value.slice a2041 l2040.length c2042) l2040, blk b2066 202 (encH Hd.none)]) (X.store (i := 1) (n := 56) (b := b2066) (off := 0) (c := encH Hd.none) (U := 202) (vs := encH Hd.none) (v := Value.agg (List.toArray (encH Hd.none))) (c' := encH Hd.none) (hs2073.here) rfl ag202.size rfl rfl rfl rfl rfl rfl rfl rfl) rfl rfl ?_
          intro w2074 ht2075
          have hs2076 := hs2073.trans ht2075
          refine WL.nil ?_
          refine thenN ?_
          refine WC.seq ?_
          refine WC.seq ?_
          refine WC.region ?_
          refine WL.val (R.assign (v := Value.int .i64 0) rfl) rfl ?_
          refine WL.nil ?_
          refine thenN ?_
          have hr2428 := elT (ht2072.trans ht2075) he2053
          obtain ⟨K2420, hK2421, h2422⟩ := kE (G := fun K2420 => ragree15_l2 p0 p1 i2039 K2420 1000000 0 Hd.none) h2064
          refine WC.join (fun σ2430 w2429 => ∃ d2419 : Hd, σ2430 0 = (Value.int .i64 p0) ∧ σ2430 1 = (Value.slice a1 p1.length c1) ∧ σ2430 5 = (Value.slice a2041 l2040.length c2042) ∧ σ2430 6 = (Value.int .i64 i2039) ∧ σ2430 7 = (Value.pointer (some ⟨b2066, 0, none⟩)) ∧ elems rowW w2429 (In ok w [] [gsl 202 heldE (Value.slice a2041 l2040.length c2042) l2040, blk b2066 202 (encH d2419)]) a1 p1 ∧ K2420 d2419 = some r ∧ St [] w w2429 [gsl 202 heldE (Value.slice a2041 l2040.length c2042) l2040, blk b2066 202 (encH d2419)]) ?_ ?_
          · refine WC.block ?_
            refine WC.loop (T := Nat) (fun k2426 σ2424 w2423 => ∃ i2417 : Int, ∃ d2418 : Hd, σ2424 0 = (Value.int .i64 p0) ∧ σ2424 1 = (Value.slice a1 p1.length c1) ∧ σ2424 5 = (Value.slice a2041 l2040.length c2042) ∧ σ2424 6 = (Value.int .i64 i2039) ∧ σ2424 7 = (Value.pointer (some ⟨b2066, 0, none⟩)) ∧ σ2424 8 = (Value.int .i64 i2417) ∧ elems rowW w2423 (In ok w [] [gsl 202 heldE (Value.slice a2041 l2040.length c2042) l2040, blk b2066 202 (encH d2418)]) a1 p1 ∧ ragree15_l2 p0 p1 i2039 K2420 k2426 i2417 d2418 = some r ∧ St [] w w2423 [gsl 202 heldE (Value.slice a2041 l2040.length c2042) l2040, blk b2066 202 (encH d2418)]) (fun k2426 => k2426) 1000000 ⟨0, Hd.none, s2059, s2060, s2061, s2062, rfl, rfl, hr2428, h2422, hs2076⟩ ?_
            rintro k2426 σ2424 w2423 ⟨i2417, d2418, s2434, s2435, s2436, s2437, s2438, s2439, he2427, h2433, hs2425⟩
            rcases k2426 with _ | k2426
            · rw [ragree15_l2] at h2433; cases h2433
            rw [ragree15_l2] at h2433
            refine WC.seq ?_
            refine WC.seq ?_
            refine WC.region ?_
            refine WL.val (R.move (v := Value.int .i64 i2417) (by exact s2439)) rfl ?_
            refine WL.val (R.move (v := Value.int .i64 p0) (by exact s2434)) rfl ?_
            by_cases hc2440 : i2417 < p0
            · have h2441 := ifT hc2440 h2433
              refine WL.val (R.lssT (k := .i64) (a := i2417) (b := p0) un3 rfl rfl hc2440) rfl ?_
              refine WL.nil ?_
              refine thenN ?_
              refine WC.condT rfl rfl ?_
              refine WC.skip ?_
              refine thenN ?_
              refine WC.seq ?_
              refine WC.block ?_
              refine WC.seq ?_
              refine WC.region ?_
              refine WL.val (R.move (v := Value.slice a1 p1.length c1) (by exact s2435)) rfl ?_
              refine WL.val (R.move (v := Value.int .i64 i2417) (by exact s2439)) rfl ?_
              refine WL.val (R.move (v := Value.int .i64 i2039) (by exact s2437)) rfl ?_
              obtain ⟨y2442, hx2443, h2444⟩ := ob (o := rhas15 p1 i2417 i2039) h2441
              refine WL.call (rhas15_ok _ _ p1 i2417 i2039 _ _ he2427 hc1 hx2443) (R.call (vs := [Value.slice a1 p1.length c1, Value.int .i64 i2417, Value.int .i64 i2039]) (caps := []) bo103 rfl rfl) rfl ?_
              rintro v2447 w2448 ⟨rfl, ht2445⟩
              have ht2446 := hs2425.call (N := [gsl 202 heldE (Value.slice a2041 l2040.length c2042) l2040, blk b2066 202 (encH d2418)]) (M := []) (List.Perm.refl _) ht2445
              have hs2449 := hs2425.trans ht2446
              refine WL.new (L' := fun b2450 => [gsl 202 heldE (Value.slice a2041 l2040.length c2042) l2040, blk b2066 202 (encH d2418), blk b2450 202 (encH Hd.none)]) (f := fun b2450 => Value.pointer (some ⟨b2450, 0, none⟩)) (X.alloc (c := encH Hd.none) (hs2449.here) zr202 rfl (fun _ => rfl)) rfl ?_
              intro b2450 w2451 ht2456 he2453 hz2454
              have hs2457 := hs2449.trans ht2456
              refine WL.sto (L' := [gsl 202 heldE (Value.slice a2041 l2040.length c2042) l2040, blk b2066 202 (encH d2418), blk b2450 202 (encH y2442)]) (X.store (i := 2) (n := 56) (b := b2450) (off := 0) (c := encH Hd.none) (U := 202) (vs := encH y2442) (v := Value.agg (List.toArray (encH y2442))) (c' := encH y2442) (hs2457.here) rfl ag202.size rfl rfl rfl rfl rfl rfl rfl rfl) rfl rfl ?_
              intro w2458 ht2459
              have hs2460 := hs2457.trans ht2459
              refine WL.nil ?_
              refine thenN ?_
              refine WC.seq ?_
              refine WC.seq ?_
              refine WC.region ?_
              refine WL.val (R.move (v := Value.int .i64 i2417) (by exact s2439)) rfl ?_
              refine WL.val (R.move (v := Value.int .i64 i2039) (by exact s2437)) rfl ?_
              by_cases hc2461 : i2417 = i2039
              · have h2462 := ifT hc2461 h2444
                refine WL.val (R.eqlT (k := .i64) (a := i2417) (b := i2039) un3 rfl rfl hc2461) rfl ?_
                refine WL.val (R.move (v := Value.bool true) rfl) rfl ?_
                refine WL.guardN (e := 36) (v := .bool true) rfl rfl rfl rfl ?_
                refine WL.guardN (e := 36) (v := .bool true) rfl rfl rfl rfl ?_
                refine WL.guardN (e := 36) (v := .bool true) rfl rfl rfl rfl ?_
                refine WL.val (R.pickT (v := Value.bool true) rfl rfl) rfl ?_
                refine WL.nil ?_
                refine thenN ?_
                refine WC.condT rfl rfl ?_
                refine WC.exit ?_
                refine thenE ?_
                refine blockHit ?_
                refine thenN ?_
                refine WC.region ?_
                refine WL.val (R.move (v := Value.int .i64 i2417) (by exact s2439)) rfl ?_
                obtain ⟨hg2463, h2464⟩ := ckE (c := -9223372036854775808 ≤ i2417 + 1 ∧ i2417 + 1 ≤ 9223372036854775807) h2462
                refine WL.val (R.add (a := i2417) (b := 1) (z := i2417 + 1) rfl rfl (w64e rfl hg2463.1 hg2463.2)) rfl ?_
                refine WL.val (R.assign (v := Value.int .i64 (i2417 + 1)) rfl) rfl ?_
                refine WL.nil ?_
                have ht2465 := (hs2460.here).perm (L' := [gsl 202 heldE (Value.slice a2041 l2040.length c2042) l2040, blk b2066 202 (encH d2418)]) (G := [blk b2450 202 (encH y2442)]) ((List.Perm.refl _))
                have hs2466 := hs2460.trans ht2465
                have hr2467 := elT (((ht2446.trans ht2456).trans ht2459).trans ht2465) he2427
                exact roundEnd (s := k2426) ⟨i2417 + 1, d2418, s2434, s2435, s2436, s2437, s2438, rfl, hr2467, h2464, hs2466⟩ (Nat.lt_succ_self _)
              · have h2468 := ifF hc2461 h2444
                refine WL.val (R.eqlF (k := .i64) (a := i2417) (b := i2039) un3 rfl rfl hc2461) rfl ?_
                refine WL.val (R.move (v := Value.bool false) rfl) rfl ?_
                refine WL.guardY (e := 36) rfl rfl rfl ?_
                refine WL.val (R.fieldAddr (o := 0) (o' := 0) fa202_0 rfl rfl) rfl ?_
                refine WL.guardY (e := 36) rfl rfl rfl ?_
                refine WL.val (R.loadL (v := Value.bool y2442.is) lf4 rfl (hs2460.at (i := 2) (off := 0) (n := 1) (cs := [Value.bool y2442.is]) rfl rfl rfl)) rfl ?_
                refine WL.guardY (e := 36) rfl rfl rfl ?_
                refine WL.val (R.not (b := y2442.is) rfl) rfl ?_
                refine WL.val (R.pickF (v := Value.bool (!y2442.is)) rfl rfl) rfl ?_
                refine WL.nil ?_
                refine thenN ?_
                by_cases hc2469 : y2442.is = true
                · have h2470 := ifT hc2469 h2468
                  have hk2471 : (!y2442.is) = false := by simp [hc2469]
                  refine WC.condF (Eq.trans (show _ = Value.bool (!y2442.is) from rfl) (congrArg Value.bool hk2471)) rfl ?_
                  refine WC.skip ?_
                  refine thenN ?_
                  refine WC.seq ?_
                  refine WC.region ?_
                  refine WL.val (R.assign (v := Value.int .i64 0) rfl) rfl ?_
                  refine WL.nil ?_
                  refine thenN ?_
                  refine WC.seq ?_
                  refine WC.seq ?_
                  refine WC.region ?_
                  refine WL.val (R.assign (v := Value.int .i64 0) rfl) rfl ?_
                  refine WL.nil ?_
                  refine thenN ?_
                  have hr2539 := elT ((ht2446.trans ht2456).trans ht2459) he2427
                  obtain ⟨K2531, hK2532, h2533⟩ := kE (G := fun K2531 => ragree15_l3 p0 i2039 p1 y2442 K2531 1000000 0 0) h2470
                  refine WC.join (fun σ2541 w2540 => ∃ i2530 : Int, σ2541 0 = (Value.int .i64 p0) ∧ σ2541 1 = (Value.slice a1 p1.length c1) ∧ σ2541 5 = (Value.slice a2041 l2040.length c2042) ∧ σ2541 6 = (Value.int .i64 i2039) ∧ σ2541 7 = (Value.pointer (some ⟨b2066, 0, none⟩)) ∧ σ2541 8 = (Value.int .i64 i2417) ∧ σ2541 9 = (Value.pointer (some ⟨b2450, 0, none⟩)) ∧ σ2541 10 = (Value.int .i64 i2530) ∧ elems rowW w2540 (In ok w [] [gsl 202 heldE (Value.slice a2041 l2040.length c2042) l2040, blk b2066 202 (encH d2418), blk b2450 202 (encH y2442)]) a1 p1 ∧ K2531 i2530 = some r ∧ St [] w w2540 [gsl 202 heldE (Value.slice a2041 l2040.length c2042) l2040, blk b2066 202 (encH d2418), blk b2450 202 (encH y2442)]) ?_ ?_
                  · refine WC.block ?_
                    refine WC.loop (T := Nat) (fun k2537 σ2535 w2534 => ∃ i2528 : Int, ∃ i2529 : Int, σ2535 0 = (Value.int .i64 p0) ∧ σ2535 1 = (Value.slice a1 p1.length c1) ∧ σ2535 5 = (Value.slice a2041 l2040.length c2042) ∧ σ2535 6 = (Value.int .i64 i2039) ∧ σ2535 7 = (Value.pointer (some ⟨b2066, 0, none⟩)) ∧ σ2535 8 = (Value.int .i64 i2417) ∧ σ2535 9 = (Value.pointer (some ⟨b2450, 0, none⟩)) ∧ σ2535 10 = (Value.int .i64 i2528) ∧ σ2535 11 = (Value.int .i64 i2529) ∧ elems rowW w2534 (In ok w [] [gsl 202 heldE (Value.slice a2041 l2040.length c2042) l2040, blk b2066 202 (encH d2418), blk b2450 202 (encH y2442)]) a1 p1 ∧ ragree15_l3 p0 i2039 p1 y2442 K2531 k2537 i2528 i2529 = some r ∧ St [] w w2534 [gsl 202 heldE (Value.slice a2041 l2040.length c2042) l2040, blk b2066 202 (encH d2418), blk b2450 202 (encH y2442)]) (fun k2537 => k2537) 1000000 ⟨0, 0, s2434, s2435, s2436, s2437, s2438, s2439, rfl, rfl, rfl, hr2539, h2533, hs2460⟩ ?_
                    rintro k2537 σ2535 w2534 ⟨i2528, i2529, s2545, s2546, s2547, s2548, s2549, s2550, s2551, s2552, s2553, he2538, h2544, hs2536⟩
                    rcases k2537 with _ | k2537
                    · rw [ragree15_l3] at h2544; cases h2544
                    rw [ragree15_l3] at h2544
                    refine WC.seq ?_
                    refine WC.seq ?_
                    refine WC.region ?_
                    refine WL.val (R.move (v := Value.int .i64 i2529) (by exact s2553)) rfl ?_
                    refine WL.val (R.move (v := Value.int .i64 p0) (by exact s2545)) rfl ?_
                    by_cases hc2554 : i2529 < p0
                    · have h2555 := ifT hc2554 h2544
                      refine WL.val (R.lssT (k := .i64) (a := i2529) (b := p0) un3 rfl rfl hc2554) rfl ?_
                      refine WL.nil ?_
                      refine thenN ?_
                      refine WC.condT rfl rfl ?_
                      refine WC.skip ?_
                      refine thenN ?_
                      refine WC.seq ?_
                      refine WC.block ?_
                      refine WC.seq ?_
                      refine WC.drawE mixed (NP.then (NP.block (NP.then (NP.then (NP.block (NP.join (NP.then (NP.block (NP.then (NP.then (NP.block (NP.join (NP.then (NP.block (NP.then (NP.then (NP.block (NP.join (NP.then NP.rq))))))))))))))))))) ?_
                      have ht2556 := (hs2536.here).ext (Ext.drew _)
                      have hs2557 := hs2536.trans ht2556
                      refine WE.take 0 rfl (by decide +kernel) (by decide +kernel) (by decide +kernel) (by decide +kernel) rfl rfl (fun wq hq => R.move (v := Value.int .i64 i2529) (by exact s2553)) ?_
                      refine WE.take 1 rfl (by decide +kernel) (by decide +kernel) (by decide +kernel) (by decide +kernel) rfl rfl (fun wq hq => R.move (v := Value.int .i64 i2039) (by exact s2548)) ?_
                      by_cases hc2558 : i2529 = i2039
                      · have h2559 := ifT hc2558 h2555
                        refine WE.take 2 rfl (by decide +kernel) (by decide +kernel) (by decide +kernel) (by decide +kernel) rfl rfl (fun wq hq => R.neqF (k := .i64) (a := i2529) (b := i2039) un3 rfl rfl (not_not_intro hc2558)) ?_
                        refine WE.take 3 rfl (by decide +kernel) (by decide +kernel) (by decide +kernel) (by decide +kernel) rfl rfl (fun wq hq => R.move (v := Value.bool false) rfl) ?_
                        refine WE.takeN 4 (e := 49) (v := .bool false) rfl (by decide +kernel) (by decide +kernel) (by decide +kernel) (by decide +kernel) rfl rfl rfl rfl rfl ?_
                        refine WE.takeN 5 (e := 49) (v := .bool false) rfl (by decide +kernel) (by decide +kernel) (by decide +kernel) (by decide +kernel) rfl rfl rfl rfl rfl ?_
                        refine WE.takeN 6 (e := 49) (v := .bool false) rfl (by decide +kernel) (by decide +kernel) (by decide +kernel) (by decide +kernel) rfl rfl rfl rfl rfl ?_
                        refine WE.takeN 7 (e := 49) (v := .bool false) rfl (by decide +kernel) (by decide +kernel) (by decide +kernel) (by decide +kernel) rfl rfl rfl rfl rfl ?_
                        refine WE.takeN 8 (e := 49) (v := .bool false) rfl (by decide +kernel) (by decide +kernel) (by decide +kernel) (by decide +kernel) rfl rfl rfl rfl rfl ?_
                        refine WE.takeN 9 (e := 49) (v := .bool false) rfl (by decide +kernel) (by decide +kernel) (by decide +kernel) (by decide +kernel) rfl rfl rfl rfl rfl ?_
                        refine WE.take 10 rfl (by decide +kernel) (by decide +kernel) (by decide +kernel) (by decide +kernel) rfl rfl (fun wq hq => R.pickF (v := Value.bool false) rfl rfl) ?_
                        refine WE.done (by decide +kernel) ?_
                        refine thenN ?_
                        refine WC.condF rfl rfl ?_
                        refine WC.skip ?_
                        refine blockN ?_
                        refine thenN ?_
                        refine WC.region ?_
                        refine WL.val (R.move (v := Value.int .i64 i2529) (by exact s2553)) rfl ?_
                        obtain ⟨hg2560, h2561⟩ := ckE (c := -9223372036854775808 ≤ i2529 + 1 ∧ i2529 + 1 ≤ 9223372036854775807) h2559
                        refine WL.val (R.add (a := i2529) (b := 1) (z := i2529 + 1) rfl rfl (w64e rfl hg2560.1 hg2560.2)) rfl ?_
                        refine WL.val (R.assign (v := Value.int .i64 (i2529 + 1)) rfl) rfl ?_
                        refine WL.nil ?_
                        have hr2562 := elT ht2556 he2538
                        exact roundEnd (s := k2537) ⟨i2528, i2529 + 1, s2545, s2546, s2547, s2548, s2549, s2550, s2551, s2552, rfl, hr2562, h2561, hs2557⟩ (Nat.lt_succ_self _)
                      · have h2563 := ifF hc2558 h2555
                        refine WE.take 2 rfl (by decide +kernel) (by decide +kernel) (by decide +kernel) (by decide +kernel) rfl rfl (fun wq hq => R.neqT (k := .i64) (a := i2529) (b := i2039) un3 rfl rfl hc2558) ?_
                        refine WE.take 3 rfl (by decide +kernel) (by decide +kernel) (by decide +kernel) (by decide +kernel) rfl rfl (fun wq hq => R.move (v := Value.bool true) rfl) ?_
                        refine WE.takeY 4 (e := 49) rfl (by decide +kernel) (by decide +kernel) (by decide +kernel) (by decide +kernel) rfl rfl rfl rfl rfl (fun wq hq => R.move (v := Value.slice a1 p1.length c1) (by exact s2546)) ?_
                        refine WE.takeY 5 (e := 49) rfl (by decide +kernel) (by decide +kernel) (by decide +kernel) (by decide +kernel) rfl rfl rfl rfl rfl (fun wq hq => R.move (v := Value.int .i64 i2529) (by exact s2553)) ?_
                        refine WE.takeY 6 (e := 49) rfl (by decide +kernel) (by decide +kernel) (by decide +kernel) (by decide +kernel) rfl rfl rfl rfl rfl (fun wq hq => R.move (v := Value.int .i64 i2039) (by exact s2548)) ?_
                        refine WE.takeY 8 (e := 49) rfl (by decide +kernel) (by decide +kernel) (by decide +kernel) (by decide +kernel) rfl rfl rfl rfl rfl (fun wq hq => R.loadA (cs := encH y2442) (n := 56) ag202 (by exact s2551) ((hs2557.ext hq).at (i := 2) (off := 0) (n := 56) (cs := encH y2442) rfl rfl rfl) rfl) ?_
                        obtain ⟨y2564, hx2565, h2566⟩ := ob (o := rhas15 p1 i2529 i2039) h2563
                        have hr2567 := elT ht2556 he2538
                        refine WE.callY 7 (e := 49) (by decide +kernel) rfl rfl rfl rfl rfl rfl (rhas15_ok _ _ p1 i2529 i2039 _ _ hr2567 hc1 hx2565) (R.call (vs := [Value.slice a1 p1.length c1, Value.int .i64 i2529, Value.int .i64 i2039]) (caps := []) bo103 rfl rfl) ?_
                        rintro v2570 w2571 ⟨rfl, ht2568⟩
                        refine ⟨.inr (show Ext _ _ from ht2568.kept), ?_⟩
                        have ht2569 := hs2557.call (N := [gsl 202 heldE (Value.slice a2041 l2040.length c2042) l2040, blk b2066 202 (encH d2418), blk b2450 202 (encH y2442)]) (M := []) (List.Perm.refl _) ht2568
                        have hs2572 := hs2557.trans ht2569
                        refine WE.takeY 9 (e := 49) rfl (by decide +kernel) (by decide +kernel) (by decide +kernel) (by decide +kernel) rfl rfl rfl rfl rfl (fun wq hq => R.eqRHeld (a := y2564) (b := y2442) rfl rfl) ?_
                        refine WE.take 10 rfl (by decide +kernel) (by decide +kernel) (by decide +kernel) (by decide +kernel) rfl rfl (fun wq hq => R.pickT (v := Value.bool (decide (y2564 = y2442))) rfl rfl) ?_
                        refine WE.done (by decide +kernel) ?_
                        refine thenN ?_
                        by_cases hc2573 : y2564 = y2442
                        · have h2574 := ifT hc2573 h2566
                          refine WC.condT (Eq.trans (show _ = Value.bool (decide (y2564 = y2442)) from rfl) (congrArg Value.bool (decide_eq_true hc2573))) rfl ?_
                          refine WC.region ?_
                          refine WL.val (R.move (v := Value.int .i64 i2528) (by exact s2552)) rfl ?_
                          obtain ⟨hg2575, h2576⟩ := ckE (c := -9223372036854775808 ≤ i2528 + 1 ∧ i2528 + 1 ≤ 9223372036854775807) h2574
                          refine WL.val (R.add (a := i2528) (b := 1) (z := i2528 + 1) rfl rfl (w64e rfl hg2575.1 hg2575.2)) rfl ?_
                          refine WL.val (R.assign (v := Value.int .i64 (i2528 + 1)) rfl) rfl ?_
                          refine WL.nil ?_
                          refine blockN ?_
                          refine thenN ?_
                          refine WC.region ?_
                          refine WL.val (R.move (v := Value.int .i64 i2529) (by exact s2553)) rfl ?_
                          obtain ⟨hg2577, h2578⟩ := ckE (c := -9223372036854775808 ≤ i2529 + 1 ∧ i2529 + 1 ≤ 9223372036854775807) h2576
                          refine WL.val (R.add (a := i2529) (b := 1) (z := i2529 + 1) rfl rfl (w64e rfl hg2577.1 hg2577.2)) rfl ?_
                          refine WL.val (R.assign (v := Value.int .i64 (i2529 + 1)) rfl) rfl ?_
                          refine WL.nil ?_
                          have hr2579 := elT ht2569 hr2567
                          exact roundEnd (s := k2537) ⟨i2528 + 1, i2529 + 1, s2545, s2546, s2547, s2548, s2549, s2550, s2551, rfl, rfl, hr2579, h2578, hs2572⟩ (Nat.lt_succ_self _)
                        · have h2580 := ifF hc2573 h2566
                          refine WC.condF (Eq.trans (show _ = Value.bool (decide (y2564 = y2442)) from rfl) (congrArg Value.bool (decide_eq_false hc2573))) rfl ?_
                          refine WC.skip ?_
                          refine blockN ?_
                          refine thenN ?_
                          refine WC.region ?_
                          refine WL.val (R.move (v := Value.int .i64 i2529) (by exact s2553)) rfl ?_
                          obtain ⟨hg2581, h2582⟩ := ckE (c := -9223372036854775808 ≤ i2529 + 1 ∧ i2529 + 1 ≤ 9223372036854775807) h2580
                          refine WL.val (R.add (a := i2529) (b := 1) (z := i2529 + 1) rfl rfl (w64e rfl hg2581.1 hg2581.2)) rfl ?_
                          refine WL.val (R.assign (v := Value.int .i64 (i2529 + 1)) rfl) rfl ?_
                          refine WL.nil ?_
                          have hr2583 := elT ht2569 hr2567
                          exact roundEnd (s := k2537) ⟨i2528, i2529 + 1, s2545, s2546, s2547, s2548, s2549, s2550, s2551, s2552, rfl, hr2583, h2582, hs2572⟩ (Nat.lt_succ_self _)
                    · have h2584 := ifF hc2554 h2544
                      refine WL.val (R.lssF (k := .i64) (a := i2529) (b := p0) un3 rfl rfl hc2554) rfl ?_
                      refine WL.nil ?_
                      refine thenN ?_
                      refine WC.condF rfl rfl ?_
                      refine WC.exit ?_
                      refine thenE ?_
                      refine thenE ?_
                      refine blockHit ?_
                      exact joinI ⟨i2528, s2545, s2546, s2547, s2548, s2549, s2550, s2551, s2552, he2538, h2584, hs2536⟩
                  · rintro σ2541 w2540 ⟨i2530, s2586, s2587, s2588, s2589, s2590, s2591, s2592, s2593, he2543, h2585, hs2542⟩
                    subst hK2532
                    refine thenN ?_
                    refine WC.seq ?_
                    refine WC.region ?_
                    refine WL.val (R.move (v := Value.int .i64 i2530) (by exact s2593)) rfl ?_
                    obtain ⟨hg2594, h2595⟩ := ckE (c := -9223372036854775808 ≤ 2 * i2530 ∧ 2 * i2530 ≤ 9223372036854775807) h2585
                    refine WL.val (R.mul (a := 2) (b := i2530) (z := 2 * i2530) rfl rfl (w64e rfl hg2594.1 hg2594.2)) rfl ?_
                    refine WL.val (R.move (v := Value.int .i64 p0) (by exact s2586)) rfl ?_
                    obtain ⟨hg2596, h2597⟩ := ckE (c := -9223372036854775808 ≤ p0 - 1 ∧ p0 - 1 ≤ 9223372036854775807) h2595
                    refine WL.val (R.sub (a := p0) (b := 1) (z := p0 - 1) rfl rfl (w64e rfl hg2596.1 hg2596.2)) rfl ?_
                    by_cases hc2598 : (p0 - 1) < (2 * i2530)
                    · have h2599 := ifT hc2598 h2597
                      refine WL.val (R.gtrT (k := .i64) (a := 2 * i2530) (b := p0 - 1) un3 rfl rfl hc2598) rfl ?_
                      refine WL.nil ?_
                      refine thenN ?_
                      refine WC.condT rfl rfl ?_
                      refine WC.region ?_
                      refine WL.val (R.loadA (cs := encH y2442) (n := 56) ag202 (by exact s2592) (hs2542.at (i := 2) (off := 0) (n := 56) (cs := encH y2442) rfl rfl rfl) rfl) rfl ?_
                      refine WL.sto (L' := [gsl 202 heldE (Value.slice a2041 l2040.length c2042) l2040, blk b2066 202 (encH y2442), blk b2450 202 (encH y2442)]) (X.store (i := 1) (n := 56) (b := b2066) (off := 0) (c := encH d2418) (U := 202) (vs := encH y2442) (v := Value.agg (List.toArray (encH y2442))) (c' := encH y2442) (hs2542.here) rfl ag202.size (by exact s2590) rfl rfl rfl rfl rfl rfl rfl) rfl rfl ?_
                      intro w2600 ht2601
                      have hs2602 := hs2542.trans ht2601
                      refine WL.nil ?_
                      refine blockN ?_
                      refine thenN ?_
                      refine WC.region ?_
                      refine WL.val (R.move (v := Value.int .i64 i2417) (by exact s2591)) rfl ?_
                      obtain ⟨hg2603, h2604⟩ := ckE (c := -9223372036854775808 ≤ i2417 + 1 ∧ i2417 + 1 ≤ 9223372036854775807) h2599
                      refine WL.val (R.add (a := i2417) (b := 1) (z := i2417 + 1) rfl rfl (w64e rfl hg2603.1 hg2603.2)) rfl ?_
                      refine WL.val (R.assign (v := Value.int .i64 (i2417 + 1)) rfl) rfl ?_
                      refine WL.nil ?_
                      have ht2605 := (hs2602.here).perm (L' := [gsl 202 heldE (Value.slice a2041 l2040.length c2042) l2040, blk b2066 202 (encH y2442)]) (G := [blk b2450 202 (encH y2442)]) ((List.Perm.refl _))
                      have hs2606 := hs2602.trans ht2605
                      have hr2607 := elT (ht2601.trans ht2605) he2543
                      exact roundEnd (s := k2426) ⟨i2417 + 1, y2442, s2586, s2587, s2588, s2589, s2590, rfl, hr2607, h2604, hs2606⟩ (Nat.lt_succ_self _)
                    · have h2608 := ifF hc2598 h2597
                      refine WL.val (R.gtrF (k := .i64) (a := 2 * i2530) (b := p0 - 1) un3 rfl rfl hc2598) rfl ?_
                      refine WL.nil ?_
                      refine thenN ?_
                      refine WC.condF rfl rfl ?_
                      refine WC.skip ?_
                      refine blockN ?_
                      refine thenN ?_
                      refine WC.region ?_
                      refine WL.val (R.move (v := Value.int .i64 i2417) (by exact s2591)) rfl ?_
                      obtain ⟨hg2609, h2610⟩ := ckE (c := -9223372036854775808 ≤ i2417 + 1 ∧ i2417 + 1 ≤ 9223372036854775807) h2608
                      refine WL.val (R.add (a := i2417) (b := 1) (z := i2417 + 1) rfl rfl (w64e rfl hg2609.1 hg2609.2)) rfl ?_
                      refine WL.val (R.assign (v := Value.int .i64 (i2417 + 1)) rfl) rfl ?_
                      refine WL.nil ?_
                      have ht2611 := (hs2542.here).perm (L' := [gsl 202 heldE (Value.slice a2041 l2040.length c2042) l2040, blk b2066 202 (encH d2418)]) (G := [blk b2450 202 (encH y2442)]) ((List.Perm.refl _))
                      have hs2612 := hs2542.trans ht2611
                      have hr2613 := elT ht2611 he2543
                      exact roundEnd (s := k2426) ⟨i2417 + 1, d2418, s2586, s2587, s2588, s2589, s2590, rfl, hr2613, h2610, hs2612⟩ (Nat.lt_succ_self _)
                · have h2614 := ifF hc2469 h2468
                  have hk2615 : (!y2442.is) = true := by simp [hc2469]
                  refine WC.condT (Eq.trans (show _ = Value.bool (!y2442.is) from rfl) (congrArg Value.bool hk2615)) rfl ?_
                  refine WC.exit ?_
                  refine thenE ?_
                  refine blockHit ?_
                  refine thenN ?_
                  refine WC.region ?_
                  refine WL.val (R.move (v := Value.int .i64 i2417) (by exact s2439)) rfl ?_
                  obtain ⟨hg2616, h2617⟩ := ckE (c := -9223372036854775808 ≤ i2417 + 1 ∧ i2417 + 1 ≤ 9223372036854775807) h2614
                  refine WL.val (R.add (a := i2417) (b := 1) (z := i2417 + 1) rfl rfl (w64e rfl hg2616.1 hg2616.2)) rfl ?_
                  refine WL.val (R.assign (v := Value.int .i64 (i2417 + 1)) rfl) rfl ?_
                  refine WL.nil ?_
                  have ht2618 := (hs2460.here).perm (L' := [gsl 202 heldE (Value.slice a2041 l2040.length c2042) l2040, blk b2066 202 (encH d2418)]) (G := [blk b2450 202 (encH y2442)]) ((List.Perm.refl _))
                  have hs2619 := hs2460.trans ht2618
                  have hr2620 := elT (((ht2446.trans ht2456).trans ht2459).trans ht2618) he2427
                  exact roundEnd (s := k2426) ⟨i2417 + 1, d2418, s2434, s2435, s2436, s2437, s2438, rfl, hr2620, h2617, hs2619⟩ (Nat.lt_succ_self _)
            · have h2621 := ifF hc2440 h2433
              refine WL.val (R.lssF (k := .i64) (a := i2417) (b := p0) un3 rfl rfl hc2440) rfl ?_
              refine WL.nil ?_
              refine thenN ?_
              refine WC.condF rfl rfl ?_
              refine WC.exit ?_
              refine thenE ?_
              refine thenE ?_
              refine blockHit ?_
              exact joinI ⟨d2418, s2434, s2435, s2436, s2437, s2438, he2427, h2621, hs2425⟩
          · rintro σ2430 w2429 ⟨d2419, s2623, s2624, s2625, s2626, s2627, he2432, h2622, hs2431⟩
            subst hK2421
            refine thenN ?_
            refine WC.region ?_
            refine WL.val (R.move (v := Value.slice a2041 l2040.length c2042) (by exact s2625)) rfl ?_
            refine WL.val (R.loadA (cs := encH d2419) (n := 56) ag202 (by exact s2627) (hs2431.at (i := 1) (off := 0) (n := 56) (cs := encH d2419) rfl rfl rfl) rfl) rfl ?_
            have hd2633 : ∀ w : World, (Instr.buildSlice 31 1 #[(0, Value.agg (List.toArray (encH d2419)))]).run Try.prog w = .ok (.slice (some ⟨w.heap.size, 0, none⟩) 1 1) { w with heap := w.heap.push (.cells (List.toArray (encH d2419)) 202) } := fun _ => by kernel_rfl
            refine WL.new (L' := fun b2628 => [gsl 202 heldE (Value.slice a2041 l2040.length c2042) l2040, blk b2066 202 (encH d2419), blk b2628 202 (encH d2419)]) (f := fun b2628 => Value.slice (some ⟨b2628, 0, none⟩) 1 1) (X.buildSlice (c := (encH d2419)) (vs := [(0, Value.agg (List.toArray (encH d2419)))]) (hs2431.here) rfl hd2633 (fun _ => rfl)) rfl ?_
            intro b2628 w2629 ht2635 he2631 hz2632
            have hs2636 := hs2431.trans ht2635
            obtain ⟨hg2637, h2638⟩ := ckE (c := l2040.length < 1000000) h2622
            refine WL.grow (L' := fun v2639 => [gsl 202 heldE v2639 (l2040 ++ [d2419]), blk b2066 202 (encH d2419), blk b2628 202 (encH d2419)]) (X.append (i := 0) (e := heldE) (xs := l2040) (ys := [d2419]) (ad := ⟨b2628, 0, none⟩) (m := 1) (c := 1) (hs2636.here) sl31 rfl rfl rfl rfl ((hs2636.here).at (i := 2) (off := 0) (n := 56) (cs := flat heldE [d2419]) rfl rfl rfl) rfl rfl (room (n := 1) hg2637 rfl (by decide)) (room63 (n := 1) hg2637 rfl (by decide)) (fun _ => rfl)) rfl ?_
            intro v2639 w2640 ht2641
            obtain ⟨a2642, c2643, hv2644⟩ := gsl_sl (ht2641.get (i := 0) rfl)
            subst hv2644
            have hs2645 := hs2636.trans ht2641
            refine WL.val (R.assign (v := Value.slice a2642 ((l2040 ++ [d2419]).length) c2643) rfl) rfl ?_
            refine WL.nil ?_
            refine blockN ?_
            refine thenN ?_
            refine WC.region ?_
            refine WL.val (R.move (v := Value.int .i64 i2039) (by exact s2626)) rfl ?_
            obtain ⟨hg2646, h2647⟩ := ckE (c := -9223372036854775808 ≤ i2039 + 1 ∧ i2039 + 1 ≤ 9223372036854775807) h2638
            refine WL.val (R.add (a := i2039) (b := 1) (z := i2039 + 1) rfl rfl (w64e rfl hg2646.1 hg2646.2)) rfl ?_
            refine WL.val (R.assign (v := Value.int .i64 (i2039 + 1)) rfl) rfl ?_
            refine WL.nil ?_
            have ht2648 := (hs2645.here).perm (L' := [gsl 202 heldE (Value.slice a2642 ((l2040 ++ [d2419]).length) c2643) (l2040 ++ [d2419])]) (G := [blk b2066 202 (encH d2419), blk b2628 202 (encH d2419)]) ((List.Perm.refl _))
            have hs2649 := hs2645.trans ht2648
            have hr2650 := elT ((ht2635.trans ht2641).trans ht2648) he2432
            exact roundEnd (s := k2052) ⟨i2039 + 1, l2040 ++ [d2419], a2642, c2643, s2623, s2624, rfl, rfl, hr2650, h2647, hs2649⟩ (Nat.lt_succ_self _)
        · have h2651 := ifF hc2063 h2058
          refine WL.val (R.lssF (k := .i64) (a := i2039) (b := p0) un3 rfl rfl hc2063) rfl ?_
          refine WL.nil ?_
          refine thenN ?_
          refine WC.condF rfl rfl ?_
          refine WC.exit ?_
          refine thenE ?_
          refine thenE ?_
          refine blockHit ?_
          exact joinI ⟨l2040, a2041, c2042, s2061, h2651, hs2051⟩
      · rintro σ2056 w2055 ⟨l2043, a2044, c2045, s2653, h2652, hs2057⟩
        subst hK2047
        refine thenN ?_
        refine WC.seq ?_
        refine WC.region ?_
        refine WL.val (R.move (v := Value.slice a2044 l2043.length c2045) (by exact s2653)) rfl ?_
        refine WL.val (R.assign (v := Value.slice a2044 l2043.length c2045) rfl) rfl ?_
        refine WL.nil ?_
        refine thenN ?_
        refine WC.ret ?_
        obtain ⟨a2654, c2655, hv2656, hl2657, he2658⟩ := el_freeze (k := heldW) (ok := fun _ => False) hs2057 (List.Perm.refl _) rfl (fun _ _ _ => ⟨trivial, rfl⟩)
        obtain ⟨rfl, rfl⟩ : a2044 = a2654 ∧ c2045 = c2655 := ⟨(Value.slice.inj hv2656).1, (Value.slice.inj hv2656).2.2⟩
        have ht2659 := (hs2057.here).perm (L' := []) (G := [gsl 202 heldE (Value.slice a2044 l2043.length c2045) l2043]) ((List.Perm.refl _))
        have hs2660 := hs2057.trans ht2659
        obtain rfl := Option.some.inj (show some l2043 = some r from h2652)
        exact ret1 (P := Try.prog) (n := 70) (fn := Try.f37) (R := fun v w' => ∃ ra0, ∃ rc0, v = Value.slice ra0 l2043.length rc0 ∧ l2043.length ≤ rc0 ∧ elems heldW w' (In ok w [] []) ra0 l2043 ∧ St [] w w' []) (t := 4) (v := Value.slice a2044 l2043.length c2045) rfl rfl rfl ⟨a2044, c2045, rfl, hl2657, (elN (ok' := ok) he2658), hs2660⟩

theorem same15_ok (w : World) (ok : Nat → Prop) (p0 : List Hd) (p1 : List Hd) (a0 : Option Addr) (c0 : Nat) (he0 : elems heldW w ok a0 p0) (hc0 : p0.length ≤ c0) (a1 : Option Addr) (c1 : Nat) (he1 : elems heldW w ok a1 p1) (hc1 : p1.length ≤ c1) {r : Bool} (h : same15 p0 p1 = some r) :
    Ret Try.prog 38 [Value.slice a0 p0.length c0, Value.slice a1 p1.length c1] w (fun v w' => v = Value.bool r ∧ St [] w w' []) := by
  rw [same15] at h
  have hs100 : St [] w w [] := St.start w
  have he1000 := el0 (L0 := []) (fun b _ => out_nil b) he0
  have he1001 := el0 (L0 := []) (fun b _ => out_nil b) he1
  refine enter (n := 41) Try.func38 rfl rfl rfl ?_
  refine WC.seq ?_
  refine WC.region ?_
  refine WL.val (R.assign (v := Value.bool false) rfl) rfl ?_
  refine WL.nil ?_
  refine thenN ?_
  refine WC.seq ?_
  refine WC.seq ?_
  refine WC.region ?_
  refine WL.val (R.move (v := Value.slice a0 p0.length c0) rfl) rfl ?_
  refine WL.val (R.len (a := a0) (n := p0.length) (c := c0) un28 rfl) rfl ?_
  refine WL.val (R.move (v := Value.slice a1 p1.length c1) rfl) rfl ?_
  refine WL.val (R.len (a := a1) (n := p1.length) (c := c1) un31 rfl) rfl ?_
  by_cases hc103 : ((p0.length : Nat) : Int) = ((p1.length : Nat) : Int)
  · have h104 := ifT hc103 h
    refine WL.val (R.neqF (k := .i64) (a := ((p0.length : Nat) : Int)) (b := ((p1.length : Nat) : Int)) un3 rfl rfl (not_not_intro hc103)) rfl ?_
    refine WL.nil ?_
    refine thenN ?_
    refine WC.condF rfl rfl ?_
    refine WC.skip ?_
    refine thenN ?_
    refine WC.seq ?_
    refine WC.seq ?_
    refine WC.region ?_
    refine WL.val (R.assign (v := Value.int .i64 0) rfl) rfl ?_
    refine WL.nil ?_
    refine thenN ?_
    obtain ⟨K219, hK220, h221⟩ := kE (G := fun K219 => same15_l1 p0 p1 K219 1000000 0) h104
    refine WC.join (fun σ229 w228 => K219 () = some r ∧ St [] w w228 []) ?_ ?_
    · refine WC.block ?_
      refine WC.loop (T := Nat) (fun k225 σ223 w222 => ∃ i218 : Int, σ223 0 = (Value.slice a0 p0.length c0) ∧ σ223 1 = (Value.slice a1 p1.length c1) ∧ σ223 5 = (Value.int .i64 i218) ∧ elems heldW w222 (In ok w [] []) a0 p0 ∧ elems heldW w222 (In ok w [] []) a1 p1 ∧ same15_l1 p0 p1 K219 k225 i218 = some r ∧ St [] w w222 []) (fun k225 => k225) 1000000 ⟨0, rfl, rfl, rfl, he1000, he1001, h221, hs100⟩ ?_
      rintro k225 σ223 w222 ⟨i218, s232, s233, s234, he226, he227, h231, hs224⟩
      rcases k225 with _ | k225
      · rw [same15_l1] at h231; cases h231
      rw [same15_l1] at h231
      refine WC.seq ?_
      refine WC.seq ?_
      refine WC.region ?_
      refine WL.val (R.move (v := Value.int .i64 i218) (by exact s234)) rfl ?_
      refine WL.val (R.move (v := Value.slice a0 p0.length c0) (by exact s232)) rfl ?_
      refine WL.val (R.len (a := a0) (n := p0.length) (c := c0) un28 rfl) rfl ?_
      by_cases hc235 : i218 < ((p0.length : Nat) : Int)
      · have h236 := ifT hc235 h231
        refine WL.val (R.lssT (k := .i64) (a := i218) (b := ((p0.length : Nat) : Int)) un3 rfl rfl hc235) rfl ?_
        refine WL.nil ?_
        refine thenN ?_
        refine WC.condT rfl rfl ?_
        refine WC.skip ?_
        refine thenN ?_
        refine WC.seq ?_
        refine WC.block ?_
        refine WC.seq ?_
        refine WC.drawE mixed (NP.then (NP.block (NP.then (NP.then (NP.block (NP.join (NP.then NP.rq))))))) ?_
        have ht237 := (hs224.here).ext (Ext.drew _)
        have hs238 := hs224.trans ht237
        refine WE.take 0 rfl (by decide +kernel) (by decide +kernel) (by decide +kernel) (by decide +kernel) rfl rfl (fun wq hq => R.move (v := Value.slice a0 p0.length c0) (by exact s232)) ?_
        refine WE.take 1 rfl (by decide +kernel) (by decide +kernel) (by decide +kernel) (by decide +kernel) rfl rfl (fun wq hq => R.move (v := Value.int .i64 i218) (by exact s234)) ?_
        obtain ⟨x239, hx240, h241⟩ := ob (o := rd p0 i218) h236
        obtain ⟨h0242, hx243, hl244, hm245⟩ := rdE hx240
        have hr246 := elT ht237 he226
        obtain ⟨ad247, e252, ha248, hp249, hat250, hrd251⟩ := hr246 _ _ hx243
        obtain ⟨-, rfl⟩ := hrd251
        refine WE.take 2 rfl (by decide +kernel) (by decide +kernel) (by decide +kernel) (by decide +kernel) rfl rfl (fun wq hq => R.indexS (n := 56) (m := (i218).toNat) (a := a0) (ad := ad247) (len := p0.length) (cap := c0) (z := i218) un28 ag60.size rfl ha248 rfl hm245 hl244 hp249) ?_
        refine WE.take 3 rfl (by decide +kernel) (by decide +kernel) (by decide +kernel) (by decide +kernel) rfl rfl (fun wq hq => R.fieldAddr (o := ad247.off + (i218).toNat * 56) (o' := ad247.off + (i218).toNat * 56) fa60_0 rfl rfl) ?_
        refine WE.take 4 rfl (by decide +kernel) (by decide +kernel) (by decide +kernel) (by decide +kernel) rfl rfl (fun wq hq => R.loadL (v := Value.bool x239.is) lf4 rfl (At.sub (a := ⟨ad247.block, ad247.off + (i218).toNat * 56, none⟩) (off := 0) (n := 1) (cs := encH x239) (ds := [Value.bool x239.is]) (At.exT hq hat250) rfl rfl)) ?_
        refine WE.take 5 rfl (by decide +kernel) (by decide +kernel) (by decide +kernel) (by decide +kernel) rfl rfl (fun wq hq => R.move (v := Value.slice a1 p1.length c1) (by exact s233)) ?_
        refine WE.take 6 rfl (by decide +kernel) (by decide +kernel) (by decide +kernel) (by decide +kernel) rfl rfl (fun wq hq => R.move (v := Value.int .i64 i218) (by exact s234)) ?_
        obtain ⟨x254, hx255, h256⟩ := ob (o := rd p1 i218) h241
        obtain ⟨h0257, hx258, hl259, hm260⟩ := rdE hx255
        have hr261 := elT ht237 he227
        obtain ⟨ad262, e267, ha263, hp264, hat265, hrd266⟩ := hr261 _ _ hx258
        obtain ⟨-, rfl⟩ := hrd266
        refine WE.take 7 rfl (by decide +kernel) (by decide +kernel) (by decide +kernel) (by decide +kernel) rfl rfl (fun wq hq => R.indexS (n := 56) (m := (i218).toNat) (a := a1) (ad := ad262) (len := p1.length) (cap := c1) (z := i218) un31 ag202.size rfl ha263 rfl hm260 hl259 hp264) ?_
        refine WE.take 8 rfl (by decide +kernel) (by decide +kernel) (by decide +kernel) (by decide +kernel) rfl rfl (fun wq hq => R.fieldAddr (o := ad262.off + (i218).toNat * 56) (o' := ad262.off + (i218).toNat * 56) fa202_0 rfl rfl) ?_
        refine WE.take 9 rfl (by decide +kernel) (by decide +kernel) (by decide +kernel) (by decide +kernel) rfl rfl (fun wq hq => R.loadL (v := Value.bool x254.is) lf4 rfl (At.sub (a := ⟨ad262.block, ad262.off + (i218).toNat * 56, none⟩) (off := 0) (n := 1) (cs := encH x254) (ds := [Value.bool x254.is]) (At.exT hq hat265) rfl rfl)) ?_
        by_cases hc269 : x239.is = true
        · have h270 := ifT hc269 h256
          by_cases hc271 : x254.is = true
          · have h272 := ifT hc271 h270
            refine WE.take 10 rfl (by decide +kernel) (by decide +kernel) (by decide +kernel) (by decide +kernel) rfl rfl (fun wq hq => R.neB (a := true) (b := true) un4 (Eq.trans (show _ = Value.bool x239.is from rfl) (congrArg Value.bool hc269)) (Eq.trans (show _ = Value.bool x254.is from rfl) (congrArg Value.bool hc271))) ?_
            refine WE.take 11 rfl (by decide +kernel) (by decide +kernel) (by decide +kernel) (by decide +kernel) rfl rfl (fun wq hq => R.move (v := Value.bool false) rfl) ?_
            refine WE.takeY 12 (e := 28) rfl (by decide +kernel) (by decide +kernel) (by decide +kernel) (by decide +kernel) rfl rfl rfl rfl rfl (fun wq hq => R.move (v := Value.slice a0 p0.length c0) (by exact s232)) ?_
            refine WE.takeY 13 (e := 28) rfl (by decide +kernel) (by decide +kernel) (by decide +kernel) (by decide +kernel) rfl rfl rfl rfl rfl (fun wq hq => R.move (v := Value.int .i64 i218) (by exact s234)) ?_
            refine WE.takeY 14 (e := 28) rfl (by decide +kernel) (by decide +kernel) (by decide +kernel) (by decide +kernel) rfl rfl rfl rfl rfl (fun wq hq => R.indexS (n := 56) (m := (i218).toNat) (a := a0) (ad := ad247) (len := p0.length) (cap := c0) (z := i218) un28 ag60.size rfl ha248 rfl hm245 hl244 hp249) ?_
            refine WE.takeY 15 (e := 28) rfl (by decide +kernel) (by decide +kernel) (by decide +kernel) (by decide +kernel) rfl rfl rfl rfl rfl (fun wq hq => R.fieldAddr (o := ad247.off + (i218).toNat * 56) (o' := ad247.off + (i218).toNat * 56 + 1) fa60_1 rfl rfl) ?_
            refine WE.takeY 16 (e := 28) rfl (by decide +kernel) (by decide +kernel) (by decide +kernel) (by decide +kernel) rfl rfl rfl rfl rfl (fun wq hq => R.loadA (cs := encC x239.cell) (n := 55) ag58 rfl (At.sub (a := ⟨ad247.block, ad247.off + (i218).toNat * 56, none⟩) (off := 1) (n := 55) (cs := encH x239) (ds := encC x239.cell) (At.exT hq hat250) rfl rfl) rfl) ?_
            refine WE.takeY 17 (e := 28) rfl (by decide +kernel) (by decide +kernel) (by decide +kernel) (by decide +kernel) rfl rfl rfl rfl rfl (fun wq hq => R.move (v := Value.slice a1 p1.length c1) (by exact s233)) ?_
            refine WE.takeY 18 (e := 28) rfl (by decide +kernel) (by decide +kernel) (by decide +kernel) (by decide +kernel) rfl rfl rfl rfl rfl (fun wq hq => R.move (v := Value.int .i64 i218) (by exact s234)) ?_
            refine WE.takeY 19 (e := 28) rfl (by decide +kernel) (by decide +kernel) (by decide +kernel) (by decide +kernel) rfl rfl rfl rfl rfl (fun wq hq => R.indexS (n := 56) (m := (i218).toNat) (a := a1) (ad := ad262) (len := p1.length) (cap := c1) (z := i218) un31 ag202.size rfl ha263 rfl hm260 hl259 hp264) ?_
            refine WE.takeY 20 (e := 28) rfl (by decide +kernel) (by decide +kernel) (by decide +kernel) (by decide +kernel) rfl rfl rfl rfl rfl (fun wq hq => R.fieldAddr (o := ad262.off + (i218).toNat * 56) (o' := ad262.off + (i218).toNat * 56 + 1) fa202_1 rfl rfl) ?_
            refine WE.takeY 21 (e := 28) rfl (by decide +kernel) (by decide +kernel) (by decide +kernel) (by decide +kernel) rfl rfl rfl rfl rfl (fun wq hq => R.loadA (cs := encC x254.cell) (n := 55) ag58 rfl (At.sub (a := ⟨ad262.block, ad262.off + (i218).toNat * 56, none⟩) (off := 1) (n := 55) (cs := encH x254) (ds := encC x254.cell) (At.exT hq hat265) rfl rfl) rfl) ?_
            refine WE.takeY 22 (e := 28) rfl (by decide +kernel) (by decide +kernel) (by decide +kernel) (by decide +kernel) rfl rfl rfl rfl rfl (fun wq hq => R.neCell (a := x239.cell) (b := x254.cell) rfl rfl) ?_
            refine WE.take 23 rfl (by decide +kernel) (by decide +kernel) (by decide +kernel) (by decide +kernel) rfl rfl (fun wq hq => R.pickF (v := Value.bool (decide (¬ (x239.cell = x254.cell)))) rfl rfl) ?_
            refine WE.done (by decide +kernel) ?_
            refine thenN ?_
            by_cases hc273 : ¬ (x239.cell = x254.cell)
            · have h274 := ifT hc273 h272
              refine WC.condT (Eq.trans (show _ = Value.bool (decide (¬ (x239.cell = x254.cell))) from rfl) (congrArg Value.bool (decide_eq_true hc273))) rfl ?_
              refine WC.seq ?_
              refine WC.region ?_
              refine WL.val (R.assign (v := Value.bool false) rfl) rfl ?_
              refine WL.nil ?_
              refine thenN ?_
              refine WC.ret ?_
              obtain rfl := Option.some.inj (show some false = some r from h274)
              exact ret1 (P := Try.prog) (n := 41) (fn := Try.f38) (R := fun v w' => v = Value.bool false ∧ St [] w w' []) (t := 4) (v := Value.bool false) rfl rfl rfl ⟨rfl, hs238⟩
            · have h275 := ifF hc273 h272
              refine WC.condF (Eq.trans (show _ = Value.bool (decide (¬ (x239.cell = x254.cell))) from rfl) (congrArg Value.bool (decide_eq_false hc273))) rfl ?_
              refine WC.skip ?_
              refine blockN ?_
              refine thenN ?_
              refine WC.region ?_
              refine WL.val (R.move (v := Value.int .i64 i218) (by exact s234)) rfl ?_
              obtain ⟨hg276, h277⟩ := ckE (c := -9223372036854775808 ≤ i218 + 1 ∧ i218 + 1 ≤ 9223372036854775807) h275
              refine WL.val (R.add (a := i218) (b := 1) (z := i218 + 1) rfl rfl (w64e rfl hg276.1 hg276.2)) rfl ?_
              refine WL.val (R.assign (v := Value.int .i64 (i218 + 1)) rfl) rfl ?_
              refine WL.nil ?_
              exact roundEnd (s := k225) ⟨i218 + 1, s232, s233, rfl, hr246, hr261, h277, hs238⟩ (Nat.lt_succ_self _)
          · have h278 := ifF hc271 h270
            refine WE.take 10 rfl (by decide +kernel) (by decide +kernel) (by decide +kernel) (by decide +kernel) rfl rfl (fun wq hq => R.neB (a := true) (b := false) un4 (Eq.trans (show _ = Value.bool x239.is from rfl) (congrArg Value.bool hc269)) (Eq.trans (show _ = Value.bool x254.is from rfl) (congrArg Value.bool (Bool.eq_false_iff.2 hc271)))) ?_
            refine WE.take 11 rfl (by decide +kernel) (by decide +kernel) (by decide +kernel) (by decide +kernel) rfl rfl (fun wq hq => R.move (v := Value.bool true) rfl) ?_
            refine WE.takeN 12 (e := 28) (v := .bool true) rfl (by decide +kernel) (by decide +kernel) (by decide +kernel) (by decide +kernel) rfl rfl rfl rfl rfl ?_
            refine WE.takeN 13 (e := 28) (v := .bool true) rfl (by decide +kernel) (by decide +kernel) (by decide +kernel) (by decide +kernel) rfl rfl rfl rfl rfl ?_
            refine WE.takeN 14 (e := 28) (v := .bool true) rfl (by decide +kernel) (by decide +kernel) (by decide +kernel) (by decide +kernel) rfl rfl rfl rfl rfl ?_
            refine WE.takeN 15 (e := 28) (v := .bool true) rfl (by decide +kernel) (by decide +kernel) (by decide +kernel) (by decide +kernel) rfl rfl rfl rfl rfl ?_
            refine WE.takeN 16 (e := 28) (v := .bool true) rfl (by decide +kernel) (by decide +kernel) (by decide +kernel) (by decide +kernel) rfl rfl rfl rfl rfl ?_
            refine WE.takeN 17 (e := 28) (v := .bool true) rfl (by decide +kernel) (by decide +kernel) (by decide +kernel) (by decide +kernel) rfl rfl rfl rfl rfl ?_
            refine WE.takeN 18 (e := 28) (v := .bool true) rfl (by decide +kernel) (by decide +kernel) (by decide +kernel) (by decide +kernel) rfl rfl rfl rfl rfl ?_
            refine WE.takeN 19 (e := 28) (v := .bool true) rfl (by decide +kernel) (by decide +kernel) (by decide +kernel) (by decide +kernel) rfl rfl rfl rfl rfl ?_
            refine WE.takeN 20 (e := 28) (v := .bool true) rfl (by decide +kernel) (by decide +kernel) (by decide +kernel) (by decide +kernel) rfl rfl rfl rfl rfl ?_
            refine WE.takeN 21 (e := 28) (v := .bool true) rfl (by decide +kernel) (by decide +kernel) (by decide +kernel) (by decide +kernel) rfl rfl rfl rfl rfl ?_
            refine WE.takeN 22 (e := 28) (v := .bool true) rfl (by decide +kernel) (by decide +kernel) (by decide +kernel) (by decide +kernel) rfl rfl rfl rfl rfl ?_
            refine WE.take 23 rfl (by decide +kernel) (by decide +kernel) (by decide +kernel) (by decide +kernel) rfl rfl (fun wq hq => R.pickT (v := Value.bool true) rfl rfl) ?_
            refine WE.done (by decide +kernel) ?_
            refine thenN ?_
            refine WC.condT rfl rfl ?_
            refine WC.seq ?_
            refine WC.region ?_
            refine WL.val (R.assign (v := Value.bool false) rfl) rfl ?_
            refine WL.nil ?_
            refine thenN ?_
            refine WC.ret ?_
            obtain rfl := Option.some.inj (show some false = some r from h278)
            exact ret1 (P := Try.prog) (n := 41) (fn := Try.f38) (R := fun v w' => v = Value.bool false ∧ St [] w w' []) (t := 4) (v := Value.bool false) rfl rfl rfl ⟨rfl, hs238⟩
        · have h279 := ifF hc269 h256
          by_cases hc280 : x254.is = true
          · have h281 := ifT hc280 h279
            refine WE.take 10 rfl (by decide +kernel) (by decide +kernel) (by decide +kernel) (by decide +kernel) rfl rfl (fun wq hq => R.neB (a := false) (b := true) un4 (Eq.trans (show _ = Value.bool x239.is from rfl) (congrArg Value.bool (Bool.eq_false_iff.2 hc269))) (Eq.trans (show _ = Value.bool x254.is from rfl) (congrArg Value.bool hc280))) ?_
            refine WE.take 11 rfl (by decide +kernel) (by decide +kernel) (by decide +kernel) (by decide +kernel) rfl rfl (fun wq hq => R.move (v := Value.bool true) rfl) ?_
            refine WE.takeN 12 (e := 28) (v := .bool true) rfl (by decide +kernel) (by decide +kernel) (by decide +kernel) (by decide +kernel) rfl rfl rfl rfl rfl ?_
            refine WE.takeN 13 (e := 28) (v := .bool true) rfl (by decide +kernel) (by decide +kernel) (by decide +kernel) (by decide +kernel) rfl rfl rfl rfl rfl ?_
            refine WE.takeN 14 (e := 28) (v := .bool true) rfl (by decide +kernel) (by decide +kernel) (by decide +kernel) (by decide +kernel) rfl rfl rfl rfl rfl ?_
            refine WE.takeN 15 (e := 28) (v := .bool true) rfl (by decide +kernel) (by decide +kernel) (by decide +kernel) (by decide +kernel) rfl rfl rfl rfl rfl ?_
            refine WE.takeN 16 (e := 28) (v := .bool true) rfl (by decide +kernel) (by decide +kernel) (by decide +kernel) (by decide +kernel) rfl rfl rfl rfl rfl ?_
            refine WE.takeN 17 (e := 28) (v := .bool true) rfl (by decide +kernel) (by decide +kernel) (by decide +kernel) (by decide +kernel) rfl rfl rfl rfl rfl ?_
            refine WE.takeN 18 (e := 28) (v := .bool true) rfl (by decide +kernel) (by decide +kernel) (by decide +kernel) (by decide +kernel) rfl rfl rfl rfl rfl ?_
            refine WE.takeN 19 (e := 28) (v := .bool true) rfl (by decide +kernel) (by decide +kernel) (by decide +kernel) (by decide +kernel) rfl rfl rfl rfl rfl ?_
            refine WE.takeN 20 (e := 28) (v := .bool true) rfl (by decide +kernel) (by decide +kernel) (by decide +kernel) (by decide +kernel) rfl rfl rfl rfl rfl ?_
            refine WE.takeN 21 (e := 28) (v := .bool true) rfl (by decide +kernel) (by decide +kernel) (by decide +kernel) (by decide +kernel) rfl rfl rfl rfl rfl ?_
            refine WE.takeN 22 (e := 28) (v := .bool true) rfl (by decide +kernel) (by decide +kernel) (by decide +kernel) (by decide +kernel) rfl rfl rfl rfl rfl ?_
            refine WE.take 23 rfl (by decide +kernel) (by decide +kernel) (by decide +kernel) (by decide +kernel) rfl rfl (fun wq hq => R.pickT (v := Value.bool true) rfl rfl) ?_
            refine WE.done (by decide +kernel) ?_
            refine thenN ?_
            refine WC.condT rfl rfl ?_
            refine WC.seq ?_
            refine WC.region ?_
            refine WL.val (R.assign (v := Value.bool false) rfl) rfl ?_
            refine WL.nil ?_
            refine thenN ?_
            refine WC.ret ?_
            obtain rfl := Option.some.inj (show some false = some r from h281)
            exact ret1 (P := Try.prog) (n := 41) (fn := Try.f38) (R := fun v w' => v = Value.bool false ∧ St [] w w' []) (t := 4) (v := Value.bool false) rfl rfl rfl ⟨rfl, hs238⟩
          · have h282 := ifF hc280 h279
            refine WE.take 10 rfl (by decide +kernel) (by decide +kernel) (by decide +kernel) (by decide +kernel) rfl rfl (fun wq hq => R.neB (a := false) (b := false) un4 (Eq.trans (show _ = Value.bool x239.is from rfl) (congrArg Value.bool (Bool.eq_false_iff.2 hc269))) (Eq.trans (show _ = Value.bool x254.is from rfl) (congrArg Value.bool (Bool.eq_false_iff.2 hc280)))) ?_
            refine WE.take 11 rfl (by decide +kernel) (by decide +kernel) (by decide +kernel) (by decide +kernel) rfl rfl (fun wq hq => R.move (v := Value.bool false) rfl) ?_
            refine WE.takeY 12 (e := 28) rfl (by decide +kernel) (by decide +kernel) (by decide +kernel) (by decide +kernel) rfl rfl rfl rfl rfl (fun wq hq => R.move (v := Value.slice a0 p0.length c0) (by exact s232)) ?_
            refine WE.takeY 13 (e := 28) rfl (by decide +kernel) (by decide +kernel) (by decide +kernel) (by decide +kernel) rfl rfl rfl rfl rfl (fun wq hq => R.move (v := Value.int .i64 i218) (by exact s234)) ?_
            refine WE.takeY 14 (e := 28) rfl (by decide +kernel) (by decide +kernel) (by decide +kernel) (by decide +kernel) rfl rfl rfl rfl rfl (fun wq hq => R.indexS (n := 56) (m := (i218).toNat) (a := a0) (ad := ad247) (len := p0.length) (cap := c0) (z := i218) un28 ag60.size rfl ha248 rfl hm245 hl244 hp249) ?_
            refine WE.takeY 15 (e := 28) rfl (by decide +kernel) (by decide +kernel) (by decide +kernel) (by decide +kernel) rfl rfl rfl rfl rfl (fun wq hq => R.fieldAddr (o := ad247.off + (i218).toNat * 56) (o' := ad247.off + (i218).toNat * 56 + 1) fa60_1 rfl rfl) ?_
            refine WE.takeY 16 (e := 28) rfl (by decide +kernel) (by decide +kernel) (by decide +kernel) (by decide +kernel) rfl rfl rfl rfl rfl (fun wq hq => R.loadA (cs := encC x239.cell) (n := 55) ag58 rfl (At.sub (a := ⟨ad247.block, ad247.off + (i218).toNat * 56, none⟩) (off := 1) (n := 55) (cs := encH x239) (ds := encC x239.cell) (At.exT hq hat250) rfl rfl) rfl) ?_
            refine WE.takeY 17 (e := 28) rfl (by decide +kernel) (by decide +kernel) (by decide +kernel) (by decide +kernel) rfl rfl rfl rfl rfl (fun wq hq => R.move (v := Value.slice a1 p1.length c1) (by exact s233)) ?_
            refine WE.takeY 18 (e := 28) rfl (by decide +kernel) (by decide +kernel) (by decide +kernel) (by decide +kernel) rfl rfl rfl rfl rfl (fun wq hq => R.move (v := Value.int .i64 i218) (by exact s234)) ?_
            refine WE.takeY 19 (e := 28) rfl (by decide +kernel) (by decide +kernel) (by decide +kernel) (by decide +kernel) rfl rfl rfl rfl rfl (fun wq hq => R.indexS (n := 56) (m := (i218).toNat) (a := a1) (ad := ad262) (len := p1.length) (cap := c1) (z := i218) un31 ag202.size rfl ha263 rfl hm260 hl259 hp264) ?_
            refine WE.takeY 20 (e := 28) rfl (by decide +kernel) (by decide +kernel) (by decide +kernel) (by decide +kernel) rfl rfl rfl rfl rfl (fun wq hq => R.fieldAddr (o := ad262.off + (i218).toNat * 56) (o' := ad262.off + (i218).toNat * 56 + 1) fa202_1 rfl rfl) ?_
            refine WE.takeY 21 (e := 28) rfl (by decide +kernel) (by decide +kernel) (by decide +kernel) (by decide +kernel) rfl rfl rfl rfl rfl (fun wq hq => R.loadA (cs := encC x254.cell) (n := 55) ag58 rfl (At.sub (a := ⟨ad262.block, ad262.off + (i218).toNat * 56, none⟩) (off := 1) (n := 55) (cs := encH x254) (ds := encC x254.cell) (At.exT hq hat265) rfl rfl) rfl) ?_
            refine WE.takeY 22 (e := 28) rfl (by decide +kernel) (by decide +kernel) (by decide +kernel) (by decide +kernel) rfl rfl rfl rfl rfl (fun wq hq => R.neCell (a := x239.cell) (b := x254.cell) rfl rfl) ?_
            refine WE.take 23 rfl (by decide +kernel) (by decide +kernel) (by decide +kernel) (by decide +kernel) rfl rfl (fun wq hq => R.pickF (v := Value.bool (decide (¬ (x239.cell = x254.cell)))) rfl rfl) ?_
            refine WE.done (by decide +kernel) ?_
            refine thenN ?_
            by_cases hc283 : ¬ (x239.cell = x254.cell)
            · have h284 := ifT hc283 h282
              refine WC.condT (Eq.trans (show _ = Value.bool (decide (¬ (x239.cell = x254.cell))) from rfl) (congrArg Value.bool (decide_eq_true hc283))) rfl ?_
              refine WC.seq ?_
              refine WC.region ?_
              refine WL.val (R.assign (v := Value.bool false) rfl) rfl ?_
              refine WL.nil ?_
              refine thenN ?_
              refine WC.ret ?_
              obtain rfl := Option.some.inj (show some false = some r from h284)
              exact ret1 (P := Try.prog) (n := 41) (fn := Try.f38) (R := fun v w' => v = Value.bool false ∧ St [] w w' []) (t := 4) (v := Value.bool false) rfl rfl rfl ⟨rfl, hs238⟩
            · have h285 := ifF hc283 h282
              refine WC.condF (Eq.trans (show _ = Value.bool (decide (¬ (x239.cell = x254.cell))) from rfl) (congrArg Value.bool (decide_eq_false hc283))) rfl ?_
              refine WC.skip ?_
              refine blockN ?_
              refine thenN ?_
              refine WC.region ?_
              refine WL.val (R.move (v := Value.int .i64 i218) (by exact s234)) rfl ?_
              obtain ⟨hg286, h287⟩ := ckE (c := -9223372036854775808 ≤ i218 + 1 ∧ i218 + 1 ≤ 9223372036854775807) h285
              refine WL.val (R.add (a := i218) (b := 1) (z := i218 + 1) rfl rfl (w64e rfl hg286.1 hg286.2)) rfl ?_
              refine WL.val (R.assign (v := Value.int .i64 (i218 + 1)) rfl) rfl ?_
              refine WL.nil ?_
              exact roundEnd (s := k225) ⟨i218 + 1, s232, s233, rfl, hr246, hr261, h287, hs238⟩ (Nat.lt_succ_self _)
      · have h288 := ifF hc235 h231
        refine WL.val (R.lssF (k := .i64) (a := i218) (b := ((p0.length : Nat) : Int)) un3 rfl rfl hc235) rfl ?_
        refine WL.nil ?_
        refine thenN ?_
        refine WC.condF rfl rfl ?_
        refine WC.exit ?_
        refine thenE ?_
        refine thenE ?_
        refine blockHit ?_
        exact joinI ⟨h288, hs224⟩
    · rintro σ229 w228 ⟨h289, hs230⟩
      subst hK220
      refine thenN ?_
      refine WC.seq ?_
      refine WC.region ?_
      refine WL.val (R.assign (v := Value.bool true) rfl) rfl ?_
      refine WL.nil ?_
      refine thenN ?_
      refine WC.ret ?_
      obtain rfl := Option.some.inj (show some true = some r from h289)
      exact ret1 (P := Try.prog) (n := 41) (fn := Try.f38) (R := fun v w' => v = Value.bool true ∧ St [] w w' []) (t := 4) (v := Value.bool true) rfl rfl rfl ⟨rfl, hs230⟩
  · have h290 := ifF hc103 h
    refine WL.val (R.neqT (k := .i64) (a := ((p0.length : Nat) : Int)) (b := ((p1.length : Nat) : Int)) un3 rfl rfl hc103) rfl ?_
    refine WL.nil ?_
    refine thenN ?_
    refine WC.condT rfl rfl ?_
    refine WC.seq ?_
    refine WC.region ?_
    refine WL.val (R.assign (v := Value.bool false) rfl) rfl ?_
    refine WL.nil ?_
    refine thenN ?_
    refine WC.ret ?_
    obtain rfl := Option.some.inj (show some false = some r from h290)
    exact ret1 (P := Try.prog) (n := 41) (fn := Try.f38) (R := fun v w' => v = Value.bool false ∧ St [] w w' []) (t := 4) (v := Value.bool false) rfl rfl rfl ⟨rfl, hs100⟩

theorem any15_ok (w : World) (ok : Nat → Prop) (p0 : Int) (p1 : List Rw) (a1 : Option Addr) (c1 : Nat) (he1 : elems rowW w ok a1 p1) (hc1 : p1.length ≤ c1) {r : Bool} (h : any15 p0 p1 = some r) :
    Ret Try.prog 3 [Value.int .i64 p0, Value.slice a1 p1.length c1] w (fun v w' => v = Value.bool r ∧ St [] w w' []) := by
  rw [any15] at h
  have hs100 : St [] w w [] := St.start w
  have he1001 := el0 (L0 := []) (fun b _ => out_nil b) he1
  refine enter (n := 73) Try.func3 rfl rfl rfl ?_
  refine WC.seq ?_
  refine WC.region ?_
  refine WL.val (R.assign (v := Value.bool false) rfl) rfl ?_
  refine WL.nil ?_
  refine thenN ?_
  refine WC.seq ?_
  refine WC.seq ?_
  refine WC.region ?_
  refine WL.val (R.move (v := Value.slice a1 p1.length c1) rfl) rfl ?_
  have hd102 : ∀ w, (Instr.build 25 #[(0, Value.slice a1 p1.length c1)]).run Try.prog w = .ok (Value.agg (List.toArray [Value.slice a1 p1.length c1])) w := fun _ => by kernel_rfl
  refine WL.val (R.build (vs := [(0, Value.slice a1 p1.length c1)]) rfl hd102) rfl ?_
  obtain ⟨y103, hx104, h105⟩ := ob (o := great13 p1) h
  refine WL.call (great13_ok _ (fun _ => True) p1 _ _ (elAll he1001) hc1 hx104) (R.call (vs := [Value.agg (List.toArray [Value.slice a1 p1.length c1])]) (caps := []) bo30 rfl rfl) rfl ?_
  rintro v108 w109 ⟨rfl, ht106⟩
  have ht107 := hs100.call (N := []) (M := []) (List.Perm.refl _) ht106
  have hs110 := hs100.trans ht107
  refine WL.nil ?_
  refine thenN ?_
  by_cases hc111 : y103 = true
  · have h112 := ifT hc111 h105
    refine WC.condT (Eq.trans (show _ = Value.bool y103 from rfl) (congrArg Value.bool hc111)) rfl ?_
    refine WC.seq ?_
    refine WC.region ?_
    obtain ⟨y113, hx114, h115⟩ := ob (o := lives15 ) h112
    refine WL.call (lives15_ok _ (In (fun _ => False) w [] [])   hx114) (R.call (vs := []) (caps := []) bo31 rfl rfl) rfl ?_
    rintro v118 w119 ⟨rfl, ht116⟩
    have ht117 := hs110.call (N := []) (M := []) (List.Perm.refl _) ht116
    have hs120 := hs110.trans ht117
    refine WL.val (R.assign (v := Value.bool y113) rfl) rfl ?_
    refine WL.nil ?_
    refine thenN ?_
    refine WC.ret ?_
    obtain rfl := Option.some.inj (show some y113 = some r from h115)
    exact ret1 (P := Try.prog) (n := 73) (fn := Try.f3) (R := fun v w' => v = Value.bool y113 ∧ St [] w w' []) (t := 4) (v := Value.bool y113) rfl rfl rfl ⟨rfl, hs120⟩
  · have h121 := ifF hc111 h105
    refine WC.condF (Eq.trans (show _ = Value.bool y103 from rfl) (congrArg Value.bool (Bool.eq_false_iff.2 hc111))) rfl ?_
    refine WC.skip ?_
    refine thenN ?_
    refine WC.seq ?_
    refine WC.region ?_
    refine WL.val (R.move (v := Value.slice a1 p1.length c1) rfl) rfl ?_
    have hd122 : ∀ w, (Instr.build 25 #[(0, Value.slice a1 p1.length c1)]).run Try.prog w = .ok (Value.agg (List.toArray [Value.slice a1 p1.length c1])) w := fun _ => by kernel_rfl
    refine WL.val (R.build (vs := [(0, Value.slice a1 p1.length c1)]) rfl hd122) rfl ?_
    obtain ⟨y123, hx124, h125⟩ := ob (o := twinword13 p1) h121
    have hr126 := elT ht107 he1001
    refine WL.call (twinword13_ok _ _ p1 _ _ hr126 hc1 hx124) (R.call (vs := [Value.agg (List.toArray [Value.slice a1 p1.length c1])]) (caps := []) bo32 rfl rfl) rfl ?_
    rintro v133 w134 ⟨a129, c130, rfl, hl131, he132, ht127⟩
    have ht128 := hs110.call (N := []) (M := []) (List.Perm.refl _) ht127
    have he135 := elC hs110 (M := []) (List.Perm.refl _) ht127 he132
    have hs136 := hs110.trans ht128
    have hd138 : ∀ w, (Instr.field 25 (Value.agg (List.toArray [Value.slice a129 y123.length c130])) 0).run Try.prog w = .ok (Value.slice a129 y123.length c130) w := fun _ => by kernel_rfl
    refine WL.val (R.fieldV rfl hd138) rfl ?_
    refine WL.val (R.assign (v := Value.slice a129 y123.length c130) rfl) rfl ?_
    refine WL.nil ?_
    refine thenN ?_
    refine WC.seq ?_
    refine WC.region ?_
    refine WL.val (R.move (v := Value.slice a129 y123.length c130) rfl) rfl ?_
    obtain ⟨y139, hx140, h141⟩ := ob (o := tableo15 y123) h125
    refine WL.call (tableo15_ok _ (fun _ => True) y123 _ _ (elAll (elM he135)) hl131 hx140) (R.call (vs := [Value.slice a129 y123.length c130]) (caps := []) bo33 rfl rfl) rfl ?_
    rintro v146 w147 ⟨a144, c145, rfl, ht142⟩
    have ht143 := hs136.call (N := []) (M := []) (List.Perm.refl _) ht142
    have hs149 := hs136.trans ht143
    refine WL.val (R.assign (v := Value.slice a144 y139.length c145) rfl) rfl ?_
    refine WL.nil ?_
    refine thenN ?_
    refine WC.seq ?_
    refine WC.region ?_
    refine WL.val (R.move (v := Value.int .i64 p0) rfl) rfl ?_
    refine WL.val (R.move (v := Value.slice a129 y123.length c130) rfl) rfl ?_
    obtain ⟨y150, hx151, h152⟩ := ob (o := agreeo15 p0 y123) h141
    have hr153 := elT ht143 he135
    refine WL.call (agreeo15_ok _ (fun _ => True) p0 y123 _ _ (elAll (elM hr153)) hl131 hx151) (R.call (vs := [Value.int .i64 p0, Value.slice a129 y123.length c130]) (caps := []) bo34 rfl rfl) rfl ?_
    rintro v158 w159 ⟨a156, c157, rfl, ht154⟩
    have ht155 := hs149.call (N := [gslC 60 heldE (Value.slice a144 y139.length c145) y139]) (M := []) (List.Perm.refl _) ht154
    have hs161 := hs149.trans ht155
    refine WL.val (R.assign (v := Value.slice a156 y150.length c157) rfl) rfl ?_
    refine WL.nil ?_
    refine thenN ?_
    refine WC.seq ?_
    refine WC.region ?_
    refine WL.val (R.move (v := Value.slice a1 p1.length c1) rfl) rfl ?_
    obtain ⟨y162, hx163, h164⟩ := ob (o := others13 p1) h152
    have hr165 := elT ((ht128.trans ht143).trans ht155) hr126
    refine WL.call (others13_ok _ _ p1 _ _ hr165 hc1 hx163) (R.call (vs := [Value.slice a1 p1.length c1]) (caps := []) bo36 rfl rfl) rfl ?_
    rintro v172 w173 ⟨a168, c169, rfl, hl170, he171, ht166⟩
    have ht167 := hs161.call (N := [gslC 60 heldE (Value.slice a156 y150.length c157) y150, gslC 60 heldE (Value.slice a144 y139.length c145) y139]) (M := []) (List.Perm.refl _) ht166
    have he174 := elC hs161 (M := []) (List.Perm.refl _) ht166 he171
    have hs175 := hs161.trans ht167
    obtain ⟨y177, hx178, h179⟩ := ob (o := rtable15 y162) h164
    refine WL.call (rtable15_ok _ _ y162 _ _ he174 hl170 hx178) (R.call (vs := [Value.slice a168 y162.length c169]) (caps := []) bo35 rfl rfl) rfl ?_
    rintro v186 w187 ⟨a182, c183, rfl, hl184, he185, ht180⟩
    have ht181 := hs175.call (N := [gslC 60 heldE (Value.slice a156 y150.length c157) y150, gslC 60 heldE (Value.slice a144 y139.length c145) y139]) (M := []) (List.Perm.refl _) ht180
    have he188 := elC hs175 (M := []) (List.Perm.refl _) ht180 he185
    have hs189 := hs175.trans ht181
    refine WL.val (R.assign (v := Value.slice a182 y177.length c183) rfl) rfl ?_
    refine WL.nil ?_
    refine thenN ?_
    refine WC.seq ?_
    refine WC.region ?_
    refine WL.val (R.move (v := Value.int .i64 p0) rfl) rfl ?_
    refine WL.val (R.move (v := Value.slice a1 p1.length c1) rfl) rfl ?_
    obtain ⟨y191, hx192, h193⟩ := ob (o := others13 p1) h179
    have hr194 := elT (ht167.trans ht181) hr165
    refine WL.call (others13_ok _ _ p1 _ _ hr194 hc1 hx192) (R.call (vs := [Value.slice a1 p1.length c1]) (caps := []) bo36 rfl rfl) rfl ?_
    rintro v201 w202 ⟨a197, c198, rfl, hl199, he200, ht195⟩
    have ht196 := hs189.call (N := [gslC 60 heldE (Value.slice a156 y150.length c157) y150, gslC 60 heldE (Value.slice a144 y139.length c145) y139]) (M := []) (List.Perm.refl _) ht195
    have he203 := elC hs189 (M := []) (List.Perm.refl _) ht195 he200
    have hs204 := hs189.trans ht196
    obtain ⟨y206, hx207, h208⟩ := ob (o := ragree15 p0 y191) h193
    refine WL.call (ragree15_ok _ _ p0 y191 _ _ he203 hl199 hx207) (R.call (vs := [Value.int .i64 p0, Value.slice a197 y191.length c198]) (caps := []) bo37 rfl rfl) rfl ?_
    rintro v215 w216 ⟨a211, c212, rfl, hl213, he214, ht209⟩
    have ht210 := hs204.call (N := [gslC 60 heldE (Value.slice a156 y150.length c157) y150, gslC 60 heldE (Value.slice a144 y139.length c145) y139]) (M := []) (List.Perm.refl _) ht209
    have he217 := elC hs204 (M := []) (List.Perm.refl _) ht209 he214
    have hs218 := hs204.trans ht210
    refine WL.val (R.assign (v := Value.slice a211 y206.length c212) rfl) rfl ?_
    refine WL.nil ?_
    refine thenN ?_
    refine WC.seq ?_
    refine WC.seq ?_
    refine WC.region ?_
    refine WL.val (R.move (v := Value.slice a144 y139.length c145) rfl) rfl ?_
    refine WL.val (R.move (v := Value.slice a182 y177.length c183) rfl) rfl ?_
    obtain ⟨y220, hx221, h222⟩ := ob (o := same15 y139 y177) h208
    obtain ⟨-, hl223, he224⟩ := gslU_elems (k := heldW) (gslC_U (hs218.get (i := 1) rfl)) rfl (fun _ _ _ => ⟨trivial, rfl⟩)
    have hr225 := elT (ht196.trans ht210) he188
    refine WL.call (same15_ok _ (fun _ => True) y139 y177 _ _ (elAll he224) hl223 _ _ (elAll hr225) hl184 hx221) (R.call (vs := [Value.slice a144 y139.length c145, Value.slice a182 y177.length c183]) (caps := []) bo38 rfl rfl) rfl ?_
    rintro v228 w229 ⟨rfl, ht226⟩
    have ht227 := hs218.call (N := [gslC 60 heldE (Value.slice a156 y150.length c157) y150, gslC 60 heldE (Value.slice a144 y139.length c145) y139]) (M := []) (List.Perm.refl _) ht226
    have hs230 := hs218.trans ht227
    refine WL.val (R.not (b := y220) rfl) rfl ?_
    refine WL.val (R.move (v := Value.bool (!y220)) rfl) rfl ?_
    by_cases hc231 : y220 = true
    · have h232 := ifT hc231 h222
      have hk233 : (!y220) = false := by simp [hc231]
      refine WL.guardY (e := 34) (Eq.trans (show _ = Value.bool (!y220) from rfl) (congrArg Value.bool hk233)) rfl rfl ?_
      refine WL.val (R.move (v := Value.slice a156 y150.length c157) rfl) rfl ?_
      refine WL.guardY (e := 34) (Eq.trans (show _ = Value.bool (!y220) from rfl) (congrArg Value.bool hk233)) rfl rfl ?_
      refine WL.val (R.move (v := Value.slice a211 y206.length c212) rfl) rfl ?_
      refine WL.guardY (e := 34) (Eq.trans (show _ = Value.bool (!y220) from rfl) (congrArg Value.bool hk233)) rfl rfl ?_
      obtain ⟨y234, hx235, h236⟩ := ob (o := same15 y150 y206) h232
      obtain ⟨-, hl237, he238⟩ := gslU_elems (k := heldW) (gslC_U (hs230.get (i := 0) rfl)) rfl (fun _ _ _ => ⟨trivial, rfl⟩)
      have hr239 := elT ht227 he217
      refine WL.call (same15_ok _ (fun _ => True) y150 y206 _ _ (elAll he238) hl237 _ _ (elAll hr239) hl213 hx235) (R.call (vs := [Value.slice a156 y150.length c157, Value.slice a211 y206.length c212]) (caps := []) bo38 rfl rfl) rfl ?_
      rintro v242 w243 ⟨rfl, ht240⟩
      have ht241 := hs230.call (N := [gslC 60 heldE (Value.slice a156 y150.length c157) y150, gslC 60 heldE (Value.slice a144 y139.length c145) y139]) (M := []) (List.Perm.refl _) ht240
      have hs244 := hs230.trans ht241
      refine WL.guardY (e := 34) (Eq.trans (show _ = Value.bool (!y220) from rfl) (congrArg Value.bool hk233)) rfl rfl ?_
      refine WL.val (R.not (b := y234) rfl) rfl ?_
      refine WL.val (R.pickF (v := Value.bool (!y234)) (Eq.trans (show _ = Value.bool (!y220) from rfl) (congrArg Value.bool hk233)) rfl) rfl ?_
      refine WL.val (R.move (v := Value.bool (!y234)) rfl) rfl ?_
      by_cases hc245 : y234 = true
      · have h246 := ifT hc245 h236
        have hk247 : (!y234) = false := by simp [hc245]
        refine WL.guardY (e := 40) (Eq.trans (show _ = Value.bool (!y234) from rfl) (congrArg Value.bool hk247)) rfl rfl ?_
        refine WL.val (R.move (v := Value.slice a129 y123.length c130) rfl) rfl ?_
        refine WL.guardY (e := 40) (Eq.trans (show _ = Value.bool (!y234) from rfl) (congrArg Value.bool hk247)) rfl rfl ?_
        have hd248 : ∀ w, (Instr.build 25 #[(0, Value.slice a129 y123.length c130)]).run Try.prog w = .ok (Value.agg (List.toArray [Value.slice a129 y123.length c130])) w := fun _ => by kernel_rfl
        refine WL.val (R.build (vs := [(0, Value.slice a129 y123.length c130)]) rfl hd248) rfl ?_
        refine WL.guardY (e := 40) (Eq.trans (show _ = Value.bool (!y234) from rfl) (congrArg Value.bool hk247)) rfl rfl ?_
        refine WL.val (R.move (v := Value.slice a1 p1.length c1) rfl) rfl ?_
        refine WL.guardY (e := 40) (Eq.trans (show _ = Value.bool (!y234) from rfl) (congrArg Value.bool hk247)) rfl rfl ?_
        have hd249 : ∀ w, (Instr.build 25 #[(0, Value.slice a1 p1.length c1)]).run Try.prog w = .ok (Value.agg (List.toArray [Value.slice a1 p1.length c1])) w := fun _ => by kernel_rfl
        refine WL.val (R.build (vs := [(0, Value.slice a1 p1.length c1)]) rfl hd249) rfl ?_
        refine WL.guardY (e := 40) (Eq.trans (show _ = Value.bool (!y234) from rfl) (congrArg Value.bool hk247)) rfl rfl ?_
        obtain ⟨y250, hx251, h252⟩ := ob (o := leftword13 y123 p1) h246
        have hr253 := elT ((((((ht155.trans ht167).trans ht181).trans ht196).trans ht210).trans ht227).trans ht241) hr153
        have hr254 := elT (((ht196.trans ht210).trans ht227).trans ht241) hr194
        refine WL.call (leftword13_ok _ (fun _ => True) y123 p1 _ _ (elAll hr253) hl131 _ _ (elAll hr254) hc1 hx251) (R.call (vs := [Value.agg (List.toArray [Value.slice a129 y123.length c130]), Value.agg (List.toArray [Value.slice a1 p1.length c1])]) (caps := []) bo39 rfl rfl) rfl ?_
        rintro v257 w258 ⟨rfl, ht255⟩
        have ht256 := hs244.call (N := [gslC 60 heldE (Value.slice a156 y150.length c157) y150, gslC 60 heldE (Value.slice a144 y139.length c145) y139]) (M := []) (List.Perm.refl _) ht255
        have hs259 := hs244.trans ht256
        refine WL.guardY (e := 40) (Eq.trans (show _ = Value.bool (!y234) from rfl) (congrArg Value.bool hk247)) rfl rfl ?_
        refine WL.val (R.not (b := y250) rfl) rfl ?_
        refine WL.val (R.pickF (v := Value.bool (!y250)) (Eq.trans (show _ = Value.bool (!y234) from rfl) (congrArg Value.bool hk247)) rfl) rfl ?_
        refine WL.nil ?_
        refine thenN ?_
        by_cases hc260 : y250 = true
        · have h261 := ifT hc260 h252
          have hk262 : (!y250) = false := by simp [hc260]
          refine WC.condF (Eq.trans (show _ = Value.bool (!y250) from rfl) (congrArg Value.bool hk262)) rfl ?_
          refine WC.skip ?_
          refine thenN ?_
          refine WC.seq ?_
          refine WC.region ?_
          refine WL.val (R.move (v := Value.slice a144 y139.length c145) rfl) rfl ?_
          obtain ⟨y263, hx264, h265⟩ := ob (o := spoil15 y139) h261
          refine WL.call (spoil15_C _ _ _ _ y139 hx264 (show St [gslC 60 heldE (Value.slice a144 y139.length c145) y139] _ _ [gslC 60 heldE (Value.slice a144 y139.length c145) y139] from St.ofM (M := [gslC 60 heldE (Value.slice a144 y139.length c145) y139]) (N := [gslC 60 heldE (Value.slice a156 y150.length c157) y150]) hs259 (((List.perm_middle (l₁ := [gslC 60 heldE (Value.slice a156 y150.length c157) y150]) (a := gslC 60 heldE (Value.slice a144 y139.length c145) y139) (l₂ := [])).trans (List.Perm.cons _ (List.Perm.refl _)))))) (R.call (vs := [Value.slice a144 y139.length c145]) (caps := []) bo40 rfl rfl) rfl ?_
          rintro v268 w269 ⟨rfl, ht266⟩
          have ht267 := hs259.call (M := [gslC 60 heldE (Value.slice a144 y139.length c145) y139]) (N := [gslC 60 heldE (Value.slice a156 y150.length c157) y150]) (((List.perm_middle (l₁ := [gslC 60 heldE (Value.slice a156 y150.length c157) y150]) (a := gslC 60 heldE (Value.slice a144 y139.length c145) y139) (l₂ := [])).trans (List.Perm.cons _ (List.Perm.refl _)))) ht266
          have hs270 := hs259.trans ht267
          refine WL.nil ?_
          refine thenN ?_
          refine WC.seq ?_
          refine WC.region ?_
          refine WL.val (R.move (v := Value.slice a156 y150.length c157) rfl) rfl ?_
          obtain ⟨y271, hx272, h273⟩ := ob (o := spoil15 y150) h265
          refine WL.call (spoil15_C _ _ _ _ y150 hx272 (show St [gslC 60 heldE (Value.slice a156 y150.length c157) y150] _ _ [gslC 60 heldE (Value.slice a156 y150.length c157) y150] from St.ofM (M := [gslC 60 heldE (Value.slice a156 y150.length c157) y150]) (N := []) hs270 ((List.Perm.refl _)))) (R.call (vs := [Value.slice a156 y150.length c157]) (caps := []) bo40 rfl rfl) rfl ?_
          rintro v276 w277 ⟨rfl, ht274⟩
          have ht275 := hs270.call (M := [gslC 60 heldE (Value.slice a156 y150.length c157) y150]) (N := []) ((List.Perm.refl _)) ht274
          have hs278 := hs270.trans ht275
          refine WL.nil ?_
          refine thenN ?_
          refine WC.seq ?_
          refine WC.region ?_
          refine WL.val (R.move (v := Value.slice a129 y123.length c130) rfl) rfl ?_
          obtain ⟨y279, hx280, h281⟩ := ob (o := tableo15 y123) h273
          have hr282 := elT ((ht256.trans ht267).trans ht275) hr253
          refine WL.call (tableo15_ok _ (fun _ => True) y123 _ _ (elAll (elM hr282)) hl131 hx280) (R.call (vs := [Value.slice a129 y123.length c130]) (caps := []) bo33 rfl rfl) rfl ?_
          rintro v287 w288 ⟨a285, c286, rfl, ht283⟩
          have ht284 := hs278.call (N := []) (M := []) (List.Perm.refl _) ht283
          have hs290 := hs278.trans ht284
          refine WL.val (R.move (v := Value.slice a182 y177.length c183) rfl) rfl ?_
          obtain ⟨y291, hx292, h293⟩ := ob (o := same15 y279 y177) h281
          obtain ⟨-, hl294, he295⟩ := gslU_elems (k := heldW) (gslC_U (hs290.get (i := 0) rfl)) rfl (fun _ _ _ => ⟨trivial, rfl⟩)
          have hr296 := elT (((((ht227.trans ht241).trans ht256).trans ht267).trans ht275).trans ht284) hr225
          refine WL.call (same15_ok _ (fun _ => True) y279 y177 _ _ (elAll he295) hl294 _ _ (elAll hr296) hl184 hx292) (R.call (vs := [Value.slice a285 y279.length c286, Value.slice a182 y177.length c183]) (caps := []) bo38 rfl rfl) rfl ?_
          rintro v299 w300 ⟨rfl, ht297⟩
          have ht298 := hs290.call (N := [gslC 60 heldE (Value.slice a285 y279.length c286) y279]) (M := []) (List.Perm.refl _) ht297
          have hs301 := hs290.trans ht298
          refine WL.val (R.move (v := Value.bool y291) rfl) rfl ?_
          by_cases hc302 : y291 = true
          · have h303 := ifT hc302 h293
            refine WL.guardY (e := 56) (Eq.trans (show _ = Value.bool y291 from rfl) (congrArg Value.bool hc302)) rfl rfl ?_
            refine WL.val (R.move (v := Value.int .i64 p0) rfl) rfl ?_
            refine WL.guardY (e := 56) (Eq.trans (show _ = Value.bool y291 from rfl) (congrArg Value.bool hc302)) rfl rfl ?_
            refine WL.val (R.move (v := Value.slice a129 y123.length c130) rfl) rfl ?_
            refine WL.guardY (e := 56) (Eq.trans (show _ = Value.bool y291 from rfl) (congrArg Value.bool hc302)) rfl rfl ?_
            obtain ⟨y304, hx305, h306⟩ := ob (o := agreeo15 p0 y123) h303
            have hr307 := elT (ht284.trans ht298) hr282
            refine WL.call (agreeo15_ok _ (fun _ => True) p0 y123 _ _ (elAll (elM hr307)) hl131 hx305) (R.call (vs := [Value.int .i64 p0, Value.slice a129 y123.length c130]) (caps := []) bo34 rfl rfl) rfl ?_
            rintro v312 w313 ⟨a310, c311, rfl, ht308⟩
            have ht309 := hs301.call (N := [gslC 60 heldE (Value.slice a285 y279.length c286) y279]) (M := []) (List.Perm.refl _) ht308
            have hs315 := hs301.trans ht309
            refine WL.guardY (e := 56) (Eq.trans (show _ = Value.bool y291 from rfl) (congrArg Value.bool hc302)) rfl rfl ?_
            refine WL.val (R.move (v := Value.slice a211 y206.length c212) rfl) rfl ?_
            refine WL.guardY (e := 56) (Eq.trans (show _ = Value.bool y291 from rfl) (congrArg Value.bool hc302)) rfl rfl ?_
            obtain ⟨y316, hx317, h318⟩ := ob (o := same15 y304 y206) h306
            obtain ⟨-, hl319, he320⟩ := gslU_elems (k := heldW) (gslC_U (hs315.get (i := 0) rfl)) rfl (fun _ _ _ => ⟨trivial, rfl⟩)
            have hr321 := elT ((((((ht241.trans ht256).trans ht267).trans ht275).trans ht284).trans ht298).trans ht309) hr239
            refine WL.call (same15_ok _ (fun _ => True) y304 y206 _ _ (elAll he320) hl319 _ _ (elAll hr321) hl213 hx317) (R.call (vs := [Value.slice a310 y304.length c311, Value.slice a211 y206.length c212]) (caps := []) bo38 rfl rfl) rfl ?_
            rintro v324 w325 ⟨rfl, ht322⟩
            have ht323 := hs315.call (N := [gslC 60 heldE (Value.slice a310 y304.length c311) y304, gslC 60 heldE (Value.slice a285 y279.length c286) y279]) (M := []) (List.Perm.refl _) ht322
            have hs326 := hs315.trans ht323
            refine WL.val (R.pickT (v := Value.bool y316) (Eq.trans (show _ = Value.bool y291 from rfl) (congrArg Value.bool hc302)) rfl) rfl ?_
            refine WL.val (R.move (v := Value.bool y316) rfl) rfl ?_
            by_cases hc327 : y316 = true
            · have h328 := ifT hc327 h318
              refine WL.guardY (e := 63) (Eq.trans (show _ = Value.bool y316 from rfl) (congrArg Value.bool hc327)) rfl rfl ?_
              refine WL.val (R.move (v := Value.slice a129 y123.length c130) rfl) rfl ?_
              refine WL.guardY (e := 63) (Eq.trans (show _ = Value.bool y316 from rfl) (congrArg Value.bool hc327)) rfl rfl ?_
              have hd329 : ∀ w, (Instr.build 25 #[(0, Value.slice a129 y123.length c130)]).run Try.prog w = .ok (Value.agg (List.toArray [Value.slice a129 y123.length c130])) w := fun _ => by kernel_rfl
              refine WL.val (R.build (vs := [(0, Value.slice a129 y123.length c130)]) rfl hd329) rfl ?_
              refine WL.guardY (e := 63) (Eq.trans (show _ = Value.bool y316 from rfl) (congrArg Value.bool hc327)) rfl rfl ?_
              refine WL.val (R.move (v := Value.slice a1 p1.length c1) rfl) rfl ?_
              refine WL.guardY (e := 63) (Eq.trans (show _ = Value.bool y316 from rfl) (congrArg Value.bool hc327)) rfl rfl ?_
              have hd330 : ∀ w, (Instr.build 25 #[(0, Value.slice a1 p1.length c1)]).run Try.prog w = .ok (Value.agg (List.toArray [Value.slice a1 p1.length c1])) w := fun _ => by kernel_rfl
              refine WL.val (R.build (vs := [(0, Value.slice a1 p1.length c1)]) rfl hd330) rfl ?_
              refine WL.guardY (e := 63) (Eq.trans (show _ = Value.bool y316 from rfl) (congrArg Value.bool hc327)) rfl rfl ?_
              obtain ⟨y331, hx332, h333⟩ := ob (o := leftword13 y123 p1) h328
              have hr334 := elT (ht309.trans ht323) hr307
              have hr335 := elT ((((((ht256.trans ht267).trans ht275).trans ht284).trans ht298).trans ht309).trans ht323) hr254
              refine WL.call (leftword13_ok _ (fun _ => True) y123 p1 _ _ (elAll hr334) hl131 _ _ (elAll hr335) hc1 hx332) (R.call (vs := [Value.agg (List.toArray [Value.slice a129 y123.length c130]), Value.agg (List.toArray [Value.slice a1 p1.length c1])]) (caps := []) bo39 rfl rfl) rfl ?_
              rintro v338 w339 ⟨rfl, ht336⟩
              have ht337 := hs326.call (N := [gslC 60 heldE (Value.slice a310 y304.length c311) y304, gslC 60 heldE (Value.slice a285 y279.length c286) y279]) (M := []) (List.Perm.refl _) ht336
              have hs340 := hs326.trans ht337
              refine WL.val (R.pickT (v := Value.bool y331) (Eq.trans (show _ = Value.bool y316 from rfl) (congrArg Value.bool hc327)) rfl) rfl ?_
              refine WL.val (R.move (v := Value.bool y331) rfl) rfl ?_
              by_cases hc341 : y331 = true
              · have h342 := ifT hc341 h333
                refine WL.guardY (e := 70) (Eq.trans (show _ = Value.bool y331 from rfl) (congrArg Value.bool hc341)) rfl rfl ?_
                obtain ⟨y343, hx344, h345⟩ := ob (o := lives15 ) h342
                refine WL.call (lives15_ok _ (In (fun _ => False) w [] [gslC 60 heldE (Value.slice a310 y304.length c311) y304, gslC 60 heldE (Value.slice a285 y279.length c286) y279])   hx344) (R.call (vs := []) (caps := []) bo31 rfl rfl) rfl ?_
                rintro v348 w349 ⟨rfl, ht346⟩
                have ht347 := hs340.call (N := [gslC 60 heldE (Value.slice a310 y304.length c311) y304, gslC 60 heldE (Value.slice a285 y279.length c286) y279]) (M := []) (List.Perm.refl _) ht346
                have hs350 := hs340.trans ht347
                refine WL.val (R.pickT (v := Value.bool y343) (Eq.trans (show _ = Value.bool y331 from rfl) (congrArg Value.bool hc341)) rfl) rfl ?_
                refine WL.val (R.assign (v := Value.bool y343) rfl) rfl ?_
                refine WL.nil ?_
                refine thenN ?_
                refine WC.ret ?_
                have ht351 := (hs350.here).perm (L' := []) (G := [gslC 60 heldE (Value.slice a310 y304.length c311) y304, gslC 60 heldE (Value.slice a285 y279.length c286) y279]) ((List.Perm.refl _))
                have hs352 := hs350.trans ht351
                obtain rfl := Option.some.inj (show some y343 = some r from h345)
                exact ret1 (P := Try.prog) (n := 73) (fn := Try.f3) (R := fun v w' => v = Value.bool y343 ∧ St [] w w' []) (t := 4) (v := Value.bool y343) rfl rfl rfl ⟨rfl, hs352⟩
              · have h353 := ifF hc341 h333
                refine WL.guardN (e := 70) (v := .bool false) (Eq.trans (show _ = Value.bool y331 from rfl) (congrArg Value.bool (Bool.eq_false_iff.2 hc341))) rfl rfl rfl ?_
                refine WL.val (R.pickF (v := Value.bool false) (Eq.trans (show _ = Value.bool y331 from rfl) (congrArg Value.bool (Bool.eq_false_iff.2 hc341))) rfl) rfl ?_
                refine WL.val (R.assign (v := Value.bool false) rfl) rfl ?_
                refine WL.nil ?_
                refine thenN ?_
                refine WC.ret ?_
                have ht354 := (hs340.here).perm (L' := []) (G := [gslC 60 heldE (Value.slice a310 y304.length c311) y304, gslC 60 heldE (Value.slice a285 y279.length c286) y279]) ((List.Perm.refl _))
                have hs355 := hs340.trans ht354
                obtain rfl := Option.some.inj (show some false = some r from h353)
                exact ret1 (P := Try.prog) (n := 73) (fn := Try.f3) (R := fun v w' => v = Value.bool false ∧ St [] w w' []) (t := 4) (v := Value.bool false) rfl rfl rfl ⟨rfl, hs355⟩
            · have h356 := ifF hc327 h318
              refine WL.guardN (e := 63) (v := .bool false) (Eq.trans (show _ = Value.bool y316 from rfl) (congrArg Value.bool (Bool.eq_false_iff.2 hc327))) rfl rfl rfl ?_
              refine WL.guardN (e := 63) (v := .bool false) (Eq.trans (show _ = Value.bool y316 from rfl) (congrArg Value.bool (Bool.eq_false_iff.2 hc327))) rfl rfl rfl ?_
              refine WL.guardN (e := 63) (v := .bool false) (Eq.trans (show _ = Value.bool y316 from rfl) (congrArg Value.bool (Bool.eq_false_iff.2 hc327))) rfl rfl rfl ?_
              refine WL.guardN (e := 63) (v := .bool false) (Eq.trans (show _ = Value.bool y316 from rfl) (congrArg Value.bool (Bool.eq_false_iff.2 hc327))) rfl rfl rfl ?_
              refine WL.guardN (e := 63) (v := .bool false) (Eq.trans (show _ = Value.bool y316 from rfl) (congrArg Value.bool (Bool.eq_false_iff.2 hc327))) rfl rfl rfl ?_
              refine WL.val (R.pickF (v := Value.bool false) (Eq.trans (show _ = Value.bool y316 from rfl) (congrArg Value.bool (Bool.eq_false_iff.2 hc327))) rfl) rfl ?_
              refine WL.val (R.move (v := Value.bool false) rfl) rfl ?_
              refine WL.guardN (e := 70) (v := .bool false) rfl rfl rfl rfl ?_
              refine WL.val (R.pickF (v := Value.bool false) rfl rfl) rfl ?_
              refine WL.val (R.assign (v := Value.bool false) rfl) rfl ?_
              refine WL.nil ?_
              refine thenN ?_
              refine WC.ret ?_
              have ht357 := (hs326.here).perm (L' := []) (G := [gslC 60 heldE (Value.slice a310 y304.length c311) y304, gslC 60 heldE (Value.slice a285 y279.length c286) y279]) ((List.Perm.refl _))
              have hs358 := hs326.trans ht357
              obtain rfl := Option.some.inj (show some false = some r from h356)
              exact ret1 (P := Try.prog) (n := 73) (fn := Try.f3) (R := fun v w' => v = Value.bool false ∧ St [] w w' []) (t := 4) (v := Value.bool false) rfl rfl rfl ⟨rfl, hs358⟩
          · have h359 := ifF hc302 h293
            refine WL.guardN (e := 56) (v := .bool false) (Eq.trans (show _ = Value.bool y291 from rfl) (congrArg Value.bool (Bool.eq_false_iff.2 hc302))) rfl rfl rfl ?_
            refine WL.guardN (e := 56) (v := .bool false) (Eq.trans (show _ = Value.bool y291 from rfl) (congrArg Value.bool (Bool.eq_false_iff.2 hc302))) rfl rfl rfl ?_
            refine WL.guardN (e := 56) (v := .bool false) (Eq.trans (show _ = Value.bool y291 from rfl) (congrArg Value.bool (Bool.eq_false_iff.2 hc302))) rfl rfl rfl ?_
            refine WL.guardN (e := 56) (v := .bool false) (Eq.trans (show _ = Value.bool y291 from rfl) (congrArg Value.bool (Bool.eq_false_iff.2 hc302))) rfl rfl rfl ?_
            refine WL.guardN (e := 56) (v := .bool false) (Eq.trans (show _ = Value.bool y291 from rfl) (congrArg Value.bool (Bool.eq_false_iff.2 hc302))) rfl rfl rfl ?_
            refine WL.val (R.pickF (v := Value.bool false) (Eq.trans (show _ = Value.bool y291 from rfl) (congrArg Value.bool (Bool.eq_false_iff.2 hc302))) rfl) rfl ?_
            refine WL.val (R.move (v := Value.bool false) rfl) rfl ?_
            refine WL.guardN (e := 63) (v := .bool false) rfl rfl rfl rfl ?_
            refine WL.guardN (e := 63) (v := .bool false) rfl rfl rfl rfl ?_
            refine WL.guardN (e := 63) (v := .bool false) rfl rfl rfl rfl ?_
            refine WL.guardN (e := 63) (v := .bool false) rfl rfl rfl rfl ?_
            refine WL.guardN (e := 63) (v := .bool false) rfl rfl rfl rfl ?_
            refine WL.val (R.pickF (v := Value.bool false) rfl rfl) rfl ?_
            refine WL.val (R.move (v := Value.bool false) rfl) rfl ?_
            refine WL.guardN (e := 70) (v := .bool false) rfl rfl rfl rfl ?_
            refine WL.val (R.pickF (v := Value.bool false) rfl rfl) rfl ?_
            refine WL.val (R.assign (v := Value.bool false) rfl) rfl ?_
            refine WL.nil ?_
            refine thenN ?_
            refine WC.ret ?_
            have ht360 := (hs301.here).perm (L' := []) (G := [gslC 60 heldE (Value.slice a285 y279.length c286) y279]) ((List.Perm.refl _))
            have hs361 := hs301.trans ht360
            obtain rfl := Option.some.inj (show some false = some r from h359)
            exact ret1 (P := Try.prog) (n := 73) (fn := Try.f3) (R := fun v w' => v = Value.bool false ∧ St [] w w' []) (t := 4) (v := Value.bool false) rfl rfl rfl ⟨rfl, hs361⟩
        · have h362 := ifF hc260 h252
          have hk363 : (!y250) = true := by simp [hc260]
          refine WC.condT (Eq.trans (show _ = Value.bool (!y250) from rfl) (congrArg Value.bool hk363)) rfl ?_
          refine WC.seq ?_
          refine WC.region ?_
          refine WL.val (R.assign (v := Value.bool false) rfl) rfl ?_
          refine WL.nil ?_
          refine thenN ?_
          refine WC.ret ?_
          have ht364 := (hs259.here).perm (L' := []) (G := [gslC 60 heldE (Value.slice a156 y150.length c157) y150, gslC 60 heldE (Value.slice a144 y139.length c145) y139]) ((List.Perm.refl _))
          have hs365 := hs259.trans ht364
          obtain rfl := Option.some.inj (show some false = some r from h362)
          exact ret1 (P := Try.prog) (n := 73) (fn := Try.f3) (R := fun v w' => v = Value.bool false ∧ St [] w w' []) (t := 4) (v := Value.bool false) rfl rfl rfl ⟨rfl, hs365⟩
      · have h366 := ifF hc245 h236
        have hk367 : (!y234) = true := by simp [hc245]
        refine WL.guardN (e := 40) (v := .bool true) (Eq.trans (show _ = Value.bool (!y234) from rfl) (congrArg Value.bool hk367)) rfl rfl rfl ?_
        refine WL.guardN (e := 40) (v := .bool true) (Eq.trans (show _ = Value.bool (!y234) from rfl) (congrArg Value.bool hk367)) rfl rfl rfl ?_
        refine WL.guardN (e := 40) (v := .bool true) (Eq.trans (show _ = Value.bool (!y234) from rfl) (congrArg Value.bool hk367)) rfl rfl rfl ?_
        refine WL.guardN (e := 40) (v := .bool true) (Eq.trans (show _ = Value.bool (!y234) from rfl) (congrArg Value.bool hk367)) rfl rfl rfl ?_
        refine WL.guardN (e := 40) (v := .bool true) (Eq.trans (show _ = Value.bool (!y234) from rfl) (congrArg Value.bool hk367)) rfl rfl rfl ?_
        refine WL.guardN (e := 40) (v := .bool true) (Eq.trans (show _ = Value.bool (!y234) from rfl) (congrArg Value.bool hk367)) rfl rfl rfl ?_
        refine WL.val (R.pickT (v := Value.bool true) (Eq.trans (show _ = Value.bool (!y234) from rfl) (congrArg Value.bool hk367)) rfl) rfl ?_
        refine WL.nil ?_
        refine thenN ?_
        refine WC.condT rfl rfl ?_
        refine WC.seq ?_
        refine WC.region ?_
        refine WL.val (R.assign (v := Value.bool false) rfl) rfl ?_
        refine WL.nil ?_
        refine thenN ?_
        refine WC.ret ?_
        have ht368 := (hs244.here).perm (L' := []) (G := [gslC 60 heldE (Value.slice a156 y150.length c157) y150, gslC 60 heldE (Value.slice a144 y139.length c145) y139]) ((List.Perm.refl _))
        have hs369 := hs244.trans ht368
        obtain rfl := Option.some.inj (show some false = some r from h366)
        exact ret1 (P := Try.prog) (n := 73) (fn := Try.f3) (R := fun v w' => v = Value.bool false ∧ St [] w w' []) (t := 4) (v := Value.bool false) rfl rfl rfl ⟨rfl, hs369⟩
    · have h370 := ifF hc231 h222
      have hk371 : (!y220) = true := by simp [hc231]
      refine WL.guardN (e := 34) (v := .bool true) (Eq.trans (show _ = Value.bool (!y220) from rfl) (congrArg Value.bool hk371)) rfl rfl rfl ?_
      refine WL.guardN (e := 34) (v := .bool true) (Eq.trans (show _ = Value.bool (!y220) from rfl) (congrArg Value.bool hk371)) rfl rfl rfl ?_
      refine WL.guardN (e := 34) (v := .bool true) (Eq.trans (show _ = Value.bool (!y220) from rfl) (congrArg Value.bool hk371)) rfl rfl rfl ?_
      refine WL.guardN (e := 34) (v := .bool true) (Eq.trans (show _ = Value.bool (!y220) from rfl) (congrArg Value.bool hk371)) rfl rfl rfl ?_
      refine WL.val (R.pickT (v := Value.bool true) (Eq.trans (show _ = Value.bool (!y220) from rfl) (congrArg Value.bool hk371)) rfl) rfl ?_
      refine WL.val (R.move (v := Value.bool true) rfl) rfl ?_
      refine WL.guardN (e := 40) (v := .bool true) rfl rfl rfl rfl ?_
      refine WL.guardN (e := 40) (v := .bool true) rfl rfl rfl rfl ?_
      refine WL.guardN (e := 40) (v := .bool true) rfl rfl rfl rfl ?_
      refine WL.guardN (e := 40) (v := .bool true) rfl rfl rfl rfl ?_
      refine WL.guardN (e := 40) (v := .bool true) rfl rfl rfl rfl ?_
      refine WL.guardN (e := 40) (v := .bool true) rfl rfl rfl rfl ?_
      refine WL.val (R.pickT (v := Value.bool true) rfl rfl) rfl ?_
      refine WL.nil ?_
      refine thenN ?_
      refine WC.condT rfl rfl ?_
      refine WC.seq ?_
      refine WC.region ?_
      refine WL.val (R.assign (v := Value.bool false) rfl) rfl ?_
      refine WL.nil ?_
      refine thenN ?_
      refine WC.ret ?_
      have ht372 := (hs230.here).perm (L' := []) (G := [gslC 60 heldE (Value.slice a156 y150.length c157) y150, gslC 60 heldE (Value.slice a144 y139.length c145) y139]) ((List.Perm.refl _))
      have hs373 := hs230.trans ht372
      obtain rfl := Option.some.inj (show some false = some r from h370)
      exact ret1 (P := Try.prog) (n := 73) (fn := Try.f3) (R := fun v w' => v = Value.bool false ∧ St [] w w' []) (t := 4) (v := Value.bool false) rfl rfl rfl ⟨rfl, hs373⟩

end Go.Proofs.Ytckcldimnelklaa
