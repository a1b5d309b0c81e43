/- Parts of the proof, put together: W13ta. -/
import Derived.Test.YtckcldimnelklaaPAgreesAnyW1
import Derived.Test.YtckcldimnelklaaKAgreesAnyW13e
import Derived.Test.YtckcldimnelklaaWS
import Derived.Test.YtckcldimnelklaaPAgreesAnyD0
/- The functions come to what their twins answer: group 13t. -/
namespace Go.Proofs.Ytckcldimnelklaa
open Go
set_option linter.unusedVariables false
set_option linter.unusedSimpArgs false
set_option maxRecDepth 100000
set_option maxHeartbeats 4000000

theorem other13_ok (w : World) (ok : Nat → Prop) (p0 : Rw) (a0 : Option Addr) (c0 : Nat) (he0 : elems heldW w ok a0 p0.table) (hc0 : p0.table.length ≤ c0) {r : Rw} (h : other13 p0 = some r) :
    Ret Try.prog 71 [Value.agg (List.toArray (encR p0 (Value.slice a0 p0.table.length c0)))] w (fun v w' => ∃ ra0, ∃ rc0, v = Value.agg (List.toArray (encR r (Value.slice ra0 r.table.length rc0))) ∧ r.table.length ≤ rc0 ∧ elems heldW w' (In ok w [] []) ra0 r.table ∧ St [] w w' []) := by
  rw [other13] at h
  have hs100 : St [] w w [] := St.start w
  have he1000 := el0 (L0 := []) (fun b _ => out_nil b) he0
  refine enter (n := 36) Try.func71 rfl rfl rfl ?_
  refine WC.seq ?_
  refine WC.region ?_
  refine WL.new (L' := fun b102 => [blk b102 62 (encR p0 (Value.slice a0 p0.table.length c0))]) (f := fun b102 => Value.pointer (some ⟨b102, 0, none⟩)) (X.box (v := Value.agg (List.toArray (encR p0 (Value.slice a0 p0.table.length c0)))) (c := encR p0 (Value.slice a0 p0.table.length c0)) (hs100.here) rfl rfl (fun _ => rfl)) rfl ?_
  intro b102 w103 ht108 he105 hz106
  have hs109 := hs100.trans ht108
  refine WL.new (L' := fun b110 => [blk b102 62 (encR p0 (Value.slice a0 p0.table.length c0)), blk b110 143 (encR Rw.none (Value.slice none 0 0))]) (f := fun b110 => Value.pointer (some ⟨b110, 0, none⟩)) (X.alloc (c := encR Rw.none (Value.slice none 0 0)) (hs109.here) zr143 rfl (fun _ => rfl)) rfl ?_
  intro b110 w111 ht116 he113 hz114
  have hs117 := hs109.trans ht116
  refine WL.nil ?_
  refine thenN ?_
  refine WC.seq ?_
  refine WC.region ?_
  refine WL.val (R.fieldAddr (o := 0) (o' := 0) fa62_0 rfl rfl) rfl ?_
  refine WL.val (R.loadL (v := Value.bool p0.is) lf4 rfl (hs117.at (i := 0) (off := 0) (n := 1) (cs := [Value.bool p0.is]) rfl rfl rfl)) rfl ?_
  refine WL.val (R.fieldAddr (o := 0) (o' := 1) fa62_1 rfl rfl) rfl ?_
  refine WL.val (R.loadA (cs := encC p0.cell) (n := 55) ag58 rfl (hs117.at (i := 0) (off := 1) (n := 55) (cs := encC p0.cell) rfl rfl rfl) rfl) rfl ?_
  have hd118 : ∀ w, (Instr.build 143 #[(0, Value.bool p0.is), (1, Value.agg (List.toArray (encC p0.cell)))]).run Try.prog w = .ok (Value.agg (List.toArray ((Value.bool p0.is) :: ((encC p0.cell) ++ ((Value.slice none 0 0) :: []))))) w := fun _ => by kernel_rfl
  refine WL.val (R.build (vs := [(0, Value.bool p0.is), (1, Value.agg (List.toArray (encC p0.cell)))]) rfl hd118) rfl ?_
  refine WL.new (L' := fun b119 => [blk b102 62 (encR p0 (Value.slice a0 p0.table.length c0)), blk b110 143 (encR Rw.none (Value.slice none 0 0)), blk b119 143 (encR Rw.none (Value.slice none 0 0))]) (f := fun b119 => Value.pointer (some ⟨b119, 0, none⟩)) (X.alloc (c := encR Rw.none (Value.slice none 0 0)) (hs117.here) zr143 rfl (fun _ => rfl)) rfl ?_
  intro b119 w120 ht125 he122 hz123
  have hs126 := hs117.trans ht125
  refine WL.sto (L' := [blk b102 62 (encR p0 (Value.slice a0 p0.table.length c0)), blk b110 143 (encR Rw.none (Value.slice none 0 0)), blk b119 143 ((Value.bool p0.is) :: ((encC p0.cell) ++ ((Value.slice none 0 0) :: [])))]) (X.store (i := 2) (n := 57) (b := b119) (off := 0) (c := encR Rw.none (Value.slice none 0 0)) (U := 143) (vs := (Value.bool p0.is) :: ((encC p0.cell) ++ ((Value.slice none 0 0) :: []))) (v := Value.agg (List.toArray ((Value.bool p0.is) :: ((encC p0.cell) ++ ((Value.slice none 0 0) :: []))))) (c' := (Value.bool p0.is) :: ((encC p0.cell) ++ ((Value.slice none 0 0) :: []))) (hs126.here) rfl ag143.size rfl rfl rfl rfl rfl rfl rfl rfl) rfl rfl ?_
  intro w127 ht128
  have hs129 := hs126.trans ht128
  refine WL.nil ?_
  refine thenN ?_
  refine WC.seq ?_
  refine WC.seq ?_
  refine WC.region ?_
  refine WL.val (R.assign (v := Value.int .i64 0) rfl) rfl ?_
  refine WL.nil ?_
  refine thenN ?_
  have ht179 := (hs129.here).addNil 202 heldE rfl
  have hs181 := hs129.trans ht179
  have hr293 := elT ((((ht108.trans ht116).trans ht125).trans ht128).trans ht179) he1000
  obtain ⟨K285, hK286, h287⟩ := kE (G := fun K285 => other13_l1 p0 K285 1000000 0 ([] : List Hd)) h
  refine WC.join (fun σ295 w294 => ∃ l282 : List Hd, ∃ a283, ∃ c284, σ295 2 = (Value.pointer (some ⟨b110, 0, none⟩)) ∧ σ295 3 = (Value.pointer (some ⟨b119, 0, none⟩)) ∧ K285 l282 = some r ∧ St [] w w294 [blk b110 143 (encR Rw.none (Value.slice none 0 0)), blk b119 143 ((Value.bool p0.is) :: ((encC p0.cell) ++ ((Value.slice a283 l282.length c284) :: []))), gsl 202 heldE (Value.slice a283 l282.length c284) l282]) ?_ ?_
  · refine WC.block ?_
    refine WC.loop (T := Nat) (fun k291 σ289 w288 => ∃ i278 : Int, ∃ l279 : List Hd, ∃ a280, ∃ c281, σ289 1 = (Value.pointer (some ⟨b102, 0, none⟩)) ∧ σ289 2 = (Value.pointer (some ⟨b110, 0, none⟩)) ∧ σ289 3 = (Value.pointer (some ⟨b119, 0, none⟩)) ∧ σ289 4 = (Value.int .i64 i278) ∧ elems heldW w288 (In ok w [] [blk b102 62 (encR p0 (Value.slice a0 p0.table.length c0)), blk b110 143 (encR Rw.none (Value.slice none 0 0)), blk b119 143 ((Value.bool p0.is) :: ((encC p0.cell) ++ ((Value.slice a280 l279.length c281) :: []))), gsl 202 heldE (Value.slice a280 l279.length c281) l279]) a0 p0.table ∧ other13_l1 p0 K285 k291 i278 l279 = some r ∧ St [] w w288 [blk b102 62 (encR p0 (Value.slice a0 p0.table.length c0)), blk b110 143 (encR Rw.none (Value.slice none 0 0)), blk b119 143 ((Value.bool p0.is) :: ((encC p0.cell) ++ ((Value.slice a280 l279.length c281) :: []))), gsl 202 heldE (Value.slice a280 l279.length c281) l279]) (fun k291 => k291) 1000000 ⟨0, ([] : List Hd), none, 0, rfl, rfl, rfl, rfl, hr293, h287, hs181⟩ ?_
    rintro k291 σ289 w288 ⟨i278, l279, a280, c281, s298, s299, s300, s301, he292, h297, hs290⟩
    rcases k291 with _ | k291
    · rw [other13_l1] at h297; cases h297
    rw [other13_l1] at h297
    refine WC.seq ?_
    refine WC.seq ?_
    refine WC.region ?_
    refine WL.val (R.move (v := Value.int .i64 i278) (by exact s301)) rfl ?_
    refine WL.val (R.fieldAddr (o := 0) (o' := 56) fa62_2 (by exact s298) rfl) rfl ?_
    refine WL.val (R.loadL (v := Value.slice a0 p0.table.length c0) lf28 rfl (hs290.at (i := 0) (off := 56) (n := 1) (cs := [Value.slice a0 p0.table.length c0]) rfl rfl rfl)) rfl ?_
    refine WL.val (R.len (a := a0) (n := p0.table.length) (c := c0) un28 rfl) rfl ?_
    by_cases hc302 : i278 < ((p0.table.length : Nat) : Int)
    · have h303 := ifT hc302 h297
      refine WL.val (R.lssT (k := .i64) (a := i278) (b := ((p0.table.length : Nat) : Int)) un3 rfl rfl hc302) rfl ?_
      refine WL.nil ?_
      refine thenN ?_
      refine WC.condT rfl rfl ?_
      refine WC.skip ?_
      refine thenN ?_
      refine WC.seq ?_
      refine WC.block ?_
      refine WC.drawE mixed (NP.block (NP.then (NP.then (NP.block (NP.join (NP.then NP.rq)))))) ?_
      have ht304 := (hs290.here).ext (Ext.drew _)
      have hs305 := hs290.trans ht304
      refine WE.take 0 rfl (by decide +kernel) (by decide +kernel) (by decide +kernel) (by decide +kernel) rfl rfl (fun wq hq => R.fieldAddr (o := 0) (o' := 56) fa143_2 (by exact s300) rfl) ?_
      refine WE.take 1 rfl (by decide +kernel) (by decide +kernel) (by decide +kernel) (by decide +kernel) rfl rfl (fun wq hq => R.loadL (v := Value.slice a280 l279.length c281) lf31 rfl ((hs305.ext hq).at (i := 2) (off := 56) (n := 1) (cs := [Value.slice a280 l279.length c281]) rfl rfl rfl)) ?_
      refine WE.take 2 rfl (by decide +kernel) (by decide +kernel) (by decide +kernel) (by decide +kernel) rfl rfl (fun wq hq => R.fieldAddr (o := 0) (o' := 56) fa62_2 (by exact s298) rfl) ?_
      refine WE.take 3 rfl (by decide +kernel) (by decide +kernel) (by decide +kernel) (by decide +kernel) rfl rfl (fun wq hq => R.loadL (v := Value.slice a0 p0.table.length c0) lf28 rfl ((hs305.ext hq).at (i := 0) (off := 56) (n := 1) (cs := [Value.slice a0 p0.table.length c0]) rfl rfl rfl)) ?_
      refine WE.take 4 rfl (by decide +kernel) (by decide +kernel) (by decide +kernel) (by decide +kernel) rfl rfl (fun wq hq => R.move (v := Value.int .i64 i278) (by exact s301)) ?_
      obtain ⟨x306, hx307, h308⟩ := ob (o := rd p0.table i278) h303
      obtain ⟨h0309, hx310, hl311, hm312⟩ := rdE hx307
      have hr313 := elT ht304 he292
      obtain ⟨ad314, e319, ha315, hp316, hat317, hrd318⟩ := hr313 _ _ hx310
      obtain ⟨-, rfl⟩ := hrd318
      refine WE.take 5 rfl (by decide +kernel) (by decide +kernel) (by decide +kernel) (by decide +kernel) rfl rfl (fun wq hq => R.indexS (n := 56) (m := (i278).toNat) (a := a0) (ad := ad314) (len := p0.table.length) (cap := c0) (z := i278) un28 ag60.size rfl ha315 rfl hm312 hl311 hp316) ?_
      refine WE.take 6 rfl (by decide +kernel) (by decide +kernel) (by decide +kernel) (by decide +kernel) rfl rfl (fun wq hq => R.fieldAddr (o := ad314.off + (i278).toNat * 56) (o' := ad314.off + (i278).toNat * 56) fa60_0 rfl rfl) ?_
      refine WE.take 7 rfl (by decide +kernel) (by decide +kernel) (by decide +kernel) (by decide +kernel) rfl rfl (fun wq hq => R.loadL (v := Value.bool x306.is) lf4 rfl (At.sub (a := ⟨ad314.block, ad314.off + (i278).toNat * 56, none⟩) (off := 0) (n := 1) (cs := encH x306) (ds := [Value.bool x306.is]) (At.exT hq hat317) rfl rfl)) ?_
      refine WE.take 8 rfl (by decide +kernel) (by decide +kernel) (by decide +kernel) (by decide +kernel) rfl rfl (fun wq hq => R.fieldAddr (o := 0) (o' := 56) fa62_2 (by exact s298) rfl) ?_
      refine WE.take 9 rfl (by decide +kernel) (by decide +kernel) (by decide +kernel) (by decide +kernel) rfl rfl (fun wq hq => R.loadL (v := Value.slice a0 p0.table.length c0) lf28 rfl ((hs305.ext hq).at (i := 0) (off := 56) (n := 1) (cs := [Value.slice a0 p0.table.length c0]) rfl rfl rfl)) ?_
      refine WE.take 10 rfl (by decide +kernel) (by decide +kernel) (by decide +kernel) (by decide +kernel) rfl rfl (fun wq hq => R.move (v := Value.int .i64 i278) (by exact s301)) ?_
      refine WE.take 11 rfl (by decide +kernel) (by decide +kernel) (by decide +kernel) (by decide +kernel) rfl rfl (fun wq hq => R.indexS (n := 56) (m := (i278).toNat) (a := a0) (ad := ad314) (len := p0.table.length) (cap := c0) (z := i278) un28 ag60.size rfl ha315 rfl hm312 hl311 hp316) ?_
      refine WE.take 12 rfl (by decide +kernel) (by decide +kernel) (by decide +kernel) (by decide +kernel) rfl rfl (fun wq hq => R.fieldAddr (o := ad314.off + (i278).toNat * 56) (o' := ad314.off + (i278).toNat * 56 + 1) fa60_1 rfl rfl) ?_
      refine WE.take 13 rfl (by decide +kernel) (by decide +kernel) (by decide +kernel) (by decide +kernel) rfl rfl (fun wq hq => R.loadA (cs := encC x306.cell) (n := 55) ag58 rfl (At.sub (a := ⟨ad314.block, ad314.off + (i278).toNat * 56, none⟩) (off := 1) (n := 55) (cs := encH x306) (ds := encC x306.cell) (At.exT hq hat317) rfl rfl) rfl) ?_
      have hd321 : ∀ w, (Instr.build 202 #[(0, Value.bool x306.is), (1, Value.agg (List.toArray (encC x306.cell)))]).run Try.prog w = .ok (Value.agg (List.toArray (encH (⟨x306.is, x306.cell⟩ : Hd)))) w := fun _ => by kernel_rfl
      refine WE.take 14 rfl (by decide +kernel) (by decide +kernel) (by decide +kernel) (by decide +kernel) rfl rfl (fun wq hq => R.build (vs := [(0, Value.bool x306.is), (1, Value.agg (List.toArray (encC x306.cell)))]) rfl hd321) ?_
      have hd327 : ∀ w : World, (Instr.buildSlice 31 1 #[(0, Value.agg (List.toArray (encH (⟨x306.is, x306.cell⟩ : Hd))))]).run Try.prog w = .ok (.slice (some ⟨w.heap.size, 0, none⟩) 1 1) { w with heap := w.heap.push (.cells (List.toArray (encH (⟨x306.is, x306.cell⟩ : Hd))) 202) } := fun _ => by kernel_rfl
      refine WE.new (L' := fun b322 => [blk b102 62 (encR p0 (Value.slice a0 p0.table.length c0)), blk b110 143 (encR Rw.none (Value.slice none 0 0)), blk b119 143 ((Value.bool p0.is) :: ((encC p0.cell) ++ ((Value.slice a280 l279.length c281) :: []))), gsl 202 heldE (Value.slice a280 l279.length c281) l279, blk b322 202 (encH (⟨x306.is, x306.cell⟩ : Hd))]) (f := fun b322 => Value.slice (some ⟨b322, 0, none⟩) 1 1) 15 (by decide +kernel) rfl rfl rfl (X.buildSlice (c := (encH (⟨x306.is, x306.cell⟩ : Hd))) (vs := [(0, Value.agg (List.toArray (encH (⟨x306.is, x306.cell⟩ : Hd))))]) (hs305.here) rfl hd327 (fun _ => rfl)) ?_
      intro b322 w323 ht329 he325 hz326
      have hs330 := hs305.trans ht329
      obtain ⟨hg331, h332⟩ := ckE (c := l279.length < 1000000) h308
      refine WE.grow (L' := fun v333 => [blk b102 62 (encR p0 (Value.slice a0 p0.table.length c0)), blk b110 143 (encR Rw.none (Value.slice none 0 0)), blk b119 143 ((Value.bool p0.is) :: ((encC p0.cell) ++ ((Value.slice a280 l279.length c281) :: []))), gsl 202 heldE v333 (l279 ++ [(⟨x306.is, x306.cell⟩ : Hd)]), blk b322 202 (encH (⟨x306.is, x306.cell⟩ : Hd))]) 16 (by decide +kernel) (by decide +kernel) rfl rfl rfl (X.append (i := 3) (e := heldE) (xs := l279) (ys := [(⟨x306.is, x306.cell⟩ : Hd)]) (ad := ⟨b322, 0, none⟩) (m := 1) (c := 1) (hs330.here) sl31 rfl rfl rfl rfl ((hs330.here).at (i := 4) (off := 0) (n := 56) (cs := flat heldE [(⟨x306.is, x306.cell⟩ : Hd)]) rfl rfl rfl) rfl rfl (room (n := 1) hg331 rfl (by decide)) (room63 (n := 1) hg331 rfl (by decide)) (fun _ => rfl)) ?_
      intro v333 w334 ht335
      obtain ⟨a336, c337, hv338⟩ := gsl_sl (ht335.get (i := 3) rfl)
      subst hv338
      have hs339 := hs330.trans ht335
      refine WE.take 17 rfl (by decide +kernel) (by decide +kernel) (by decide +kernel) (by decide +kernel) rfl rfl (fun wq hq => R.fieldAddr (o := 0) (o' := 56) fa143_2 (by exact s300) rfl) ?_
      refine WE.sto (L' := [blk b102 62 (encR p0 (Value.slice a0 p0.table.length c0)), blk b110 143 (encR Rw.none (Value.slice none 0 0)), blk b119 143 ((Value.bool p0.is) :: ((encC p0.cell) ++ ((Value.slice a336 ((l279 ++ [(⟨x306.is, x306.cell⟩ : Hd)]).length) c337) :: []))), gsl 202 heldE (Value.slice a336 ((l279 ++ [(⟨x306.is, x306.cell⟩ : Hd)]).length) c337) (l279 ++ [(⟨x306.is, x306.cell⟩ : Hd)]), blk b322 202 (encH (⟨x306.is, x306.cell⟩ : Hd))]) 18 (by decide +kernel) (by decide +kernel) rfl rfl rfl rfl (X.store (i := 2) (n := 1) (b := b119) (off := 56) (c := (Value.bool p0.is) :: ((encC p0.cell) ++ ((Value.slice a280 l279.length c281) :: []))) (U := 143) (vs := [Value.slice a336 ((l279 ++ [(⟨x306.is, x306.cell⟩ : Hd)]).length) c337]) (v := Value.slice a336 ((l279 ++ [(⟨x306.is, x306.cell⟩ : Hd)]).length) c337) (c' := (Value.bool p0.is) :: ((encC p0.cell) ++ ((Value.slice a336 ((l279 ++ [(⟨x306.is, x306.cell⟩ : Hd)]).length) c337) :: []))) (hs339.here) rfl lf31.size rfl rfl rfl rfl rfl rfl rfl rfl) ?_
      intro w340 ht341
      have hs342 := hs339.trans ht341
      refine WE.done (by decide +kernel) ?_
      refine blockN ?_
      refine thenN ?_
      refine WC.region ?_
      refine WL.val (R.move (v := Value.int .i64 i278) (by exact s301)) rfl ?_
      obtain ⟨hg343, h344⟩ := ckE (c := -9223372036854775808 ≤ i278 + 1 ∧ i278 + 1 ≤ 9223372036854775807) h332
      refine WL.val (R.add (a := i278) (b := 1) (z := i278 + 1) rfl rfl (w64e rfl hg343.1 hg343.2)) rfl ?_
      refine WL.val (R.assign (v := Value.int .i64 (i278 + 1)) rfl) rfl ?_
      refine WL.nil ?_
      have ht345 := (hs342.here).perm (L' := [blk b102 62 (encR p0 (Value.slice a0 p0.table.length c0)), blk b110 143 (encR Rw.none (Value.slice none 0 0)), blk b119 143 ((Value.bool p0.is) :: ((encC p0.cell) ++ ((Value.slice a336 ((l279 ++ [(⟨x306.is, x306.cell⟩ : Hd)]).length) c337) :: []))), gsl 202 heldE (Value.slice a336 ((l279 ++ [(⟨x306.is, x306.cell⟩ : Hd)]).length) c337) (l279 ++ [(⟨x306.is, x306.cell⟩ : Hd)])]) (G := [blk b322 202 (encH (⟨x306.is, x306.cell⟩ : Hd))]) ((List.Perm.refl _))
      have hs346 := hs342.trans ht345
      have hr347 := elT (((ht329.trans ht335).trans ht341).trans ht345) hr313
      exact roundEnd (s := k291) ⟨i278 + 1, l279 ++ [(⟨x306.is, x306.cell⟩ : Hd)], a336, c337, s298, s299, s300, rfl, hr347, h344, hs346⟩ (Nat.lt_succ_self _)
    · have h348 := ifF hc302 h297
      refine WL.val (R.lssF (k := .i64) (a := i278) (b := ((p0.table.length : Nat) : Int)) un3 rfl rfl hc302) rfl ?_
      refine WL.nil ?_
      refine thenN ?_
      refine WC.condF rfl rfl ?_
      refine WC.exit ?_
      refine thenE ?_
      refine thenE ?_
      refine blockHit ?_
      have ht349 := (hs290.here).perm (L' := [blk b110 143 (encR Rw.none (Value.slice none 0 0)), blk b119 143 ((Value.bool p0.is) :: ((encC p0.cell) ++ ((Value.slice a280 l279.length c281) :: []))), gsl 202 heldE (Value.slice a280 l279.length c281) l279]) (G := [blk b102 62 (encR p0 (Value.slice a0 p0.table.length c0))]) (((List.perm_middle (l₁ := [blk b102 62 (encR p0 (Value.slice a0 p0.table.length c0))]) (a := blk b110 143 (encR Rw.none (Value.slice none 0 0))) (l₂ := [blk b119 143 ((Value.bool p0.is) :: ((encC p0.cell) ++ ((Value.slice a280 l279.length c281) :: []))), gsl 202 heldE (Value.slice a280 l279.length c281) l279])).trans (List.Perm.cons _ ((List.perm_middle (l₁ := [blk b102 62 (encR p0 (Value.slice a0 p0.table.length c0))]) (a := blk b119 143 ((Value.bool p0.is) :: ((encC p0.cell) ++ ((Value.slice a280 l279.length c281) :: [])))) (l₂ := [gsl 202 heldE (Value.slice a280 l279.length c281) l279])).trans (List.Perm.cons _ ((List.perm_middle (l₁ := [blk b102 62 (encR p0 (Value.slice a0 p0.table.length c0))]) (a := gsl 202 heldE (Value.slice a280 l279.length c281) l279) (l₂ := [])).trans (List.Perm.cons _ (List.Perm.refl _))))))))
      have hs350 := hs290.trans ht349
      exact joinI ⟨l279, a280, c281, s299, s300, h348, hs350⟩
  · rintro σ295 w294 ⟨l282, a283, c284, s352, s353, h351, hs296⟩
    subst hK286
    refine thenN ?_
    refine WC.seq ?_
    refine WC.region ?_
    refine WL.val (R.loadA (cs := (Value.bool p0.is) :: ((encC p0.cell) ++ ((Value.slice a283 l282.length c284) :: []))) (n := 57) ag143 (by exact s353) (hs296.at (i := 1) (off := 0) (n := 57) (cs := (Value.bool p0.is) :: ((encC p0.cell) ++ ((Value.slice a283 l282.length c284) :: []))) rfl rfl rfl) rfl) rfl ?_
    refine WL.sto (L' := [blk b110 143 ((Value.bool p0.is) :: ((encC p0.cell) ++ ((Value.slice a283 l282.length c284) :: []))), blk b119 143 ((Value.bool p0.is) :: ((encC p0.cell) ++ ((Value.slice a283 l282.length c284) :: []))), gsl 202 heldE (Value.slice a283 l282.length c284) l282]) (X.store (i := 0) (n := 57) (b := b110) (off := 0) (c := encR Rw.none (Value.slice none 0 0)) (U := 143) (vs := (Value.bool p0.is) :: ((encC p0.cell) ++ ((Value.slice a283 l282.length c284) :: []))) (v := Value.agg (List.toArray ((Value.bool p0.is) :: ((encC p0.cell) ++ ((Value.slice a283 l282.length c284) :: []))))) (c' := (Value.bool p0.is) :: ((encC p0.cell) ++ ((Value.slice a283 l282.length c284) :: []))) (hs296.here) rfl ag143.size (by exact s352) rfl rfl rfl rfl rfl rfl rfl) rfl rfl ?_
    intro w354 ht355
    have hs356 := hs296.trans ht355
    refine WL.nil ?_
    refine thenN ?_
    refine WC.ret ?_
    obtain ⟨a357, c358, hv359, hl360, he361⟩ := el_freeze (k := heldW) (ok := ok) hs356 ((List.perm_middle (l₁ := [blk b110 143 ((Value.bool p0.is) :: ((encC p0.cell) ++ ((Value.slice a283 l282.length c284) :: []))), blk b119 143 ((Value.bool p0.is) :: ((encC p0.cell) ++ ((Value.slice a283 l282.length c284) :: [])))]) (a := gsl 202 heldE (Value.slice a283 l282.length c284) l282) (l₂ := [])).trans (List.Perm.cons _ (List.Perm.refl _))) rfl (fun _ _ _ => ⟨trivial, rfl⟩)
    obtain ⟨rfl, rfl⟩ : a283 = a357 ∧ c284 = c358 := ⟨(Value.slice.inj hv359).1, (Value.slice.inj hv359).2.2⟩
    have ht362 := (hs356.here).perm (L' := [blk b110 143 ((Value.bool p0.is) :: ((encC p0.cell) ++ ((Value.slice a283 l282.length c284) :: []))), blk b119 143 ((Value.bool p0.is) :: ((encC p0.cell) ++ ((Value.slice a283 l282.length c284) :: [])))]) (G := [gsl 202 heldE (Value.slice a283 l282.length c284) l282]) ((List.Perm.refl _))
    have hs363 := hs356.trans ht362
    have hl365 := run_loadA (P := Try.prog) (n := 57) ag143 (hs363.at (i := 0) (off := 0) (n := 57) (cs := (Value.bool p0.is) :: ((encC p0.cell) ++ ((Value.slice a283 l282.length c284) :: []))) rfl rfl rfl) rfl
    have ht366 := (hs363.here).perm (L' := []) (G := [blk b110 143 ((Value.bool p0.is) :: ((encC p0.cell) ++ ((Value.slice a283 l282.length c284) :: []))), blk b119 143 ((Value.bool p0.is) :: ((encC p0.cell) ++ ((Value.slice a283 l282.length c284) :: [])))]) ((List.Perm.refl _))
    have hs367 := hs363.trans ht366
    have hr368 := elT ht366 he361
    obtain rfl := Option.some.inj (show some (⟨p0.is, p0.cell, l282⟩ : Rw) = some r from h351)
    exact retCell (P := Try.prog) (n := 36) (fn := Try.f71) (R := fun v w' => ∃ ra0, ∃ rc0, v = Value.agg (List.toArray (encR (⟨p0.is, p0.cell, l282⟩ : Rw) (Value.slice ra0 (⟨p0.is, p0.cell, l282⟩ : Rw).table.length rc0))) ∧ (⟨p0.is, p0.cell, l282⟩ : Rw).table.length ≤ rc0 ∧ elems heldW w' (In ok w [] []) ra0 (⟨p0.is, p0.cell, l282⟩ : Rw).table ∧ St [] w w' []) (t := 2) (v := Value.agg (List.toArray ((Value.bool p0.is) :: ((encC p0.cell) ++ ((Value.slice a283 l282.length c284) :: []))))) rfl s352 rfl hl365 ⟨a283, c284, rfl, hl360, hr368, hs367⟩

theorem rsame13_ok (w : World) (ok : Nat → Prop) (p0 : Rw) (p1 : Rw) (a0 : Option Addr) (c0 : Nat) (he0 : elems heldW w ok a0 p0.table) (hc0 : p0.table.length ≤ c0) (a1 : Option Addr) (c1 : Nat) (he1 : elems heldW w ok a1 p1.table) (hc1 : p1.table.length ≤ c1) {r : Bool} (h : rsame13 p0 p1 = some r) :
    Ret Try.prog 70 [Value.agg (List.toArray (encR p0 (Value.slice a0 p0.table.length c0))), Value.agg (List.toArray (encR p1 (Value.slice a1 p1.table.length c1)))] w (fun v w' => v = Value.bool r ∧ St [] w w' []) := by
  rw [rsame13] at h
  have hs100 : St [] w w [] := St.start w
  have he1000 := el0 (L0 := []) (fun b _ => out_nil b) he0
  have he1001 := el0 (L0 := []) (fun b _ => out_nil b) he1
  refine enter (n := 45) Try.func70 rfl rfl rfl ?_
  refine WC.seq ?_
  refine WC.region ?_
  refine WL.new (L' := fun b103 => [blk b103 143 (encR p0 (Value.slice a0 p0.table.length c0))]) (f := fun b103 => Value.pointer (some ⟨b103, 0, none⟩)) (X.box (v := Value.agg (List.toArray (encR p0 (Value.slice a0 p0.table.length c0)))) (c := encR p0 (Value.slice a0 p0.table.length c0)) (hs100.here) rfl rfl (fun _ => rfl)) rfl ?_
  intro b103 w104 ht109 he106 hz107
  have hs110 := hs100.trans ht109
  refine WL.new (L' := fun b111 => [blk b103 143 (encR p0 (Value.slice a0 p0.table.length c0)), blk b111 143 (encR p1 (Value.slice a1 p1.table.length c1))]) (f := fun b111 => Value.pointer (some ⟨b111, 0, none⟩)) (X.box (v := Value.agg (List.toArray (encR p1 (Value.slice a1 p1.table.length c1)))) (c := encR p1 (Value.slice a1 p1.table.length c1)) (hs110.here) rfl rfl (fun _ => rfl)) rfl ?_
  intro b111 w112 ht117 he114 hz115
  have hs118 := hs110.trans ht117
  refine WL.val (R.assign (v := Value.bool false) rfl) rfl ?_
  refine WL.nil ?_
  refine thenN ?_
  refine WC.seq ?_
  refine WC.seq ?_
  refine WC.region ?_
  refine WL.val (R.fieldAddr (o := 0) (o' := 0) fa143_0 rfl rfl) rfl ?_
  refine WL.val (R.loadL (v := Value.bool p0.is) lf4 rfl (hs118.at (i := 0) (off := 0) (n := 1) (cs := [Value.bool p0.is]) rfl rfl rfl)) rfl ?_
  refine WL.val (R.fieldAddr (o := 0) (o' := 0) fa143_0 rfl rfl) rfl ?_
  refine WL.val (R.loadL (v := Value.bool p1.is) lf4 rfl (hs118.at (i := 1) (off := 0) (n := 1) (cs := [Value.bool p1.is]) rfl rfl rfl)) rfl ?_
  by_cases hc119 : p0.is = true
  · have h120 := ifT hc119 h
    by_cases hc121 : p1.is = true
    · have h122 := ifT hc121 h120
      refine WL.val (R.neB (a := true) (b := true) un4 (Eq.trans (show _ = Value.bool p0.is from rfl) (congrArg Value.bool hc119)) (Eq.trans (show _ = Value.bool p1.is from rfl) (congrArg Value.bool hc121))) rfl ?_
      refine WL.val (R.move (v := Value.bool false) rfl) rfl ?_
      refine WL.guardY (e := 11) rfl rfl rfl ?_
      refine WL.val (R.fieldAddr (o := 0) (o' := 1) fa143_1 rfl rfl) rfl ?_
      refine WL.guardY (e := 11) rfl rfl rfl ?_
      refine WL.val (R.loadA (cs := encC p0.cell) (n := 55) ag58 rfl (hs118.at (i := 0) (off := 1) (n := 55) (cs := encC p0.cell) rfl rfl rfl) rfl) rfl ?_
      refine WL.guardY (e := 11) rfl rfl rfl ?_
      refine WL.val (R.fieldAddr (o := 0) (o' := 1) fa143_1 rfl rfl) rfl ?_
      refine WL.guardY (e := 11) rfl rfl rfl ?_
      refine WL.val (R.loadA (cs := encC p1.cell) (n := 55) ag58 rfl (hs118.at (i := 1) (off := 1) (n := 55) (cs := encC p1.cell) rfl rfl rfl) rfl) rfl ?_
      refine WL.guardY (e := 11) rfl rfl rfl ?_
      refine WL.val (R.neCell (a := p0.cell) (b := p1.cell) rfl rfl) rfl ?_
      refine WL.val (R.pickF (v := Value.bool (decide (¬ (p0.cell = p1.cell)))) rfl rfl) rfl ?_
      refine WL.val (R.move (v := Value.bool (decide (¬ (p0.cell = p1.cell)))) rfl) rfl ?_
      by_cases hc123 : ¬ (p0.cell = p1.cell)
      · have h124 := ifT hc123 h122
        refine WL.guardN (e := 18) (v := .bool true) (Eq.trans (show _ = Value.bool (decide (¬ (p0.cell = p1.cell))) from rfl) (congrArg Value.bool (decide_eq_true hc123))) rfl rfl rfl ?_
        refine WL.guardN (e := 18) (v := .bool true) (Eq.trans (show _ = Value.bool (decide (¬ (p0.cell = p1.cell))) from rfl) (congrArg Value.bool (decide_eq_true hc123))) rfl rfl rfl ?_
        refine WL.guardN (e := 18) (v := .bool true) (Eq.trans (show _ = Value.bool (decide (¬ (p0.cell = p1.cell))) from rfl) (congrArg Value.bool (decide_eq_true hc123))) rfl rfl rfl ?_
        refine WL.guardN (e := 18) (v := .bool true) (Eq.trans (show _ = Value.bool (decide (¬ (p0.cell = p1.cell))) from rfl) (congrArg Value.bool (decide_eq_true hc123))) rfl rfl rfl ?_
        refine WL.guardN (e := 18) (v := .bool true) (Eq.trans (show _ = Value.bool (decide (¬ (p0.cell = p1.cell))) from rfl) (congrArg Value.bool (decide_eq_true hc123))) rfl rfl rfl ?_
        refine WL.guardN (e := 18) (v := .bool true) (Eq.trans (show _ = Value.bool (decide (¬ (p0.cell = p1.cell))) from rfl) (congrArg Value.bool (decide_eq_true hc123))) rfl rfl rfl ?_
        refine WL.guardN (e := 18) (v := .bool true) (Eq.trans (show _ = Value.bool (decide (¬ (p0.cell = p1.cell))) from rfl) (congrArg Value.bool (decide_eq_true hc123))) rfl rfl rfl ?_
        refine WL.val (R.pickT (v := Value.bool true) (Eq.trans (show _ = Value.bool (decide (¬ (p0.cell = p1.cell))) from rfl) (congrArg Value.bool (decide_eq_true hc123))) rfl) rfl ?_
        refine WL.nil ?_
        refine thenN ?_
        refine WC.condT rfl rfl ?_
        refine WC.seq ?_
        refine WC.region ?_
        refine WL.val (R.assign (v := Value.bool false) rfl) rfl ?_
        refine WL.nil ?_
        refine thenN ?_
        refine WC.ret ?_
        have ht125 := (hs118.here).perm (L' := []) (G := [blk b103 143 (encR p0 (Value.slice a0 p0.table.length c0)), blk b111 143 (encR p1 (Value.slice a1 p1.table.length c1))]) ((List.Perm.refl _))
        have hs126 := hs118.trans ht125
        obtain rfl := Option.some.inj (show some false = some r from h124)
        exact ret1 (P := Try.prog) (n := 45) (fn := Try.f70) (R := fun v w' => v = Value.bool false ∧ St [] w w' []) (t := 4) (v := Value.bool false) rfl rfl rfl ⟨rfl, hs126⟩
      · have h127 := ifF hc123 h122
        refine WL.guardY (e := 18) (Eq.trans (show _ = Value.bool (decide (¬ (p0.cell = p1.cell))) from rfl) (congrArg Value.bool (decide_eq_false hc123))) rfl rfl ?_
        refine WL.val (R.fieldAddr (o := 0) (o' := 56) fa143_2 rfl rfl) rfl ?_
        refine WL.guardY (e := 18) (Eq.trans (show _ = Value.bool (decide (¬ (p0.cell = p1.cell))) from rfl) (congrArg Value.bool (decide_eq_false hc123))) rfl rfl ?_
        refine WL.val (R.loadL (v := Value.slice a0 p0.table.length c0) lf31 rfl (hs118.at (i := 0) (off := 56) (n := 1) (cs := [Value.slice a0 p0.table.length c0]) rfl rfl rfl)) rfl ?_
        refine WL.guardY (e := 18) (Eq.trans (show _ = Value.bool (decide (¬ (p0.cell = p1.cell))) from rfl) (congrArg Value.bool (decide_eq_false hc123))) rfl rfl ?_
        refine WL.val (R.len (a := a0) (n := p0.table.length) (c := c0) un31 rfl) rfl ?_
        refine WL.guardY (e := 18) (Eq.trans (show _ = Value.bool (decide (¬ (p0.cell = p1.cell))) from rfl) (congrArg Value.bool (decide_eq_false hc123))) rfl rfl ?_
        refine WL.val (R.fieldAddr (o := 0) (o' := 56) fa143_2 rfl rfl) rfl ?_
        refine WL.guardY (e := 18) (Eq.trans (show _ = Value.bool (decide (¬ (p0.cell = p1.cell))) from rfl) (congrArg Value.bool (decide_eq_false hc123))) rfl rfl ?_
        refine WL.val (R.loadL (v := Value.slice a1 p1.table.length c1) lf31 rfl (hs118.at (i := 1) (off := 56) (n := 1) (cs := [Value.slice a1 p1.table.length c1]) rfl rfl rfl)) rfl ?_
        refine WL.guardY (e := 18) (Eq.trans (show _ = Value.bool (decide (¬ (p0.cell = p1.cell))) from rfl) (congrArg Value.bool (decide_eq_false hc123))) rfl rfl ?_
        refine WL.val (R.len (a := a1) (n := p1.table.length) (c := c1) un31 rfl) rfl ?_
        refine WL.guardY (e := 18) (Eq.trans (show _ = Value.bool (decide (¬ (p0.cell = p1.cell))) from rfl) (congrArg Value.bool (decide_eq_false hc123))) rfl rfl ?_
        by_cases hc128 : ((p0.table.length : Nat) : Int) = ((p1.table.length : Nat) : Int)
        · have h129 := ifT hc128 h127
          refine WL.val (R.neqF (k := .i64) (a := ((p0.table.length : Nat) : Int)) (b := ((p1.table.length : Nat) : Int)) un3 rfl rfl (not_not_intro hc128)) rfl ?_
          refine WL.val (R.pickF (v := Value.bool false) (Eq.trans (show _ = Value.bool (decide (¬ (p0.cell = p1.cell))) from rfl) (congrArg Value.bool (decide_eq_false hc123))) rfl) rfl ?_
          refine WL.nil ?_
          refine thenN ?_
          refine WC.condF rfl rfl ?_
          refine WC.skip ?_
          refine thenN ?_
          refine WC.seq ?_
          refine WC.seq ?_
          refine WC.region ?_
          refine WL.val (R.assign (v := Value.int .i64 0) rfl) rfl ?_
          refine WL.nil ?_
          refine thenN ?_
          have hr227 := elT (ht109.trans ht117) he1000
          have hr228 := elT (ht109.trans ht117) he1001
          obtain ⟨K218, hK219, h220⟩ := kE (G := fun K218 => rsame13_l1 p0 p1 K218 1000000 0) h129
          refine WC.join (fun σ230 w229 => K218 () = some r ∧ St [] w w229 []) ?_ ?_
          · refine WC.block ?_
            refine WC.loop (T := Nat) (fun k224 σ222 w221 => ∃ i217 : Int, σ222 2 = (Value.pointer (some ⟨b103, 0, none⟩)) ∧ σ222 3 = (Value.pointer (some ⟨b111, 0, none⟩)) ∧ σ222 5 = (Value.int .i64 i217) ∧ elems heldW w221 (In ok w [] [blk b103 143 (encR p0 (Value.slice a0 p0.table.length c0)), blk b111 143 (encR p1 (Value.slice a1 p1.table.length c1))]) a0 p0.table ∧ elems heldW w221 (In ok w [] [blk b103 143 (encR p0 (Value.slice a0 p0.table.length c0)), blk b111 143 (encR p1 (Value.slice a1 p1.table.length c1))]) a1 p1.table ∧ rsame13_l1 p0 p1 K218 k224 i217 = some r ∧ St [] w w221 [blk b103 143 (encR p0 (Value.slice a0 p0.table.length c0)), blk b111 143 (encR p1 (Value.slice a1 p1.table.length c1))]) (fun k224 => k224) 1000000 ⟨0, rfl, rfl, rfl, hr227, hr228, h220, hs118⟩ ?_
            rintro k224 σ222 w221 ⟨i217, s233, s234, s235, he225, he226, h232, hs223⟩
            rcases k224 with _ | k224
            · rw [rsame13_l1] at h232; cases h232
            rw [rsame13_l1] at h232
            refine WC.seq ?_
            refine WC.seq ?_
            refine WC.region ?_
            refine WL.val (R.move (v := Value.int .i64 i217) (by exact s235)) rfl ?_
            refine WL.val (R.fieldAddr (o := 0) (o' := 56) fa143_2 (by exact s233) rfl) rfl ?_
            refine WL.val (R.loadL (v := Value.slice a0 p0.table.length c0) lf31 rfl (hs223.at (i := 0) (off := 56) (n := 1) (cs := [Value.slice a0 p0.table.length c0]) rfl rfl rfl)) rfl ?_
            refine WL.val (R.len (a := a0) (n := p0.table.length) (c := c0) un31 rfl) rfl ?_
            by_cases hc236 : i217 < ((p0.table.length : Nat) : Int)
            · have h237 := ifT hc236 h232
              refine WL.val (R.lssT (k := .i64) (a := i217) (b := ((p0.table.length : Nat) : Int)) un3 rfl rfl hc236) rfl ?_
              refine WL.nil ?_
              refine thenN ?_
              refine WC.condT rfl rfl ?_
              refine WC.skip ?_
              refine thenN ?_
              refine WC.seq ?_
              refine WC.block ?_
              refine WC.seq ?_
              refine WC.drawE mixed (NP.then (NP.block (NP.then (NP.then (NP.block (NP.join (NP.then NP.rq))))))) ?_
              have ht238 := (hs223.here).ext (Ext.drew _)
              have hs239 := hs223.trans ht238
              refine WE.take 0 rfl (by decide +kernel) (by decide +kernel) (by decide +kernel) (by decide +kernel) rfl rfl (fun wq hq => R.fieldAddr (o := 0) (o' := 56) fa143_2 (by exact s233) rfl) ?_
              refine WE.take 1 rfl (by decide +kernel) (by decide +kernel) (by decide +kernel) (by decide +kernel) rfl rfl (fun wq hq => R.loadL (v := Value.slice a0 p0.table.length c0) lf31 rfl ((hs239.ext hq).at (i := 0) (off := 56) (n := 1) (cs := [Value.slice a0 p0.table.length c0]) rfl rfl rfl)) ?_
              refine WE.take 2 rfl (by decide +kernel) (by decide +kernel) (by decide +kernel) (by decide +kernel) rfl rfl (fun wq hq => R.move (v := Value.int .i64 i217) (by exact s235)) ?_
              obtain ⟨x240, hx241, h242⟩ := ob (o := rd p0.table i217) h237
              obtain ⟨h0243, hx244, hl245, hm246⟩ := rdE hx241
              have hr247 := elT ht238 he225
              obtain ⟨ad248, e253, ha249, hp250, hat251, hrd252⟩ := hr247 _ _ hx244
              obtain ⟨-, rfl⟩ := hrd252
              refine WE.take 3 rfl (by decide +kernel) (by decide +kernel) (by decide +kernel) (by decide +kernel) rfl rfl (fun wq hq => R.indexS (n := 56) (m := (i217).toNat) (a := a0) (ad := ad248) (len := p0.table.length) (cap := c0) (z := i217) un31 ag202.size rfl ha249 rfl hm246 hl245 hp250) ?_
              refine WE.take 4 rfl (by decide +kernel) (by decide +kernel) (by decide +kernel) (by decide +kernel) rfl rfl (fun wq hq => R.loadA (cs := encH x240) (n := 56) ag202 rfl (At.exT hq hat251) rfl) ?_
              refine WE.take 5 rfl (by decide +kernel) (by decide +kernel) (by decide +kernel) (by decide +kernel) rfl rfl (fun wq hq => R.fieldAddr (o := 0) (o' := 56) fa143_2 (by exact s234) rfl) ?_
              refine WE.take 6 rfl (by decide +kernel) (by decide +kernel) (by decide +kernel) (by decide +kernel) rfl rfl (fun wq hq => R.loadL (v := Value.slice a1 p1.table.length c1) lf31 rfl ((hs239.ext hq).at (i := 1) (off := 56) (n := 1) (cs := [Value.slice a1 p1.table.length c1]) rfl rfl rfl)) ?_
              refine WE.take 7 rfl (by decide +kernel) (by decide +kernel) (by decide +kernel) (by decide +kernel) rfl rfl (fun wq hq => R.move (v := Value.int .i64 i217) (by exact s235)) ?_
              obtain ⟨x255, hx256, h257⟩ := ob (o := rd p1.table i217) h242
              obtain ⟨h0258, hx259, hl260, hm261⟩ := rdE hx256
              have hr262 := elT ht238 he226
              obtain ⟨ad263, e268, ha264, hp265, hat266, hrd267⟩ := hr262 _ _ hx259
              obtain ⟨-, rfl⟩ := hrd267
              refine WE.take 8 rfl (by decide +kernel) (by decide +kernel) (by decide +kernel) (by decide +kernel) rfl rfl (fun wq hq => R.indexS (n := 56) (m := (i217).toNat) (a := a1) (ad := ad263) (len := p1.table.length) (cap := c1) (z := i217) un31 ag202.size rfl ha264 rfl hm261 hl260 hp265) ?_
              refine WE.take 9 rfl (by decide +kernel) (by decide +kernel) (by decide +kernel) (by decide +kernel) rfl rfl (fun wq hq => R.loadA (cs := encH x255) (n := 56) ag202 rfl (At.exT hq hat266) rfl) ?_
              refine WE.take 10 rfl (by decide +kernel) (by decide +kernel) (by decide +kernel) (by decide +kernel) rfl rfl (fun wq hq => R.neRHeld (a := x240) (b := x255) rfl rfl) ?_
              refine WE.done (by decide +kernel) ?_
              refine thenN ?_
              by_cases hc270 : ¬ (x240 = x255)
              · have h271 := ifT hc270 h257
                refine WC.condT (Eq.trans (show _ = Value.bool (decide (¬ (x240 = x255))) from rfl) (congrArg Value.bool (decide_eq_true hc270))) rfl ?_
                refine WC.seq ?_
                refine WC.region ?_
                refine WL.val (R.assign (v := Value.bool false) rfl) rfl ?_
                refine WL.nil ?_
                refine thenN ?_
                refine WC.ret ?_
                have ht272 := (hs239.here).perm (L' := []) (G := [blk b103 143 (encR p0 (Value.slice a0 p0.table.length c0)), blk b111 143 (encR p1 (Value.slice a1 p1.table.length c1))]) ((List.Perm.refl _))
                have hs273 := hs239.trans ht272
                obtain rfl := Option.some.inj (show some false = some r from h271)
                exact ret1 (P := Try.prog) (n := 45) (fn := Try.f70) (R := fun v w' => v = Value.bool false ∧ St [] w w' []) (t := 4) (v := Value.bool false) rfl rfl rfl ⟨rfl, hs273⟩
              · have h274 := ifF hc270 h257
                refine WC.condF (Eq.trans (show _ = Value.bool (decide (¬ (x240 = x255))) from rfl) (congrArg Value.bool (decide_eq_false hc270))) rfl ?_
                refine WC.skip ?_
                refine blockN ?_
                refine thenN ?_
                refine WC.region ?_
                refine WL.val (R.move (v := Value.int .i64 i217) (by exact s235)) rfl ?_
                obtain ⟨hg275, h276⟩ := ckE (c := -9223372036854775808 ≤ i217 + 1 ∧ i217 + 1 ≤ 9223372036854775807) h274
                refine WL.val (R.add (a := i217) (b := 1) (z := i217 + 1) rfl rfl (w64e rfl hg275.1 hg275.2)) rfl ?_
                refine WL.val (R.assign (v := Value.int .i64 (i217 + 1)) rfl) rfl ?_
                refine WL.nil ?_
                exact roundEnd (s := k224) ⟨i217 + 1, s233, s234, rfl, hr247, hr262, h276, hs239⟩ (Nat.lt_succ_self _)
            · have h277 := ifF hc236 h232
              refine WL.val (R.lssF (k := .i64) (a := i217) (b := ((p0.table.length : Nat) : Int)) un3 rfl rfl hc236) rfl ?_
              refine WL.nil ?_
              refine thenN ?_
              refine WC.condF rfl rfl ?_
              refine WC.exit ?_
              refine thenE ?_
              refine thenE ?_
              refine blockHit ?_
              have ht278 := (hs223.here).perm (L' := []) (G := [blk b103 143 (encR p0 (Value.slice a0 p0.table.length c0)), blk b111 143 (encR p1 (Value.slice a1 p1.table.length c1))]) ((List.Perm.refl _))
              have hs279 := hs223.trans ht278
              exact joinI ⟨h277, hs279⟩
          · rintro σ230 w229 ⟨h280, hs231⟩
            subst hK219
            refine thenN ?_
            refine WC.seq ?_
            refine WC.region ?_
            refine WL.val (R.assign (v := Value.bool true) rfl) rfl ?_
            refine WL.nil ?_
            refine thenN ?_
            refine WC.ret ?_
            obtain rfl := Option.some.inj (show some true = some r from h280)
            exact ret1 (P := Try.prog) (n := 45) (fn := Try.f70) (R := fun v w' => v = Value.bool true ∧ St [] w w' []) (t := 4) (v := Value.bool true) rfl rfl rfl ⟨rfl, hs231⟩
        · have h281 := ifF hc128 h127
          refine WL.val (R.neqT (k := .i64) (a := ((p0.table.length : Nat) : Int)) (b := ((p1.table.length : Nat) : Int)) un3 rfl rfl hc128) rfl ?_
          refine WL.val (R.pickF (v := Value.bool true) (Eq.trans (show _ = Value.bool (decide (¬ (p0.cell = p1.cell))) from rfl) (congrArg Value.bool (decide_eq_false hc123))) rfl) rfl ?_
          refine WL.nil ?_
          refine thenN ?_
          refine WC.condT rfl rfl ?_
          refine WC.seq ?_
          refine WC.region ?_
          refine WL.val (R.assign (v := Value.bool false) rfl) rfl ?_
          refine WL.nil ?_
          refine thenN ?_
          refine WC.ret ?_
          have ht282 := (hs118.here).perm (L' := []) (G := [blk b103 143 (encR p0 (Value.slice a0 p0.table.length c0)), blk b111 143 (encR p1 (Value.slice a1 p1.table.length c1))]) ((List.Perm.refl _))
          have hs283 := hs118.trans ht282
          obtain rfl := Option.some.inj (show some false = some r from h281)
          exact ret1 (P := Try.prog) (n := 45) (fn := Try.f70) (R := fun v w' => v = Value.bool false ∧ St [] w w' []) (t := 4) (v := Value.bool false) rfl rfl rfl ⟨rfl, hs283⟩
    · have h284 := ifF hc121 h120
      refine WL.val (R.neB (a := true) (b := false) un4 (Eq.trans (show _ = Value.bool p0.is from rfl) (congrArg Value.bool hc119)) (Eq.trans (show _ = Value.bool p1.is from rfl) (congrArg Value.bool (Bool.eq_false_iff.2 hc121)))) rfl ?_
      refine WL.val (R.move (v := Value.bool true) rfl) rfl ?_
      refine WL.guardN (e := 11) (v := .bool true) rfl rfl rfl rfl ?_
      refine WL.guardN (e := 11) (v := .bool true) rfl rfl rfl rfl ?_
      refine WL.guardN (e := 11) (v := .bool true) rfl rfl rfl rfl ?_
      refine WL.guardN (e := 11) (v := .bool true) rfl rfl rfl rfl ?_
      refine WL.guardN (e := 11) (v := .bool true) rfl rfl rfl rfl ?_
      refine WL.val (R.pickT (v := Value.bool true) rfl rfl) rfl ?_
      refine WL.val (R.move (v := Value.bool true) rfl) rfl ?_
      refine WL.guardN (e := 18) (v := .bool true) rfl rfl rfl rfl ?_
      refine WL.guardN (e := 18) (v := .bool true) rfl rfl rfl rfl ?_
      refine WL.guardN (e := 18) (v := .bool true) rfl rfl rfl rfl ?_
      refine WL.guardN (e := 18) (v := .bool true) rfl rfl rfl rfl ?_
      refine WL.guardN (e := 18) (v := .bool true) rfl rfl rfl rfl ?_
      refine WL.guardN (e := 18) (v := .bool true) rfl rfl rfl rfl ?_
      refine WL.guardN (e := 18) (v := .bool true) rfl rfl rfl rfl ?_
      refine WL.val (R.pickT (v := Value.bool true) rfl rfl) rfl ?_
      refine WL.nil ?_
      refine thenN ?_
      refine WC.condT rfl rfl ?_
      refine WC.seq ?_
      refine WC.region ?_
      refine WL.val (R.assign (v := Value.bool false) rfl) rfl ?_
      refine WL.nil ?_
      refine thenN ?_
      refine WC.ret ?_
      have ht285 := (hs118.here).perm (L' := []) (G := [blk b103 143 (encR p0 (Value.slice a0 p0.table.length c0)), blk b111 143 (encR p1 (Value.slice a1 p1.table.length c1))]) ((List.Perm.refl _))
      have hs286 := hs118.trans ht285
      obtain rfl := Option.some.inj (show some false = some r from h284)
      exact ret1 (P := Try.prog) (n := 45) (fn := Try.f70) (R := fun v w' => v = Value.bool false ∧ St [] w w' []) (t := 4) (v := Value.bool false) rfl rfl rfl ⟨rfl, hs286⟩
  · have h287 := ifF hc119 h
    by_cases hc288 : p1.is = true
    · have h289 := ifT hc288 h287
      refine WL.val (R.neB (a := false) (b := true) un4 (Eq.trans (show _ = Value.bool p0.is from rfl) (congrArg Value.bool (Bool.eq_false_iff.2 hc119))) (Eq.trans (show _ = Value.bool p1.is from rfl) (congrArg Value.bool hc288))) rfl ?_
      refine WL.val (R.move (v := Value.bool true) rfl) rfl ?_
      refine WL.guardN (e := 11) (v := .bool true) rfl rfl rfl rfl ?_
      refine WL.guardN (e := 11) (v := .bool true) rfl rfl rfl rfl ?_
      refine WL.guardN (e := 11) (v := .bool true) rfl rfl rfl rfl ?_
      refine WL.guardN (e := 11) (v := .bool true) rfl rfl rfl rfl ?_
      refine WL.guardN (e := 11) (v := .bool true) rfl rfl rfl rfl ?_
      refine WL.val (R.pickT (v := Value.bool true) rfl rfl) rfl ?_
      refine WL.val (R.move (v := Value.bool true) rfl) rfl ?_
      refine WL.guardN (e := 18) (v := .bool true) rfl rfl rfl rfl ?_
      refine WL.guardN (e := 18) (v := .bool true) rfl rfl rfl rfl ?_
      refine WL.guardN (e := 18) (v := .bool true) rfl rfl rfl rfl ?_
      refine WL.guardN (e := 18) (v := .bool true) rfl rfl rfl rfl ?_
      refine WL.guardN (e := 18) (v := .bool true) rfl rfl rfl rfl ?_
      refine WL.guardN (e := 18) (v := .bool true) rfl rfl rfl rfl ?_
      refine WL.guardN (e := 18) (v := .bool true) rfl rfl rfl rfl ?_
      refine WL.val (R.pickT (v := Value.bool true) rfl rfl) rfl ?_
      refine WL.nil ?_
      refine thenN ?_
      refine WC.condT rfl rfl ?_
      refine WC.seq ?_
      refine WC.region ?_
      refine WL.val (R.assign (v := Value.bool false) rfl) rfl ?_
      refine WL.nil ?_
      refine thenN ?_
      refine WC.ret ?_
      have ht290 := (hs118.here).perm (L' := []) (G := [blk b103 143 (encR p0 (Value.slice a0 p0.table.length c0)), blk b111 143 (encR p1 (Value.slice a1 p1.table.length c1))]) ((List.Perm.refl _))
      have hs291 := hs118.trans ht290
      obtain rfl := Option.some.inj (show some false = some r from h289)
      exact ret1 (P := Try.prog) (n := 45) (fn := Try.f70) (R := fun v w' => v = Value.bool false ∧ St [] w w' []) (t := 4) (v := Value.bool false) rfl rfl rfl ⟨rfl, hs291⟩
    · have h292 := ifF hc288 h287
      refine WL.val (R.neB (a := false) (b := false) un4 (Eq.trans (show _ = Value.bool p0.is from rfl) (congrArg Value.bool (Bool.eq_false_iff.2 hc119))) (Eq.trans (show _ = Value.bool p1.is from rfl) (congrArg Value.bool (Bool.eq_false_iff.2 hc288)))) rfl ?_
      refine WL.val (R.move (v := Value.bool false) rfl) rfl ?_
      refine WL.guardY (e := 11) rfl rfl rfl ?_
      refine WL.val (R.fieldAddr (o := 0) (o' := 1) fa143_1 rfl rfl) rfl ?_
      refine WL.guardY (e := 11) rfl rfl rfl ?_
      refine WL.val (R.loadA (cs := encC p0.cell) (n := 55) ag58 rfl (hs118.at (i := 0) (off := 1) (n := 55) (cs := encC p0.cell) rfl rfl rfl) rfl) rfl ?_
      refine WL.guardY (e := 11) rfl rfl rfl ?_
      refine WL.val (R.fieldAddr (o := 0) (o' := 1) fa143_1 rfl rfl) rfl ?_
      refine WL.guardY (e := 11) rfl rfl rfl ?_
      refine WL.val (R.loadA (cs := encC p1.cell) (n := 55) ag58 rfl (hs118.at (i := 1) (off := 1) (n := 55) (cs := encC p1.cell) rfl rfl rfl) rfl) rfl ?_
      refine WL.guardY (e := 11) rfl rfl rfl ?_
      refine WL.val (R.neCell (a := p0.cell) (b := p1.cell) rfl rfl) rfl ?_
      refine WL.val (R.pickF (v := Value.bool (decide (¬ (p0.cell = p1.cell)))) rfl rfl) rfl ?_
      refine WL.val (R.move (v := Value.bool (decide (¬ (p0.cell = p1.cell)))) rfl) rfl ?_
      by_cases hc293 : ¬ (p0.cell = p1.cell)
      · have h294 := ifT hc293 h292
        refine WL.guardN (e := 18) (v := .bool true) (Eq.trans (show _ = Value.bool (decide (¬ (p0.cell = p1.cell))) from rfl) (congrArg Value.bool (decide_eq_true hc293))) rfl rfl rfl ?_
        refine WL.guardN (e := 18) (v := .bool true) (Eq.trans (show _ = Value.bool (decide (¬ (p0.cell = p1.cell))) from rfl) (congrArg Value.bool (decide_eq_true hc293))) rfl rfl rfl ?_
        refine WL.guardN (e := 18) (v := .bool true) (Eq.trans (show _ = Value.bool (decide (¬ (p0.cell = p1.cell))) from rfl) (congrArg Value.bool (decide_eq_true hc293))) rfl rfl rfl ?_
        refine WL.guardN (e := 18) (v := .bool true) (Eq.trans (show _ = Value.bool (decide (¬ (p0.cell = p1.cell))) from rfl) (congrArg Value.bool (decide_eq_true hc293))) rfl rfl rfl ?_
        refine WL.guardN (e := 18) (v := .bool true) (Eq.trans (show _ = Value.bool (decide (¬ (p0.cell = p1.cell))) from rfl) (congrArg Value.bool (decide_eq_true hc293))) rfl rfl rfl ?_
        refine WL.guardN (e := 18) (v := .bool true) (Eq.trans (show _ = Value.bool (decide (¬ (p0.cell = p1.cell))) from rfl) (congrArg Value.bool (decide_eq_true hc293))) rfl rfl rfl ?_
        refine WL.guardN (e := 18) (v := .bool true) (Eq.trans (show _ = Value.bool (decide (¬ (p0.cell = p1.cell))) from rfl) (congrArg Value.bool (decide_eq_true hc293))) rfl rfl rfl ?_
        refine WL.val (R.pickT (v := Value.bool true) (Eq.trans (show _ = Value.bool (decide (¬ (p0.cell = p1.cell))) from rfl) (congrArg Value.bool (decide_eq_true hc293))) rfl) rfl ?_
        refine WL.nil ?_
        refine thenN ?_
        refine WC.condT rfl rfl ?_
        refine WC.seq ?_
        refine WC.region ?_
        refine WL.val (R.assign (v := Value.bool false) rfl) rfl ?_
        refine WL.nil ?_
        refine thenN ?_
        refine WC.ret ?_
        have ht295 := (hs118.here).perm (L' := []) (G := [blk b103 143 (encR p0 (Value.slice a0 p0.table.length c0)), blk b111 143 (encR p1 (Value.slice a1 p1.table.length c1))]) ((List.Perm.refl _))
        have hs296 := hs118.trans ht295
        obtain rfl := Option.some.inj (show some false = some r from h294)
        exact ret1 (P := Try.prog) (n := 45) (fn := Try.f70) (R := fun v w' => v = Value.bool false ∧ St [] w w' []) (t := 4) (v := Value.bool false) rfl rfl rfl ⟨rfl, hs296⟩
      · have h297 := ifF hc293 h292
        refine WL.guardY (e := 18) (Eq.trans (show _ = Value.bool (decide (¬ (p0.cell = p1.cell))) from rfl) (congrArg Value.bool (decide_eq_false hc293))) rfl rfl ?_
        refine WL.val (R.fieldAddr (o := 0) (o' := 56) fa143_2 rfl rfl) rfl ?_
        refine WL.guardY (e := 18) (Eq.trans (show _ = Value.bool (decide (¬ (p0.cell = p1.cell))) from rfl) (congrArg Value.bool (decide_eq_false hc293))) rfl rfl ?_
        refine WL.val (R.loadL (v := Value.slice a0 p0.table.length c0) lf31 rfl (hs118.at (i := 0) (off := 56) (n := 1) (cs := [Value.slice a0 p0.table.length c0]) rfl rfl rfl)) rfl ?_
        refine WL.guardY (e := 18) (Eq.trans (show _ = Value.bool (decide (¬ (p0.cell = p1.cell))) from rfl) (congrArg Value.bool (decide_eq_false hc293))) rfl rfl ?_
        refine WL.val (R.len (a := a0) (n := p0.table.length) (c := c0) un31 rfl) rfl ?_
        refine WL.guardY (e := 18) (Eq.trans (show _ = Value.bool (decide (¬ (p0.cell = p1.cell))) from rfl) (congrArg Value.bool (decide_eq_false hc293))) rfl rfl ?_
        refine WL.val (R.fieldAddr (o := 0) (o' := 56) fa143_2 rfl rfl) rfl ?_
        refine WL.guardY (e := 18) (Eq.trans (show _ = Value.bool (decide (¬ (p0.cell = p1.cell))) from rfl) (congrArg Value.bool (decide_eq_false hc293))) rfl rfl ?_
        refine WL.val (R.loadL (v := Value.slice a1 p1.table.length c1) lf31 rfl (hs118.at (i := 1) (off := 56) (n := 1) (cs := [Value.slice a1 p1.table.length c1]) rfl rfl rfl)) rfl ?_
        refine WL.guardY (e := 18) (Eq.trans (show _ = Value.bool (decide (¬ (p0.cell = p1.cell))) from rfl) (congrArg Value.bool (decide_eq_false hc293))) rfl rfl ?_
        refine WL.val (R.len (a := a1) (n := p1.table.length) (c := c1) un31 rfl) rfl ?_
        refine WL.guardY (e := 18) (Eq.trans (show _ = Value.bool (decide (¬ (p0.cell = p1.cell))) from rfl) (congrArg Value.bool (decide_eq_false hc293))) rfl rfl ?_
        by_cases hc298 : ((p0.table.length : Nat) : Int) = ((p1.table.length : Nat) : Int)
        · have h299 := ifT hc298 h297
          refine WL.val (R.neqF (k := .i64) (a := ((p0.table.length : Nat) : Int)) (b := ((p1.table.length : Nat) : Int)) un3 rfl rfl (not_not_intro hc298)) rfl ?_
          refine WL.val (R.pickF (v := Value.bool false) (Eq.trans (show _ = Value.bool (decide (¬ (p0.cell = p1.cell))) from rfl) (congrArg Value.bool (decide_eq_false hc293))) rfl) rfl ?_
          refine WL.nil ?_
          refine thenN ?_
          refine WC.condF rfl rfl ?_
          refine WC.skip ?_
          refine thenN ?_
          refine WC.seq ?_
          refine WC.seq ?_
          refine WC.region ?_
          refine WL.val (R.assign (v := Value.int .i64 0) rfl) rfl ?_
          refine WL.nil ?_
          refine thenN ?_
          have hr397 := elT (ht109.trans ht117) he1000
          have hr398 := elT (ht109.trans ht117) he1001
          obtain ⟨K388, hK389, h390⟩ := kE (G := fun K388 => rsame13_l2 p0 p1 K388 1000000 0) h299
          refine WC.join (fun σ400 w399 => K388 () = some r ∧ St [] w w399 []) ?_ ?_
          · refine WC.block ?_
            refine WC.loop (T := Nat) (fun k394 σ392 w391 => ∃ i387 : Int, σ392 2 = (Value.pointer (some ⟨b103, 0, none⟩)) ∧ σ392 3 = (Value.pointer (some ⟨b111, 0, none⟩)) ∧ σ392 5 = (Value.int .i64 i387) ∧ elems heldW w391 (In ok w [] [blk b103 143 (encR p0 (Value.slice a0 p0.table.length c0)), blk b111 143 (encR p1 (Value.slice a1 p1.table.length c1))]) a0 p0.table ∧ elems heldW w391 (In ok w [] [blk b103 143 (encR p0 (Value.slice a0 p0.table.length c0)), blk b111 143 (encR p1 (Value.slice a1 p1.table.length c1))]) a1 p1.table ∧ rsame13_l2 p0 p1 K388 k394 i387 = some r ∧ St [] w w391 [blk b103 143 (encR p0 (Value.slice a0 p0.table.length c0)), blk b111 143 (encR p1 (Value.slice a1 p1.table.length c1))]) (fun k394 => k394) 1000000 ⟨0, rfl, rfl, rfl, hr397, hr398, h390, hs118⟩ ?_
            rintro k394 σ392 w391 ⟨i387, s403, s404, s405, he395, he396, h402, hs393⟩
            rcases k394 with _ | k394
            · rw [rsame13_l2] at h402; cases h402
            rw [rsame13_l2] at h402
            refine WC.seq ?_
            refine WC.seq ?_
            refine WC.region ?_
            refine WL.val (R.move (v := Value.int .i64 i387) (by exact s405)) rfl ?_
            refine WL.val (R.fieldAddr (o := 0) (o' := 56) fa143_2 (by exact s403) rfl) rfl ?_
            refine WL.val (R.loadL (v := Value.slice a0 p0.table.length c0) lf31 rfl (hs393.at (i := 0) (off := 56) (n := 1) (cs := [Value.slice a0 p0.table.length c0]) rfl rfl rfl)) rfl ?_
            refine WL.val (R.len (a := a0) (n := p0.table.length) (c := c0) un31 rfl) rfl ?_
            by_cases hc406 : i387 < ((p0.table.length : Nat) : Int)
            · have h407 := ifT hc406 h402
              refine WL.val (R.lssT (k := .i64) (a := i387) (b := ((p0.table.length : Nat) : Int)) un3 rfl rfl hc406) rfl ?_
              refine WL.nil ?_
              refine thenN ?_
              refine WC.condT rfl rfl ?_
              refine WC.skip ?_
              refine thenN ?_
              refine WC.seq ?_
              refine WC.block ?_
              refine WC.seq ?_
              refine WC.drawE mixed (NP.then (NP.block (NP.then (NP.then (NP.block (NP.join (NP.then NP.rq))))))) ?_
              have ht408 := (hs393.here).ext (Ext.drew _)
              have hs409 := hs393.trans ht408
              refine WE.take 0 rfl (by decide +kernel) (by decide +kernel) (by decide +kernel) (by decide +kernel) rfl rfl (fun wq hq => R.fieldAddr (o := 0) (o' := 56) fa143_2 (by exact s403) rfl) ?_
              refine WE.take 1 rfl (by decide +kernel) (by decide +kernel) (by decide +kernel) (by decide +kernel) rfl rfl (fun wq hq => R.loadL (v := Value.slice a0 p0.table.length c0) lf31 rfl ((hs409.ext hq).at (i := 0) (off := 56) (n := 1) (cs := [Value.slice a0 p0.table.length c0]) rfl rfl rfl)) ?_
              refine WE.take 2 rfl (by decide +kernel) (by decide +kernel) (by decide +kernel) (by decide +kernel) rfl rfl (fun wq hq => R.move (v := Value.int .i64 i387) (by exact s405)) ?_
              obtain ⟨x410, hx411, h412⟩ := ob (o := rd p0.table i387) h407
              obtain ⟨h0413, hx414, hl415, hm416⟩ := rdE hx411
              have hr417 := elT ht408 he395
              obtain ⟨ad418, e423, ha419, hp420, hat421, hrd422⟩ := hr417 _ _ hx414
              obtain ⟨-, rfl⟩ := hrd422
              refine WE.take 3 rfl (by decide +kernel) (by decide +kernel) (by decide +kernel) (by decide +kernel) rfl rfl (fun wq hq => R.indexS (n := 56) (m := (i387).toNat) (a := a0) (ad := ad418) (len := p0.table.length) (cap := c0) (z := i387) un31 ag202.size rfl ha419 rfl hm416 hl415 hp420) ?_
              refine WE.take 4 rfl (by decide +kernel) (by decide +kernel) (by decide +kernel) (by decide +kernel) rfl rfl (fun wq hq => R.loadA (cs := encH x410) (n := 56) ag202 rfl (At.exT hq hat421) rfl) ?_
              refine WE.take 5 rfl (by decide +kernel) (by decide +kernel) (by decide +kernel) (by decide +kernel) rfl rfl (fun wq hq => R.fieldAddr (o := 0) (o' := 56) fa143_2 (by exact s404) rfl) ?_
              refine WE.take 6 rfl (by decide +kernel) (by decide +kernel) (by decide +kernel) (by decide +kernel) rfl rfl (fun wq hq => R.loadL (v := Value.slice a1 p1.table.length c1) lf31 rfl ((hs409.ext hq).at (i := 1) (off := 56) (n := 1) (cs := [Value.slice a1 p1.table.length c1]) rfl rfl rfl)) ?_
              refine WE.take 7 rfl (by decide +kernel) (by decide +kernel) (by decide +kernel) (by decide +kernel) rfl rfl (fun wq hq => R.move (v := Value.int .i64 i387) (by exact s405)) ?_
              obtain ⟨x425, hx426, h427⟩ := ob (o := rd p1.table i387) h412
              obtain ⟨h0428, hx429, hl430, hm431⟩ := rdE hx426
              have hr432 := elT ht408 he396
              obtain ⟨ad433, e438, ha434, hp435, hat436, hrd437⟩ := hr432 _ _ hx429
              obtain ⟨-, rfl⟩ := hrd437
              refine WE.take 8 rfl (by decide +kernel) (by decide +kernel) (by decide +kernel) (by decide +kernel) rfl rfl (fun wq hq => R.indexS (n := 56) (m := (i387).toNat) (a := a1) (ad := ad433) (len := p1.table.length) (cap := c1) (z := i387) un31 ag202.size rfl ha434 rfl hm431 hl430 hp435) ?_
              refine WE.take 9 rfl (by decide +kernel) (by decide +kernel) (by decide +kernel) (by decide +kernel) rfl rfl (fun wq hq => R.loadA (cs := encH x425) (n := 56) ag202 rfl (At.exT hq hat436) rfl) ?_
              refine WE.take 10 rfl (by decide +kernel) (by decide +kernel) (by decide +kernel) (by decide +kernel) rfl rfl (fun wq hq => R.neRHeld (a := x410) (b := x425) rfl rfl) ?_
              refine WE.done (by decide +kernel) ?_
              refine thenN ?_
              by_cases hc440 : ¬ (x410 = x425)
              · have h441 := ifT hc440 h427
                refine WC.condT (Eq.trans (show _ = Value.bool (decide (¬ (x410 = x425))) from rfl) (congrArg Value.bool (decide_eq_true hc440))) rfl ?_
                refine WC.seq ?_
                refine WC.region ?_
                refine WL.val (R.assign (v := Value.bool false) rfl) rfl ?_
                refine WL.nil ?_
                refine thenN ?_
                refine WC.ret ?_
                have ht442 := (hs409.here).perm (L' := []) (G := [blk b103 143 (encR p0 (Value.slice a0 p0.table.length c0)), blk b111 143 (encR p1 (Value.slice a1 p1.table.length c1))]) ((List.Perm.refl _))
                have hs443 := hs409.trans ht442
                obtain rfl := Option.some.inj (show some false = some r from h441)
                exact ret1 (P := Try.prog) (n := 45) (fn := Try.f70) (R := fun v w' => v = Value.bool false ∧ St [] w w' []) (t := 4) (v := Value.bool false) rfl rfl rfl ⟨rfl, hs443⟩
              · have h444 := ifF hc440 h427
                refine WC.condF (Eq.trans (show _ = Value.bool (decide (¬ (x410 = x425))) from rfl) (congrArg Value.bool (decide_eq_false hc440))) rfl ?_
                refine WC.skip ?_
                refine blockN ?_
                refine thenN ?_
                refine WC.region ?_
                refine WL.val (R.move (v := Value.int .i64 i387) (by exact s405)) rfl ?_
                obtain ⟨hg445, h446⟩ := ckE (c := -9223372036854775808 ≤ i387 + 1 ∧ i387 + 1 ≤ 9223372036854775807) h444
                refine WL.val (R.add (a := i387) (b := 1) (z := i387 + 1) rfl rfl (w64e rfl hg445.1 hg445.2)) rfl ?_
                refine WL.val (R.assign (v := Value.int .i64 (i387 + 1)) rfl) rfl ?_
                refine WL.nil ?_
                exact roundEnd (s := k394) ⟨i387 + 1, s403, s404, rfl, hr417, hr432, h446, hs409⟩ (Nat.lt_succ_self _)
            · have h447 := ifF hc406 h402
              refine WL.val (R.lssF (k := .i64) (a := i387) (b := ((p0.table.length : Nat) : Int)) un3 rfl rfl hc406) rfl ?_
              refine WL.nil ?_
              refine thenN ?_
              refine WC.condF rfl rfl ?_
              refine WC.exit ?_
              refine thenE ?_
              refine thenE ?_
              refine blockHit ?_
              have ht448 := (hs393.here).perm (L' := []) (G := [blk b103 143 (encR p0 (Value.slice a0 p0.table.length c0)), blk b111 143 (encR p1 (Value.slice a1 p1.table.length c1))]) ((List.Perm.refl _))
              have hs449 := hs393.trans ht448
              exact joinI ⟨h447, hs449⟩
          · rintro σ400 w399 ⟨h450, hs401⟩
            subst hK389
            refine thenN ?_
            refine WC.seq ?_
            refine WC.region ?_
            refine WL.val (R.assign (v := Value.bool true) rfl) rfl ?_
            refine WL.nil ?_
            refine thenN ?_
            refine WC.ret ?_
            obtain rfl := Option.some.inj (show some true = some r from h450)
            exact ret1 (P := Try.prog) (n := 45) (fn := Try.f70) (R := fun v w' => v = Value.bool true ∧ St [] w w' []) (t := 4) (v := Value.bool true) rfl rfl rfl ⟨rfl, hs401⟩
        · have h451 := ifF hc298 h297
          refine WL.val (R.neqT (k := .i64) (a := ((p0.table.length : Nat) : Int)) (b := ((p1.table.length : Nat) : Int)) un3 rfl rfl hc298) rfl ?_
          refine WL.val (R.pickF (v := Value.bool true) (Eq.trans (show _ = Value.bool (decide (¬ (p0.cell = p1.cell))) from rfl) (congrArg Value.bool (decide_eq_false hc293))) rfl) rfl ?_
          refine WL.nil ?_
          refine thenN ?_
          refine WC.condT rfl rfl ?_
          refine WC.seq ?_
          refine WC.region ?_
          refine WL.val (R.assign (v := Value.bool false) rfl) rfl ?_
          refine WL.nil ?_
          refine thenN ?_
          refine WC.ret ?_
          have ht452 := (hs118.here).perm (L' := []) (G := [blk b103 143 (encR p0 (Value.slice a0 p0.table.length c0)), blk b111 143 (encR p1 (Value.slice a1 p1.table.length c1))]) ((List.Perm.refl _))
          have hs453 := hs118.trans ht452
          obtain rfl := Option.some.inj (show some false = some r from h451)
          exact ret1 (P := Try.prog) (n := 45) (fn := Try.f70) (R := fun v w' => v = Value.bool false ∧ St [] w w' []) (t := 4) (v := Value.bool false) rfl rfl rfl ⟨rfl, hs453⟩

theorem left13_ok (w : World) (ok : Nat → Prop) (p0 : Rw) (p1 : Rw) (a0 : Option Addr) (c0 : Nat) (he0 : elems heldW w ok a0 p0.table) (hc0 : p0.table.length ≤ c0) (a1 : Option Addr) (c1 : Nat) (he1 : elems heldW w ok a1 p1.table) (hc1 : p1.table.length ≤ c1) (ht0 : (p0.table ++ [mkH, mkH]).length ≤ c0) (hu0 : elems heldW w ok a0 (p0.table ++ [mkH, mkH])) {r : Bool} (h : left13 p0 p1 = some r) :
    Ret Try.prog 75 [Value.agg (List.toArray (encR p0 (Value.slice a0 p0.table.length c0))), Value.agg (List.toArray (encR p1 (Value.slice a1 p1.table.length c1)))] w (fun v w' => v = Value.bool r ∧ St [] w w' []) := by
  rw [left13] at h
  have hs100 : St [] w w [] := St.start w
  have he1000 := el0 (L0 := []) (fun b _ => out_nil b) he0
  have hu1000 := el0 (L0 := []) (fun b _ => out_nil b) hu0
  have he1001 := el0 (L0 := []) (fun b _ => out_nil b) he1
  refine enter (n := 43) Try.func75 rfl rfl rfl ?_
  refine WC.seq ?_
  refine WC.region ?_
  refine WL.new (L' := fun b104 => [blk b104 62 (encR p0 (Value.slice a0 p0.table.length c0))]) (f := fun b104 => Value.pointer (some ⟨b104, 0, none⟩)) (X.box (v := Value.agg (List.toArray (encR p0 (Value.slice a0 p0.table.length c0)))) (c := encR p0 (Value.slice a0 p0.table.length c0)) (hs100.here) rfl rfl (fun _ => rfl)) rfl ?_
  intro b104 w105 ht110 he107 hz108
  have hs111 := hs100.trans ht110
  refine WL.new (L' := fun b112 => [blk b104 62 (encR p0 (Value.slice a0 p0.table.length c0)), blk b112 62 (encR p1 (Value.slice a1 p1.table.length c1))]) (f := fun b112 => Value.pointer (some ⟨b112, 0, none⟩)) (X.box (v := Value.agg (List.toArray (encR p1 (Value.slice a1 p1.table.length c1)))) (c := encR p1 (Value.slice a1 p1.table.length c1)) (hs111.here) rfl rfl (fun _ => rfl)) rfl ?_
  intro b112 w113 ht118 he115 hz116
  have hs119 := hs111.trans ht118
  refine WL.val (R.assign (v := Value.bool false) rfl) rfl ?_
  refine WL.nil ?_
  refine thenN ?_
  refine WC.seq ?_
  refine WC.seq ?_
  refine WC.drawE mixed (NP.then (NP.then NP.rq)) ?_
  have ht120 := (hs119.here).ext (Ext.drew _)
  have hs121 := hs119.trans ht120
  refine WE.take 0 rfl (by decide +kernel) (by decide +kernel) (by decide +kernel) (by decide +kernel) rfl rfl (fun wq hq => R.loadA (cs := encR p0 (Value.slice a0 p0.table.length c0)) (n := 57) ag62 rfl ((hs121.ext hq).at (i := 0) (off := 0) (n := 57) (cs := encR p0 (Value.slice a0 p0.table.length c0)) rfl rfl rfl) rfl) ?_
  refine WE.take 2 rfl (by decide +kernel) (by decide +kernel) (by decide +kernel) (by decide +kernel) rfl rfl (fun wq hq => R.loadA (cs := encR p1 (Value.slice a1 p1.table.length c1)) (n := 57) ag62 rfl ((hs121.ext hq).at (i := 1) (off := 0) (n := 57) (cs := encR p1 (Value.slice a1 p1.table.length c1)) rfl rfl rfl) rfl) ?_
  obtain ⟨y122, hx123, h124⟩ := ob (o := other13 p0) h
  have hr125 := elT ((ht110.trans ht118).trans ht120) he1000
  refine WE.call 1 (by decide +kernel) rfl rfl rfl (other13_ok _ _ p0 _ _ hr125 hc0 hx123) (R.call (vs := [Value.agg (List.toArray (encR p0 (Value.slice a0 p0.table.length c0)))]) (caps := []) bo71 rfl rfl) ?_
  rintro v132 w133 ⟨a128, c129, rfl, hl130, he131, ht126⟩
  refine ⟨.inr (show Ext _ _ from ht126.kept), ?_⟩
  have ht127 := hs121.call (N := [blk b104 62 (encR p0 (Value.slice a0 p0.table.length c0)), blk b112 62 (encR p1 (Value.slice a1 p1.table.length c1))]) (M := []) (List.Perm.refl _) ht126
  have he134 := elC hs121 (M := []) (List.Perm.refl _) ht126 he131
  have hs135 := hs121.trans ht127
  obtain ⟨y137, hx138, h139⟩ := ob (o := other13 p1) h124
  have hr140 := elT (((ht110.trans ht118).trans ht120).trans ht127) he1001
  refine WE.call 3 (by decide +kernel) rfl rfl rfl (other13_ok _ _ p1 _ _ hr140 hc1 hx138) (R.call (vs := [Value.agg (List.toArray (encR p1 (Value.slice a1 p1.table.length c1)))]) (caps := []) bo71 rfl rfl) ?_
  rintro v147 w148 ⟨a143, c144, rfl, hl145, he146, ht141⟩
  refine ⟨.inr (show Ext _ _ from ht141.kept), ?_⟩
  have ht142 := hs135.call (N := [blk b104 62 (encR p0 (Value.slice a0 p0.table.length c0)), blk b112 62 (encR p1 (Value.slice a1 p1.table.length c1))]) (M := []) (List.Perm.refl _) ht141
  have he149 := elC hs135 (M := []) (List.Perm.refl _) ht141 he146
  have hs150 := hs135.trans ht142
  obtain ⟨y152, hx153, h154⟩ := ob (o := rsame13 y122 y137) h139
  have hr155 := elT ht142 he134
  refine WE.call 4 (by decide +kernel) rfl rfl rfl (rsame13_ok _ _ y122 y137 _ _ hr155 hl130 _ _ he149 hl145 hx153) (R.call (vs := [Value.agg (List.toArray (encR y122 (Value.slice a128 y122.table.length c129))), Value.agg (List.toArray (encR y137 (Value.slice a143 y137.table.length c144)))]) (caps := []) bo70 rfl rfl) ?_
  rintro v158 w159 ⟨rfl, ht156⟩
  refine ⟨.inr (show Ext _ _ from ht156.kept), ?_⟩
  have ht157 := hs150.call (N := [blk b104 62 (encR p0 (Value.slice a0 p0.table.length c0)), blk b112 62 (encR p1 (Value.slice a1 p1.table.length c1))]) (M := []) (List.Perm.refl _) ht156
  have hs160 := hs150.trans ht157
  refine WE.take 5 rfl (by decide +kernel) (by decide +kernel) (by decide +kernel) (by decide +kernel) rfl rfl (fun wq hq => R.not (b := y152) rfl) ?_
  refine WE.done (by decide +kernel) ?_
  refine thenN ?_
  by_cases hc161 : y152 = true
  · have h162 := ifT hc161 h154
    have hk163 : (!y152) = false := by simp [hc161]
    refine WC.condF (Eq.trans (show _ = Value.bool (!y152) from rfl) (congrArg Value.bool hk163)) rfl ?_
    refine WC.skip ?_
    refine thenN ?_
    refine WC.seq ?_
    refine WC.region ?_
    refine WL.val (R.fieldAddr (o := 0) (o' := 56) fa62_2 rfl rfl) rfl ?_
    refine WL.val (R.loadL (v := Value.slice a0 p0.table.length c0) lf28 rfl (hs160.at (i := 0) (off := 56) (n := 1) (cs := [Value.slice a0 p0.table.length c0]) rfl rfl rfl)) rfl ?_
    refine WL.val (R.fieldAddr (o := 0) (o' := 56) fa62_2 rfl rfl) rfl ?_
    refine WL.val (R.loadL (v := Value.slice a0 p0.table.length c0) lf28 rfl (hs160.at (i := 0) (off := 56) (n := 1) (cs := [Value.slice a0 p0.table.length c0]) rfl rfl rfl)) rfl ?_
    refine WL.val (R.cap (a := a0) (n := p0.table.length) (c := c0) un28 rfl) rfl ?_
    refine WL.val (R.sliceTo (n := 56) (m := c0) un28 ag60.size rfl rfl rfl (Nat.le_refl _)) rfl ?_
    refine WL.val (R.assign (v := Value.slice a0 c0 c0) rfl) rfl ?_
    refine WL.nil ?_
    refine thenN ?_
    refine WC.seq ?_
    refine WC.seq ?_
    refine WC.region ?_
    refine WL.val (R.fieldAddr (o := 0) (o' := 56) fa62_2 rfl rfl) rfl ?_
    refine WL.val (R.loadL (v := Value.slice a0 p0.table.length c0) lf28 rfl (hs160.at (i := 0) (off := 56) (n := 1) (cs := [Value.slice a0 p0.table.length c0]) rfl rfl rfl)) rfl ?_
    refine WL.val (R.len (a := a0) (n := p0.table.length) (c := c0) un28 rfl) rfl ?_
    refine WL.val (R.assign (v := Value.int .i64 ((p0.table.length : Nat) : Int)) rfl) rfl ?_
    refine WL.nil ?_
    refine thenN ?_
    have ht235 := (hs160.here).perm (L' := [blk b104 62 (encR p0 (Value.slice a0 p0.table.length c0))]) (G := [blk b112 62 (encR p1 (Value.slice a1 p1.table.length c1))]) ((List.Perm.refl _))
    have hs236 := hs160.trans ht235
    have hr237 := elT ((((((ht110.trans ht118).trans ht120).trans ht127).trans ht142).trans ht157).trans ht235) hu1000
    have hr238 := elT (((ht127.trans ht142).trans ht157).trans ht235) hr125
    obtain ⟨K226, hK227, h228⟩ := kE (G := fun K226 => left13_l1 p0 K226 1000000 ((p0.table.length : Nat) : Int)) h162
    refine WC.join (fun σ240 w239 => K226 () = some r ∧ St [] w w239 []) ?_ ?_
    · refine WC.block ?_
      refine WC.loop (T := Nat) (fun k232 σ230 w229 => ∃ i225 : Int, σ230 2 = (Value.pointer (some ⟨b104, 0, none⟩)) ∧ σ230 5 = (Value.slice a0 c0 c0) ∧ σ230 6 = (Value.int .i64 i225) ∧ elems heldW w229 (In ok w [] [blk b104 62 (encR p0 (Value.slice a0 p0.table.length c0))]) a0 (p0.table ++ [mkH, mkH]) ∧ elems heldW w229 (In ok w [] [blk b104 62 (encR p0 (Value.slice a0 p0.table.length c0))]) a0 p0.table ∧ left13_l1 p0 K226 k232 i225 = some r ∧ St [] w w229 [blk b104 62 (encR p0 (Value.slice a0 p0.table.length c0))]) (fun k232 => k232) 1000000 ⟨((p0.table.length : Nat) : Int), rfl, rfl, rfl, hr237, hr238, h228, hs236⟩ ?_
      rintro k232 σ230 w229 ⟨i225, s243, s244, s245, he233, he234, h242, hs231⟩
      rcases k232 with _ | k232
      · rw [left13_l1] at h242; cases h242
      rw [left13_l1] at h242
      refine WC.seq ?_
      refine WC.seq ?_
      refine WC.region ?_
      refine WL.val (R.move (v := Value.int .i64 i225) (by exact s245)) rfl ?_
      refine WL.val (R.fieldAddr (o := 0) (o' := 56) fa62_2 (by exact s243) rfl) rfl ?_
      refine WL.val (R.loadL (v := Value.slice a0 p0.table.length c0) lf28 rfl (hs231.at (i := 0) (off := 56) (n := 1) (cs := [Value.slice a0 p0.table.length c0]) rfl rfl rfl)) rfl ?_
      refine WL.val (R.len (a := a0) (n := p0.table.length) (c := c0) un28 rfl) rfl ?_
      obtain ⟨hg246, h247⟩ := ckE (c := p0.table.length < 1000000) h242
      refine WL.val (R.add (a := ((p0.table.length : Nat) : Int)) (b := 2) (z := ((p0.table.length : Nat) : Int) + 2) rfl rfl (w64e rfl (by have := hg246; omega) (by have := hg246; omega))) rfl ?_
      by_cases hc248 : i225 < (((p0.table.length : Nat) : Int) + 2)
      · have h249 := ifT hc248 h247
        refine WL.val (R.lssT (k := .i64) (a := i225) (b := ((p0.table.length : Nat) : Int) + 2) un3 rfl rfl hc248) rfl ?_
        refine WL.val (R.move (v := Value.bool true) rfl) rfl ?_
        refine WL.guardY (e := 28) rfl rfl rfl ?_
        refine WL.val (R.move (v := Value.int .i64 i225) (by exact s245)) rfl ?_
        refine WL.guardY (e := 28) rfl rfl rfl ?_
        refine WL.val (R.move (v := Value.slice a0 c0 c0) (by exact s244)) rfl ?_
        refine WL.guardY (e := 28) rfl rfl rfl ?_
        refine WL.val (R.len (a := a0) (n := c0) (c := c0) un28 rfl) rfl ?_
        refine WL.guardY (e := 28) rfl rfl rfl ?_
        have hc250 : i225 < ((c0 : Nat) : Int) := by simp only [List.length_append, List.length_cons, List.length_nil] at ht0; omega
        refine WL.val (R.lssT (k := .i64) (a := i225) (b := ((c0 : Nat) : Int)) un3 rfl rfl hc250) rfl ?_
        refine WL.val (R.pickT (v := Value.bool true) rfl rfl) rfl ?_
        refine WL.nil ?_
        refine thenN ?_
        refine WC.condT rfl rfl ?_
        refine WC.skip ?_
        refine thenN ?_
        refine WC.seq ?_
        refine WC.block ?_
        refine WC.seq ?_
        refine WC.region ?_
        refine WL.val (R.move (v := Value.slice a0 c0 c0) (by exact s244)) rfl ?_
        refine WL.val (R.move (v := Value.int .i64 i225) (by exact s245)) rfl ?_
        obtain ⟨x251, hx252, h253⟩ := ob (o := rd (p0.table ++ [mkH, mkH]) i225) h249
        obtain ⟨h0254, hx255, hl256, hm257⟩ := rdE hx252
        obtain ⟨ad258, e263, ha259, hp260, hat261, hrd262⟩ := he233 _ _ hx255
        obtain ⟨-, rfl⟩ := hrd262
        refine WL.val (R.indexS (n := 56) (m := (i225).toNat) (a := a0) (ad := ad258) (len := c0) (cap := c0) (z := i225) un28 ag60.size rfl ha259 rfl hm257 (Nat.lt_of_lt_of_le hl256 ht0) hp260) rfl ?_
        refine WL.val (R.loadA (cs := encH x251) (n := 56) ag60 rfl hat261 rfl) rfl ?_
        have hd265 : ∀ w, (Instr.build 58 #[(0, Value.int .i64 (-77))]).run Try.prog w = .ok (Value.agg (List.toArray (encC (⟨-77, Cl.zero.offer, Cl.zero.report, Cl.zero.view⟩ : Cl)))) w := fun _ => by kernel_rfl
        refine WL.val (R.build (vs := [(0, Value.int .i64 (-77))]) rfl hd265) rfl ?_
        have hd266 : ∀ w, (Instr.build 60 #[(1, Value.agg (List.toArray (encC (⟨-77, Cl.zero.offer, Cl.zero.report, Cl.zero.view⟩ : Cl))))]).run Try.prog w = .ok (Value.agg (List.toArray (encH (⟨Hd.none.is, (⟨-77, Cl.zero.offer, Cl.zero.report, Cl.zero.view⟩ : Cl)⟩ : Hd)))) w := fun _ => by kernel_rfl
        refine WL.val (R.build (vs := [(1, Value.agg (List.toArray (encC (⟨-77, Cl.zero.offer, Cl.zero.report, Cl.zero.view⟩ : Cl))))]) rfl hd266) rfl ?_
        refine WL.val (R.neHeld (a := x251) (b := (⟨Hd.none.is, (⟨-77, Cl.zero.offer, Cl.zero.report, Cl.zero.view⟩ : Cl)⟩ : Hd)) rfl rfl) rfl ?_
        refine WL.nil ?_
        refine thenN ?_
        by_cases hc267 : ¬ (x251 = (⟨Hd.none.is, (⟨-77, Cl.zero.offer, Cl.zero.report, Cl.zero.view⟩ : Cl)⟩ : Hd))
        · have h268 := ifT hc267 h253
          refine WC.condT (Eq.trans (show _ = Value.bool (decide (¬ (x251 = (⟨Hd.none.is, (⟨-77, Cl.zero.offer, Cl.zero.report, Cl.zero.view⟩ : Cl)⟩ : Hd)))) from rfl) (congrArg Value.bool (decide_eq_true hc267))) rfl ?_
          refine WC.seq ?_
          refine WC.region ?_
          refine WL.val (R.assign (v := Value.bool false) rfl) rfl ?_
          refine WL.nil ?_
          refine thenN ?_
          refine WC.ret ?_
          have ht269 := (hs231.here).perm (L' := []) (G := [blk b104 62 (encR p0 (Value.slice a0 p0.table.length c0))]) ((List.Perm.refl _))
          have hs270 := hs231.trans ht269
          obtain rfl := Option.some.inj (show some false = some r from h268)
          exact ret1 (P := Try.prog) (n := 43) (fn := Try.f75) (R := fun v w' => v = Value.bool false ∧ St [] w w' []) (t := 4) (v := Value.bool false) rfl rfl rfl ⟨rfl, hs270⟩
        · have h271 := ifF hc267 h253
          refine WC.condF (Eq.trans (show _ = Value.bool (decide (¬ (x251 = (⟨Hd.none.is, (⟨-77, Cl.zero.offer, Cl.zero.report, Cl.zero.view⟩ : Cl)⟩ : Hd)))) from rfl) (congrArg Value.bool (decide_eq_false hc267))) rfl ?_
          refine WC.skip ?_
          refine blockN ?_
          refine thenN ?_
          refine WC.region ?_
          refine WL.val (R.move (v := Value.int .i64 i225) (by exact s245)) rfl ?_
          obtain ⟨hg272, h273⟩ := ckE (c := -9223372036854775808 ≤ i225 + 1 ∧ i225 + 1 ≤ 9223372036854775807) h271
          refine WL.val (R.add (a := i225) (b := 1) (z := i225 + 1) rfl rfl (w64e rfl hg272.1 hg272.2)) rfl ?_
          refine WL.val (R.assign (v := Value.int .i64 (i225 + 1)) rfl) rfl ?_
          refine WL.nil ?_
          exact roundEnd (s := k232) ⟨i225 + 1, s243, s244, rfl, he233, he234, h273, hs231⟩ (Nat.lt_succ_self _)
      · have h274 := ifF hc248 h247
        refine WL.val (R.lssF (k := .i64) (a := i225) (b := ((p0.table.length : Nat) : Int) + 2) un3 rfl rfl hc248) rfl ?_
        refine WL.val (R.move (v := Value.bool false) rfl) rfl ?_
        refine WL.guardN (e := 28) (v := .bool false) rfl rfl rfl rfl ?_
        refine WL.guardN (e := 28) (v := .bool false) rfl rfl rfl rfl ?_
        refine WL.guardN (e := 28) (v := .bool false) rfl rfl rfl rfl ?_
        refine WL.guardN (e := 28) (v := .bool false) rfl rfl rfl rfl ?_
        refine WL.val (R.pickF (v := Value.bool false) rfl rfl) rfl ?_
        refine WL.nil ?_
        refine thenN ?_
        refine WC.condF rfl rfl ?_
        refine WC.exit ?_
        refine thenE ?_
        refine thenE ?_
        refine blockHit ?_
        have ht275 := (hs231.here).perm (L' := []) (G := [blk b104 62 (encR p0 (Value.slice a0 p0.table.length c0))]) ((List.Perm.refl _))
        have hs276 := hs231.trans ht275
        exact joinI ⟨h274, hs276⟩
    · rintro σ240 w239 ⟨h277, hs241⟩
      subst hK227
      refine thenN ?_
      refine WC.seq ?_
      refine WC.region ?_
      refine WL.val (R.assign (v := Value.bool true) rfl) rfl ?_
      refine WL.nil ?_
      refine thenN ?_
      refine WC.ret ?_
      obtain rfl := Option.some.inj (show some true = some r from h277)
      exact ret1 (P := Try.prog) (n := 43) (fn := Try.f75) (R := fun v w' => v = Value.bool true ∧ St [] w w' []) (t := 4) (v := Value.bool true) rfl rfl rfl ⟨rfl, hs241⟩
  · have h278 := ifF hc161 h154
    have hk279 : (!y152) = true := by simp [hc161]
    refine WC.condT (Eq.trans (show _ = Value.bool (!y152) from rfl) (congrArg Value.bool hk279)) rfl ?_
    refine WC.seq ?_
    refine WC.region ?_
    refine WL.val (R.assign (v := Value.bool false) rfl) rfl ?_
    refine WL.nil ?_
    refine thenN ?_
    refine WC.ret ?_
    have ht280 := (hs160.here).perm (L' := []) (G := [blk b104 62 (encR p0 (Value.slice a0 p0.table.length c0)), blk b112 62 (encR p1 (Value.slice a1 p1.table.length c1))]) ((List.Perm.refl _))
    have hs281 := hs160.trans ht280
    obtain rfl := Option.some.inj (show some false = some r from h278)
    exact ret1 (P := Try.prog) (n := 43) (fn := Try.f75) (R := fun v w' => v = Value.bool false ∧ St [] w w' []) (t := 4) (v := Value.bool false) rfl rfl rfl ⟨rfl, hs281⟩

end Go.Proofs.Ytckcldimnelklaa
