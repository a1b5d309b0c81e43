/- Parts of the proof, put together: W13ya, W15a, W15pa, W15sa, W15oa. -/
import Derived.Test.YtckcldimnelklaaPAgreesAnyW2
import Derived.Test.YtckcldimnelklaaKAgreesAnyW13u
import Derived.Test.YtckcldimnelklaaTW
import Derived.Test.YtckcldimnelklaaPAgreesAnyD0
import Derived.Test.YtckcldimnelklaaTU
import Derived.Test.YtckcldimnelklaaLG
import Derived.Test.YtckcldimnelklaaTP
import Derived.Test.YtckcldimnelklaaTN
import Derived.Test.YtckcldimnelklaaTX
import Derived.Test.YtckcldimnelklaaTQ
/- The functions come to what their twins answer: group 13y. -/
namespace Go.Proofs.Ytckcldimnelklaa
open Go
set_option linter.unusedVariables false
set_option linter.unusedSimpArgs false
set_option maxRecDepth 100000
set_option maxHeartbeats 4000000

theorem others13_ok (w : World) (ok : Nat → Prop) (p0 : List Rw) (a0 : Option Addr) (c0 : Nat) (he0 : elems rowW w ok a0 p0) (hc0 : p0.length ≤ c0) {r : (List Rw)} (h : others13 p0 = some r) :
    Ret Try.prog 36 [Value.slice a0 p0.length c0] w (fun v w' => ∃ ra0, ∃ rc0, v = Value.slice ra0 r.length rc0 ∧ r.length ≤ rc0 ∧ elems rowW w' (In ok w [] []) ra0 r ∧ St [] w w' []) := by
  rw [others13] at h
  have hs100 : St [] w w [] := St.start w
  have he1000 := el0 (L0 := []) (fun b _ => out_nil b) he0
  refine enter (n := 20) Try.func36 rfl rfl rfl ?_
  refine WC.seq ?_
  refine WC.region ?_
  refine WL.val (R.assign (v := Value.slice none 0 0) rfl) rfl ?_
  refine WL.nil ?_
  refine thenN ?_
  refine WC.seq ?_
  refine WC.region ?_
  refine WL.val (R.assign (v := Value.slice none 0 0) rfl) rfl ?_
  refine WL.nil ?_
  refine thenN ?_
  refine WC.seq ?_
  refine WC.seq ?_
  refine WC.region ?_
  refine WL.val (R.assign (v := Value.int .i64 0) rfl) rfl ?_
  refine WL.nil ?_
  refine thenN ?_
  have ht172 := (hs100.here).addNil 143 (rawE 57) rfl
  have hs174 := hs100.trans ht172
  have hr175 : readsL (n := 57) rowW w (In (fun _ => False) w [] [gsl 143 (rawE 57) (Value.slice none 0 0) []]) [] [] := readsL_nil
  have hr336 := elT ht172 he1000
  obtain ⟨K327, hK328, h329⟩ := kE (G := fun K327 => others13_l1 p0 K327 1000000 0 ([] : List Rw)) h
  refine WC.join (fun σ338 w337 => ∃ l323 : List Rw, ∃ rs324, ∃ a325, ∃ c326, σ338 3 = (Value.slice a325 l323.length c326) ∧ readsL rowW w337 (In ok w [] [gsl 143 (rawE 57) (Value.slice a325 l323.length c326) rs324]) l323 rs324 ∧ K327 l323 = some r ∧ St [] w w337 [gsl 143 (rawE 57) (Value.slice a325 l323.length c326) rs324]) ?_ ?_
  · refine WC.block ?_
    refine WC.loop (T := Nat) (fun k333 σ331 w330 => ∃ i318 : Int, ∃ l319 : List Rw, ∃ rs320, ∃ a321, ∃ c322, σ331 0 = (Value.slice a0 p0.length c0) ∧ σ331 3 = (Value.slice a321 l319.length c322) ∧ σ331 4 = (Value.int .i64 i318) ∧ elems rowW w330 (In ok w [] [gsl 143 (rawE 57) (Value.slice a321 l319.length c322) rs320]) a0 p0 ∧ readsL rowW w330 (In ok w [] [gsl 143 (rawE 57) (Value.slice a321 l319.length c322) rs320]) l319 rs320 ∧ others13_l1 p0 K327 k333 i318 l319 = some r ∧ St [] w w330 [gsl 143 (rawE 57) (Value.slice a321 l319.length c322) rs320]) (fun k333 => k333) 1000000 ⟨0, ([] : List Rw), [], none, 0, rfl, rfl, rfl, hr336, (rlN (ok' := ok) hr175), h329, hs174⟩ ?_
    rintro k333 σ331 w330 ⟨i318, l319, rs320, a321, c322, s342, s343, s344, he334, hr335, h341, hs332⟩
    rcases k333 with _ | k333
    · rw [others13_l1] at h341; cases h341
    rw [others13_l1] at h341
    refine WC.seq ?_
    refine WC.seq ?_
    refine WC.region ?_
    refine WL.val (R.move (v := Value.int .i64 i318) (by exact s344)) rfl ?_
    refine WL.val (R.move (v := Value.slice a0 p0.length c0) (by exact s342)) rfl ?_
    refine WL.val (R.len (a := a0) (n := p0.length) (c := c0) un22 rfl) rfl ?_
    by_cases hc345 : i318 < ((p0.length : Nat) : Int)
    · have h346 := ifT hc345 h341
      refine WL.val (R.lssT (k := .i64) (a := i318) (b := ((p0.length : Nat) : Int)) un3 rfl rfl hc345) rfl ?_
      refine WL.nil ?_
      refine thenN ?_
      refine WC.condT rfl rfl ?_
      refine WC.skip ?_
      refine thenN ?_
      refine WC.seq ?_
      refine WC.block ?_
      refine WC.region ?_
      refine WL.val (R.move (v := Value.slice a321 l319.length c322) (by exact s343)) rfl ?_
      refine WL.val (R.move (v := Value.slice a0 p0.length c0) (by exact s342)) rfl ?_
      refine WL.val (R.move (v := Value.int .i64 i318) (by exact s344)) rfl ?_
      obtain ⟨x347, hx348, h349⟩ := ob (o := rd p0 i318) h346
      obtain ⟨h0350, hx351, hl352, hm353⟩ := rdE hx348
      obtain ⟨ad354, e359, ha355, hp356, hat357, hrd358⟩ := he334 _ _ hx351
      obtain ⟨t360, rfl, a362, c363, he366, hl364, he365⟩ := hrd358
      cases he366
      refine WL.val (R.indexS (n := 57) (m := (i318).toNat) (a := a0) (ad := ad354) (len := p0.length) (cap := c0) (z := i318) un22 ag62.size rfl ha355 rfl hm353 hl352 hp356) rfl ?_
      refine WL.val (R.loadA (cs := encR x347 (Value.slice a362 x347.table.length c363)) (n := 57) ag62 rfl hat357 rfl) rfl ?_
      obtain ⟨y369, hx370, h371⟩ := ob (o := other13 x347) h349
      refine WL.call (other13_ok _ _ x347 _ _ he365 hl364 hx370) (R.call (vs := [Value.agg (List.toArray (encR x347 (Value.slice a362 x347.table.length c363)))]) (caps := []) bo71 rfl rfl) rfl ?_
      rintro v378 w379 ⟨a374, c375, rfl, hl376, he377, ht372⟩
      have ht373 := hs332.call (N := [gsl 143 (rawE 57) (Value.slice a321 l319.length c322) rs320]) (M := []) (List.Perm.refl _) ht372
      have he380 := elC hs332 (M := []) (List.Perm.refl _) ht372 he377
      have hs381 := hs332.trans ht373
      have hd388 : ∀ w : World, (Instr.buildSlice 33 1 #[(0, Value.agg (List.toArray (encR y369 (Value.slice a374 y369.table.length c375))))]).run Try.prog w = .ok (.slice (some ⟨w.heap.size, 0, none⟩) 1 1) { w with heap := w.heap.push (.cells (List.toArray (encR y369 (Value.slice a374 y369.table.length c375))) 143) } := fun _ => by kernel_rfl
      refine WL.new (L' := fun b383 => [gsl 143 (rawE 57) (Value.slice a321 l319.length c322) rs320, blk b383 143 (encR y369 (Value.slice a374 y369.table.length c375))]) (f := fun b383 => Value.slice (some ⟨b383, 0, none⟩) 1 1) (X.buildSlice (c := (encR y369 (Value.slice a374 y369.table.length c375))) (vs := [(0, Value.agg (List.toArray (encR y369 (Value.slice a374 y369.table.length c375))))]) (hs381.here) rfl hd388 (fun _ => rfl)) rfl ?_
      intro b383 w384 ht390 he386 hz387
      have hs391 := hs381.trans ht390
      have hr392 := rlT (ht373.trans ht390) hr335
      have hr396 := elT ht390 he380
      obtain ⟨r393, hr394, hr395⟩ := readsL_snoc hr392 (cs := (encR y369 (Value.slice a374 y369.table.length c375))) (x := y369) ⟨_, rfl, ⟨_, _, rfl, hl376, hr396⟩⟩ rfl
      obtain ⟨hg397, h398⟩ := ckE (c := l319.length < 1000000) h371
      refine WL.grow (L' := fun v399 => [gsl 143 (rawE 57) v399 (rs320 ++ [r393]), blk b383 143 (encR y369 (Value.slice a374 y369.table.length c375))]) (X.append (i := 0) (e := (rawE 57)) (xs := rs320) (ys := [r393]) (ad := ⟨b383, 0, none⟩) (m := 1) (c := 1) (hs391.here) sl33 rfl rfl rfl rfl (show At _ (fun _ => True) _ (flat (rawE 57) [r393]) from by rw [flat_raw hr394]; exact ((hs391.here).at (i := 1) (off := 0) (n := 57) (cs := encR y369 (Value.slice a374 y369.table.length c375)) rfl rfl rfl)) rfl (by rw [flat_raw hr394]; exact rfl) (roomL (n := 1) (hr392).1 hg397 rfl (by decide)) (roomL63 (n := 1) (hr392).1 hg397 rfl (by decide)) (fun _ => rfl)) rfl ?_
      intro v399 w400 ht401
      obtain ⟨a402, c403, hv404⟩ := gsl_slK (ht401.get (i := 0) rfl) (hr395).1
      subst hv404
      have hs406 := hs391.trans ht401
      refine WL.val (R.assign (v := Value.slice a402 ((l319 ++ [y369]).length) c403) rfl) rfl ?_
      refine WL.nil ?_
      refine blockN ?_
      refine thenN ?_
      refine WC.region ?_
      refine WL.val (R.move (v := Value.int .i64 i318) (by exact s344)) rfl ?_
      obtain ⟨hg407, h408⟩ := ckE (c := -9223372036854775808 ≤ i318 + 1 ∧ i318 + 1 ≤ 9223372036854775807) h398
      refine WL.val (R.add (a := i318) (b := 1) (z := i318 + 1) rfl rfl (w64e rfl hg407.1 hg407.2)) rfl ?_
      refine WL.val (R.assign (v := Value.int .i64 (i318 + 1)) rfl) rfl ?_
      refine WL.nil ?_
      have ht409 := (hs406.here).perm (L' := [gsl 143 (rawE 57) (Value.slice a402 ((l319 ++ [y369]).length) c403) (rs320 ++ [r393])]) (G := [blk b383 143 (encR y369 (Value.slice a374 y369.table.length c375))]) ((List.Perm.refl _))
      have hs410 := hs406.trans ht409
      have hr411 := elT (((ht373.trans ht390).trans ht401).trans ht409) he334
      have hr412 := rlT (ht401.trans ht409) hr395
      exact roundEnd (s := k333) ⟨i318 + 1, l319 ++ [y369], rs320 ++ [r393], a402, c403, s342, rfl, rfl, hr411, hr412, h408, hs410⟩ (Nat.lt_succ_self _)
    · have h413 := ifF hc345 h341
      refine WL.val (R.lssF (k := .i64) (a := i318) (b := ((p0.length : Nat) : Int)) un3 rfl rfl hc345) rfl ?_
      refine WL.nil ?_
      refine thenN ?_
      refine WC.condF rfl rfl ?_
      refine WC.exit ?_
      refine thenE ?_
      refine thenE ?_
      refine blockHit ?_
      exact joinI ⟨l319, rs320, a321, c322, s343, hr335, h413, hs332⟩
  · rintro σ338 w337 ⟨l323, rs324, a325, c326, s415, hr340, h414, hs339⟩
    subst hK328
    refine thenN ?_
    refine WC.seq ?_
    refine WC.region ?_
    refine WL.val (R.move (v := Value.slice a325 l323.length c326) (by exact s415)) rfl ?_
    refine WL.val (R.assign (v := Value.slice a325 l323.length c326) rfl) rfl ?_
    refine WL.nil ?_
    refine thenN ?_
    refine WC.ret ?_
    obtain ⟨a416, c417, hv418, hl419, he420⟩ := el_freezeR hs339 (List.Perm.refl _) rfl hr340
    obtain ⟨rfl, rfl⟩ : a325 = a416 ∧ c326 = c417 := ⟨(Value.slice.inj hv418).1, (Value.slice.inj hv418).2.2⟩
    have ht421 := (hs339.here).perm (L' := []) (G := [gsl 143 (rawE 57) (Value.slice a325 l323.length c326) rs324]) ((List.Perm.refl _))
    have hs422 := hs339.trans ht421
    obtain rfl := Option.some.inj (show some l323 = some r from h414)
    exact ret1 (P := Try.prog) (n := 20) (fn := Try.f36) (R := fun v w' => ∃ ra0, ∃ rc0, v = Value.slice ra0 l323.length rc0 ∧ l323.length ≤ rc0 ∧ elems rowW w' (In ok w [] []) ra0 l323 ∧ St [] w w' []) (t := 2) (v := Value.slice a325 l323.length c326) rfl rfl rfl ⟨a325, c326, rfl, hl419, he420, hs422⟩

theorem twinword13_ok (w : World) (ok : Nat → Prop) (p0 : (List Rw)) (a0 : Option Addr) (c0 : Nat) (he0 : elems rowW w ok a0 p0) (hc0 : p0.length ≤ c0) {r : (List Rw)} (h : twinword13 p0 = some r) :
    Ret Try.prog 32 [Value.agg (List.toArray [Value.slice a0 p0.length c0])] w (fun v w' => ∃ ra0, ∃ rc0, v = Value.agg (List.toArray [Value.slice ra0 r.length rc0]) ∧ r.length ≤ rc0 ∧ elems rowM w' (In ok w [] []) ra0 r ∧ St [] w w' []) := by
  rw [twinword13] at h
  have hs100 : St [] w w [] := St.start w
  have he1000 := el0 (L0 := []) (fun b _ => out_nil b) he0
  refine enter (n := 24) Try.func32 rfl rfl rfl ?_
  refine WC.seq ?_
  refine WC.region ?_
  refine WL.new (L' := fun b102 => [blk b102 25 [Value.slice a0 p0.length c0]]) (f := fun b102 => Value.pointer (some ⟨b102, 0, none⟩)) (X.box (v := Value.agg (List.toArray [Value.slice a0 p0.length c0])) (c := [Value.slice a0 p0.length c0]) (hs100.here) rfl rfl (fun _ => rfl)) rfl ?_
  intro b102 w103 ht108 he105 hz106
  have hs109 := hs100.trans ht108
  refine WL.new (L' := fun b110 => [blk b102 25 [Value.slice a0 p0.length c0], blk b110 25 [Value.slice none 0 0]]) (f := fun b110 => Value.pointer (some ⟨b110, 0, none⟩)) (X.alloc (c := [Value.slice none 0 0]) (hs109.here) zr25 rfl (fun _ => rfl)) rfl ?_
  intro b110 w111 ht116 he113 hz114
  have hs117 := hs109.trans ht116
  refine WL.nil ?_
  refine thenN ?_
  refine WC.seq ?_
  refine WC.region ?_
  refine WL.new (L' := fun b118 => [blk b102 25 [Value.slice a0 p0.length c0], blk b110 25 [Value.slice none 0 0], blk b118 25 [Value.slice none 0 0]]) (f := fun b118 => Value.pointer (some ⟨b118, 0, none⟩)) (X.alloc (c := [Value.slice none 0 0]) (hs117.here) zr25 rfl (fun _ => rfl)) rfl ?_
  intro b118 w119 ht124 he121 hz122
  have hs125 := hs117.trans ht124
  refine WL.nil ?_
  refine thenN ?_
  refine WC.seq ?_
  refine WC.seq ?_
  refine WC.region ?_
  refine WL.val (R.assign (v := Value.int .i64 0) rfl) rfl ?_
  refine WL.nil ?_
  refine thenN ?_
  have ht207 := (hs125.here).addNil 62 (rawE 57) rfl
  have hs209 := hs125.trans ht207
  have hr210 : readsL (n := 57) rowM w119 (In (fun _ => False) w [] [blk b102 25 [Value.slice a0 p0.length c0], blk b110 25 [Value.slice none 0 0], blk b118 25 [Value.slice none 0 0], gsl 62 (rawE 57) (Value.slice none 0 0) []]) [] [] := readsL_nil
  have hr391 := elT (((ht108.trans ht116).trans ht124).trans ht207) he1000
  obtain ⟨K382, hK383, h384⟩ := kE (G := fun K382 => twinword13_l1 p0 K382 1000000 0 ([] : List Rw)) h
  refine WC.join (fun σ393 w392 => ∃ l378 : List Rw, ∃ rs379, ∃ a380, ∃ c381, σ393 2 = (Value.pointer (some ⟨b110, 0, none⟩)) ∧ σ393 3 = (Value.pointer (some ⟨b118, 0, none⟩)) ∧ readsL rowM w392 (In ok w [] [blk b110 25 [Value.slice none 0 0], blk b118 25 [Value.slice a380 l378.length c381], gsl 62 (rawE 57) (Value.slice a380 l378.length c381) rs379]) l378 rs379 ∧ K382 l378 = some r ∧ St [] w w392 [blk b110 25 [Value.slice none 0 0], blk b118 25 [Value.slice a380 l378.length c381], gsl 62 (rawE 57) (Value.slice a380 l378.length c381) rs379]) ?_ ?_
  · refine WC.block ?_
    refine WC.loop (T := Nat) (fun k388 σ386 w385 => ∃ i373 : Int, ∃ l374 : List Rw, ∃ rs375, ∃ a376, ∃ c377, σ386 1 = (Value.pointer (some ⟨b102, 0, none⟩)) ∧ σ386 2 = (Value.pointer (some ⟨b110, 0, none⟩)) ∧ σ386 3 = (Value.pointer (some ⟨b118, 0, none⟩)) ∧ σ386 4 = (Value.int .i64 i373) ∧ elems rowW w385 (In ok w [] [blk b102 25 [Value.slice a0 p0.length c0], blk b110 25 [Value.slice none 0 0], blk b118 25 [Value.slice a376 l374.length c377], gsl 62 (rawE 57) (Value.slice a376 l374.length c377) rs375]) a0 p0 ∧ readsL rowM w385 (In ok w [] [blk b102 25 [Value.slice a0 p0.length c0], blk b110 25 [Value.slice none 0 0], blk b118 25 [Value.slice a376 l374.length c377], gsl 62 (rawE 57) (Value.slice a376 l374.length c377) rs375]) l374 rs375 ∧ twinword13_l1 p0 K382 k388 i373 l374 = some r ∧ St [] w w385 [blk b102 25 [Value.slice a0 p0.length c0], blk b110 25 [Value.slice none 0 0], blk b118 25 [Value.slice a376 l374.length c377], gsl 62 (rawE 57) (Value.slice a376 l374.length c377) rs375]) (fun k388 => k388) 1000000 ⟨0, ([] : List Rw), [], none, 0, rfl, rfl, rfl, rfl, hr391, (rlN (ok' := ok) hr210), h384, hs209⟩ ?_
    rintro k388 σ386 w385 ⟨i373, l374, rs375, a376, c377, s397, s398, s399, s400, he389, hr390, h396, hs387⟩
    rcases k388 with _ | k388
    · rw [twinword13_l1] at h396; cases h396
    rw [twinword13_l1] at h396
    refine WC.seq ?_
    refine WC.seq ?_
    refine WC.region ?_
    refine WL.val (R.move (v := Value.int .i64 i373) (by exact s400)) rfl ?_
    refine WL.val (R.fieldAddr (o := 0) (o' := 0) fa25_0 (by exact s397) rfl) rfl ?_
    refine WL.val (R.loadL (v := Value.slice a0 p0.length c0) lf22 rfl (hs387.at (i := 0) (off := 0) (n := 1) (cs := [Value.slice a0 p0.length c0]) rfl rfl rfl)) rfl ?_
    refine WL.val (R.len (a := a0) (n := p0.length) (c := c0) un22 rfl) rfl ?_
    by_cases hc401 : i373 < ((p0.length : Nat) : Int)
    · have h402 := ifT hc401 h396
      refine WL.val (R.lssT (k := .i64) (a := i373) (b := ((p0.length : Nat) : Int)) un3 rfl rfl hc401) rfl ?_
      refine WL.nil ?_
      refine thenN ?_
      refine WC.condT rfl rfl ?_
      refine WC.skip ?_
      refine thenN ?_
      refine WC.seq ?_
      refine WC.block ?_
      refine WC.drawE mixed (NP.block (NP.then (NP.then (NP.block (NP.join (NP.then NP.rq)))))) ?_
      have ht403 := (hs387.here).ext (Ext.drew _)
      have hs404 := hs387.trans ht403
      refine WE.take 0 rfl (by decide +kernel) (by decide +kernel) (by decide +kernel) (by decide +kernel) rfl rfl (fun wq hq => R.fieldAddr (o := 0) (o' := 0) fa25_0 (by exact s399) rfl) ?_
      refine WE.take 1 rfl (by decide +kernel) (by decide +kernel) (by decide +kernel) (by decide +kernel) rfl rfl (fun wq hq => R.loadL (v := Value.slice a376 l374.length c377) lf22 rfl ((hs404.ext hq).at (i := 2) (off := 0) (n := 1) (cs := [Value.slice a376 l374.length c377]) rfl rfl rfl)) ?_
      refine WE.take 2 rfl (by decide +kernel) (by decide +kernel) (by decide +kernel) (by decide +kernel) rfl rfl (fun wq hq => R.fieldAddr (o := 0) (o' := 0) fa25_0 (by exact s397) rfl) ?_
      refine WE.take 3 rfl (by decide +kernel) (by decide +kernel) (by decide +kernel) (by decide +kernel) rfl rfl (fun wq hq => R.loadL (v := Value.slice a0 p0.length c0) lf22 rfl ((hs404.ext hq).at (i := 0) (off := 0) (n := 1) (cs := [Value.slice a0 p0.length c0]) rfl rfl rfl)) ?_
      refine WE.take 4 rfl (by decide +kernel) (by decide +kernel) (by decide +kernel) (by decide +kernel) rfl rfl (fun wq hq => R.move (v := Value.int .i64 i373) (by exact s400)) ?_
      obtain ⟨x405, hx406, h407⟩ := ob (o := rd p0 i373) h402
      obtain ⟨h0408, hx409, hl410, hm411⟩ := rdE hx406
      have hr412 := elT ht403 he389
      obtain ⟨ad413, e418, ha414, hp415, hat416, hrd417⟩ := hr412 _ _ hx409
      obtain ⟨t419, rfl, a421, c422, he425, hl423, he424⟩ := hrd417
      cases he425
      refine WE.take 5 rfl (by decide +kernel) (by decide +kernel) (by decide +kernel) (by decide +kernel) rfl rfl (fun wq hq => R.indexS (n := 57) (m := (i373).toNat) (a := a0) (ad := ad413) (len := p0.length) (cap := c0) (z := i373) un22 ag62.size rfl ha414 rfl hm411 hl410 hp415) ?_
      refine WE.take 6 rfl (by decide +kernel) (by decide +kernel) (by decide +kernel) (by decide +kernel) rfl rfl (fun wq hq => R.loadA (cs := encR x405 (Value.slice a421 x405.table.length c422)) (n := 57) ag62 rfl (At.exT hq hat416) rfl) ?_
      obtain ⟨y428, hx429, h430⟩ := ob (o := twin13 x405) h407
      refine WE.call 7 (by decide +kernel) rfl rfl rfl (twin13_ok _ _ x405 _ _ he424 hl423 hx429) (R.call (vs := [Value.agg (List.toArray (encR x405 (Value.slice a421 x405.table.length c422)))]) (caps := []) bo67 rfl rfl) ?_
      rintro v439 w440 ⟨a433, c434, rfl, hl435, he436, ht437, hu438, ht431⟩
      refine ⟨.inr (show Ext _ _ from ht431.kept), ?_⟩
      have ht432 := hs404.call (N := [blk b102 25 [Value.slice a0 p0.length c0], blk b110 25 [Value.slice none 0 0], blk b118 25 [Value.slice a376 l374.length c377], gsl 62 (rawE 57) (Value.slice a376 l374.length c377) rs375]) (M := []) (List.Perm.refl _) ht431
      have he441 := elC hs404 (M := []) (List.Perm.refl _) ht431 he436
      have hu442 := elC hs404 (M := []) (List.Perm.refl _) ht431 hu438
      have hs443 := hs404.trans ht432
      have hd451 : ∀ w : World, (Instr.buildSlice 22 1 #[(0, Value.agg (List.toArray (encR y428 (Value.slice a433 y428.table.length c434))))]).run Try.prog w = .ok (.slice (some ⟨w.heap.size, 0, none⟩) 1 1) { w with heap := w.heap.push (.cells (List.toArray (encR y428 (Value.slice a433 y428.table.length c434))) 62) } := fun _ => by kernel_rfl
      refine WE.new (L' := fun b446 => [blk b102 25 [Value.slice a0 p0.length c0], blk b110 25 [Value.slice none 0 0], blk b118 25 [Value.slice a376 l374.length c377], gsl 62 (rawE 57) (Value.slice a376 l374.length c377) rs375, blk b446 62 (encR y428 (Value.slice a433 y428.table.length c434))]) (f := fun b446 => Value.slice (some ⟨b446, 0, none⟩) 1 1) 8 (by decide +kernel) rfl rfl rfl (X.buildSlice (c := (encR y428 (Value.slice a433 y428.table.length c434))) (vs := [(0, Value.agg (List.toArray (encR y428 (Value.slice a433 y428.table.length c434))))]) (hs443.here) rfl hd451 (fun _ => rfl)) ?_
      intro b446 w447 ht453 he449 hz450
      have hs454 := hs443.trans ht453
      have hr455 := rlT ((ht403.trans ht432).trans ht453) hr390
      have hr459 := elT ht453 hu442
      obtain ⟨r456, hr457, hr458⟩ := readsL_snoc hr455 (cs := (encR y428 (Value.slice a433 y428.table.length c434))) (x := y428) ⟨_, rfl, _, _, rfl, ht437, hr459⟩ rfl
      obtain ⟨hg460, h461⟩ := ckE (c := l374.length < 1000000) h430
      refine WE.grow (L' := fun v462 => [blk b102 25 [Value.slice a0 p0.length c0], blk b110 25 [Value.slice none 0 0], blk b118 25 [Value.slice a376 l374.length c377], gsl 62 (rawE 57) v462 (rs375 ++ [r456]), blk b446 62 (encR y428 (Value.slice a433 y428.table.length c434))]) 9 (by decide +kernel) (by decide +kernel) rfl rfl rfl (X.append (i := 3) (e := (rawE 57)) (xs := rs375) (ys := [r456]) (ad := ⟨b446, 0, none⟩) (m := 1) (c := 1) (hs454.here) sl22 rfl rfl rfl rfl (show At _ (fun _ => True) _ (flat (rawE 57) [r456]) from by rw [flat_raw hr457]; exact ((hs454.here).at (i := 4) (off := 0) (n := 57) (cs := encR y428 (Value.slice a433 y428.table.length c434)) rfl rfl rfl)) rfl (by rw [flat_raw hr457]; exact rfl) (roomL (n := 1) (hr455).1 hg460 rfl (by decide)) (roomL63 (n := 1) (hr455).1 hg460 rfl (by decide)) (fun _ => rfl)) ?_
      intro v462 w463 ht464
      obtain ⟨a465, c466, hv467⟩ := gsl_slK (ht464.get (i := 3) rfl) (hr458).1
      subst hv467
      have hs469 := hs454.trans ht464
      refine WE.take 10 rfl (by decide +kernel) (by decide +kernel) (by decide +kernel) (by decide +kernel) rfl rfl (fun wq hq => R.fieldAddr (o := 0) (o' := 0) fa25_0 (by exact s399) rfl) ?_
      refine WE.sto (L' := [blk b102 25 [Value.slice a0 p0.length c0], blk b110 25 [Value.slice none 0 0], blk b118 25 [Value.slice a465 ((l374 ++ [y428]).length) c466], gsl 62 (rawE 57) (Value.slice a465 ((l374 ++ [y428]).length) c466) (rs375 ++ [r456]), blk b446 62 (encR y428 (Value.slice a433 y428.table.length c434))]) 11 (by decide +kernel) (by decide +kernel) rfl rfl rfl rfl (X.store (i := 2) (n := 1) (b := b118) (off := 0) (c := [Value.slice a376 l374.length c377]) (U := 25) (vs := [Value.slice a465 ((l374 ++ [y428]).length) c466]) (v := Value.slice a465 ((l374 ++ [y428]).length) c466) (c' := [Value.slice a465 ((l374 ++ [y428]).length) c466]) (hs469.here) rfl lf22.size rfl rfl rfl rfl rfl rfl rfl rfl) ?_
      intro w470 ht471
      have hs472 := hs469.trans ht471
      refine WE.done (by decide +kernel) ?_
      refine blockN ?_
      refine thenN ?_
      refine WC.region ?_
      refine WL.val (R.move (v := Value.int .i64 i373) (by exact s400)) rfl ?_
      obtain ⟨hg473, h474⟩ := ckE (c := -9223372036854775808 ≤ i373 + 1 ∧ i373 + 1 ≤ 9223372036854775807) h461
      refine WL.val (R.add (a := i373) (b := 1) (z := i373 + 1) rfl rfl (w64e rfl hg473.1 hg473.2)) rfl ?_
      refine WL.val (R.assign (v := Value.int .i64 (i373 + 1)) rfl) rfl ?_
      refine WL.nil ?_
      have ht475 := (hs472.here).perm (L' := [blk b102 25 [Value.slice a0 p0.length c0], blk b110 25 [Value.slice none 0 0], blk b118 25 [Value.slice a465 ((l374 ++ [y428]).length) c466], gsl 62 (rawE 57) (Value.slice a465 ((l374 ++ [y428]).length) c466) (rs375 ++ [r456])]) (G := [blk b446 62 (encR y428 (Value.slice a433 y428.table.length c434))]) ((List.Perm.refl _))
      have hs476 := hs472.trans ht475
      have hr477 := elT ((((ht432.trans ht453).trans ht464).trans ht471).trans ht475) hr412
      have hr478 := rlT ((ht464.trans ht471).trans ht475) hr458
      exact roundEnd (s := k388) ⟨i373 + 1, l374 ++ [y428], rs375 ++ [r456], a465, c466, s397, s398, s399, rfl, hr477, hr478, h474, hs476⟩ (Nat.lt_succ_self _)
    · have h479 := ifF hc401 h396
      refine WL.val (R.lssF (k := .i64) (a := i373) (b := ((p0.length : Nat) : Int)) un3 rfl rfl hc401) rfl ?_
      refine WL.nil ?_
      refine thenN ?_
      refine WC.condF rfl rfl ?_
      refine WC.exit ?_
      refine thenE ?_
      refine thenE ?_
      refine blockHit ?_
      have ht480 := (hs387.here).perm (L' := [blk b110 25 [Value.slice none 0 0], blk b118 25 [Value.slice a376 l374.length c377], gsl 62 (rawE 57) (Value.slice a376 l374.length c377) rs375]) (G := [blk b102 25 [Value.slice a0 p0.length c0]]) (((List.perm_middle (l₁ := [blk b102 25 [Value.slice a0 p0.length c0]]) (a := blk b110 25 [Value.slice none 0 0]) (l₂ := [blk b118 25 [Value.slice a376 l374.length c377], gsl 62 (rawE 57) (Value.slice a376 l374.length c377) rs375])).trans (List.Perm.cons _ ((List.perm_middle (l₁ := [blk b102 25 [Value.slice a0 p0.length c0]]) (a := blk b118 25 [Value.slice a376 l374.length c377]) (l₂ := [gsl 62 (rawE 57) (Value.slice a376 l374.length c377) rs375])).trans (List.Perm.cons _ ((List.perm_middle (l₁ := [blk b102 25 [Value.slice a0 p0.length c0]]) (a := gsl 62 (rawE 57) (Value.slice a376 l374.length c377) rs375) (l₂ := [])).trans (List.Perm.cons _ (List.Perm.refl _))))))))
      have hs481 := hs387.trans ht480
      have hr482 := rlT ht480 hr390
      exact joinI ⟨l374, rs375, a376, c377, s398, s399, hr482, h479, hs481⟩
  · rintro σ393 w392 ⟨l378, rs379, a380, c381, s484, s485, hr395, h483, hs394⟩
    subst hK383
    refine thenN ?_
    refine WC.seq ?_
    refine WC.region ?_
    refine WL.val (R.loadA (cs := [Value.slice a380 l378.length c381]) (n := 1) ag25 (by exact s485) (hs394.at (i := 1) (off := 0) (n := 1) (cs := [Value.slice a380 l378.length c381]) rfl rfl rfl) rfl) rfl ?_
    refine WL.sto (L' := [blk b110 25 [Value.slice a380 l378.length c381], blk b118 25 [Value.slice a380 l378.length c381], gsl 62 (rawE 57) (Value.slice a380 l378.length c381) rs379]) (X.store (i := 0) (n := 1) (b := b110) (off := 0) (c := [Value.slice none 0 0]) (U := 25) (vs := [Value.slice a380 l378.length c381]) (v := Value.agg (List.toArray [Value.slice a380 l378.length c381])) (c' := [Value.slice a380 l378.length c381]) (hs394.here) rfl ag25.size (by exact s484) rfl rfl rfl rfl rfl rfl rfl) rfl rfl ?_
    intro w486 ht487
    have hs488 := hs394.trans ht487
    refine WL.nil ?_
    refine thenN ?_
    refine WC.ret ?_
    have hr495 := rlT ht487 hr395
    obtain ⟨a489, c490, hv491, hl492, he493⟩ := el_freezeR hs488 ((List.perm_middle (l₁ := [blk b110 25 [Value.slice a380 l378.length c381], blk b118 25 [Value.slice a380 l378.length c381]]) (a := gsl 62 (rawE 57) (Value.slice a380 l378.length c381) rs379) (l₂ := [])).trans (List.Perm.cons _ (List.Perm.refl _))) rfl hr495
    obtain ⟨rfl, rfl⟩ : a380 = a489 ∧ c381 = c490 := ⟨(Value.slice.inj hv491).1, (Value.slice.inj hv491).2.2⟩
    have ht494 := (hs488.here).perm (L' := [blk b110 25 [Value.slice a380 l378.length c381], blk b118 25 [Value.slice a380 l378.length c381]]) (G := [gsl 62 (rawE 57) (Value.slice a380 l378.length c381) rs379]) ((List.Perm.refl _))
    have hs496 := hs488.trans ht494
    have hl498 := run_loadA (P := Try.prog) (n := 1) ag25 (hs496.at (i := 0) (off := 0) (n := 1) (cs := [Value.slice a380 l378.length c381]) rfl rfl rfl) rfl
    have ht499 := (hs496.here).perm (L' := []) (G := [blk b110 25 [Value.slice a380 l378.length c381], blk b118 25 [Value.slice a380 l378.length c381]]) ((List.Perm.refl _))
    have hs500 := hs496.trans ht499
    have hr501 := elT ht499 he493
    obtain rfl := Option.some.inj (show some l378 = some r from h483)
    exact retCell (P := Try.prog) (n := 24) (fn := Try.f32) (R := fun v w' => ∃ ra0, ∃ rc0, v = Value.agg (List.toArray [Value.slice ra0 l378.length rc0]) ∧ l378.length ≤ rc0 ∧ elems rowM w' (In ok w [] []) ra0 l378 ∧ St [] w w' []) (t := 2) (v := Value.agg (List.toArray [Value.slice a380 l378.length c381])) rfl s484 rfl hl498 ⟨a380, c381, rfl, hl492, hr501, hs500⟩

theorem leftword13_ok (w : World) (ok : Nat → Prop) (p0 : (List Rw)) (p1 : (List Rw)) (a0 : Option Addr) (c0 : Nat) (he0 : elems rowM w ok a0 p0) (hc0 : p0.length ≤ c0) (a1 : Option Addr) (c1 : Nat) (he1 : elems rowW w ok a1 p1) (hc1 : p1.length ≤ c1) {r : Bool} (h : leftword13 p0 p1 = some r) :
    Ret Try.prog 39 [Value.agg (List.toArray [Value.slice a0 p0.length c0]), Value.agg (List.toArray [Value.slice a1 p1.length c1])] w (fun v w' => v = Value.bool r ∧ St [] w w' []) := by
  rw [leftword13] at h
  have hs100 : St [] w w [] := St.start w
  have he1000 := el0 (L0 := []) (fun b _ => out_nil b) he0
  have he1001 := el0 (L0 := []) (fun b _ => out_nil b) he1
  refine enter (n := 32) Try.func39 rfl rfl rfl ?_
  refine WC.seq ?_
  refine WC.region ?_
  refine WL.new (L' := fun b103 => [blk b103 25 [Value.slice a0 p0.length c0]]) (f := fun b103 => Value.pointer (some ⟨b103, 0, none⟩)) (X.box (v := Value.agg (List.toArray [Value.slice a0 p0.length c0])) (c := [Value.slice a0 p0.length c0]) (hs100.here) rfl rfl (fun _ => rfl)) rfl ?_
  intro b103 w104 ht109 he106 hz107
  have hs110 := hs100.trans ht109
  refine WL.new (L' := fun b111 => [blk b103 25 [Value.slice a0 p0.length c0], blk b111 25 [Value.slice a1 p1.length c1]]) (f := fun b111 => Value.pointer (some ⟨b111, 0, none⟩)) (X.box (v := Value.agg (List.toArray [Value.slice a1 p1.length c1])) (c := [Value.slice a1 p1.length c1]) (hs110.here) rfl rfl (fun _ => rfl)) rfl ?_
  intro b111 w112 ht117 he114 hz115
  have hs118 := hs110.trans ht117
  refine WL.val (R.assign (v := Value.bool false) rfl) rfl ?_
  refine WL.nil ?_
  refine thenN ?_
  refine WC.seq ?_
  refine WC.seq ?_
  refine WC.region ?_
  refine WL.val (R.fieldAddr (o := 0) (o' := 0) fa25_0 rfl rfl) rfl ?_
  refine WL.val (R.loadL (v := Value.slice a0 p0.length c0) lf22 rfl (hs118.at (i := 0) (off := 0) (n := 1) (cs := [Value.slice a0 p0.length c0]) rfl rfl rfl)) rfl ?_
  refine WL.val (R.len (a := a0) (n := p0.length) (c := c0) un22 rfl) rfl ?_
  refine WL.val (R.fieldAddr (o := 0) (o' := 0) fa25_0 rfl rfl) rfl ?_
  refine WL.val (R.loadL (v := Value.slice a1 p1.length c1) lf22 rfl (hs118.at (i := 1) (off := 0) (n := 1) (cs := [Value.slice a1 p1.length c1]) rfl rfl rfl)) rfl ?_
  refine WL.val (R.len (a := a1) (n := p1.length) (c := c1) un22 rfl) rfl ?_
  by_cases hc119 : ((p0.length : Nat) : Int) = ((p1.length : Nat) : Int)
  · have h120 := ifT hc119 h
    refine WL.val (R.neqF (k := .i64) (a := ((p0.length : Nat) : Int)) (b := ((p1.length : Nat) : Int)) un3 rfl rfl (not_not_intro hc119)) rfl ?_
    refine WL.nil ?_
    refine thenN ?_
    refine WC.condF rfl rfl ?_
    refine WC.skip ?_
    refine thenN ?_
    refine WC.seq ?_
    refine WC.seq ?_
    refine WC.region ?_
    refine WL.val (R.assign (v := Value.int .i64 0) rfl) rfl ?_
    refine WL.nil ?_
    refine thenN ?_
    have hr272 := elT (ht109.trans ht117) he1000
    have hr273 := elT (ht109.trans ht117) he1001
    obtain ⟨K263, hK264, h265⟩ := kE (G := fun K263 => leftword13_l1 p0 p1 K263 1000000 0) h120
    refine WC.join (fun σ275 w274 => K263 () = some r ∧ St [] w w274 []) ?_ ?_
    · refine WC.block ?_
      refine WC.loop (T := Nat) (fun k269 σ267 w266 => ∃ i262 : Int, σ267 2 = (Value.pointer (some ⟨b103, 0, none⟩)) ∧ σ267 3 = (Value.pointer (some ⟨b111, 0, none⟩)) ∧ σ267 5 = (Value.int .i64 i262) ∧ elems rowM w266 (In ok w [] [blk b103 25 [Value.slice a0 p0.length c0], blk b111 25 [Value.slice a1 p1.length c1]]) a0 p0 ∧ elems rowW w266 (In ok w [] [blk b103 25 [Value.slice a0 p0.length c0], blk b111 25 [Value.slice a1 p1.length c1]]) a1 p1 ∧ leftword13_l1 p0 p1 K263 k269 i262 = some r ∧ St [] w w266 [blk b103 25 [Value.slice a0 p0.length c0], blk b111 25 [Value.slice a1 p1.length c1]]) (fun k269 => k269) 1000000 ⟨0, rfl, rfl, rfl, hr272, hr273, h265, hs118⟩ ?_
      rintro k269 σ267 w266 ⟨i262, s278, s279, s280, he270, he271, h277, hs268⟩
      rcases k269 with _ | k269
      · rw [leftword13_l1] at h277; cases h277
      rw [leftword13_l1] at h277
      refine WC.seq ?_
      refine WC.seq ?_
      refine WC.region ?_
      refine WL.val (R.move (v := Value.int .i64 i262) (by exact s280)) rfl ?_
      refine WL.val (R.fieldAddr (o := 0) (o' := 0) fa25_0 (by exact s278) rfl) rfl ?_
      refine WL.val (R.loadL (v := Value.slice a0 p0.length c0) lf22 rfl (hs268.at (i := 0) (off := 0) (n := 1) (cs := [Value.slice a0 p0.length c0]) rfl rfl rfl)) rfl ?_
      refine WL.val (R.len (a := a0) (n := p0.length) (c := c0) un22 rfl) rfl ?_
      by_cases hc281 : i262 < ((p0.length : Nat) : Int)
      · have h282 := ifT hc281 h277
        refine WL.val (R.lssT (k := .i64) (a := i262) (b := ((p0.length : Nat) : Int)) un3 rfl rfl hc281) rfl ?_
        refine WL.nil ?_
        refine thenN ?_
        refine WC.condT rfl rfl ?_
        refine WC.skip ?_
        refine thenN ?_
        refine WC.seq ?_
        refine WC.block ?_
        refine WC.seq ?_
        refine WC.drawE mixed (NP.then (NP.block (NP.then (NP.then (NP.block (NP.join (NP.then NP.rq))))))) ?_
        have ht283 := (hs268.here).ext (Ext.drew _)
        have hs284 := hs268.trans ht283
        refine WE.take 0 rfl (by decide +kernel) (by decide +kernel) (by decide +kernel) (by decide +kernel) rfl rfl (fun wq hq => R.fieldAddr (o := 0) (o' := 0) fa25_0 (by exact s278) rfl) ?_
        refine WE.take 1 rfl (by decide +kernel) (by decide +kernel) (by decide +kernel) (by decide +kernel) rfl rfl (fun wq hq => R.loadL (v := Value.slice a0 p0.length c0) lf22 rfl ((hs284.ext hq).at (i := 0) (off := 0) (n := 1) (cs := [Value.slice a0 p0.length c0]) rfl rfl rfl)) ?_
        refine WE.take 2 rfl (by decide +kernel) (by decide +kernel) (by decide +kernel) (by decide +kernel) rfl rfl (fun wq hq => R.move (v := Value.int .i64 i262) (by exact s280)) ?_
        obtain ⟨x285, hx286, h287⟩ := ob (o := rd p0 i262) h282
        obtain ⟨h0288, hx289, hl290, hm291⟩ := rdE hx286
        have hr292 := elT ht283 he270
        obtain ⟨ad293, e298, ha294, hp295, hat296, hrd297⟩ := hr292 _ _ hx289
        obtain ⟨t299, rfl, a300, c301, rfl, hl302, he303⟩ := hrd297
        have he304 := elems_prefix he303
        have hl305 := prefix_le hl302
        refine WE.take 3 rfl (by decide +kernel) (by decide +kernel) (by decide +kernel) (by decide +kernel) rfl rfl (fun wq hq => R.indexS (n := 57) (m := (i262).toNat) (a := a0) (ad := ad293) (len := p0.length) (cap := c0) (z := i262) un22 ag62.size rfl ha294 rfl hm291 hl290 hp295) ?_
        refine WE.take 4 rfl (by decide +kernel) (by decide +kernel) (by decide +kernel) (by decide +kernel) rfl rfl (fun wq hq => R.loadA (cs := encR x285 (Value.slice a300 x285.table.length c301)) (n := 57) ag62 rfl (At.exT hq hat296) rfl) ?_
        refine WE.take 5 rfl (by decide +kernel) (by decide +kernel) (by decide +kernel) (by decide +kernel) rfl rfl (fun wq hq => R.fieldAddr (o := 0) (o' := 0) fa25_0 (by exact s279) rfl) ?_
        refine WE.take 6 rfl (by decide +kernel) (by decide +kernel) (by decide +kernel) (by decide +kernel) rfl rfl (fun wq hq => R.loadL (v := Value.slice a1 p1.length c1) lf22 rfl ((hs284.ext hq).at (i := 1) (off := 0) (n := 1) (cs := [Value.slice a1 p1.length c1]) rfl rfl rfl)) ?_
        refine WE.take 7 rfl (by decide +kernel) (by decide +kernel) (by decide +kernel) (by decide +kernel) rfl rfl (fun wq hq => R.move (v := Value.int .i64 i262) (by exact s280)) ?_
        obtain ⟨x309, hx310, h311⟩ := ob (o := rd p1 i262) h287
        obtain ⟨h0312, hx313, hl314, hm315⟩ := rdE hx310
        have hr316 := elT ht283 he271
        obtain ⟨ad317, e322, ha318, hp319, hat320, hrd321⟩ := hr316 _ _ hx313
        obtain ⟨t323, rfl, a325, c326, he329, hl327, he328⟩ := hrd321
        cases he329
        refine WE.take 8 rfl (by decide +kernel) (by decide +kernel) (by decide +kernel) (by decide +kernel) rfl rfl (fun wq hq => R.indexS (n := 57) (m := (i262).toNat) (a := a1) (ad := ad317) (len := p1.length) (cap := c1) (z := i262) un22 ag62.size rfl ha318 rfl hm315 hl314 hp319) ?_
        refine WE.take 9 rfl (by decide +kernel) (by decide +kernel) (by decide +kernel) (by decide +kernel) rfl rfl (fun wq hq => R.loadA (cs := encR x309 (Value.slice a325 x309.table.length c326)) (n := 57) ag62 rfl (At.exT hq hat320) rfl) ?_
        obtain ⟨y332, hx333, h334⟩ := ob (o := left13 x285 x309) h311
        refine WE.call 10 (by decide +kernel) rfl rfl rfl (left13_ok _ _ x285 x309 _ _ he304 hl305 _ _ he328 hl327 hl302 he303 hx333) (R.call (vs := [Value.agg (List.toArray (encR x285 (Value.slice a300 x285.table.length c301))), Value.agg (List.toArray (encR x309 (Value.slice a325 x309.table.length c326)))]) (caps := []) bo75 rfl rfl) ?_
        rintro v337 w338 ⟨rfl, ht335⟩
        refine ⟨.inr (show Ext _ _ from ht335.kept), ?_⟩
        have ht336 := hs284.call (N := [blk b103 25 [Value.slice a0 p0.length c0], blk b111 25 [Value.slice a1 p1.length c1]]) (M := []) (List.Perm.refl _) ht335
        have hs339 := hs284.trans ht336
        refine WE.take 11 rfl (by decide +kernel) (by decide +kernel) (by decide +kernel) (by decide +kernel) rfl rfl (fun wq hq => R.not (b := y332) rfl) ?_
        refine WE.done (by decide +kernel) ?_
        refine thenN ?_
        by_cases hc340 : y332 = true
        · have h341 := ifT hc340 h334
          have hk342 : (!y332) = false := by simp [hc340]
          refine WC.condF (Eq.trans (show _ = Value.bool (!y332) from rfl) (congrArg Value.bool hk342)) rfl ?_
          refine WC.skip ?_
          refine blockN ?_
          refine thenN ?_
          refine WC.region ?_
          refine WL.val (R.move (v := Value.int .i64 i262) (by exact s280)) rfl ?_
          obtain ⟨hg343, h344⟩ := ckE (c := -9223372036854775808 ≤ i262 + 1 ∧ i262 + 1 ≤ 9223372036854775807) h341
          refine WL.val (R.add (a := i262) (b := 1) (z := i262 + 1) rfl rfl (w64e rfl hg343.1 hg343.2)) rfl ?_
          refine WL.val (R.assign (v := Value.int .i64 (i262 + 1)) rfl) rfl ?_
          refine WL.nil ?_
          have hr345 := elT ht336 hr292
          have hr346 := elT ht336 hr316
          exact roundEnd (s := k269) ⟨i262 + 1, s278, s279, rfl, hr345, hr346, h344, hs339⟩ (Nat.lt_succ_self _)
        · have h347 := ifF hc340 h334
          have hk348 : (!y332) = true := by simp [hc340]
          refine WC.condT (Eq.trans (show _ = Value.bool (!y332) from rfl) (congrArg Value.bool hk348)) rfl ?_
          refine WC.seq ?_
          refine WC.region ?_
          refine WL.val (R.assign (v := Value.bool false) rfl) rfl ?_
          refine WL.nil ?_
          refine thenN ?_
          refine WC.ret ?_
          have ht349 := (hs339.here).perm (L' := []) (G := [blk b103 25 [Value.slice a0 p0.length c0], blk b111 25 [Value.slice a1 p1.length c1]]) ((List.Perm.refl _))
          have hs350 := hs339.trans ht349
          obtain rfl := Option.some.inj (show some false = some r from h347)
          exact ret1 (P := Try.prog) (n := 32) (fn := Try.f39) (R := fun v w' => v = Value.bool false ∧ St [] w w' []) (t := 4) (v := Value.bool false) rfl rfl rfl ⟨rfl, hs350⟩
      · have h351 := ifF hc281 h277
        refine WL.val (R.lssF (k := .i64) (a := i262) (b := ((p0.length : Nat) : Int)) un3 rfl rfl hc281) rfl ?_
        refine WL.nil ?_
        refine thenN ?_
        refine WC.condF rfl rfl ?_
        refine WC.exit ?_
        refine thenE ?_
        refine thenE ?_
        refine blockHit ?_
        have ht352 := (hs268.here).perm (L' := []) (G := [blk b103 25 [Value.slice a0 p0.length c0], blk b111 25 [Value.slice a1 p1.length c1]]) ((List.Perm.refl _))
        have hs353 := hs268.trans ht352
        exact joinI ⟨h351, hs353⟩
    · rintro σ275 w274 ⟨h354, hs276⟩
      subst hK264
      refine thenN ?_
      refine WC.seq ?_
      refine WC.region ?_
      refine WL.val (R.assign (v := Value.bool true) rfl) rfl ?_
      refine WL.nil ?_
      refine thenN ?_
      refine WC.ret ?_
      obtain rfl := Option.some.inj (show some true = some r from h354)
      exact ret1 (P := Try.prog) (n := 32) (fn := Try.f39) (R := fun v w' => v = Value.bool true ∧ St [] w w' []) (t := 4) (v := Value.bool true) rfl rfl rfl ⟨rfl, hs276⟩
  · have h355 := ifF hc119 h
    refine WL.val (R.neqT (k := .i64) (a := ((p0.length : Nat) : Int)) (b := ((p1.length : Nat) : Int)) un3 rfl rfl hc119) rfl ?_
    refine WL.nil ?_
    refine thenN ?_
    refine WC.condT rfl rfl ?_
    refine WC.seq ?_
    refine WC.region ?_
    refine WL.val (R.assign (v := Value.bool false) rfl) rfl ?_
    refine WL.nil ?_
    refine thenN ?_
    refine WC.ret ?_
    have ht356 := (hs118.here).perm (L' := []) (G := [blk b103 25 [Value.slice a0 p0.length c0], blk b111 25 [Value.slice a1 p1.length c1]]) ((List.Perm.refl _))
    have hs357 := hs118.trans ht356
    obtain rfl := Option.some.inj (show some false = some r from h355)
    exact ret1 (P := Try.prog) (n := 32) (fn := Try.f39) (R := fun v w' => v = Value.bool false ∧ St [] w w' []) (t := 4) (v := Value.bool false) rfl rfl rfl ⟨rfl, hs357⟩

end Go.Proofs.Ytckcldimnelklaa

/- The functions come to what their twins answer: group 15. -/
namespace Go.Proofs.Ytckcldimnelklaa
open Go
set_option linter.unusedVariables false
set_option linter.unusedSimpArgs false
set_option maxRecDepth 100000
set_option maxHeartbeats 4000000

theorem table15_ok (w : World) (ok : Nat → Prop) (p0 : List Rw) (a0 : Option Addr) (c0 : Nat) (he0 : elems rowW w ok a0 p0) (hc0 : p0.length ≤ c0) {r : (List Hd)} (h : table15 p0 = some r) :
    Ret Try.prog 33 [Value.slice a0 p0.length c0] w (fun v w' => ∃ ra0, ∃ rc0, v = Value.slice ra0 r.length rc0 ∧ r.length ≤ rc0 ∧ elems heldW w' (In ok w [] []) ra0 r ∧ St [] w w' []) := by
  rw [table15] at h
  have hs100 : St [] w w [] := St.start w
  have he1000 := el0 (L0 := []) (fun b _ => out_nil b) he0
  refine enter (n := 26) Try.func33 rfl rfl rfl ?_
  refine WC.seq ?_
  refine WC.region ?_
  refine WL.val (R.assign (v := Value.slice none 0 0) rfl) rfl ?_
  refine WL.nil ?_
  refine thenN ?_
  refine WC.seq ?_
  refine WC.region ?_
  refine WL.val (R.move (v := Value.slice a0 p0.length c0) rfl) rfl ?_
  refine WL.val (R.len (a := a0) (n := p0.length) (c := c0) un22 rfl) rfl ?_
  obtain ⟨hg102, h103⟩ := ckE (c := p0.length < 1000000) h
  refine WL.new (L' := fun b104 => [gsl 60 heldE (Value.slice (some ⟨b104, 0, none⟩) ((List.replicate (((p0.length : Nat) : Int)).toNat Hd.none).length) ((((p0.length : Nat) : Int)).toNat)) (List.replicate (((p0.length : Nat) : Int)).toNat Hd.none)]) (f := fun b104 => Value.slice (some ⟨b104, 0, none⟩) ((List.replicate (((p0.length : Nat) : Int)).toNat Hd.none).length) ((((p0.length : Nat) : Int)).toNat)) (X.makeSliceN (e := heldE) (z := Hd.none) (hs100.here) sl28 rfl rfl rfl (by have := hg102; omega) (by decide) List.length_replicate (fun _ => rfl)) rfl ?_
  intro b104 w105 ht109 he106 hz107
  have hs110 := hs100.trans ht109
  refine WL.val (R.assign (v := Value.slice (some ⟨b104, 0, none⟩) ((List.replicate (((p0.length : Nat) : Int)).toNat Hd.none).length) ((((p0.length : Nat) : Int)).toNat)) rfl) rfl ?_
  refine WL.nil ?_
  refine thenN ?_
  refine WC.seq ?_
  refine WC.seq ?_
  refine WC.region ?_
  refine WL.val (R.move (v := Value.slice a0 p0.length c0) rfl) rfl ?_
  refine WL.val (R.len (a := a0) (n := p0.length) (c := c0) un22 rfl) rfl ?_
  refine WL.val (R.move (v := Value.int .i64 0) rfl) rfl ?_
  refine WL.nil ?_
  refine thenN ?_
  have hr242 := elT ht109 he1000
  obtain ⟨K234, hK235, h236⟩ := kE (G := fun K234 => table15_l1 p0 K234 1000000 0 (List.replicate (((p0.length : Nat) : Int)).toNat Hd.none)) h103
  refine WC.join (fun σ244 w243 => ∃ l231 : List Hd, ∃ a232, ∃ c233, σ244 3 = (Value.slice a232 l231.length c233) ∧ K234 l231 = some r ∧ St [] w w243 [gsl 60 heldE (Value.slice a232 l231.length c233) l231]) ?_ ?_
  · refine WC.block ?_
    refine WC.loop (T := Nat) (fun k240 σ238 w237 => ∃ i227 : Int, ∃ l228 : List Hd, ∃ a229, ∃ c230, σ238 3 = (Value.slice a229 l228.length c230) ∧ σ238 9 = (Value.slice a0 p0.length c0) ∧ σ238 10 = (Value.int .i64 ((p0.length : Nat) : Int)) ∧ σ238 11 = (Value.int .i64 i227) ∧ elems rowW w237 (In ok w [] [gsl 60 heldE (Value.slice a229 l228.length c230) l228]) a0 p0 ∧ table15_l1 p0 K234 k240 i227 l228 = some r ∧ St [] w w237 [gsl 60 heldE (Value.slice a229 l228.length c230) l228]) (fun k240 => k240) 1000000 ⟨0, List.replicate (((p0.length : Nat) : Int)).toNat Hd.none, (some ⟨b104, 0, none⟩), (((p0.length : Nat) : Int)).toNat, rfl, rfl, rfl, rfl, hr242, h236, hs110⟩ ?_
    rintro k240 σ238 w237 ⟨i227, l228, a229, c230, s247, s248, s249, s250, he241, h246, hs239⟩
    rcases k240 with _ | k240
    · rw [table15_l1] at h246; cases h246
    rw [table15_l1] at h246
    refine WC.seq ?_
    refine WC.region ?_
    by_cases hc251 : i227 < ((p0.length : Nat) : Int)
    · have h252 := ifT hc251 h246
      refine WL.val (R.lssT (k := .i64) (a := i227) (b := ((p0.length : Nat) : Int)) un3 (by exact s250) (by exact s249) hc251) rfl ?_
      refine WL.nil ?_
      refine thenN ?_
      refine WC.seq ?_
      refine WC.condT rfl rfl ?_
      refine WC.skip ?_
      refine thenN ?_
      refine WC.seq ?_
      refine WC.block ?_
      refine WC.seq ?_
      refine WC.region ?_
      refine WL.val (R.move (v := Value.int .i64 i227) (by exact s250)) rfl ?_
      obtain ⟨x253, hx254, h255⟩ := ob (o := rd p0 i227) h252
      obtain ⟨h0256, hx257, hl258, hm259⟩ := rdE hx254
      obtain ⟨ad260, e265, ha261, hp262, hat263, hrd264⟩ := he241 _ _ hx257
      obtain ⟨t266, rfl, a268, c269, he272, hl270, he271⟩ := hrd264
      cases he272
      refine WL.val (R.indexS (n := 57) (m := (i227).toNat) (a := a0) (ad := ad260) (len := p0.length) (cap := c0) (z := i227) un22 ag62.size (by exact s248) ha261 (by exact s250) hm259 hl258 hp262) rfl ?_
      refine WL.val (R.loadA (cs := encR x253 (Value.slice a268 x253.table.length c269)) (n := 57) ag62 rfl hat263 rfl) rfl ?_
      refine WL.new (L' := fun b275 => [gsl 60 heldE (Value.slice a229 l228.length c230) l228, blk b275 62 (encR Rw.none (Value.slice none 0 0))]) (f := fun b275 => Value.pointer (some ⟨b275, 0, none⟩)) (X.alloc (c := encR Rw.none (Value.slice none 0 0)) (hs239.here) zr62 rfl (fun _ => rfl)) rfl ?_
      intro b275 w276 ht281 he278 hz279
      have hs282 := hs239.trans ht281
      refine WL.val (R.assign (v := Value.int .i64 i227) rfl) rfl ?_
      refine WL.sto (L' := [gsl 60 heldE (Value.slice a229 l228.length c230) l228, blk b275 62 (encR x253 (Value.slice a268 x253.table.length c269))]) (X.store (i := 1) (n := 57) (b := b275) (off := 0) (c := encR Rw.none (Value.slice none 0 0)) (U := 62) (vs := encR x253 (Value.slice a268 x253.table.length c269)) (v := Value.agg (List.toArray (encR x253 (Value.slice a268 x253.table.length c269)))) (c' := encR x253 (Value.slice a268 x253.table.length c269)) (hs282.here) rfl ag62.size rfl rfl rfl rfl rfl rfl rfl rfl) rfl rfl ?_
      intro w283 ht284
      have hs285 := hs282.trans ht284
      refine WL.nil ?_
      refine thenN ?_
      refine WC.region ?_
      refine WL.val (R.move (v := Value.slice a229 l228.length c230) (by exact s247)) rfl ?_
      refine WL.val (R.move (v := Value.int .i64 i227) rfl) rfl ?_
      refine WL.val (R.fieldAddr (o := 0) (o' := 0) fa62_0 rfl rfl) rfl ?_
      refine WL.val (R.loadL (v := Value.bool x253.is) lf4 rfl (hs285.at (i := 1) (off := 0) (n := 1) (cs := [Value.bool x253.is]) rfl rfl rfl)) rfl ?_
      refine WL.val (R.fieldAddr (o := 0) (o' := 1) fa62_1 rfl rfl) rfl ?_
      refine WL.val (R.loadA (cs := encC x253.cell) (n := 55) ag58 rfl (hs285.at (i := 1) (off := 1) (n := 55) (cs := encC x253.cell) rfl rfl rfl) rfl) rfl ?_
      have hd286 : ∀ w, (Instr.build 60 #[(0, Value.bool x253.is), (1, Value.agg (List.toArray (encC x253.cell)))]).run Try.prog w = .ok (Value.agg (List.toArray (encH (⟨x253.is, x253.cell⟩ : Hd)))) w := fun _ => by kernel_rfl
      refine WL.val (R.build (vs := [(0, Value.bool x253.is), (1, Value.agg (List.toArray (encC x253.cell)))]) rfl hd286) rfl ?_
      obtain ⟨x287, hx288, h289⟩ := ob (o := rd l228 i227) h255
      obtain ⟨h0290, hx291, hl292, hm293⟩ := rdE hx288
      obtain ⟨b294, c295, hv296, _⟩ := hs285.gslAt (i := 0) rfl hx291
      refine WL.val (R.indexS (n := 56) (m := (i227).toNat) (ad := ⟨b294, 0, none⟩) (len := (l228).length) (cap := c295) (z := i227) un28 ag60.size (Eq.trans (show _ = Value.slice a229 l228.length c230 from rfl) hv296) rfl rfl hm293 hl292 rfl) rfl ?_
      refine WL.sto (L' := [gsl 60 heldE (Value.slice a229 l228.length c230) ((l228).set (i227).toNat (⟨x253.is, x253.cell⟩ : Hd)), blk b275 62 (encR x253 (Value.slice a268 x253.table.length c269))]) (X.storeEl (i := 0) (j := (i227).toNat) (off := 0) (n := 56) (x := x287) (y := (⟨x253.is, x253.cell⟩ : Hd)) (vs := encH (⟨x253.is, x253.cell⟩ : Hd)) (u := Value.agg (List.toArray (encH (⟨x253.is, x253.cell⟩ : Hd)))) (hs285.here) rfl hx291 hv296 ag60.size rfl rfl rfl rfl rfl rfl (by decide) (rfl) rfl) rfl rfl ?_
      intro w297 ht298
      have hs299 := hs285.trans ht298
      have hs300 : St [] w w297 [gsl 60 heldE (Value.slice a229 (((l228).set (i227).toNat (⟨x253.is, x253.cell⟩ : Hd)).length) c230) ((l228).set (i227).toNat (⟨x253.is, x253.cell⟩ : Hd)), blk b275 62 (encR x253 (Value.slice a268 x253.table.length c269))] := by first | (simpa only [List.length_set] using hs299) | (simp only [List.length_set]; exact hs299)
      have ht301 : St [gsl 60 heldE (Value.slice a229 l228.length c230) l228, blk b275 62 (encR x253 (Value.slice a268 x253.table.length c269))] w283 w297 [gsl 60 heldE (Value.slice a229 (((l228).set (i227).toNat (⟨x253.is, x253.cell⟩ : Hd)).length) c230) ((l228).set (i227).toNat (⟨x253.is, x253.cell⟩ : Hd)), blk b275 62 (encR x253 (Value.slice a268 x253.table.length c269))] := by first | (simpa only [List.length_set, List.nil_append, List.cons_append] using ht298) | (simp only [List.length_set]; exact ht298)
      refine WL.nil ?_
      refine blockN ?_
      refine thenN ?_
      refine WC.region ?_
      obtain ⟨hg302, h303⟩ := ckE (c := -9223372036854775808 ≤ i227 + 1 ∧ i227 + 1 ≤ 9223372036854775807) h289
      refine WL.val (R.add (a := i227) (b := 1) (z := i227 + 1) (by exact s250) rfl (w64e rfl hg302.1 hg302.2)) rfl ?_
      refine WL.val (R.move (v := Value.int .i64 (i227 + 1)) rfl) rfl ?_
      refine WL.nil ?_
      have ht304 := (hs300.here).perm (L' := [gsl 60 heldE (Value.slice a229 (((l228).set (i227).toNat (⟨x253.is, x253.cell⟩ : Hd)).length) c230) ((l228).set (i227).toNat (⟨x253.is, x253.cell⟩ : Hd))]) (G := [blk b275 62 (encR x253 (Value.slice a268 x253.table.length c269))]) ((List.Perm.refl _))
      have hs305 := hs300.trans ht304
      have hr306 := elT (((ht281.trans ht284).trans ht301).trans ht304) he241
      exact roundEnd (s := k240) ⟨i227 + 1, (l228).set (i227).toNat (⟨x253.is, x253.cell⟩ : Hd), a229, c230, (Eq.trans (show _ = Value.slice a229 l228.length c230 from s247) (by simp only [List.length_set])), s248, s249, rfl, hr306, h303, hs305⟩ (Nat.lt_succ_self _)
    · have h307 := ifF hc251 h246
      refine WL.val (R.lssF (k := .i64) (a := i227) (b := ((p0.length : Nat) : Int)) un3 (by exact s250) (by exact s249) hc251) rfl ?_
      refine WL.nil ?_
      refine thenN ?_
      refine WC.seq ?_
      refine WC.condF rfl rfl ?_
      refine WC.exit ?_
      refine thenE ?_
      refine thenE ?_
      refine blockHit ?_
      exact joinI ⟨l228, a229, c230, s247, h307, hs239⟩
  · rintro σ244 w243 ⟨l231, a232, c233, s309, h308, hs245⟩
    subst hK235
    refine thenN ?_
    refine WC.seq ?_
    refine WC.region ?_
    refine WL.val (R.move (v := Value.slice a232 l231.length c233) (by exact s309)) rfl ?_
    refine WL.val (R.assign (v := Value.slice a232 l231.length c233) rfl) rfl ?_
    refine WL.nil ?_
    refine thenN ?_
    refine WC.ret ?_
    obtain ⟨a310, c311, hv312, hl313, he314⟩ := el_freeze (k := heldW) (ok := fun _ => False) hs245 (List.Perm.refl _) rfl (fun _ _ _ => ⟨trivial, rfl⟩)
    obtain ⟨rfl, rfl⟩ : a232 = a310 ∧ c233 = c311 := ⟨(Value.slice.inj hv312).1, (Value.slice.inj hv312).2.2⟩
    have ht315 := (hs245.here).perm (L' := []) (G := [gsl 60 heldE (Value.slice a232 l231.length c233) l231]) ((List.Perm.refl _))
    have hs316 := hs245.trans ht315
    obtain rfl := Option.some.inj (show some l231 = some r from h308)
    exact ret1 (P := Try.prog) (n := 26) (fn := Try.f33) (R := fun v w' => ∃ ra0, ∃ rc0, v = Value.slice ra0 l231.length rc0 ∧ l231.length ≤ rc0 ∧ elems heldW w' (In ok w [] []) ra0 l231 ∧ St [] w w' []) (t := 2) (v := Value.slice a232 l231.length c233) rfl rfl rfl ⟨a232, c233, rfl, hl313, (elN (ok' := ok) he314), hs316⟩

theorem most15_ok (w : World) (ok : Nat → Prop) (p0 : Int) (p1 : Int) (p2 : List Rw) (a2 : Option Addr) (c2 : Nat) (he2 : elems rowW w ok a2 p2) (hc2 : p2.length ≤ c2) {r : Hd} (h : most15 p0 p1 p2 = some r) :
    Ret Try.prog 102 [Value.int .i64 p0, Value.int .i64 p1, Value.slice a2 p2.length c2] w (fun v w' => v = Value.agg (List.toArray (encH r)) ∧ St [] w w' []) := by
  rw [most15] at h
  have hs100 : St [] w w [] := St.start w
  have he1002 := el0 (L0 := []) (fun b _ => out_nil b) he2
  refine enter (n := 71) Try.func102 rfl rfl rfl ?_
  refine WC.seq ?_
  refine WC.region ?_
  refine WL.new (L' := fun b102 => [blk b102 60 (encH Hd.none)]) (f := fun b102 => Value.pointer (some ⟨b102, 0, none⟩)) (X.alloc (c := encH Hd.none) (hs100.here) zr60 rfl (fun _ => rfl)) rfl ?_
  intro b102 w103 ht108 he105 hz106
  have hs109 := hs100.trans ht108
  refine WL.nil ?_
  refine thenN ?_
  refine WC.seq ?_
  refine WC.region ?_
  refine WL.new (L' := fun b110 => [blk b102 60 (encH Hd.none), mapE b110 []]) (f := fun b110 => Value.map (some b110)) (X.makeMap (hs109.here) (fun _ => rfl)) rfl ?_
  intro b110 w111 ht115 he112 hz113
  have hs116 := hs109.trans ht115
  refine WL.val (R.assign (v := Value.map (some b110)) rfl) rfl ?_
  refine WL.nil ?_
  refine thenN ?_
  refine WC.seq ?_
  refine WC.seq ?_
  refine WC.region ?_
  refine WL.val (R.move (v := Value.slice a2 p2.length c2) rfl) rfl ?_
  refine WL.val (R.move (v := Value.int .i64 p0) rfl) rfl ?_
  refine WL.val (R.move (v := Value.slice a2 p2.length c2) rfl) rfl ?_
  refine WL.val (R.len (a := a2) (n := p2.length) (c := c2) un22 rfl) rfl ?_
  refine WL.val (R.min (a := p0) (b := ((p2.length : Nat) : Int)) (z := min p0 ((p2.length : Nat) : Int)) rfl rfl rfl) rfl ?_
  obtain ⟨hg117, h118⟩ := ckE (c := 0 ≤ min p0 ((p2.length : Nat) : Int) ∧ min p0 ((p2.length : Nat) : Int) ≤ ((p2.length : Nat) : Int)) h
  have hr119 := elT (ht108.trans ht115) he1002
  have hn122 : (p2.take (min p0 ((p2.length : Nat) : Int)).toNat).length = (min p0 ((p2.length : Nat) : Int)).toNat := take_len hg117
  have he120 := elems_take (min p0 ((p2.length : Nat) : Int)).toNat hr119
  have hl121 : (p2.take (min p0 ((p2.length : Nat) : Int)).toNat).length ≤ c2 := by rw [hn122]; exact toCap hg117 hc2
  refine WL.val (R.sliceToN (n := 57) (z := min p0 ((p2.length : Nat) : Int)) (N := (p2.take (min p0 ((p2.length : Nat) : Int)).toNat).length) un22 ag62.size rfl rfl hg117 hn122 hc2) rfl ?_
  refine WL.val (R.len (a := a2) (n := ((p2.take (min p0 ((p2.length : Nat) : Int)).toNat).length)) (c := c2) un22 rfl) rfl ?_
  refine WL.val (R.move (v := Value.int .i64 0) rfl) rfl ?_
  refine WL.nil ?_
  refine thenN ?_
  obtain ⟨K346, hK347, h348⟩ := kE (G := fun K346 => most15_l1 p2 p0 p1 K346 1000000 0 []) h118
  refine WC.join (fun σ355 w354 => σ355 6 = (Value.pointer (some ⟨b102, 0, none⟩)) ∧ K346 () = some r ∧ St [] w w354 [blk b102 60 (encH Hd.none)]) ?_ ?_
  · refine WC.block ?_
    refine WC.loop (T := Nat) (fun k352 σ350 w349 => ∃ i344 : Int, ∃ m345 : List (Cl × Int), σ350 0 = (Value.int .i64 p0) ∧ σ350 1 = (Value.int .i64 p1) ∧ σ350 6 = (Value.pointer (some ⟨b102, 0, none⟩)) ∧ σ350 7 = (Value.map (some b110)) ∧ σ350 17 = (Value.slice a2 ((p2.take (min p0 ((p2.length : Nat) : Int)).toNat).length) c2) ∧ σ350 18 = (Value.int .i64 (((p2.take (min p0 ((p2.length : Nat) : Int)).toNat).length : Nat) : Int)) ∧ σ350 19 = (Value.int .i64 i344) ∧ elems rowW w349 (In ok w [] [blk b102 60 (encH Hd.none), mapE b110 m345]) a2 (p2.take (min p0 ((p2.length : Nat) : Int)).toNat) ∧ most15_l1 p2 p0 p1 K346 k352 i344 m345 = some r ∧ St [] w w349 [blk b102 60 (encH Hd.none), mapE b110 m345]) (fun k352 => k352) 1000000 ⟨0, [], rfl, rfl, rfl, rfl, rfl, rfl, rfl, he120, h348, hs116⟩ ?_
    rintro k352 σ350 w349 ⟨i344, m345, s358, s359, s360, s361, s362, s363, s364, he353, h357, hs351⟩
    rcases k352 with _ | k352
    · rw [most15_l1] at h357; cases h357
    rw [most15_l1] at h357
    refine WC.seq ?_
    refine WC.region ?_
    by_cases hc365 : i344 < (((p2.take (min p0 ((p2.length : Nat) : Int)).toNat).length : Nat) : Int)
    · have h366 := ifT hc365 h357
      refine WL.val (R.lssT (k := .i64) (a := i344) (b := (((p2.take (min p0 ((p2.length : Nat) : Int)).toNat).length : Nat) : Int)) un3 (by exact s364) (by exact s363) hc365) rfl ?_
      refine WL.nil ?_
      refine thenN ?_
      refine WC.seq ?_
      refine WC.condT rfl rfl ?_
      refine WC.skip ?_
      refine thenN ?_
      refine WC.seq ?_
      refine WC.block ?_
      refine WC.seq ?_
      refine WC.region ?_
      refine WL.val (R.move (v := Value.int .i64 i344) (by exact s364)) rfl ?_
      obtain ⟨x367, hx368, h369⟩ := ob (o := rd (p2.take (min p0 ((p2.length : Nat) : Int)).toNat) i344) h366
      obtain ⟨h0370, hx371, hl372, hm373⟩ := rdE hx368
      obtain ⟨ad374, e379, ha375, hp376, hat377, hrd378⟩ := he353 _ _ hx371
      obtain ⟨t380, rfl, a382, c383, he386, hl384, he385⟩ := hrd378
      cases he386
      refine WL.val (R.indexS (n := 57) (m := (i344).toNat) (a := a2) (ad := ad374) (len := ((p2.take (min p0 ((p2.length : Nat) : Int)).toNat).length)) (cap := c2) (z := i344) un22 ag62.size (by exact s362) ha375 (by exact s364) hm373 hl372 hp376) rfl ?_
      refine WL.val (R.loadA (cs := encR x367 (Value.slice a382 x367.table.length c383)) (n := 57) ag62 rfl hat377 rfl) rfl ?_
      refine WL.new (L' := fun b389 => [blk b102 60 (encH Hd.none), mapE b110 m345, blk b389 62 (encR Rw.none (Value.slice none 0 0))]) (f := fun b389 => Value.pointer (some ⟨b389, 0, none⟩)) (X.alloc (c := encR Rw.none (Value.slice none 0 0)) (hs351.here) zr62 rfl (fun _ => rfl)) rfl ?_
      intro b389 w390 ht395 he392 hz393
      have hs396 := hs351.trans ht395
      refine WL.val (R.assign (v := Value.int .i64 i344) rfl) rfl ?_
      refine WL.sto (L' := [blk b102 60 (encH Hd.none), mapE b110 m345, blk b389 62 (encR x367 (Value.slice a382 x367.table.length c383))]) (X.store (i := 2) (n := 57) (b := b389) (off := 0) (c := encR Rw.none (Value.slice none 0 0)) (U := 62) (vs := encR x367 (Value.slice a382 x367.table.length c383)) (v := Value.agg (List.toArray (encR x367 (Value.slice a382 x367.table.length c383)))) (c' := encR x367 (Value.slice a382 x367.table.length c383)) (hs396.here) rfl ag62.size rfl rfl rfl rfl rfl rfl rfl rfl) rfl rfl ?_
      intro w397 ht398
      have hs399 := hs396.trans ht398
      refine WL.nil ?_
      refine thenN ?_
      refine WC.seq ?_
      refine WC.seq ?_
      refine WC.region ?_
      refine WL.val (R.move (v := Value.int .i64 i344) rfl) rfl ?_
      refine WL.val (R.move (v := Value.int .i64 p1) (by exact s359)) rfl ?_
      by_cases hc400 : i344 = p1
      · have h401 := ifT hc400 h369
        refine WL.val (R.eqlT (k := .i64) (a := i344) (b := p1) un3 rfl rfl hc400) rfl ?_
        refine WL.val (R.move (v := Value.bool true) rfl) rfl ?_
        refine WL.guardN (e := 27) (v := .bool true) rfl rfl rfl rfl ?_
        refine WL.guardN (e := 27) (v := .bool true) rfl rfl rfl rfl ?_
        refine WL.guardN (e := 27) (v := .bool true) rfl rfl rfl rfl ?_
        refine WL.val (R.pickT (v := Value.bool true) rfl rfl) rfl ?_
        refine WL.val (R.move (v := Value.bool true) rfl) rfl ?_
        refine WL.guardN (e := 32) (v := .bool true) rfl rfl rfl rfl ?_
        refine WL.guardN (e := 32) (v := .bool true) rfl rfl rfl rfl ?_
        refine WL.guardN (e := 32) (v := .bool true) rfl rfl rfl rfl ?_
        refine WL.guardN (e := 32) (v := .bool true) rfl rfl rfl rfl ?_
        refine WL.guardN (e := 32) (v := .bool true) rfl rfl rfl rfl ?_
        refine WL.val (R.pickT (v := Value.bool true) rfl rfl) rfl ?_
        refine WL.val (R.move (v := Value.bool true) rfl) rfl ?_
        refine WL.guardN (e := 39) (v := .bool true) rfl rfl rfl rfl ?_
        refine WL.guardN (e := 39) (v := .bool true) rfl rfl rfl rfl ?_
        refine WL.guardN (e := 39) (v := .bool true) rfl rfl rfl rfl ?_
        refine WL.guardN (e := 39) (v := .bool true) rfl rfl rfl rfl ?_
        refine WL.guardN (e := 39) (v := .bool true) rfl rfl rfl rfl ?_
        refine WL.guardN (e := 39) (v := .bool true) rfl rfl rfl rfl ?_
        refine WL.guardN (e := 39) (v := .bool true) rfl rfl rfl rfl ?_
        refine WL.val (R.pickT (v := Value.bool true) rfl rfl) rfl ?_
        refine WL.nil ?_
        refine thenN ?_
        refine WC.condT rfl rfl ?_
        refine WC.exit ?_
        refine thenE ?_
        refine blockHit ?_
        refine thenN ?_
        refine WC.region ?_
        obtain ⟨hg402, h403⟩ := ckE (c := -9223372036854775808 ≤ i344 + 1 ∧ i344 + 1 ≤ 9223372036854775807) h401
        refine WL.val (R.add (a := i344) (b := 1) (z := i344 + 1) (by exact s364) rfl (w64e rfl hg402.1 hg402.2)) rfl ?_
        refine WL.val (R.move (v := Value.int .i64 (i344 + 1)) rfl) rfl ?_
        refine WL.nil ?_
        have ht404 := (hs399.here).perm (L' := [blk b102 60 (encH Hd.none), mapE b110 m345]) (G := [blk b389 62 (encR x367 (Value.slice a382 x367.table.length c383))]) ((List.Perm.refl _))
        have hs405 := hs399.trans ht404
        have hr406 := elT ((ht395.trans ht398).trans ht404) he353
        exact roundEnd (s := k352) ⟨i344 + 1, m345, s358, s359, s360, s361, s362, s363, rfl, hr406, h403, hs405⟩ (Nat.lt_succ_self _)
      · have h407 := ifF hc400 h369
        refine WL.val (R.eqlF (k := .i64) (a := i344) (b := p1) un3 rfl rfl hc400) rfl ?_
        refine WL.val (R.move (v := Value.bool false) rfl) rfl ?_
        refine WL.guardY (e := 27) rfl rfl rfl ?_
        refine WL.val (R.fieldAddr (o := 0) (o' := 0) fa62_0 rfl rfl) rfl ?_
        refine WL.guardY (e := 27) rfl rfl rfl ?_
        refine WL.val (R.loadL (v := Value.bool x367.is) lf4 rfl (hs399.at (i := 2) (off := 0) (n := 1) (cs := [Value.bool x367.is]) rfl rfl rfl)) rfl ?_
        refine WL.guardY (e := 27) rfl rfl rfl ?_
        refine WL.val (R.not (b := x367.is) rfl) rfl ?_
        refine WL.val (R.pickF (v := Value.bool (!x367.is)) rfl rfl) rfl ?_
        refine WL.val (R.move (v := Value.bool (!x367.is)) rfl) rfl ?_
        by_cases hc408 : x367.is = true
        · have h409 := ifT hc408 h407
          have hk410 : (!x367.is) = false := by simp [hc408]
          refine WL.guardY (e := 32) (Eq.trans (show _ = Value.bool (!x367.is) from rfl) (congrArg Value.bool hk410)) rfl rfl ?_
          refine WL.val (R.move (v := Value.int .i64 p1) (by exact s359)) rfl ?_
          refine WL.guardY (e := 32) (Eq.trans (show _ = Value.bool (!x367.is) from rfl) (congrArg Value.bool hk410)) rfl rfl ?_
          refine WL.val (R.fieldAddr (o := 0) (o' := 56) fa62_2 rfl rfl) rfl ?_
          refine WL.guardY (e := 32) (Eq.trans (show _ = Value.bool (!x367.is) from rfl) (congrArg Value.bool hk410)) rfl rfl ?_
          refine WL.val (R.loadL (v := Value.slice a382 x367.table.length c383) lf28 rfl (hs399.at (i := 2) (off := 56) (n := 1) (cs := [Value.slice a382 x367.table.length c383]) rfl rfl rfl)) rfl ?_
          refine WL.guardY (e := 32) (Eq.trans (show _ = Value.bool (!x367.is) from rfl) (congrArg Value.bool hk410)) rfl rfl ?_
          refine WL.val (R.len (a := a382) (n := x367.table.length) (c := c383) un28 rfl) rfl ?_
          refine WL.guardY (e := 32) (Eq.trans (show _ = Value.bool (!x367.is) from rfl) (congrArg Value.bool hk410)) rfl rfl ?_
          by_cases hc411 : ((x367.table.length : Nat) : Int) ≤ p1
          · have h412 := ifT hc411 h409
            refine WL.val (R.geqT (k := .i64) (a := p1) (b := ((x367.table.length : Nat) : Int)) un3 rfl rfl hc411) rfl ?_
            refine WL.val (R.pickF (v := Value.bool true) (Eq.trans (show _ = Value.bool (!x367.is) from rfl) (congrArg Value.bool hk410)) rfl) rfl ?_
            refine WL.val (R.move (v := Value.bool true) rfl) rfl ?_
            refine WL.guardN (e := 39) (v := .bool true) rfl rfl rfl rfl ?_
            refine WL.guardN (e := 39) (v := .bool true) rfl rfl rfl rfl ?_
            refine WL.guardN (e := 39) (v := .bool true) rfl rfl rfl rfl ?_
            refine WL.guardN (e := 39) (v := .bool true) rfl rfl rfl rfl ?_
            refine WL.guardN (e := 39) (v := .bool true) rfl rfl rfl rfl ?_
            refine WL.guardN (e := 39) (v := .bool true) rfl rfl rfl rfl ?_
            refine WL.guardN (e := 39) (v := .bool true) rfl rfl rfl rfl ?_
            refine WL.val (R.pickT (v := Value.bool true) rfl rfl) rfl ?_
            refine WL.nil ?_
            refine thenN ?_
            refine WC.condT rfl rfl ?_
            refine WC.exit ?_
            refine thenE ?_
            refine blockHit ?_
            refine thenN ?_
            refine WC.region ?_
            obtain ⟨hg413, h414⟩ := ckE (c := -9223372036854775808 ≤ i344 + 1 ∧ i344 + 1 ≤ 9223372036854775807) h412
            refine WL.val (R.add (a := i344) (b := 1) (z := i344 + 1) (by exact s364) rfl (w64e rfl hg413.1 hg413.2)) rfl ?_
            refine WL.val (R.move (v := Value.int .i64 (i344 + 1)) rfl) rfl ?_
            refine WL.nil ?_
            have ht415 := (hs399.here).perm (L' := [blk b102 60 (encH Hd.none), mapE b110 m345]) (G := [blk b389 62 (encR x367 (Value.slice a382 x367.table.length c383))]) ((List.Perm.refl _))
            have hs416 := hs399.trans ht415
            have hr417 := elT ((ht395.trans ht398).trans ht415) he353
            exact roundEnd (s := k352) ⟨i344 + 1, m345, s358, s359, s360, s361, s362, s363, rfl, hr417, h414, hs416⟩ (Nat.lt_succ_self _)
          · have h418 := ifF hc411 h409
            refine WL.val (R.geqF (k := .i64) (a := p1) (b := ((x367.table.length : Nat) : Int)) un3 rfl rfl hc411) rfl ?_
            refine WL.val (R.pickF (v := Value.bool false) (Eq.trans (show _ = Value.bool (!x367.is) from rfl) (congrArg Value.bool hk410)) rfl) rfl ?_
            refine WL.val (R.move (v := Value.bool false) rfl) rfl ?_
            refine WL.guardY (e := 39) rfl rfl rfl ?_
            refine WL.val (R.fieldAddr (o := 0) (o' := 56) fa62_2 rfl rfl) rfl ?_
            refine WL.guardY (e := 39) rfl rfl rfl ?_
            refine WL.val (R.loadL (v := Value.slice a382 x367.table.length c383) lf28 rfl (hs399.at (i := 2) (off := 56) (n := 1) (cs := [Value.slice a382 x367.table.length c383]) rfl rfl rfl)) rfl ?_
            refine WL.guardY (e := 39) rfl rfl rfl ?_
            refine WL.val (R.move (v := Value.int .i64 p1) (by exact s359)) rfl ?_
            refine WL.guardY (e := 39) rfl rfl rfl ?_
            obtain ⟨x419, hx420, h421⟩ := ob (o := rd x367.table p1) h418
            obtain ⟨h0422, hx423, hl424, hm425⟩ := rdE hx420
            have hr426 := elT (ht395.trans ht398) he385
            obtain ⟨ad427, e432, ha428, hp429, hat430, hrd431⟩ := hr426 _ _ hx423
            obtain ⟨-, rfl⟩ := hrd431
            refine WL.val (R.indexS (n := 56) (m := (p1).toNat) (a := a382) (ad := ad427) (len := x367.table.length) (cap := c383) (z := p1) un28 ag60.size rfl ha428 rfl hm425 hl424 hp429) rfl ?_
            refine WL.guardY (e := 39) rfl rfl rfl ?_
            refine WL.val (R.fieldAddr (o := ad427.off + (p1).toNat * 56) (o' := ad427.off + (p1).toNat * 56) fa60_0 rfl rfl) rfl ?_
            refine WL.guardY (e := 39) rfl rfl rfl ?_
            refine WL.val (R.loadL (v := Value.bool x419.is) lf4 rfl (At.sub (a := ⟨ad427.block, ad427.off + (p1).toNat * 56, none⟩) (off := 0) (n := 1) (cs := encH x419) (ds := [Value.bool x419.is]) hat430 rfl rfl)) rfl ?_
            refine WL.guardY (e := 39) rfl rfl rfl ?_
            refine WL.val (R.not (b := x419.is) rfl) rfl ?_
            refine WL.val (R.pickF (v := Value.bool (!x419.is)) rfl rfl) rfl ?_
            refine WL.nil ?_
            refine thenN ?_
            by_cases hc434 : x419.is = true
            · have h435 := ifT hc434 h421
              have hk436 : (!x419.is) = false := by simp [hc434]
              refine WC.condF (Eq.trans (show _ = Value.bool (!x419.is) from rfl) (congrArg Value.bool hk436)) rfl ?_
              refine WC.skip ?_
              refine thenN ?_
              refine WC.seq ?_
              refine WC.region ?_
              refine WL.val (R.fieldAddr (o := 0) (o' := 56) fa62_2 rfl rfl) rfl ?_
              refine WL.val (R.loadL (v := Value.slice a382 x367.table.length c383) lf28 rfl (hs399.at (i := 2) (off := 56) (n := 1) (cs := [Value.slice a382 x367.table.length c383]) rfl rfl rfl)) rfl ?_
              refine WL.val (R.move (v := Value.int .i64 p1) (by exact s359)) rfl ?_
              refine WL.val (R.indexS (n := 56) (m := (p1).toNat) (a := a382) (ad := ad427) (len := x367.table.length) (cap := c383) (z := p1) un28 ag60.size rfl ha428 rfl hm425 hl424 hp429) rfl ?_
              refine WL.val (R.fieldAddr (o := ad427.off + (p1).toNat * 56) (o' := ad427.off + (p1).toNat * 56 + 1) fa60_1 rfl rfl) rfl ?_
              refine WL.val (R.loadA (cs := encC x419.cell) (n := 55) ag58 rfl (At.sub (a := ⟨ad427.block, ad427.off + (p1).toNat * 56, none⟩) (off := 1) (n := 55) (cs := encH x419) (ds := encC x419.cell) hat430 rfl rfl) rfl) rfl ?_
              refine WL.new (L' := fun b437 => [blk b102 60 (encH Hd.none), mapE b110 m345, blk b389 62 (encR x367 (Value.slice a382 x367.table.length c383)), blk b437 58 (encC Cl.zero)]) (f := fun b437 => Value.pointer (some ⟨b437, 0, none⟩)) (X.alloc (c := encC Cl.zero) (hs399.here) zr58 rfl (fun _ => rfl)) rfl ?_
              intro b437 w438 ht443 he440 hz441
              have hs444 := hs399.trans ht443
              refine WL.sto (L' := [blk b102 60 (encH Hd.none), mapE b110 m345, blk b389 62 (encR x367 (Value.slice a382 x367.table.length c383)), blk b437 58 (encC x419.cell)]) (X.store (i := 3) (n := 55) (b := b437) (off := 0) (c := encC Cl.zero) (U := 58) (vs := encC x419.cell) (v := Value.agg (List.toArray (encC x419.cell))) (c' := encC x419.cell) (hs444.here) rfl ag58.size rfl rfl rfl rfl rfl rfl rfl rfl) rfl rfl ?_
              intro w445 ht446
              have hs447 := hs444.trans ht446
              refine WL.nil ?_
              refine thenN ?_
              refine WC.seq ?_
              refine WC.drawM mixed (NP.then (NP.block (NP.then (NP.then (NP.block (NP.join (NP.then NP.rq))))))) (fun x => ∃ m2, (m2 = m345 ∨ m2 = madd m345 x419.cell) ∧ St [blk b102 60 (encH Hd.none), mapE b110 m345, blk b389 62 (encR x367 (Value.slice a382 x367.table.length c383)), blk b437 58 (encC x419.cell)] (w445).drew x [blk b102 60 (encH Hd.none), mapE b110 m2, blk b389 62 (encR x367 (Value.slice a382 x367.table.length c383)), blk b437 58 (encC x419.cell)]) ?_
              have ht448 := (hs447.here).ext (Ext.drew _)
              have hs449 := hs447.trans ht448
              have hS450 : (fun x => ∃ m2, (m2 = m345 ∨ m2 = madd m345 x419.cell) ∧ St [blk b102 60 (encH Hd.none), mapE b110 m345, blk b389 62 (encR x367 (Value.slice a382 x367.table.length c383)), blk b437 58 (encC x419.cell)] (w445).drew x [blk b102 60 (encH Hd.none), mapE b110 m2, blk b389 62 (encR x367 (Value.slice a382 x367.table.length c383)), blk b437 58 (encC x419.cell)]) ((w445).drew) := ⟨_, .inl rfl, (hs449.here)⟩
              refine WM.take 0 rfl (by decide +kernel) (by decide +kernel) (by decide +kernel) (by decide +kernel) rfl rfl (fun wq hq => (by obtain ⟨m2, hm2, hq2⟩ := hq; exact R.move (v := Value.map (some b110)) (by exact s361))) hS450 ?_
              refine WM.take 1 rfl (by decide +kernel) (by decide +kernel) (by decide +kernel) (by decide +kernel) rfl rfl (fun wq hq => (by obtain ⟨m2, hm2, hq2⟩ := hq; exact R.loadA (cs := encC x419.cell) (n := 55) ag58 rfl ((hs449.trans hq2).at (i := 3) (off := 0) (n := 55) (cs := encC x419.cell) rfl rfl rfl) rfl)) hS450 ?_
              refine WM.take 2 rfl (by decide +kernel) (by decide +kernel) (by decide +kernel) (by decide +kernel) rfl rfl (fun wq hq => (by obtain ⟨m2, hm2, hq2⟩ := hq; exact R.lookupM (i := 1) (m := m345) (c := x419.cell) hm2 (hs449.trans hq2) rfl rfl rfl)) hS450 ?_
              obtain ⟨hg451, h452⟩ := ckE (c := -9223372036854775808 ≤ (mget m345 x419.cell) + 1 ∧ (mget m345 x419.cell) + 1 ≤ 9223372036854775807) h435
              refine WM.take 3 rfl (by decide +kernel) (by decide +kernel) (by decide +kernel) (by decide +kernel) rfl rfl (fun wq hq => (by obtain ⟨m2, hm2, hq2⟩ := hq; exact R.add (a := mget m345 x419.cell) (b := 1) (z := (mget m345 x419.cell) + 1) rfl rfl (w64e rfl hg451.1 hg451.2))) hS450 ?_
              refine WM.sett (L' := [blk b102 60 (encH Hd.none), mapE b110 (madd m345 x419.cell), blk b389 62 (encR x367 (Value.slice a382 x367.table.length c383)), blk b437 58 (encC x419.cell)]) (v := Value.tuple #[Value.int .i64 (mget m345 x419.cell), Value.int .i64 ((midx m345 x419.cell : Nat) : Int)]) 4 (by decide +kernel) rfl rfl rfl (X.mapEntry (i := 1) (m := m345) (c := x419.cell) (hs449.here) rfl rfl rfl rfl) (fun _ h => ⟨_, .inr rfl, h⟩) ?_
              intro w453 ht454
              have hS455 : (fun x => ∃ m2, (m2 = m345 ∨ m2 = madd m345 x419.cell) ∧ St [blk b102 60 (encH Hd.none), mapE b110 m345, blk b389 62 (encR x367 (Value.slice a382 x367.table.length c383)), blk b437 58 (encC x419.cell)] (w445).drew x [blk b102 60 (encH Hd.none), mapE b110 m2, blk b389 62 (encR x367 (Value.slice a382 x367.table.length c383)), blk b437 58 (encC x419.cell)]) w453 := ⟨_, .inr rfl, ht454⟩
              have hs456 := hs449.trans ht454
              refine WM.take 5 rfl (by decide +kernel) (by decide +kernel) (by decide +kernel) (by decide +kernel) rfl rfl (fun wq hq => (by obtain ⟨m2, hm2, hq2⟩ := hq; exact R.extract (v := Value.int .i64 ((midx m345 x419.cell : Nat) : Int)) rfl rfl)) hS455 ?_
              refine WM.sto (L' := [blk b102 60 (encH Hd.none), mapE b110 (mput m345 x419.cell ((mget m345 x419.cell) + 1)), blk b389 62 (encR x367 (Value.slice a382 x367.table.length c383)), blk b437 58 (encC x419.cell)]) 6 (by decide +kernel) (by decide +kernel) rfl rfl rfl rfl (X.entryStore (i := 1) (m := m345) (c := x419.cell) (v := (mget m345 x419.cell) + 1) (hs456.here) rfl rfl rfl rfl rfl) ?_
              intro w457 ht458
              have hs459 := hs456.trans ht458
              refine WE.done (by decide +kernel) ?_
              refine thenN ?_
              refine WC.seq ?_
              refine WC.region ?_
              refine WL.val (R.move (v := Value.map (some b110)) (by exact s361)) rfl ?_
              refine WL.val (R.loadA (cs := encC x419.cell) (n := 55) ag58 rfl (hs459.at (i := 3) (off := 0) (n := 55) (cs := encC x419.cell) rfl rfl rfl) rfl) rfl ?_
              refine WL.val (R.lookup (i := 1) (m := mput m345 x419.cell ((mget m345 x419.cell) + 1)) (c := x419.cell) hs459 rfl rfl rfl) rfl ?_
              obtain ⟨hg460, h461⟩ := ckE (c := -9223372036854775808 ≤ 2 * (mget (mput m345 x419.cell ((mget m345 x419.cell) + 1)) x419.cell) ∧ 2 * (mget (mput m345 x419.cell ((mget m345 x419.cell) + 1)) x419.cell) ≤ 9223372036854775807) h452
              refine WL.val (R.mul (a := 2) (b := mget (mput m345 x419.cell ((mget m345 x419.cell) + 1)) x419.cell) (z := 2 * (mget (mput m345 x419.cell ((mget m345 x419.cell) + 1)) x419.cell)) rfl rfl (w64e rfl hg460.1 hg460.2)) rfl ?_
              refine WL.val (R.move (v := Value.int .i64 p0) (by exact s358)) rfl ?_
              obtain ⟨hg462, h463⟩ := ckE (c := -9223372036854775808 ≤ p0 - 1 ∧ p0 - 1 ≤ 9223372036854775807) h461
              refine WL.val (R.sub (a := p0) (b := 1) (z := p0 - 1) rfl rfl (w64e rfl hg462.1 hg462.2)) rfl ?_
              by_cases hc464 : (p0 - 1) < (2 * (mget (mput m345 x419.cell ((mget m345 x419.cell) + 1)) x419.cell))
              · have h465 := ifT hc464 h463
                refine WL.val (R.gtrT (k := .i64) (a := 2 * (mget (mput m345 x419.cell ((mget m345 x419.cell) + 1)) x419.cell)) (b := p0 - 1) un3 rfl rfl hc464) rfl ?_
                refine WL.nil ?_
                refine thenN ?_
                refine WC.condT rfl rfl ?_
                refine WC.seq ?_
                refine WC.region ?_
                refine WL.val (R.loadA (cs := encC x419.cell) (n := 55) ag58 rfl (hs459.at (i := 3) (off := 0) (n := 55) (cs := encC x419.cell) rfl rfl rfl) rfl) rfl ?_
                have hd466 : ∀ w, (Instr.build 60 #[(0, Value.bool true), (1, Value.agg (List.toArray (encC x419.cell)))]).run Try.prog w = .ok (Value.agg (List.toArray (encH (⟨true, x419.cell⟩ : Hd)))) w := fun _ => by kernel_rfl
                refine WL.val (R.build (vs := [(0, Value.bool true), (1, Value.agg (List.toArray (encC x419.cell)))]) rfl hd466) rfl ?_
                refine WL.sto (L' := [blk b102 60 (encH (⟨true, x419.cell⟩ : Hd)), mapE b110 (mput m345 x419.cell ((mget m345 x419.cell) + 1)), blk b389 62 (encR x367 (Value.slice a382 x367.table.length c383)), blk b437 58 (encC x419.cell)]) (X.store (i := 0) (n := 56) (b := b102) (off := 0) (c := encH Hd.none) (U := 60) (vs := encH (⟨true, x419.cell⟩ : Hd)) (v := Value.agg (List.toArray (encH (⟨true, x419.cell⟩ : Hd)))) (c' := encH (⟨true, x419.cell⟩ : Hd)) (hs459.here) rfl ag60.size (by exact s360) rfl rfl rfl rfl rfl rfl rfl) rfl rfl ?_
                intro w467 ht468
                have hs469 := hs459.trans ht468
                refine WL.nil ?_
                refine thenN ?_
                refine WC.ret ?_
                have hl470 := run_loadA (P := Try.prog) (n := 56) ag60 (hs469.at (i := 0) (off := 0) (n := 56) (cs := encH (⟨true, x419.cell⟩ : Hd)) rfl rfl rfl) rfl
                have ht471 := (hs469.here).perm (L' := []) (G := [blk b102 60 (encH (⟨true, x419.cell⟩ : Hd)), mapE b110 (mput m345 x419.cell ((mget m345 x419.cell) + 1)), blk b389 62 (encR x367 (Value.slice a382 x367.table.length c383)), blk b437 58 (encC x419.cell)]) ((List.Perm.refl _))
                have hs472 := hs469.trans ht471
                obtain rfl := Option.some.inj (show some (⟨true, x419.cell⟩ : Hd) = some r from h465)
                exact retCell (P := Try.prog) (n := 71) (fn := Try.f102) (R := fun v w' => v = Value.agg (List.toArray (encH (⟨true, x419.cell⟩ : Hd))) ∧ St [] w w' []) (t := 6) (v := Value.agg (List.toArray (encH (⟨true, x419.cell⟩ : Hd)))) rfl s360 rfl hl470 ⟨rfl, hs472⟩
              · have h473 := ifF hc464 h463
                refine WL.val (R.gtrF (k := .i64) (a := 2 * (mget (mput m345 x419.cell ((mget m345 x419.cell) + 1)) x419.cell)) (b := p0 - 1) un3 rfl rfl hc464) rfl ?_
                refine WL.nil ?_
                refine thenN ?_
                refine WC.condF rfl rfl ?_
                refine WC.skip ?_
                refine blockN ?_
                refine thenN ?_
                refine WC.region ?_
                obtain ⟨hg474, h475⟩ := ckE (c := -9223372036854775808 ≤ i344 + 1 ∧ i344 + 1 ≤ 9223372036854775807) h473
                refine WL.val (R.add (a := i344) (b := 1) (z := i344 + 1) (by exact s364) rfl (w64e rfl hg474.1 hg474.2)) rfl ?_
                refine WL.val (R.move (v := Value.int .i64 (i344 + 1)) rfl) rfl ?_
                refine WL.nil ?_
                have ht476 := (hs459.here).perm (L' := [blk b102 60 (encH Hd.none), mapE b110 (mput m345 x419.cell ((mget m345 x419.cell) + 1))]) (G := [blk b389 62 (encR x367 (Value.slice a382 x367.table.length c383)), blk b437 58 (encC x419.cell)]) ((List.Perm.refl _))
                have hs477 := hs459.trans ht476
                have hr478 := elT (((((((ht395.trans ht398).trans ht443).trans ht446).trans ht448).trans ht454).trans ht458).trans ht476) he353
                exact roundEnd (s := k352) ⟨i344 + 1, mput m345 x419.cell ((mget m345 x419.cell) + 1), s358, s359, s360, s361, s362, s363, rfl, hr478, h475, hs477⟩ (Nat.lt_succ_self _)
            · have h479 := ifF hc434 h421
              have hk480 : (!x419.is) = true := by simp [hc434]
              refine WC.condT (Eq.trans (show _ = Value.bool (!x419.is) from rfl) (congrArg Value.bool hk480)) rfl ?_
              refine WC.exit ?_
              refine thenE ?_
              refine blockHit ?_
              refine thenN ?_
              refine WC.region ?_
              obtain ⟨hg481, h482⟩ := ckE (c := -9223372036854775808 ≤ i344 + 1 ∧ i344 + 1 ≤ 9223372036854775807) h479
              refine WL.val (R.add (a := i344) (b := 1) (z := i344 + 1) (by exact s364) rfl (w64e rfl hg481.1 hg481.2)) rfl ?_
              refine WL.val (R.move (v := Value.int .i64 (i344 + 1)) rfl) rfl ?_
              refine WL.nil ?_
              have ht483 := (hs399.here).perm (L' := [blk b102 60 (encH Hd.none), mapE b110 m345]) (G := [blk b389 62 (encR x367 (Value.slice a382 x367.table.length c383))]) ((List.Perm.refl _))
              have hs484 := hs399.trans ht483
              have hr485 := elT ((ht395.trans ht398).trans ht483) he353
              exact roundEnd (s := k352) ⟨i344 + 1, m345, s358, s359, s360, s361, s362, s363, rfl, hr485, h482, hs484⟩ (Nat.lt_succ_self _)
        · have h486 := ifF hc408 h407
          have hk487 : (!x367.is) = true := by simp [hc408]
          refine WL.guardN (e := 32) (v := .bool true) (Eq.trans (show _ = Value.bool (!x367.is) from rfl) (congrArg Value.bool hk487)) rfl rfl rfl ?_
          refine WL.guardN (e := 32) (v := .bool true) (Eq.trans (show _ = Value.bool (!x367.is) from rfl) (congrArg Value.bool hk487)) rfl rfl rfl ?_
          refine WL.guardN (e := 32) (v := .bool true) (Eq.trans (show _ = Value.bool (!x367.is) from rfl) (congrArg Value.bool hk487)) rfl rfl rfl ?_
          refine WL.guardN (e := 32) (v := .bool true) (Eq.trans (show _ = Value.bool (!x367.is) from rfl) (congrArg Value.bool hk487)) rfl rfl rfl ?_
          refine WL.guardN (e := 32) (v := .bool true) (Eq.trans (show _ = Value.bool (!x367.is) from rfl) (congrArg Value.bool hk487)) rfl rfl rfl ?_
          refine WL.val (R.pickT (v := Value.bool true) (Eq.trans (show _ = Value.bool (!x367.is) from rfl) (congrArg Value.bool hk487)) rfl) rfl ?_
          refine WL.val (R.move (v := Value.bool true) rfl) rfl ?_
          refine WL.guardN (e := 39) (v := .bool true) rfl rfl rfl rfl ?_
          refine WL.guardN (e := 39) (v := .bool true) rfl rfl rfl rfl ?_
          refine WL.guardN (e := 39) (v := .bool true) rfl rfl rfl rfl ?_
          refine WL.guardN (e := 39) (v := .bool true) rfl rfl rfl rfl ?_
          refine WL.guardN (e := 39) (v := .bool true) rfl rfl rfl rfl ?_
          refine WL.guardN (e := 39) (v := .bool true) rfl rfl rfl rfl ?_
          refine WL.guardN (e := 39) (v := .bool true) rfl rfl rfl rfl ?_
          refine WL.val (R.pickT (v := Value.bool true) rfl rfl) rfl ?_
          refine WL.nil ?_
          refine thenN ?_
          refine WC.condT rfl rfl ?_
          refine WC.exit ?_
          refine thenE ?_
          refine blockHit ?_
          refine thenN ?_
          refine WC.region ?_
          obtain ⟨hg488, h489⟩ := ckE (c := -9223372036854775808 ≤ i344 + 1 ∧ i344 + 1 ≤ 9223372036854775807) h486
          refine WL.val (R.add (a := i344) (b := 1) (z := i344 + 1) (by exact s364) rfl (w64e rfl hg488.1 hg488.2)) rfl ?_
          refine WL.val (R.move (v := Value.int .i64 (i344 + 1)) rfl) rfl ?_
          refine WL.nil ?_
          have ht490 := (hs399.here).perm (L' := [blk b102 60 (encH Hd.none), mapE b110 m345]) (G := [blk b389 62 (encR x367 (Value.slice a382 x367.table.length c383))]) ((List.Perm.refl _))
          have hs491 := hs399.trans ht490
          have hr492 := elT ((ht395.trans ht398).trans ht490) he353
          exact roundEnd (s := k352) ⟨i344 + 1, m345, s358, s359, s360, s361, s362, s363, rfl, hr492, h489, hs491⟩ (Nat.lt_succ_self _)
    · have h493 := ifF hc365 h357
      refine WL.val (R.lssF (k := .i64) (a := i344) (b := (((p2.take (min p0 ((p2.length : Nat) : Int)).toNat).length : Nat) : Int)) un3 (by exact s364) (by exact s363) hc365) rfl ?_
      refine WL.nil ?_
      refine thenN ?_
      refine WC.seq ?_
      refine WC.condF rfl rfl ?_
      refine WC.exit ?_
      refine thenE ?_
      refine thenE ?_
      refine blockHit ?_
      have ht494 := (hs351.here).perm (L' := [blk b102 60 (encH Hd.none)]) (G := [mapE b110 m345]) ((List.Perm.refl _))
      have hs495 := hs351.trans ht494
      exact joinI ⟨s360, h493, hs495⟩
  · rintro σ355 w354 ⟨s497, h496, hs356⟩
    subst hK347
    refine thenN ?_
    refine WC.seq ?_
    refine WC.region ?_
    have hd498 : ∀ w, (Instr.build 60 #[]).run Try.prog w = .ok (Value.agg (List.toArray (encH Hd.none))) w := fun _ => by kernel_rfl
    refine WL.val (R.build (vs := []) rfl hd498) rfl ?_
    refine WL.sto (L' := [blk b102 60 (encH Hd.none)]) (X.store (i := 0) (n := 56) (b := b102) (off := 0) (c := encH Hd.none) (U := 60) (vs := encH Hd.none) (v := Value.agg (List.toArray (encH Hd.none))) (c' := encH Hd.none) (hs356.here) rfl ag60.size (by exact s497) rfl rfl rfl rfl rfl rfl rfl) rfl rfl ?_
    intro w499 ht500
    have hs501 := hs356.trans ht500
    refine WL.nil ?_
    refine thenN ?_
    refine WC.ret ?_
    have hl502 := run_loadA (P := Try.prog) (n := 56) ag60 (hs501.at (i := 0) (off := 0) (n := 56) (cs := encH Hd.none) rfl rfl rfl) rfl
    have ht503 := (hs501.here).perm (L' := []) (G := [blk b102 60 (encH Hd.none)]) ((List.Perm.refl _))
    have hs504 := hs501.trans ht503
    obtain rfl := Option.some.inj (show some Hd.none = some r from h496)
    exact retCell (P := Try.prog) (n := 71) (fn := Try.f102) (R := fun v w' => v = Value.agg (List.toArray (encH Hd.none)) ∧ St [] w w' []) (t := 6) (v := Value.agg (List.toArray (encH Hd.none))) rfl s497 rfl hl502 ⟨rfl, hs504⟩

theorem agree15_ok (w : World) (ok : Nat → Prop) (p0 : Int) (p1 : List Rw) (a1 : Option Addr) (c1 : Nat) (he1 : elems rowW w ok a1 p1) (hc1 : p1.length ≤ c1) {r : (List Hd)} (h : agree15 p0 p1 = some r) :
    Ret Try.prog 34 [Value.int .i64 p0, Value.slice a1 p1.length c1] w (fun v w' => ∃ ra0, ∃ rc0, v = Value.slice ra0 r.length rc0 ∧ r.length ≤ rc0 ∧ elems heldW w' (In ok w [] []) ra0 r ∧ St [] w w' []) := by
  rw [agree15] at h
  have hs100 : St [] w w [] := St.start w
  have he1001 := el0 (L0 := []) (fun b _ => out_nil b) he1
  refine enter (n := 29) Try.func34 rfl rfl rfl ?_
  refine WC.seq ?_
  refine WC.region ?_
  refine WL.val (R.assign (v := Value.slice none 0 0) rfl) rfl ?_
  refine WL.nil ?_
  refine thenN ?_
  refine WC.seq ?_
  refine WC.seq ?_
  refine WC.region ?_
  refine WL.val (R.move (v := Value.int .i64 p0) rfl) rfl ?_
  by_cases hc102 : p0 < 4
  · have h103 := ifT hc102 h
    refine WL.val (R.lssT (k := .i64) (a := p0) (b := 4) un3 rfl rfl hc102) rfl ?_
    refine WL.val (R.move (v := Value.bool true) rfl) rfl ?_
    refine WL.guardN (e := 9) (v := .bool true) rfl rfl rfl rfl ?_
    refine WL.guardN (e := 9) (v := .bool true) rfl rfl rfl rfl ?_
    refine WL.val (R.pickT (v := Value.bool true) rfl rfl) rfl ?_
    refine WL.nil ?_
    refine thenN ?_
    refine WC.condT rfl rfl ?_
    refine WC.seq ?_
    refine WC.region ?_
    refine WL.val (R.assign (v := Value.slice none 0 0) rfl) rfl ?_
    refine WL.nil ?_
    refine thenN ?_
    refine WC.ret ?_
    obtain rfl := Option.some.inj (show some [] = some r from h103)
    exact ret1 (P := Try.prog) (n := 29) (fn := Try.f34) (R := fun v w' => ∃ ra0, ∃ rc0, v = Value.slice ra0 [].length rc0 ∧ [].length ≤ rc0 ∧ elems heldW w' (In ok w [] []) ra0 [] ∧ St [] w w' []) (t := 4) (v := Value.slice none 0 0) rfl rfl rfl ⟨none, 0, rfl, (Nat.le_refl _), elems_nil, hs100⟩
  · have h104 := ifF hc102 h
    refine WL.val (R.lssF (k := .i64) (a := p0) (b := 4) un3 rfl rfl hc102) rfl ?_
    refine WL.val (R.move (v := Value.bool false) rfl) rfl ?_
    refine WL.guardY (e := 9) rfl rfl rfl ?_
    refine WL.val (R.move (v := Value.int .i64 p0) rfl) rfl ?_
    refine WL.guardY (e := 9) rfl rfl rfl ?_
    by_cases hc105 : 16 < p0
    · have h106 := ifT hc105 h104
      refine WL.val (R.gtrT (k := .i64) (a := p0) (b := 16) un3 rfl rfl hc105) rfl ?_
      refine WL.val (R.pickF (v := Value.bool true) rfl rfl) rfl ?_
      refine WL.nil ?_
      refine thenN ?_
      refine WC.condT rfl rfl ?_
      refine WC.seq ?_
      refine WC.region ?_
      refine WL.val (R.assign (v := Value.slice none 0 0) rfl) rfl ?_
      refine WL.nil ?_
      refine thenN ?_
      refine WC.ret ?_
      obtain rfl := Option.some.inj (show some [] = some r from h106)
      exact ret1 (P := Try.prog) (n := 29) (fn := Try.f34) (R := fun v w' => ∃ ra0, ∃ rc0, v = Value.slice ra0 [].length rc0 ∧ [].length ≤ rc0 ∧ elems heldW w' (In ok w [] []) ra0 [] ∧ St [] w w' []) (t := 4) (v := Value.slice none 0 0) rfl rfl rfl ⟨none, 0, rfl, (Nat.le_refl _), elems_nil, hs100⟩
    · have h107 := ifF hc105 h104
      refine WL.val (R.gtrF (k := .i64) (a := p0) (b := 16) un3 rfl rfl hc105) rfl ?_
      refine WL.val (R.pickF (v := Value.bool false) rfl rfl) rfl ?_
      refine WL.nil ?_
      refine thenN ?_
      refine WC.condF rfl rfl ?_
      refine WC.skip ?_
      refine thenN ?_
      refine WC.seq ?_
      refine WC.region ?_
      refine WL.val (R.move (v := Value.int .i64 p0) rfl) rfl ?_
      obtain ⟨hg108, h109⟩ := ckE (c := 0 ≤ p0 ∧ p0 < 1000000) h107
      refine WL.new (L' := fun b110 => [gsl 60 heldE (Value.slice (some ⟨b110, 0, none⟩) ((List.replicate (p0).toNat Hd.none).length) ((p0).toNat)) (List.replicate (p0).toNat Hd.none)]) (f := fun b110 => Value.slice (some ⟨b110, 0, none⟩) ((List.replicate (p0).toNat Hd.none).length) ((p0).toNat)) (X.makeSliceN (e := heldE) (z := Hd.none) (hs100.here) sl28 rfl rfl rfl hg108 (by decide) List.length_replicate (fun _ => rfl)) rfl ?_
      intro b110 w111 ht115 he112 hz113
      have hs116 := hs100.trans ht115
      refine WL.val (R.assign (v := Value.slice (some ⟨b110, 0, none⟩) ((List.replicate (p0).toNat Hd.none).length) ((p0).toNat)) rfl) rfl ?_
      refine WL.nil ?_
      refine thenN ?_
      refine WC.seq ?_
      refine WC.seq ?_
      refine WC.region ?_
      refine WL.val (R.move (v := Value.slice (some ⟨b110, 0, none⟩) ((List.replicate (p0).toNat Hd.none).length) ((p0).toNat)) rfl) rfl ?_
      refine WL.val (R.len (a := (some ⟨b110, 0, none⟩)) (n := ((List.replicate (p0).toNat Hd.none).length)) (c := ((p0).toNat)) un28 rfl) rfl ?_
      refine WL.val (R.move (v := Value.int .i64 0) rfl) rfl ?_
      refine WL.nil ?_
      refine thenN ?_
      have hr196 := elT ht115 he1001
      obtain ⟨K188, hK189, h190⟩ := kE (G := fun K188 => agree15_l1 p0 p1 K188 1000000 0 (List.replicate (p0).toNat Hd.none)) h109
      refine WC.join (fun σ198 w197 => ∃ l185 : List Hd, ∃ a186, ∃ c187, σ198 5 = (Value.slice a186 l185.length c187) ∧ K188 l185 = some r ∧ St [] w w197 [gsl 60 heldE (Value.slice a186 l185.length c187) l185]) ?_ ?_
      · refine WC.block ?_
        refine WC.loop (T := Nat) (fun k194 σ192 w191 => ∃ i181 : Int, ∃ l182 : List Hd, ∃ a183, ∃ c184, σ192 0 = (Value.int .i64 p0) ∧ σ192 1 = (Value.slice a1 p1.length c1) ∧ σ192 5 = (Value.slice a183 l182.length c184) ∧ σ192 16 = (Value.int .i64 (((List.replicate (p0).toNat Hd.none).length : Nat) : Int)) ∧ σ192 17 = (Value.int .i64 i181) ∧ elems rowW w191 (In ok w [] [gsl 60 heldE (Value.slice a183 l182.length c184) l182]) a1 p1 ∧ agree15_l1 p0 p1 K188 k194 i181 l182 = some r ∧ St [] w w191 [gsl 60 heldE (Value.slice a183 l182.length c184) l182]) (fun k194 => k194) 1000000 ⟨0, List.replicate (p0).toNat Hd.none, (some ⟨b110, 0, none⟩), (p0).toNat, rfl, rfl, rfl, rfl, rfl, hr196, h190, hs116⟩ ?_
        rintro k194 σ192 w191 ⟨i181, l182, a183, c184, s201, s202, s203, s204, s205, he195, h200, hs193⟩
        rcases k194 with _ | k194
        · rw [agree15_l1] at h200; cases h200
        rw [agree15_l1] at h200
        refine WC.seq ?_
        refine WC.region ?_
        by_cases hc206 : i181 < (((List.replicate (p0).toNat Hd.none).length : Nat) : Int)
        · have h207 := ifT hc206 h200
          refine WL.val (R.lssT (k := .i64) (a := i181) (b := (((List.replicate (p0).toNat Hd.none).length : Nat) : Int)) un3 (by exact s205) (by exact s204) hc206) rfl ?_
          refine WL.nil ?_
          refine thenN ?_
          refine WC.seq ?_
          refine WC.condT rfl rfl ?_
          refine WC.skip ?_
          refine thenN ?_
          refine WC.seq ?_
          refine WC.block ?_
          refine WC.seq ?_
          refine WC.region ?_
          refine WL.val (R.move (v := Value.int .i64 i181) (by exact s205)) rfl ?_
          refine WL.val (R.assign (v := Value.int .i64 i181) rfl) rfl ?_
          refine WL.nil ?_
          refine thenN ?_
          refine WC.region ?_
          refine WL.val (R.move (v := Value.slice a183 l182.length c184) (by exact s203)) rfl ?_
          refine WL.val (R.move (v := Value.int .i64 i181) rfl) rfl ?_
          refine WL.val (R.move (v := Value.int .i64 p0) (by exact s201)) rfl ?_
          refine WL.val (R.move (v := Value.int .i64 i181) rfl) rfl ?_
          refine WL.val (R.move (v := Value.slice a1 p1.length c1) (by exact s202)) rfl ?_
          obtain ⟨y208, hx209, h210⟩ := ob (o := most15 p0 i181 p1) h207
          refine WL.call (most15_ok _ _ p0 i181 p1 _ _ he195 hc1 hx209) (R.call (vs := [Value.int .i64 p0, Value.int .i64 i181, Value.slice a1 p1.length c1]) (caps := []) bo102 rfl rfl) rfl ?_
          rintro v213 w214 ⟨rfl, ht211⟩
          have ht212 := hs193.call (N := [gsl 60 heldE (Value.slice a183 l182.length c184) l182]) (M := []) (List.Perm.refl _) ht211
          have hs215 := hs193.trans ht212
          obtain ⟨x216, hx217, h218⟩ := ob (o := rd l182 i181) h210
          obtain ⟨h0219, hx220, hl221, hm222⟩ := rdE hx217
          obtain ⟨b223, c224, hv225, _⟩ := hs215.gslAt (i := 0) rfl hx220
          refine WL.val (R.indexS (n := 56) (m := (i181).toNat) (ad := ⟨b223, 0, none⟩) (len := (l182).length) (cap := c224) (z := i181) un28 ag60.size (Eq.trans (show _ = Value.slice a183 l182.length c184 from rfl) hv225) rfl rfl hm222 hl221 rfl) rfl ?_
          refine WL.sto (L' := [gsl 60 heldE (Value.slice a183 l182.length c184) ((l182).set (i181).toNat y208)]) (X.storeEl (i := 0) (j := (i181).toNat) (off := 0) (n := 56) (x := x216) (y := y208) (vs := encH y208) (u := Value.agg (List.toArray (encH y208))) (hs215.here) rfl hx220 hv225 ag60.size rfl rfl rfl rfl rfl rfl (by decide) (rfl) rfl) rfl rfl ?_
          intro w226 ht227
          have hs228 := hs215.trans ht227
          have hs229 : St [] w w226 [gsl 60 heldE (Value.slice a183 (((l182).set (i181).toNat y208).length) c184) ((l182).set (i181).toNat y208)] := by first | (simpa only [List.length_set] using hs228) | (simp only [List.length_set]; exact hs228)
          have ht230 : St [gsl 60 heldE (Value.slice a183 l182.length c184) l182] w214 w226 [gsl 60 heldE (Value.slice a183 (((l182).set (i181).toNat y208).length) c184) ((l182).set (i181).toNat y208)] := by first | (simpa only [List.length_set, List.nil_append, List.cons_append] using ht227) | (simp only [List.length_set]; exact ht227)
          refine WL.nil ?_
          refine blockN ?_
          refine thenN ?_
          refine WC.region ?_
          obtain ⟨hg231, h232⟩ := ckE (c := -9223372036854775808 ≤ i181 + 1 ∧ i181 + 1 ≤ 9223372036854775807) h218
          refine WL.val (R.add (a := i181) (b := 1) (z := i181 + 1) (by exact s205) rfl (w64e rfl hg231.1 hg231.2)) rfl ?_
          refine WL.val (R.move (v := Value.int .i64 (i181 + 1)) rfl) rfl ?_
          refine WL.nil ?_
          have hr233 := elT (ht212.trans ht230) he195
          exact roundEnd (s := k194) ⟨i181 + 1, (l182).set (i181).toNat y208, a183, c184, s201, s202, (Eq.trans (show _ = Value.slice a183 l182.length c184 from s203) (by simp only [List.length_set])), s204, rfl, hr233, h232, hs229⟩ (Nat.lt_succ_self _)
        · have h234 := ifF hc206 h200
          refine WL.val (R.lssF (k := .i64) (a := i181) (b := (((List.replicate (p0).toNat Hd.none).length : Nat) : Int)) un3 (by exact s205) (by exact s204) hc206) rfl ?_
          refine WL.nil ?_
          refine thenN ?_
          refine WC.seq ?_
          refine WC.condF rfl rfl ?_
          refine WC.exit ?_
          refine thenE ?_
          refine thenE ?_
          refine blockHit ?_
          exact joinI ⟨l182, a183, c184, s203, h234, hs193⟩
      · rintro σ198 w197 ⟨l185, a186, c187, s236, h235, hs199⟩
        subst hK189
        refine thenN ?_
        refine WC.seq ?_
        refine WC.region ?_
        refine WL.val (R.move (v := Value.slice a186 l185.length c187) (by exact s236)) rfl ?_
        refine WL.val (R.assign (v := Value.slice a186 l185.length c187) rfl) rfl ?_
        refine WL.nil ?_
        refine thenN ?_
        refine WC.ret ?_
        obtain ⟨a237, c238, hv239, hl240, he241⟩ := el_freeze (k := heldW) (ok := fun _ => False) hs199 (List.Perm.refl _) rfl (fun _ _ _ => ⟨trivial, rfl⟩)
        obtain ⟨rfl, rfl⟩ : a186 = a237 ∧ c187 = c238 := ⟨(Value.slice.inj hv239).1, (Value.slice.inj hv239).2.2⟩
        have ht242 := (hs199.here).perm (L' := []) (G := [gsl 60 heldE (Value.slice a186 l185.length c187) l185]) ((List.Perm.refl _))
        have hs243 := hs199.trans ht242
        obtain rfl := Option.some.inj (show some l185 = some r from h235)
        exact ret1 (P := Try.prog) (n := 29) (fn := Try.f34) (R := fun v w' => ∃ ra0, ∃ rc0, v = Value.slice ra0 l185.length rc0 ∧ l185.length ≤ rc0 ∧ elems heldW w' (In ok w [] []) ra0 l185 ∧ St [] w w' []) (t := 4) (v := Value.slice a186 l185.length c187) rfl rfl rfl ⟨a186, c187, rfl, hl240, (elN (ok' := ok) he241), hs243⟩

end Go.Proofs.Ytckcldimnelklaa

/- The functions come to what their twins answer: group 15p. -/
namespace Go.Proofs.Ytckcldimnelklaa
open Go
set_option linter.unusedVariables false
set_option linter.unusedSimpArgs false
set_option maxRecDepth 100000
set_option maxHeartbeats 4000000

theorem tableo15_ok (w : World) (ok : Nat → Prop) (p0 : List Rw) (a0 : Option Addr) (c0 : Nat) (he0 : elems rowW w ok a0 p0) (hc0 : p0.length ≤ c0) {r : (List Hd)} (h : tableo15 p0 = some r) :
    Ret Try.prog 33 [Value.slice a0 p0.length c0] w (fun v w' => ∃ ra0, ∃ rc0, v = Value.slice ra0 r.length rc0 ∧ St [] w w' [gslC 60 heldE (Value.slice ra0 r.length rc0) r]) := by
  rw [tableo15] at h
  have hs100 : St [] w w [] := St.start w
  have he1000 := el0 (L0 := []) (fun b _ => out_nil b) he0
  refine enter (n := 26) Try.func33 rfl rfl rfl ?_
  refine WC.seq ?_
  refine WC.region ?_
  refine WL.val (R.assign (v := Value.slice none 0 0) rfl) rfl ?_
  refine WL.nil ?_
  refine thenN ?_
  refine WC.seq ?_
  refine WC.region ?_
  refine WL.val (R.move (v := Value.slice a0 p0.length c0) rfl) rfl ?_
  refine WL.val (R.len (a := a0) (n := p0.length) (c := c0) un22 rfl) rfl ?_
  obtain ⟨hg102, h103⟩ := ckE (c := p0.length < 1000000) h
  refine WL.new (L' := fun b104 => [gsl 60 heldE (Value.slice (some ⟨b104, 0, none⟩) ((List.replicate (((p0.length : Nat) : Int)).toNat Hd.none).length) ((((p0.length : Nat) : Int)).toNat)) (List.replicate (((p0.length : Nat) : Int)).toNat Hd.none)]) (f := fun b104 => Value.slice (some ⟨b104, 0, none⟩) ((List.replicate (((p0.length : Nat) : Int)).toNat Hd.none).length) ((((p0.length : Nat) : Int)).toNat)) (X.makeSliceN (e := heldE) (z := Hd.none) (hs100.here) sl28 rfl rfl rfl (by have := hg102; omega) (by decide) List.length_replicate (fun _ => rfl)) rfl ?_
  intro b104 w105 ht109 he106 hz107
  have hs110 := hs100.trans ht109
  have ht111 : St [gsl 60 heldE (Value.slice (some ⟨b104, 0, none⟩) ((List.replicate (((p0.length : Nat) : Int)).toNat Hd.none).length) ((((p0.length : Nat) : Int)).toNat)) (List.replicate (((p0.length : Nat) : Int)).toNat Hd.none)] w105 w105 [gslC 60 heldE (Value.slice (some ⟨b104, 0, none⟩) ((List.replicate (((p0.length : Nat) : Int)).toNat Hd.none).length) ((((p0.length : Nat) : Int)).toNat)) (List.replicate (((p0.length : Nat) : Int)).toNat Hd.none)] := (hs110.here).conv (i := 0) rfl (gslC_mk List.length_replicate (hs110.get (i := 0) rfl)) (fun _ hb => hb) rfl
  have hs112 := hs110.trans ht111
  refine WL.val (R.assign (v := Value.slice (some ⟨b104, 0, none⟩) ((List.replicate (((p0.length : Nat) : Int)).toNat Hd.none).length) ((((p0.length : Nat) : Int)).toNat)) rfl) rfl ?_
  refine WL.nil ?_
  refine thenN ?_
  refine WC.seq ?_
  refine WC.seq ?_
  refine WC.region ?_
  refine WL.val (R.move (v := Value.slice a0 p0.length c0) rfl) rfl ?_
  refine WL.val (R.len (a := a0) (n := p0.length) (c := c0) un22 rfl) rfl ?_
  refine WL.val (R.move (v := Value.int .i64 0) rfl) rfl ?_
  refine WL.nil ?_
  refine thenN ?_
  have hr244 := elT (ht109.trans ht111) he1000
  obtain ⟨K236, hK237, h238⟩ := kE (G := fun K236 => tableo15_l1 p0 K236 1000000 0 (List.replicate (((p0.length : Nat) : Int)).toNat Hd.none)) h103
  refine WC.join (fun σ246 w245 => ∃ l233 : List Hd, ∃ a234, ∃ c235, σ246 3 = (Value.slice a234 l233.length c235) ∧ K236 l233 = some r ∧ St [] w w245 [gslC 60 heldE (Value.slice a234 l233.length c235) l233]) ?_ ?_
  · refine WC.block ?_
    refine WC.loop (T := Nat) (fun k242 σ240 w239 => ∃ i229 : Int, ∃ l230 : List Hd, ∃ a231, ∃ c232, σ240 3 = (Value.slice a231 l230.length c232) ∧ σ240 9 = (Value.slice a0 p0.length c0) ∧ σ240 10 = (Value.int .i64 ((p0.length : Nat) : Int)) ∧ σ240 11 = (Value.int .i64 i229) ∧ elems rowW w239 (In ok w [] [gslC 60 heldE (Value.slice a231 l230.length c232) l230]) a0 p0 ∧ tableo15_l1 p0 K236 k242 i229 l230 = some r ∧ St [] w w239 [gslC 60 heldE (Value.slice a231 l230.length c232) l230]) (fun k242 => k242) 1000000 ⟨0, List.replicate (((p0.length : Nat) : Int)).toNat Hd.none, (some ⟨b104, 0, none⟩), (((p0.length : Nat) : Int)).toNat, rfl, rfl, rfl, rfl, hr244, h238, hs112⟩ ?_
    rintro k242 σ240 w239 ⟨i229, l230, a231, c232, s249, s250, s251, s252, he243, h248, hs241⟩
    rcases k242 with _ | k242
    · rw [tableo15_l1] at h248; cases h248
    rw [tableo15_l1] at h248
    refine WC.seq ?_
    refine WC.region ?_
    by_cases hc253 : i229 < ((p0.length : Nat) : Int)
    · have h254 := ifT hc253 h248
      refine WL.val (R.lssT (k := .i64) (a := i229) (b := ((p0.length : Nat) : Int)) un3 (by exact s252) (by exact s251) hc253) rfl ?_
      refine WL.nil ?_
      refine thenN ?_
      refine WC.seq ?_
      refine WC.condT rfl rfl ?_
      refine WC.skip ?_
      refine thenN ?_
      refine WC.seq ?_
      refine WC.block ?_
      refine WC.seq ?_
      refine WC.region ?_
      refine WL.val (R.move (v := Value.int .i64 i229) (by exact s252)) rfl ?_
      obtain ⟨x255, hx256, h257⟩ := ob (o := rd p0 i229) h254
      obtain ⟨h0258, hx259, hl260, hm261⟩ := rdE hx256
      obtain ⟨ad262, e267, ha263, hp264, hat265, hrd266⟩ := he243 _ _ hx259
      obtain ⟨t268, rfl, a270, c271, he274, hl272, he273⟩ := hrd266
      cases he274
      refine WL.val (R.indexS (n := 57) (m := (i229).toNat) (a := a0) (ad := ad262) (len := p0.length) (cap := c0) (z := i229) un22 ag62.size (by exact s250) ha263 (by exact s252) hm261 hl260 hp264) rfl ?_
      refine WL.val (R.loadA (cs := encR x255 (Value.slice a270 x255.table.length c271)) (n := 57) ag62 rfl hat265 rfl) rfl ?_
      refine WL.new (L' := fun b277 => [gslC 60 heldE (Value.slice a231 l230.length c232) l230, blk b277 62 (encR Rw.none (Value.slice none 0 0))]) (f := fun b277 => Value.pointer (some ⟨b277, 0, none⟩)) (X.alloc (c := encR Rw.none (Value.slice none 0 0)) (hs241.here) zr62 rfl (fun _ => rfl)) rfl ?_
      intro b277 w278 ht283 he280 hz281
      have hs284 := hs241.trans ht283
      refine WL.val (R.assign (v := Value.int .i64 i229) rfl) rfl ?_
      refine WL.sto (L' := [gslC 60 heldE (Value.slice a231 l230.length c232) l230, blk b277 62 (encR x255 (Value.slice a270 x255.table.length c271))]) (X.store (i := 1) (n := 57) (b := b277) (off := 0) (c := encR Rw.none (Value.slice none 0 0)) (U := 62) (vs := encR x255 (Value.slice a270 x255.table.length c271)) (v := Value.agg (List.toArray (encR x255 (Value.slice a270 x255.table.length c271)))) (c' := encR x255 (Value.slice a270 x255.table.length c271)) (hs284.here) rfl ag62.size rfl rfl rfl rfl rfl rfl rfl rfl) rfl rfl ?_
      intro w285 ht286
      have hs287 := hs284.trans ht286
      refine WL.nil ?_
      refine thenN ?_
      refine WC.region ?_
      refine WL.val (R.move (v := Value.slice a231 l230.length c232) (by exact s249)) rfl ?_
      refine WL.val (R.move (v := Value.int .i64 i229) rfl) rfl ?_
      refine WL.val (R.fieldAddr (o := 0) (o' := 0) fa62_0 rfl rfl) rfl ?_
      refine WL.val (R.loadL (v := Value.bool x255.is) lf4 rfl (hs287.at (i := 1) (off := 0) (n := 1) (cs := [Value.bool x255.is]) rfl rfl rfl)) rfl ?_
      refine WL.val (R.fieldAddr (o := 0) (o' := 1) fa62_1 rfl rfl) rfl ?_
      refine WL.val (R.loadA (cs := encC x255.cell) (n := 55) ag58 rfl (hs287.at (i := 1) (off := 1) (n := 55) (cs := encC x255.cell) rfl rfl rfl) rfl) rfl ?_
      have hd288 : ∀ w, (Instr.build 60 #[(0, Value.bool x255.is), (1, Value.agg (List.toArray (encC x255.cell)))]).run Try.prog w = .ok (Value.agg (List.toArray (encH (⟨x255.is, x255.cell⟩ : Hd)))) w := fun _ => by kernel_rfl
      refine WL.val (R.build (vs := [(0, Value.bool x255.is), (1, Value.agg (List.toArray (encC x255.cell)))]) rfl hd288) rfl ?_
      obtain ⟨x289, hx290, h291⟩ := ob (o := rd l230 i229) h257
      obtain ⟨h0292, hx293, hl294, hm295⟩ := rdE hx290
      obtain ⟨b296, c297, hv298, _⟩ := hs287.gslAtC (i := 0) rfl hx293
      refine WL.val (R.indexS (n := 56) (m := (i229).toNat) (ad := ⟨b296, 0, none⟩) (len := (l230).length) (cap := c297) (z := i229) un28 ag60.size (Eq.trans (show _ = Value.slice a231 l230.length c232 from rfl) hv298) rfl rfl hm295 hl294 rfl) rfl ?_
      refine WL.sto (L' := [gslC 60 heldE (Value.slice a231 l230.length c232) ((l230).set (i229).toNat (⟨x255.is, x255.cell⟩ : Hd)), blk b277 62 (encR x255 (Value.slice a270 x255.table.length c271))]) (X.storeElC (i := 0) (j := (i229).toNat) (off := 0) (n := 56) (x := x289) (y := (⟨x255.is, x255.cell⟩ : Hd)) (vs := encH (⟨x255.is, x255.cell⟩ : Hd)) (u := Value.agg (List.toArray (encH (⟨x255.is, x255.cell⟩ : Hd)))) (hs287.here) rfl hx293 hv298 ag60.size rfl rfl rfl rfl rfl rfl (by decide) (rfl) rfl) rfl rfl ?_
      intro w299 ht300
      have hs301 := hs287.trans ht300
      have hs302 : St [] w w299 [gslC 60 heldE (Value.slice a231 (((l230).set (i229).toNat (⟨x255.is, x255.cell⟩ : Hd)).length) c232) ((l230).set (i229).toNat (⟨x255.is, x255.cell⟩ : Hd)), blk b277 62 (encR x255 (Value.slice a270 x255.table.length c271))] := by first | (simpa only [List.length_set] using hs301) | (simp only [List.length_set]; exact hs301)
      have ht303 : St [gslC 60 heldE (Value.slice a231 l230.length c232) l230, blk b277 62 (encR x255 (Value.slice a270 x255.table.length c271))] w285 w299 [gslC 60 heldE (Value.slice a231 (((l230).set (i229).toNat (⟨x255.is, x255.cell⟩ : Hd)).length) c232) ((l230).set (i229).toNat (⟨x255.is, x255.cell⟩ : Hd)), blk b277 62 (encR x255 (Value.slice a270 x255.table.length c271))] := by first | (simpa only [List.length_set, List.nil_append, List.cons_append] using ht300) | (simp only [List.length_set]; exact ht300)
      refine WL.nil ?_
      refine blockN ?_
      refine thenN ?_
      refine WC.region ?_
      obtain ⟨hg304, h305⟩ := ckE (c := -9223372036854775808 ≤ i229 + 1 ∧ i229 + 1 ≤ 9223372036854775807) h291
      refine WL.val (R.add (a := i229) (b := 1) (z := i229 + 1) (by exact s252) rfl (w64e rfl hg304.1 hg304.2)) rfl ?_
      refine WL.val (R.move (v := Value.int .i64 (i229 + 1)) rfl) rfl ?_
      refine WL.nil ?_
      have ht306 := (hs302.here).perm (L' := [gslC 60 heldE (Value.slice a231 (((l230).set (i229).toNat (⟨x255.is, x255.cell⟩ : Hd)).length) c232) ((l230).set (i229).toNat (⟨x255.is, x255.cell⟩ : Hd))]) (G := [blk b277 62 (encR x255 (Value.slice a270 x255.table.length c271))]) ((List.Perm.refl _))
      have hs307 := hs302.trans ht306
      have hr308 := elT (((ht283.trans ht286).trans ht303).trans ht306) he243
      exact roundEnd (s := k242) ⟨i229 + 1, (l230).set (i229).toNat (⟨x255.is, x255.cell⟩ : Hd), a231, c232, (Eq.trans (show _ = Value.slice a231 l230.length c232 from s249) (by simp only [List.length_set])), s250, s251, rfl, hr308, h305, hs307⟩ (Nat.lt_succ_self _)
    · have h309 := ifF hc253 h248
      refine WL.val (R.lssF (k := .i64) (a := i229) (b := ((p0.length : Nat) : Int)) un3 (by exact s252) (by exact s251) hc253) rfl ?_
      refine WL.nil ?_
      refine thenN ?_
      refine WC.seq ?_
      refine WC.condF rfl rfl ?_
      refine WC.exit ?_
      refine thenE ?_
      refine thenE ?_
      refine blockHit ?_
      exact joinI ⟨l230, a231, c232, s249, h309, hs241⟩
  · rintro σ246 w245 ⟨l233, a234, c235, s311, h310, hs247⟩
    subst hK237
    refine thenN ?_
    refine WC.seq ?_
    refine WC.region ?_
    refine WL.val (R.move (v := Value.slice a234 l233.length c235) (by exact s311)) rfl ?_
    refine WL.val (R.assign (v := Value.slice a234 l233.length c235) rfl) rfl ?_
    refine WL.nil ?_
    refine thenN ?_
    refine WC.ret ?_
    obtain rfl := Option.some.inj (show some l233 = some r from h310)
    exact ret1 (P := Try.prog) (n := 26) (fn := Try.f33) (R := fun v w' => ∃ ra0, ∃ rc0, v = Value.slice ra0 l233.length rc0 ∧ St [] w w' [gslC 60 heldE (Value.slice ra0 l233.length rc0) l233]) (t := 2) (v := Value.slice a234 l233.length c235) rfl rfl rfl ⟨a234, c235, rfl, hs247⟩

theorem agreeo15_ok (w : World) (ok : Nat → Prop) (p0 : Int) (p1 : List Rw) (a1 : Option Addr) (c1 : Nat) (he1 : elems rowW w ok a1 p1) (hc1 : p1.length ≤ c1) {r : (List Hd)} (h : agreeo15 p0 p1 = some r) :
    Ret Try.prog 34 [Value.int .i64 p0, Value.slice a1 p1.length c1] w (fun v w' => ∃ ra0, ∃ rc0, v = Value.slice ra0 r.length rc0 ∧ St [] w w' [gslC 60 heldE (Value.slice ra0 r.length rc0) r]) := by
  rw [agreeo15] at h
  have hs100 : St [] w w [] := St.start w
  have he1001 := el0 (L0 := []) (fun b _ => out_nil b) he1
  refine enter (n := 29) Try.func34 rfl rfl rfl ?_
  refine WC.seq ?_
  refine WC.region ?_
  refine WL.val (R.assign (v := Value.slice none 0 0) rfl) rfl ?_
  refine WL.nil ?_
  refine thenN ?_
  refine WC.seq ?_
  refine WC.seq ?_
  refine WC.region ?_
  refine WL.val (R.move (v := Value.int .i64 p0) rfl) rfl ?_
  by_cases hc102 : p0 < 4
  · have h103 := ifT hc102 h
    refine WL.val (R.lssT (k := .i64) (a := p0) (b := 4) un3 rfl rfl hc102) rfl ?_
    refine WL.val (R.move (v := Value.bool true) rfl) rfl ?_
    refine WL.guardN (e := 9) (v := .bool true) rfl rfl rfl rfl ?_
    refine WL.guardN (e := 9) (v := .bool true) rfl rfl rfl rfl ?_
    refine WL.val (R.pickT (v := Value.bool true) rfl rfl) rfl ?_
    refine WL.nil ?_
    refine thenN ?_
    refine WC.condT rfl rfl ?_
    refine WC.seq ?_
    refine WC.region ?_
    refine WL.val (R.assign (v := Value.slice none 0 0) rfl) rfl ?_
    refine WL.nil ?_
    refine thenN ?_
    refine WC.ret ?_
    have ht104 := (hs100.here).addNil 60 heldE rfl
    have hs106 := hs100.trans ht104
    have ht107 : St [gsl 60 heldE (Value.slice none 0 0) ([] : List Hd)] w w [gslC 60 heldE (Value.slice none 0 0) ([] : List Hd)] := (hs106.here).conv (E' := gslC 60 heldE (Value.slice none 0 0) ([] : List Hd)) (i := 0) rfl ⟨none, 0, rfl, hs106.get (i := 0) rfl⟩ (fun _ hb => hb) rfl
    have hs108 := hs106.trans ht107
    obtain rfl := Option.some.inj (show some ([] : List Hd) = some r from h103)
    exact ret1 (P := Try.prog) (n := 29) (fn := Try.f34) (R := fun v w' => ∃ ra0, ∃ rc0, v = Value.slice ra0 ([] : List Hd).length rc0 ∧ St [] w w' [gslC 60 heldE (Value.slice ra0 ([] : List Hd).length rc0) ([] : List Hd)]) (t := 4) (v := Value.slice none (([] : List Hd).length) 0) rfl rfl rfl ⟨none, 0, rfl, hs108⟩
  · have h109 := ifF hc102 h
    refine WL.val (R.lssF (k := .i64) (a := p0) (b := 4) un3 rfl rfl hc102) rfl ?_
    refine WL.val (R.move (v := Value.bool false) rfl) rfl ?_
    refine WL.guardY (e := 9) rfl rfl rfl ?_
    refine WL.val (R.move (v := Value.int .i64 p0) rfl) rfl ?_
    refine WL.guardY (e := 9) rfl rfl rfl ?_
    by_cases hc110 : 16 < p0
    · have h111 := ifT hc110 h109
      refine WL.val (R.gtrT (k := .i64) (a := p0) (b := 16) un3 rfl rfl hc110) rfl ?_
      refine WL.val (R.pickF (v := Value.bool true) rfl rfl) rfl ?_
      refine WL.nil ?_
      refine thenN ?_
      refine WC.condT rfl rfl ?_
      refine WC.seq ?_
      refine WC.region ?_
      refine WL.val (R.assign (v := Value.slice none 0 0) rfl) rfl ?_
      refine WL.nil ?_
      refine thenN ?_
      refine WC.ret ?_
      have ht112 := (hs100.here).addNil 60 heldE rfl
      have hs114 := hs100.trans ht112
      have ht115 : St [gsl 60 heldE (Value.slice none 0 0) ([] : List Hd)] w w [gslC 60 heldE (Value.slice none 0 0) ([] : List Hd)] := (hs114.here).conv (E' := gslC 60 heldE (Value.slice none 0 0) ([] : List Hd)) (i := 0) rfl ⟨none, 0, rfl, hs114.get (i := 0) rfl⟩ (fun _ hb => hb) rfl
      have hs116 := hs114.trans ht115
      obtain rfl := Option.some.inj (show some ([] : List Hd) = some r from h111)
      exact ret1 (P := Try.prog) (n := 29) (fn := Try.f34) (R := fun v w' => ∃ ra0, ∃ rc0, v = Value.slice ra0 ([] : List Hd).length rc0 ∧ St [] w w' [gslC 60 heldE (Value.slice ra0 ([] : List Hd).length rc0) ([] : List Hd)]) (t := 4) (v := Value.slice none (([] : List Hd).length) 0) rfl rfl rfl ⟨none, 0, rfl, hs116⟩
    · have h117 := ifF hc110 h109
      refine WL.val (R.gtrF (k := .i64) (a := p0) (b := 16) un3 rfl rfl hc110) rfl ?_
      refine WL.val (R.pickF (v := Value.bool false) rfl rfl) rfl ?_
      refine WL.nil ?_
      refine thenN ?_
      refine WC.condF rfl rfl ?_
      refine WC.skip ?_
      refine thenN ?_
      refine WC.seq ?_
      refine WC.region ?_
      refine WL.val (R.move (v := Value.int .i64 p0) rfl) rfl ?_
      obtain ⟨hg118, h119⟩ := ckE (c := 0 ≤ p0 ∧ p0 < 1000000) h117
      refine WL.new (L' := fun b120 => [gsl 60 heldE (Value.slice (some ⟨b120, 0, none⟩) ((List.replicate (p0).toNat Hd.none).length) ((p0).toNat)) (List.replicate (p0).toNat Hd.none)]) (f := fun b120 => Value.slice (some ⟨b120, 0, none⟩) ((List.replicate (p0).toNat Hd.none).length) ((p0).toNat)) (X.makeSliceN (e := heldE) (z := Hd.none) (hs100.here) sl28 rfl rfl rfl hg118 (by decide) List.length_replicate (fun _ => rfl)) rfl ?_
      intro b120 w121 ht125 he122 hz123
      have hs126 := hs100.trans ht125
      have ht127 : St [gsl 60 heldE (Value.slice (some ⟨b120, 0, none⟩) ((List.replicate (p0).toNat Hd.none).length) ((p0).toNat)) (List.replicate (p0).toNat Hd.none)] w121 w121 [gslC 60 heldE (Value.slice (some ⟨b120, 0, none⟩) ((List.replicate (p0).toNat Hd.none).length) ((p0).toNat)) (List.replicate (p0).toNat Hd.none)] := (hs126.here).conv (i := 0) rfl (gslC_mk List.length_replicate (hs126.get (i := 0) rfl)) (fun _ hb => hb) rfl
      have hs128 := hs126.trans ht127
      refine WL.val (R.assign (v := Value.slice (some ⟨b120, 0, none⟩) ((List.replicate (p0).toNat Hd.none).length) ((p0).toNat)) rfl) rfl ?_
      refine WL.nil ?_
      refine thenN ?_
      refine WC.seq ?_
      refine WC.seq ?_
      refine WC.region ?_
      refine WL.val (R.move (v := Value.slice (some ⟨b120, 0, none⟩) ((List.replicate (p0).toNat Hd.none).length) ((p0).toNat)) rfl) rfl ?_
      refine WL.val (R.len (a := (some ⟨b120, 0, none⟩)) (n := ((List.replicate (p0).toNat Hd.none).length)) (c := ((p0).toNat)) un28 rfl) rfl ?_
      refine WL.val (R.move (v := Value.int .i64 0) rfl) rfl ?_
      refine WL.nil ?_
      refine thenN ?_
      have hr208 := elT (ht125.trans ht127) he1001
      obtain ⟨K200, hK201, h202⟩ := kE (G := fun K200 => agreeo15_l1 p0 p1 K200 1000000 0 (List.replicate (p0).toNat Hd.none)) h119
      refine WC.join (fun σ210 w209 => ∃ l197 : List Hd, ∃ a198, ∃ c199, σ210 5 = (Value.slice a198 l197.length c199) ∧ K200 l197 = some r ∧ St [] w w209 [gslC 60 heldE (Value.slice a198 l197.length c199) l197]) ?_ ?_
      · refine WC.block ?_
        refine WC.loop (T := Nat) (fun k206 σ204 w203 => ∃ i193 : Int, ∃ l194 : List Hd, ∃ a195, ∃ c196, σ204 0 = (Value.int .i64 p0) ∧ σ204 1 = (Value.slice a1 p1.length c1) ∧ σ204 5 = (Value.slice a195 l194.length c196) ∧ σ204 16 = (Value.int .i64 (((List.replicate (p0).toNat Hd.none).length : Nat) : Int)) ∧ σ204 17 = (Value.int .i64 i193) ∧ elems rowW w203 (In ok w [] [gslC 60 heldE (Value.slice a195 l194.length c196) l194]) a1 p1 ∧ agreeo15_l1 p0 p1 K200 k206 i193 l194 = some r ∧ St [] w w203 [gslC 60 heldE (Value.slice a195 l194.length c196) l194]) (fun k206 => k206) 1000000 ⟨0, List.replicate (p0).toNat Hd.none, (some ⟨b120, 0, none⟩), (p0).toNat, rfl, rfl, rfl, rfl, rfl, hr208, h202, hs128⟩ ?_
        rintro k206 σ204 w203 ⟨i193, l194, a195, c196, s213, s214, s215, s216, s217, he207, h212, hs205⟩
        rcases k206 with _ | k206
        · rw [agreeo15_l1] at h212; cases h212
        rw [agreeo15_l1] at h212
        refine WC.seq ?_
        refine WC.region ?_
        by_cases hc218 : i193 < (((List.replicate (p0).toNat Hd.none).length : Nat) : Int)
        · have h219 := ifT hc218 h212
          refine WL.val (R.lssT (k := .i64) (a := i193) (b := (((List.replicate (p0).toNat Hd.none).length : Nat) : Int)) un3 (by exact s217) (by exact s216) hc218) rfl ?_
          refine WL.nil ?_
          refine thenN ?_
          refine WC.seq ?_
          refine WC.condT rfl rfl ?_
          refine WC.skip ?_
          refine thenN ?_
          refine WC.seq ?_
          refine WC.block ?_
          refine WC.seq ?_
          refine WC.region ?_
          refine WL.val (R.move (v := Value.int .i64 i193) (by exact s217)) rfl ?_
          refine WL.val (R.assign (v := Value.int .i64 i193) rfl) rfl ?_
          refine WL.nil ?_
          refine thenN ?_
          refine WC.region ?_
          refine WL.val (R.move (v := Value.slice a195 l194.length c196) (by exact s215)) rfl ?_
          refine WL.val (R.move (v := Value.int .i64 i193) rfl) rfl ?_
          refine WL.val (R.move (v := Value.int .i64 p0) (by exact s213)) rfl ?_
          refine WL.val (R.move (v := Value.int .i64 i193) rfl) rfl ?_
          refine WL.val (R.move (v := Value.slice a1 p1.length c1) (by exact s214)) rfl ?_
          obtain ⟨y220, hx221, h222⟩ := ob (o := most15 p0 i193 p1) h219
          refine WL.call (most15_ok _ _ p0 i193 p1 _ _ he207 hc1 hx221) (R.call (vs := [Value.int .i64 p0, Value.int .i64 i193, Value.slice a1 p1.length c1]) (caps := []) bo102 rfl rfl) rfl ?_
          rintro v225 w226 ⟨rfl, ht223⟩
          have ht224 := hs205.call (N := [gslC 60 heldE (Value.slice a195 l194.length c196) l194]) (M := []) (List.Perm.refl _) ht223
          have hs227 := hs205.trans ht224
          obtain ⟨x228, hx229, h230⟩ := ob (o := rd l194 i193) h222
          obtain ⟨h0231, hx232, hl233, hm234⟩ := rdE hx229
          obtain ⟨b235, c236, hv237, _⟩ := hs227.gslAtC (i := 0) rfl hx232
          refine WL.val (R.indexS (n := 56) (m := (i193).toNat) (ad := ⟨b235, 0, none⟩) (len := (l194).length) (cap := c236) (z := i193) un28 ag60.size (Eq.trans (show _ = Value.slice a195 l194.length c196 from rfl) hv237) rfl rfl hm234 hl233 rfl) rfl ?_
          refine WL.sto (L' := [gslC 60 heldE (Value.slice a195 l194.length c196) ((l194).set (i193).toNat y220)]) (X.storeElC (i := 0) (j := (i193).toNat) (off := 0) (n := 56) (x := x228) (y := y220) (vs := encH y220) (u := Value.agg (List.toArray (encH y220))) (hs227.here) rfl hx232 hv237 ag60.size rfl rfl rfl rfl rfl rfl (by decide) (rfl) rfl) rfl rfl ?_
          intro w238 ht239
          have hs240 := hs227.trans ht239
          have hs241 : St [] w w238 [gslC 60 heldE (Value.slice a195 (((l194).set (i193).toNat y220).length) c196) ((l194).set (i193).toNat y220)] := by first | (simpa only [List.length_set] using hs240) | (simp only [List.length_set]; exact hs240)
          have ht242 : St [gslC 60 heldE (Value.slice a195 l194.length c196) l194] w226 w238 [gslC 60 heldE (Value.slice a195 (((l194).set (i193).toNat y220).length) c196) ((l194).set (i193).toNat y220)] := by first | (simpa only [List.length_set, List.nil_append, List.cons_append] using ht239) | (simp only [List.length_set]; exact ht239)
          refine WL.nil ?_
          refine blockN ?_
          refine thenN ?_
          refine WC.region ?_
          obtain ⟨hg243, h244⟩ := ckE (c := -9223372036854775808 ≤ i193 + 1 ∧ i193 + 1 ≤ 9223372036854775807) h230
          refine WL.val (R.add (a := i193) (b := 1) (z := i193 + 1) (by exact s217) rfl (w64e rfl hg243.1 hg243.2)) rfl ?_
          refine WL.val (R.move (v := Value.int .i64 (i193 + 1)) rfl) rfl ?_
          refine WL.nil ?_
          have hr245 := elT (ht224.trans ht242) he207
          exact roundEnd (s := k206) ⟨i193 + 1, (l194).set (i193).toNat y220, a195, c196, s213, s214, (Eq.trans (show _ = Value.slice a195 l194.length c196 from s215) (by simp only [List.length_set])), s216, rfl, hr245, h244, hs241⟩ (Nat.lt_succ_self _)
        · have h246 := ifF hc218 h212
          refine WL.val (R.lssF (k := .i64) (a := i193) (b := (((List.replicate (p0).toNat Hd.none).length : Nat) : Int)) un3 (by exact s217) (by exact s216) hc218) rfl ?_
          refine WL.nil ?_
          refine thenN ?_
          refine WC.seq ?_
          refine WC.condF rfl rfl ?_
          refine WC.exit ?_
          refine thenE ?_
          refine thenE ?_
          refine blockHit ?_
          exact joinI ⟨l194, a195, c196, s215, h246, hs205⟩
      · rintro σ210 w209 ⟨l197, a198, c199, s248, h247, hs211⟩
        subst hK201
        refine thenN ?_
        refine WC.seq ?_
        refine WC.region ?_
        refine WL.val (R.move (v := Value.slice a198 l197.length c199) (by exact s248)) rfl ?_
        refine WL.val (R.assign (v := Value.slice a198 l197.length c199) rfl) rfl ?_
        refine WL.nil ?_
        refine thenN ?_
        refine WC.ret ?_
        obtain rfl := Option.some.inj (show some l197 = some r from h247)
        exact ret1 (P := Try.prog) (n := 29) (fn := Try.f34) (R := fun v w' => ∃ ra0, ∃ rc0, v = Value.slice ra0 l197.length rc0 ∧ St [] w w' [gslC 60 heldE (Value.slice ra0 l197.length rc0) l197]) (t := 4) (v := Value.slice a198 l197.length c199) rfl rfl rfl ⟨a198, c199, rfl, hs211⟩

end Go.Proofs.Ytckcldimnelklaa

/- The functions come to what their twins answer: group 15s. -/
namespace Go.Proofs.Ytckcldimnelklaa
open Go
set_option linter.unusedVariables false
set_option linter.unusedSimpArgs false
set_option maxRecDepth 100000
set_option maxHeartbeats 4000000

theorem spoil15_ok (w : World) (ok : Nat → Prop) (p0 : List Hd) (a0 : Option Addr) (hok : ∀ b, ok b → out [gslC 60 heldE (Value.slice a0 p0.length p0.length) p0] b) (hL : St [gslC 60 heldE (Value.slice a0 p0.length p0.length) p0] w w [gslC 60 heldE (Value.slice a0 p0.length p0.length) p0]) {r : Unit} (h : spoil15 p0 = some r) :
    Ret Try.prog 40 [Value.slice a0 p0.length p0.length] w (fun v w' => v = Value.tuple #[] ∧ St [gslC 60 heldE (Value.slice a0 p0.length p0.length) p0] w w' []) := by
  rw [spoil15] at h
  have hs100 : St [gslC 60 heldE (Value.slice a0 p0.length p0.length) p0] w w [gslC 60 heldE (Value.slice a0 p0.length p0.length) p0] := hL
  refine enter (n := 29) Try.func40 rfl rfl rfl ?_
  refine WC.seq ?_
  refine WC.region ?_
  refine WL.val (R.move (v := Value.slice a0 p0.length p0.length) rfl) rfl ?_
  refine WL.val (R.move (v := Value.slice a0 p0.length p0.length) rfl) rfl ?_
  refine WL.val (R.cap (a := a0) (n := p0.length) (c := p0.length) un28 rfl) rfl ?_
  refine WL.val (R.sliceTo (n := 56) (m := p0.length) un28 ag60.size rfl rfl rfl (Nat.le_refl _)) rfl ?_
  refine WL.val (R.assign (v := Value.slice a0 p0.length p0.length) rfl) rfl ?_
  refine WL.nil ?_
  refine thenN ?_
  refine WC.seq ?_
  refine WC.region ?_
  refine WL.val (R.assign (v := Value.int .i64 0) rfl) rfl ?_
  refine WL.nil ?_
  refine thenN ?_
  obtain ⟨K201, hK202, h203⟩ := kE (G := fun K201 => spoil15_l1 K201 1000000 0 p0) h
  refine WC.join (fun σ209 w208 => K201 () = some r ∧ St [gslC 60 heldE (Value.slice a0 p0.length p0.length) p0] w w208 []) ?_ ?_
  · refine WC.block ?_
    refine WC.loop (T := Nat) (fun k207 σ205 w204 => ∃ i197 : Int, ∃ l198 : List Hd, ∃ a199, ∃ c200, σ205 2 = (Value.slice a199 l198.length c200) ∧ σ205 3 = (Value.int .i64 i197) ∧ spoil15_l1 K201 k207 i197 l198 = some r ∧ St [gslC 60 heldE (Value.slice a0 p0.length p0.length) p0] w w204 [gslC 60 heldE (Value.slice a199 l198.length c200) l198]) (fun k207 => k207) 1000000 ⟨0, p0, a0, p0.length, rfl, rfl, h203, hs100⟩ ?_
    rintro k207 σ205 w204 ⟨i197, l198, a199, c200, s212, s213, h211, hs206⟩
    rcases k207 with _ | k207
    · rw [spoil15_l1] at h211; cases h211
    rw [spoil15_l1] at h211
    refine WC.seq ?_
    refine WC.seq ?_
    refine WC.region ?_
    refine WL.val (R.move (v := Value.int .i64 i197) (by exact s213)) rfl ?_
    refine WL.val (R.move (v := Value.slice a199 l198.length c200) (by exact s212)) rfl ?_
    refine WL.val (R.len (a := a199) (n := l198.length) (c := c200) un28 rfl) rfl ?_
    by_cases hc214 : i197 < ((l198.length : Nat) : Int)
    · have h215 := ifT hc214 h211
      refine WL.val (R.lssT (k := .i64) (a := i197) (b := ((l198.length : Nat) : Int)) un3 rfl rfl hc214) rfl ?_
      refine WL.nil ?_
      refine thenN ?_
      refine WC.condT rfl rfl ?_
      refine WC.skip ?_
      refine thenN ?_
      refine WC.seq ?_
      refine WC.block ?_
      refine WC.seq ?_
      refine WC.region ?_
      refine WL.val (R.move (v := Value.slice a199 l198.length c200) (by exact s212)) rfl ?_
      refine WL.val (R.move (v := Value.int .i64 i197) (by exact s213)) rfl ?_
      obtain ⟨x216, hx217, h218⟩ := ob (o := rd l198 i197) h215
      obtain ⟨h0219, hx220, hl221, hm222⟩ := rdE hx217
      obtain ⟨b223, c224, hv225, _⟩ := hs206.gslAtC (i := 0) rfl hx220
      refine WL.val (R.indexS (n := 56) (m := (i197).toNat) (ad := ⟨b223, 0, none⟩) (len := (l198).length) (cap := c224) (z := i197) un28 ag60.size (Eq.trans (show _ = Value.slice a199 l198.length c200 from rfl) hv225) rfl rfl hm222 hl221 rfl) rfl ?_
      refine WL.val (R.fieldAddr (o := 0 + (i197).toNat * 56) (o' := 0 + (i197).toNat * 56 + 1) fa60_1 rfl rfl) rfl ?_
      refine WL.val (R.fieldAddr (o := 0 + (i197).toNat * 56 + 1) (o' := 0 + (i197).toNat * 56 + 1) fa58_0 rfl rfl) rfl ?_
      refine WL.sto (L' := [gslC 60 heldE (Value.slice a199 l198.length c200) ((l198).set (i197).toNat (⟨x216.is, (⟨-99, x216.cell.offer, x216.cell.report, x216.cell.view⟩ : Cl)⟩ : Hd))]) (X.storeElC (i := 0) (j := (i197).toNat) (off := 1) (n := 1) (x := x216) (y := (⟨x216.is, (⟨-99, x216.cell.offer, x216.cell.report, x216.cell.view⟩ : Cl)⟩ : Hd)) (vs := [Value.int .i64 (-99)]) (u := Value.int .i64 (-99)) (hs206.here) rfl hx220 hv225 lf2.size rfl rfl rfl rfl rfl rfl (by decide) (rfl) rfl) rfl rfl ?_
      intro w226 ht227
      have hs228 := hs206.trans ht227
      have hs229 : St [gslC 60 heldE (Value.slice a0 p0.length p0.length) p0] w w226 [gslC 60 heldE (Value.slice a199 (((l198).set (i197).toNat (⟨x216.is, (⟨-99, x216.cell.offer, x216.cell.report, x216.cell.view⟩ : Cl)⟩ : Hd)).length) c200) ((l198).set (i197).toNat (⟨x216.is, (⟨-99, x216.cell.offer, x216.cell.report, x216.cell.view⟩ : Cl)⟩ : Hd))] := by first | (simpa only [List.length_set] using hs228) | (simp only [List.length_set]; exact hs228)
      have ht230 : St [gslC 60 heldE (Value.slice a199 l198.length c200) l198] w204 w226 [gslC 60 heldE (Value.slice a199 (((l198).set (i197).toNat (⟨x216.is, (⟨-99, x216.cell.offer, x216.cell.report, x216.cell.view⟩ : Cl)⟩ : Hd)).length) c200) ((l198).set (i197).toNat (⟨x216.is, (⟨-99, x216.cell.offer, x216.cell.report, x216.cell.view⟩ : Cl)⟩ : Hd))] := by first | (simpa only [List.length_set, List.nil_append, List.cons_append] using ht227) | (simp only [List.length_set]; exact ht227)
      refine WL.nil ?_
      refine thenN ?_
      refine WC.region ?_
      refine WL.val (R.move (v := Value.slice a199 (((l198).set (i197).toNat (⟨x216.is, (⟨-99, x216.cell.offer, x216.cell.report, x216.cell.view⟩ : Cl)⟩ : Hd)).length) c200) (by exact (Eq.trans (show _ = Value.slice a199 l198.length c200 from s212) (by simp only [List.length_set])))) rfl ?_
      refine WL.val (R.move (v := Value.int .i64 i197) (by exact s213)) rfl ?_
      refine WL.val (R.move (v := Value.slice a199 (((l198).set (i197).toNat (⟨x216.is, (⟨-99, x216.cell.offer, x216.cell.report, x216.cell.view⟩ : Cl)⟩ : Hd)).length) c200) (by exact (Eq.trans (show _ = Value.slice a199 l198.length c200 from s212) (by simp only [List.length_set])))) rfl ?_
      refine WL.val (R.move (v := Value.int .i64 i197) (by exact s213)) rfl ?_
      obtain ⟨x231, hx232, h233⟩ := ob (o := rd ((l198).set (i197).toNat (⟨x216.is, (⟨-99, x216.cell.offer, x216.cell.report, x216.cell.view⟩ : Cl)⟩ : Hd)) i197) h218
      obtain ⟨h0234, hx235, hl236, hm237⟩ := rdE hx232
      obtain ⟨b238, c239, hv240, _⟩ := hs229.gslAtC (i := 0) rfl hx235
      refine WL.val (R.indexS (n := 56) (m := (i197).toNat) (ad := ⟨b238, 0, none⟩) (len := ((l198).set (i197).toNat (⟨x216.is, (⟨-99, x216.cell.offer, x216.cell.report, x216.cell.view⟩ : Cl)⟩ : Hd)).length) (cap := c239) (z := i197) un28 ag60.size (Eq.trans (show _ = Value.slice a199 (((l198).set (i197).toNat (⟨x216.is, (⟨-99, x216.cell.offer, x216.cell.report, x216.cell.view⟩ : Cl)⟩ : Hd)).length) c200 from rfl) hv240) rfl rfl hm237 hl236 rfl) rfl ?_
      refine WL.val (R.fieldAddr (o := 0 + (i197).toNat * 56) (o' := 0 + (i197).toNat * 56) fa60_0 rfl rfl) rfl ?_
      refine WL.val (R.loadL (v := Value.bool x231.is) lf4 rfl (At.sub (a := ⟨b238, 0 + (i197).toNat * 56, none⟩) (off := 0) (n := 1) (cs := encH x231) (ds := [Value.bool x231.is]) (hs229.gslAtVC (i := 0) rfl hx235 hv240) rfl rfl)) rfl ?_
      refine WL.val (R.not (b := x231.is) rfl) rfl ?_
      obtain ⟨x241, hx242, h243⟩ := ob (o := rd ((l198).set (i197).toNat (⟨x216.is, (⟨-99, x216.cell.offer, x216.cell.report, x216.cell.view⟩ : Cl)⟩ : Hd)) i197) h233
      obtain ⟨h0244, hx245, hl246, hm247⟩ := rdE hx242
      obtain ⟨b248, c249, hv250, _⟩ := hs229.gslAtC (i := 0) rfl hx245
      refine WL.val (R.indexS (n := 56) (m := (i197).toNat) (ad := ⟨b248, 0, none⟩) (len := ((l198).set (i197).toNat (⟨x216.is, (⟨-99, x216.cell.offer, x216.cell.report, x216.cell.view⟩ : Cl)⟩ : Hd)).length) (cap := c249) (z := i197) un28 ag60.size (Eq.trans (show _ = Value.slice a199 (((l198).set (i197).toNat (⟨x216.is, (⟨-99, x216.cell.offer, x216.cell.report, x216.cell.view⟩ : Cl)⟩ : Hd)).length) c200 from rfl) hv250) rfl rfl hm247 hl246 rfl) rfl ?_
      refine WL.val (R.fieldAddr (o := 0 + (i197).toNat * 56) (o' := 0 + (i197).toNat * 56) fa60_0 rfl rfl) rfl ?_
      refine WL.sto (L' := [gslC 60 heldE (Value.slice a199 (((l198).set (i197).toNat (⟨x216.is, (⟨-99, x216.cell.offer, x216.cell.report, x216.cell.view⟩ : Cl)⟩ : Hd)).length) c200) (((l198).set (i197).toNat (⟨x216.is, (⟨-99, x216.cell.offer, x216.cell.report, x216.cell.view⟩ : Cl)⟩ : Hd)).set (i197).toNat (⟨!x231.is, x241.cell⟩ : Hd))]) (X.storeElC (i := 0) (j := (i197).toNat) (off := 0) (n := 1) (x := x241) (y := (⟨!x231.is, x241.cell⟩ : Hd)) (vs := [Value.bool (!x231.is)]) (u := Value.bool (!x231.is)) (hs229.here) rfl hx245 hv250 lf4.size rfl rfl rfl rfl rfl rfl (by decide) (rfl) rfl) rfl rfl ?_
      intro w251 ht252
      have hs253 := hs229.trans ht252
      have hs254 : St [gslC 60 heldE (Value.slice a0 p0.length p0.length) p0] w w251 [gslC 60 heldE (Value.slice a199 ((((l198).set (i197).toNat (⟨x216.is, (⟨-99, x216.cell.offer, x216.cell.report, x216.cell.view⟩ : Cl)⟩ : Hd)).set (i197).toNat (⟨!x231.is, x241.cell⟩ : Hd)).length) c200) (((l198).set (i197).toNat (⟨x216.is, (⟨-99, x216.cell.offer, x216.cell.report, x216.cell.view⟩ : Cl)⟩ : Hd)).set (i197).toNat (⟨!x231.is, x241.cell⟩ : Hd))] := by first | (simpa only [List.length_set] using hs253) | (simp only [List.length_set]; exact hs253)
      have ht255 : St [gslC 60 heldE (Value.slice a199 (((l198).set (i197).toNat (⟨x216.is, (⟨-99, x216.cell.offer, x216.cell.report, x216.cell.view⟩ : Cl)⟩ : Hd)).length) c200) ((l198).set (i197).toNat (⟨x216.is, (⟨-99, x216.cell.offer, x216.cell.report, x216.cell.view⟩ : Cl)⟩ : Hd))] w226 w251 [gslC 60 heldE (Value.slice a199 ((((l198).set (i197).toNat (⟨x216.is, (⟨-99, x216.cell.offer, x216.cell.report, x216.cell.view⟩ : Cl)⟩ : Hd)).set (i197).toNat (⟨!x231.is, x241.cell⟩ : Hd)).length) c200) (((l198).set (i197).toNat (⟨x216.is, (⟨-99, x216.cell.offer, x216.cell.report, x216.cell.view⟩ : Cl)⟩ : Hd)).set (i197).toNat (⟨!x231.is, x241.cell⟩ : Hd))] := by first | (simpa only [List.length_set, List.nil_append, List.cons_append] using ht252) | (simp only [List.length_set]; exact ht252)
      refine WL.nil ?_
      refine blockN ?_
      refine thenN ?_
      refine WC.region ?_
      refine WL.val (R.move (v := Value.int .i64 i197) (by exact s213)) rfl ?_
      obtain ⟨hg256, h257⟩ := ckE (c := -9223372036854775808 ≤ i197 + 1 ∧ i197 + 1 ≤ 9223372036854775807) h243
      refine WL.val (R.add (a := i197) (b := 1) (z := i197 + 1) rfl rfl (w64e rfl hg256.1 hg256.2)) rfl ?_
      refine WL.val (R.assign (v := Value.int .i64 (i197 + 1)) rfl) rfl ?_
      refine WL.nil ?_
      exact roundEnd (s := k207) ⟨i197 + 1, ((l198).set (i197).toNat (⟨x216.is, (⟨-99, x216.cell.offer, x216.cell.report, x216.cell.view⟩ : Cl)⟩ : Hd)).set (i197).toNat (⟨!x231.is, x241.cell⟩ : Hd), a199, c200, (Eq.trans (show _ = Value.slice a199 (((l198).set (i197).toNat (⟨x216.is, (⟨-99, x216.cell.offer, x216.cell.report, x216.cell.view⟩ : Cl)⟩ : Hd)).length) c200 from (Eq.trans (show _ = Value.slice a199 l198.length c200 from s212) (by simp only [List.length_set]))) (by simp only [List.length_set])), rfl, h257, hs254⟩ (Nat.lt_succ_self _)
    · have h258 := ifF hc214 h211
      refine WL.val (R.lssF (k := .i64) (a := i197) (b := ((l198.length : Nat) : Int)) un3 rfl rfl hc214) rfl ?_
      refine WL.nil ?_
      refine thenN ?_
      refine WC.condF rfl rfl ?_
      refine WC.exit ?_
      refine thenE ?_
      refine thenE ?_
      refine blockHit ?_
      have ht259 := (hs206.here).perm (L' := []) (G := [gslC 60 heldE (Value.slice a199 l198.length c200) l198]) ((List.Perm.refl _))
      have hs260 := hs206.trans ht259
      exact joinI ⟨h258, hs260⟩
  · rintro σ209 w208 ⟨h261, hs210⟩
    subst hK202
    obtain rfl := Option.some.inj (show some () = some r from h261)
    exact end0 (P := Try.prog) (n := 29) (fn := Try.f40) (R := fun v w' => v = Value.tuple #[] ∧ St [gslC 60 heldE (Value.slice a0 p0.length p0.length) p0] w w' []) rfl ⟨rfl, hs210⟩

end Go.Proofs.Ytckcldimnelklaa

/- The functions come to what their twins answer: group 15o. -/
namespace Go.Proofs.Ytckcldimnelklaa
open Go
set_option linter.unusedVariables false
set_option linter.unusedSimpArgs false
set_option maxRecDepth 100000
set_option maxHeartbeats 4000000

theorem said15_ok (w : World) (ok : Nat → Prop) (p0 : Int) (p1 : Int) (p2 : Int) {r : Rw} (h : said15 p0 p1 p2 = some r) :
    Ret Try.prog 101 [Value.int .i64 p0, Value.int .i64 p1, Value.int .i64 p2] w (fun v w' => ∃ ra0, ∃ rc0, v = Value.agg (List.toArray (encR r (Value.slice ra0 r.table.length rc0))) ∧ r.table.length ≤ rc0 ∧ elems heldW w' (In ok w [] []) ra0 r.table ∧ St [] w w' []) := by
  rw [said15] at h
  have hs100 : St [] w w [] := St.start w
  refine enter (n := 19) Try.func101 rfl rfl rfl ?_
  refine WC.seq ?_
  refine WC.region ?_
  refine WL.new (L' := fun b101 => [blk b101 62 (encR Rw.none (Value.slice none 0 0))]) (f := fun b101 => Value.pointer (some ⟨b101, 0, none⟩)) (X.alloc (c := encR Rw.none (Value.slice none 0 0)) (hs100.here) zr62 rfl (fun _ => rfl)) rfl ?_
  intro b101 w102 ht107 he104 hz105
  have hs108 := hs100.trans ht107
  refine WL.nil ?_
  refine thenN ?_
  refine WC.seq ?_
  refine WC.region ?_
  refine WL.val (R.move (v := Value.int .i64 p0) rfl) rfl ?_
  obtain ⟨hg109, h110⟩ := ckE (c := 0 ≤ p0 ∧ p0 < 1000000) h
  refine WL.new (L' := fun b111 => [blk b101 62 (encR Rw.none (Value.slice none 0 0)), gsl 60 heldE (Value.slice (some ⟨b111, 0, none⟩) ((List.replicate (p0).toNat Hd.none).length) ((p0).toNat)) (List.replicate (p0).toNat Hd.none)]) (f := fun b111 => Value.slice (some ⟨b111, 0, none⟩) ((List.replicate (p0).toNat Hd.none).length) ((p0).toNat)) (X.makeSliceN (e := heldE) (z := Hd.none) (hs108.here) sl28 rfl rfl rfl hg109 (by decide) List.length_replicate (fun _ => rfl)) rfl ?_
  intro b111 w112 ht116 he113 hz114
  have hs117 := hs108.trans ht116
  have hd118 : ∀ w, (Instr.build 62 #[(0, Value.bool true), (2, Value.slice (some ⟨b111, 0, none⟩) ((List.replicate (p0).toNat Hd.none).length) ((p0).toNat))]).run Try.prog w = .ok (Value.agg (List.toArray ((Value.bool true) :: ((encC Rw.none.cell) ++ ((Value.slice (some ⟨b111, 0, none⟩) ((List.replicate (p0).toNat Hd.none).length) ((p0).toNat)) :: []))))) w := fun _ => by kernel_rfl
  refine WL.val (R.build (vs := [(0, Value.bool true), (2, Value.slice (some ⟨b111, 0, none⟩) ((List.replicate (p0).toNat Hd.none).length) ((p0).toNat))]) rfl hd118) rfl ?_
  refine WL.new (L' := fun b119 => [blk b101 62 (encR Rw.none (Value.slice none 0 0)), gsl 60 heldE (Value.slice (some ⟨b111, 0, none⟩) ((List.replicate (p0).toNat Hd.none).length) ((p0).toNat)) (List.replicate (p0).toNat Hd.none), blk b119 62 (encR Rw.none (Value.slice none 0 0))]) (f := fun b119 => Value.pointer (some ⟨b119, 0, none⟩)) (X.alloc (c := encR Rw.none (Value.slice none 0 0)) (hs117.here) zr62 rfl (fun _ => rfl)) rfl ?_
  intro b119 w120 ht125 he122 hz123
  have hs126 := hs117.trans ht125
  refine WL.sto (L' := [blk b101 62 (encR Rw.none (Value.slice none 0 0)), gsl 60 heldE (Value.slice (some ⟨b111, 0, none⟩) ((List.replicate (p0).toNat Hd.none).length) ((p0).toNat)) (List.replicate (p0).toNat Hd.none), blk b119 62 ((Value.bool true) :: ((encC Rw.none.cell) ++ ((Value.slice (some ⟨b111, 0, none⟩) ((List.replicate (p0).toNat Hd.none).length) ((p0).toNat)) :: [])))]) (X.store (i := 2) (n := 57) (b := b119) (off := 0) (c := encR Rw.none (Value.slice none 0 0)) (U := 62) (vs := (Value.bool true) :: ((encC Rw.none.cell) ++ ((Value.slice (some ⟨b111, 0, none⟩) ((List.replicate (p0).toNat Hd.none).length) ((p0).toNat)) :: []))) (v := Value.agg (List.toArray ((Value.bool true) :: ((encC Rw.none.cell) ++ ((Value.slice (some ⟨b111, 0, none⟩) ((List.replicate (p0).toNat Hd.none).length) ((p0).toNat)) :: []))))) (c' := (Value.bool true) :: ((encC Rw.none.cell) ++ ((Value.slice (some ⟨b111, 0, none⟩) ((List.replicate (p0).toNat Hd.none).length) ((p0).toNat)) :: []))) (hs126.here) rfl ag62.size rfl rfl rfl rfl rfl rfl rfl rfl) rfl rfl ?_
  intro w127 ht128
  have hs129 := hs126.trans ht128
  refine WL.nil ?_
  refine thenN ?_
  refine WC.seq ?_
  refine WC.region ?_
  refine WL.val (R.fieldAddr (o := 0) (o' := 56) fa62_2 rfl rfl) rfl ?_
  refine WL.val (R.loadL (v := Value.slice (some ⟨b111, 0, none⟩) ((List.replicate (p0).toNat Hd.none).length) ((p0).toNat)) lf28 rfl (hs129.at (i := 2) (off := 56) (n := 1) (cs := [Value.slice (some ⟨b111, 0, none⟩) ((List.replicate (p0).toNat Hd.none).length) ((p0).toNat)]) rfl rfl rfl)) rfl ?_
  refine WL.val (R.move (v := Value.int .i64 p1) rfl) rfl ?_
  refine WL.val (R.move (v := Value.int .i64 p2) rfl) rfl ?_
  have hd130 : ∀ w, (Instr.build 58 #[(0, Value.int .i64 p2)]).run Try.prog w = .ok (Value.agg (List.toArray (encC (⟨p2, Cl.zero.offer, Cl.zero.report, Cl.zero.view⟩ : Cl)))) w := fun _ => by kernel_rfl
  refine WL.val (R.build (vs := [(0, Value.int .i64 p2)]) rfl hd130) rfl ?_
  have hd131 : ∀ w, (Instr.build 60 #[(0, Value.bool true), (1, Value.agg (List.toArray (encC (⟨p2, Cl.zero.offer, Cl.zero.report, Cl.zero.view⟩ : Cl))))]).run Try.prog w = .ok (Value.agg (List.toArray (encH (⟨true, (⟨p2, Cl.zero.offer, Cl.zero.report, Cl.zero.view⟩ : Cl)⟩ : Hd)))) w := fun _ => by kernel_rfl
  refine WL.val (R.build (vs := [(0, Value.bool true), (1, Value.agg (List.toArray (encC (⟨p2, Cl.zero.offer, Cl.zero.report, Cl.zero.view⟩ : Cl))))]) rfl hd131) rfl ?_
  obtain ⟨x132, hx133, h134⟩ := ob (o := rd (List.replicate (p0).toNat Hd.none) p1) h110
  obtain ⟨h0135, hx136, hl137, hm138⟩ := rdE hx133
  obtain ⟨b139, c140, hv141, _⟩ := hs129.gslAt (i := 1) rfl hx136
  refine WL.val (R.indexS (n := 56) (m := (p1).toNat) (ad := ⟨b139, 0, none⟩) (len := (List.replicate (p0).toNat Hd.none).length) (cap := c140) (z := p1) un28 ag60.size (Eq.trans (show _ = Value.slice (some ⟨b111, 0, none⟩) ((List.replicate (p0).toNat Hd.none).length) ((p0).toNat) from rfl) hv141) rfl rfl hm138 hl137 rfl) rfl ?_
  refine WL.sto (L' := [blk b101 62 (encR Rw.none (Value.slice none 0 0)), gsl 60 heldE (Value.slice (some ⟨b111, 0, none⟩) ((List.replicate (p0).toNat Hd.none).length) ((p0).toNat)) ((List.replicate (p0).toNat Hd.none).set (p1).toNat (⟨true, (⟨p2, Cl.zero.offer, Cl.zero.report, Cl.zero.view⟩ : Cl)⟩ : Hd)), blk b119 62 ((Value.bool true) :: ((encC Rw.none.cell) ++ ((Value.slice (some ⟨b111, 0, none⟩) ((List.replicate (p0).toNat Hd.none).length) ((p0).toNat)) :: [])))]) (X.storeEl (i := 1) (j := (p1).toNat) (off := 0) (n := 56) (x := x132) (y := (⟨true, (⟨p2, Cl.zero.offer, Cl.zero.report, Cl.zero.view⟩ : Cl)⟩ : Hd)) (vs := encH (⟨true, (⟨p2, Cl.zero.offer, Cl.zero.report, Cl.zero.view⟩ : Cl)⟩ : Hd)) (u := Value.agg (List.toArray (encH (⟨true, (⟨p2, Cl.zero.offer, Cl.zero.report, Cl.zero.view⟩ : Cl)⟩ : Hd)))) (hs129.here) rfl hx136 hv141 ag60.size rfl rfl rfl rfl rfl rfl (by decide) (rfl) rfl) rfl rfl ?_
  intro w142 ht143
  have hs144 := hs129.trans ht143
  have hs145 : St [] w w142 [blk b101 62 (encR Rw.none (Value.slice none 0 0)), gsl 60 heldE (Value.slice (some ⟨b111, 0, none⟩) (((List.replicate (p0).toNat Hd.none).set (p1).toNat (⟨true, (⟨p2, Cl.zero.offer, Cl.zero.report, Cl.zero.view⟩ : Cl)⟩ : Hd)).length) ((p0).toNat)) ((List.replicate (p0).toNat Hd.none).set (p1).toNat (⟨true, (⟨p2, Cl.zero.offer, Cl.zero.report, Cl.zero.view⟩ : Cl)⟩ : Hd)), blk b119 62 ((Value.bool true) :: ((encC Rw.none.cell) ++ ((Value.slice (some ⟨b111, 0, none⟩) (((List.replicate (p0).toNat Hd.none).set (p1).toNat (⟨true, (⟨p2, Cl.zero.offer, Cl.zero.report, Cl.zero.view⟩ : Cl)⟩ : Hd)).length) ((p0).toNat)) :: [])))] := by first | (simpa only [List.length_set] using hs144) | (simp only [List.length_set]; exact hs144)
  have ht146 : St [blk b101 62 (encR Rw.none (Value.slice none 0 0)), gsl 60 heldE (Value.slice (some ⟨b111, 0, none⟩) ((List.replicate (p0).toNat Hd.none).length) ((p0).toNat)) (List.replicate (p0).toNat Hd.none), blk b119 62 ((Value.bool true) :: ((encC Rw.none.cell) ++ ((Value.slice (some ⟨b111, 0, none⟩) ((List.replicate (p0).toNat Hd.none).length) ((p0).toNat)) :: [])))] w127 w142 [blk b101 62 (encR Rw.none (Value.slice none 0 0)), gsl 60 heldE (Value.slice (some ⟨b111, 0, none⟩) (((List.replicate (p0).toNat Hd.none).set (p1).toNat (⟨true, (⟨p2, Cl.zero.offer, Cl.zero.report, Cl.zero.view⟩ : Cl)⟩ : Hd)).length) ((p0).toNat)) ((List.replicate (p0).toNat Hd.none).set (p1).toNat (⟨true, (⟨p2, Cl.zero.offer, Cl.zero.report, Cl.zero.view⟩ : Cl)⟩ : Hd)), blk b119 62 ((Value.bool true) :: ((encC Rw.none.cell) ++ ((Value.slice (some ⟨b111, 0, none⟩) (((List.replicate (p0).toNat Hd.none).set (p1).toNat (⟨true, (⟨p2, Cl.zero.offer, Cl.zero.report, Cl.zero.view⟩ : Cl)⟩ : Hd)).length) ((p0).toNat)) :: [])))] := by first | (simpa only [List.length_set, List.nil_append, List.cons_append] using ht143) | (simp only [List.length_set]; exact ht143)
  refine WL.nil ?_
  refine thenN ?_
  refine WC.seq ?_
  refine WC.region ?_
  refine WL.val (R.loadA (cs := (Value.bool true) :: ((encC Rw.none.cell) ++ ((Value.slice (some ⟨b111, 0, none⟩) (((List.replicate (p0).toNat Hd.none).set (p1).toNat (⟨true, (⟨p2, Cl.zero.offer, Cl.zero.report, Cl.zero.view⟩ : Cl)⟩ : Hd)).length) ((p0).toNat)) :: []))) (n := 57) ag62 rfl (hs145.at (i := 2) (off := 0) (n := 57) (cs := (Value.bool true) :: ((encC Rw.none.cell) ++ ((Value.slice (some ⟨b111, 0, none⟩) (((List.replicate (p0).toNat Hd.none).set (p1).toNat (⟨true, (⟨p2, Cl.zero.offer, Cl.zero.report, Cl.zero.view⟩ : Cl)⟩ : Hd)).length) ((p0).toNat)) :: []))) rfl rfl rfl) rfl) rfl ?_
  refine WL.sto (L' := [blk b101 62 ((Value.bool true) :: ((encC Rw.none.cell) ++ ((Value.slice (some ⟨b111, 0, none⟩) (((List.replicate (p0).toNat Hd.none).set (p1).toNat (⟨true, (⟨p2, Cl.zero.offer, Cl.zero.report, Cl.zero.view⟩ : Cl)⟩ : Hd)).length) ((p0).toNat)) :: []))), gsl 60 heldE (Value.slice (some ⟨b111, 0, none⟩) (((List.replicate (p0).toNat Hd.none).set (p1).toNat (⟨true, (⟨p2, Cl.zero.offer, Cl.zero.report, Cl.zero.view⟩ : Cl)⟩ : Hd)).length) ((p0).toNat)) ((List.replicate (p0).toNat Hd.none).set (p1).toNat (⟨true, (⟨p2, Cl.zero.offer, Cl.zero.report, Cl.zero.view⟩ : Cl)⟩ : Hd)), blk b119 62 ((Value.bool true) :: ((encC Rw.none.cell) ++ ((Value.slice (some ⟨b111, 0, none⟩) (((List.replicate (p0).toNat Hd.none).set (p1).toNat (⟨true, (⟨p2, Cl.zero.offer, Cl.zero.report, Cl.zero.view⟩ : Cl)⟩ : Hd)).length) ((p0).toNat)) :: [])))]) (X.store (i := 0) (n := 57) (b := b101) (off := 0) (c := encR Rw.none (Value.slice none 0 0)) (U := 62) (vs := (Value.bool true) :: ((encC Rw.none.cell) ++ ((Value.slice (some ⟨b111, 0, none⟩) (((List.replicate (p0).toNat Hd.none).set (p1).toNat (⟨true, (⟨p2, Cl.zero.offer, Cl.zero.report, Cl.zero.view⟩ : Cl)⟩ : Hd)).length) ((p0).toNat)) :: []))) (v := Value.agg (List.toArray ((Value.bool true) :: ((encC Rw.none.cell) ++ ((Value.slice (some ⟨b111, 0, none⟩) (((List.replicate (p0).toNat Hd.none).set (p1).toNat (⟨true, (⟨p2, Cl.zero.offer, Cl.zero.report, Cl.zero.view⟩ : Cl)⟩ : Hd)).length) ((p0).toNat)) :: []))))) (c' := (Value.bool true) :: ((encC Rw.none.cell) ++ ((Value.slice (some ⟨b111, 0, none⟩) (((List.replicate (p0).toNat Hd.none).set (p1).toNat (⟨true, (⟨p2, Cl.zero.offer, Cl.zero.report, Cl.zero.view⟩ : Cl)⟩ : Hd)).length) ((p0).toNat)) :: []))) (hs145.here) rfl ag62.size rfl rfl rfl rfl rfl rfl rfl rfl) rfl rfl ?_
  intro w147 ht148
  have hs149 := hs145.trans ht148
  refine WL.nil ?_
  refine thenN ?_
  refine WC.ret ?_
  obtain ⟨a150, c151, hv152, hl153, he154⟩ := el_freeze (k := heldW) (ok := fun _ => False) hs149 ((List.perm_middle (l₁ := [blk b101 62 ((Value.bool true) :: ((encC Rw.none.cell) ++ ((Value.slice (some ⟨b111, 0, none⟩) (((List.replicate (p0).toNat Hd.none).set (p1).toNat (⟨true, (⟨p2, Cl.zero.offer, Cl.zero.report, Cl.zero.view⟩ : Cl)⟩ : Hd)).length) ((p0).toNat)) :: [])))]) (a := gsl 60 heldE (Value.slice (some ⟨b111, 0, none⟩) (((List.replicate (p0).toNat Hd.none).set (p1).toNat (⟨true, (⟨p2, Cl.zero.offer, Cl.zero.report, Cl.zero.view⟩ : Cl)⟩ : Hd)).length) ((p0).toNat)) ((List.replicate (p0).toNat Hd.none).set (p1).toNat (⟨true, (⟨p2, Cl.zero.offer, Cl.zero.report, Cl.zero.view⟩ : Cl)⟩ : Hd))) (l₂ := [blk b119 62 ((Value.bool true) :: ((encC Rw.none.cell) ++ ((Value.slice (some ⟨b111, 0, none⟩) (((List.replicate (p0).toNat Hd.none).set (p1).toNat (⟨true, (⟨p2, Cl.zero.offer, Cl.zero.report, Cl.zero.view⟩ : Cl)⟩ : Hd)).length) ((p0).toNat)) :: [])))])).trans (List.Perm.cons _ (List.Perm.refl _))) rfl (fun _ _ _ => ⟨trivial, rfl⟩)
  obtain ⟨rfl, rfl⟩ : (some ⟨b111, 0, none⟩) = a150 ∧ (p0).toNat = c151 := ⟨(Value.slice.inj hv152).1, (Value.slice.inj hv152).2.2⟩
  have ht155 := (hs149.here).perm (L' := [blk b101 62 ((Value.bool true) :: ((encC Rw.none.cell) ++ ((Value.slice (some ⟨b111, 0, none⟩) (((List.replicate (p0).toNat Hd.none).set (p1).toNat (⟨true, (⟨p2, Cl.zero.offer, Cl.zero.report, Cl.zero.view⟩ : Cl)⟩ : Hd)).length) ((p0).toNat)) :: []))), blk b119 62 ((Value.bool true) :: ((encC Rw.none.cell) ++ ((Value.slice (some ⟨b111, 0, none⟩) (((List.replicate (p0).toNat Hd.none).set (p1).toNat (⟨true, (⟨p2, Cl.zero.offer, Cl.zero.report, Cl.zero.view⟩ : Cl)⟩ : Hd)).length) ((p0).toNat)) :: [])))]) (G := [gsl 60 heldE (Value.slice (some ⟨b111, 0, none⟩) (((List.replicate (p0).toNat Hd.none).set (p1).toNat (⟨true, (⟨p2, Cl.zero.offer, Cl.zero.report, Cl.zero.view⟩ : Cl)⟩ : Hd)).length) ((p0).toNat)) ((List.replicate (p0).toNat Hd.none).set (p1).toNat (⟨true, (⟨p2, Cl.zero.offer, Cl.zero.report, Cl.zero.view⟩ : Cl)⟩ : Hd))]) ((List.Perm.cons _ ((List.perm_middle (l₁ := [gsl 60 heldE (Value.slice (some ⟨b111, 0, none⟩) (((List.replicate (p0).toNat Hd.none).set (p1).toNat (⟨true, (⟨p2, Cl.zero.offer, Cl.zero.report, Cl.zero.view⟩ : Cl)⟩ : Hd)).length) ((p0).toNat)) ((List.replicate (p0).toNat Hd.none).set (p1).toNat (⟨true, (⟨p2, Cl.zero.offer, Cl.zero.report, Cl.zero.view⟩ : Cl)⟩ : Hd))]) (a := blk b119 62 ((Value.bool true) :: ((encC Rw.none.cell) ++ ((Value.slice (some ⟨b111, 0, none⟩) (((List.replicate (p0).toNat Hd.none).set (p1).toNat (⟨true, (⟨p2, Cl.zero.offer, Cl.zero.report, Cl.zero.view⟩ : Cl)⟩ : Hd)).length) ((p0).toNat)) :: [])))) (l₂ := [])).trans (List.Perm.cons _ (List.Perm.refl _)))))
  have hs156 := hs149.trans ht155
  have hl158 := run_loadA (P := Try.prog) (n := 57) ag62 (hs156.at (i := 0) (off := 0) (n := 57) (cs := (Value.bool true) :: ((encC Rw.none.cell) ++ ((Value.slice (some ⟨b111, 0, none⟩) (((List.replicate (p0).toNat Hd.none).set (p1).toNat (⟨true, (⟨p2, Cl.zero.offer, Cl.zero.report, Cl.zero.view⟩ : Cl)⟩ : Hd)).length) ((p0).toNat)) :: []))) rfl rfl rfl) rfl
  have ht159 := (hs156.here).perm (L' := []) (G := [blk b101 62 ((Value.bool true) :: ((encC Rw.none.cell) ++ ((Value.slice (some ⟨b111, 0, none⟩) (((List.replicate (p0).toNat Hd.none).set (p1).toNat (⟨true, (⟨p2, Cl.zero.offer, Cl.zero.report, Cl.zero.view⟩ : Cl)⟩ : Hd)).length) ((p0).toNat)) :: []))), blk b119 62 ((Value.bool true) :: ((encC Rw.none.cell) ++ ((Value.slice (some ⟨b111, 0, none⟩) (((List.replicate (p0).toNat Hd.none).set (p1).toNat (⟨true, (⟨p2, Cl.zero.offer, Cl.zero.report, Cl.zero.view⟩ : Cl)⟩ : Hd)).length) ((p0).toNat)) :: [])))]) ((List.Perm.refl _))
  have hs160 := hs156.trans ht159
  have hr161 := elT ht159 he154
  obtain rfl := Option.some.inj (show some (⟨true, Rw.none.cell, (List.replicate (p0).toNat Hd.none).set (p1).toNat (⟨true, (⟨p2, Cl.zero.offer, Cl.zero.report, Cl.zero.view⟩ : Cl)⟩ : Hd)⟩ : Rw) = some r from h134)
  exact retCell (P := Try.prog) (n := 19) (fn := Try.f101) (R := fun v w' => ∃ ra0, ∃ rc0, v = Value.agg (List.toArray (encR (⟨true, Rw.none.cell, (List.replicate (p0).toNat Hd.none).set (p1).toNat (⟨true, (⟨p2, Cl.zero.offer, Cl.zero.report, Cl.zero.view⟩ : Cl)⟩ : Hd)⟩ : Rw) (Value.slice ra0 (⟨true, Rw.none.cell, (List.replicate (p0).toNat Hd.none).set (p1).toNat (⟨true, (⟨p2, Cl.zero.offer, Cl.zero.report, Cl.zero.view⟩ : Cl)⟩ : Hd)⟩ : Rw).table.length rc0))) ∧ (⟨true, Rw.none.cell, (List.replicate (p0).toNat Hd.none).set (p1).toNat (⟨true, (⟨p2, Cl.zero.offer, Cl.zero.report, Cl.zero.view⟩ : Cl)⟩ : Hd)⟩ : Rw).table.length ≤ rc0 ∧ elems heldW w' (In ok w [] []) ra0 (⟨true, Rw.none.cell, (List.replicate (p0).toNat Hd.none).set (p1).toNat (⟨true, (⟨p2, Cl.zero.offer, Cl.zero.report, Cl.zero.view⟩ : Cl)⟩ : Hd)⟩ : Rw).table ∧ St [] w w' []) (t := 6) (v := Value.agg (List.toArray ((Value.bool true) :: ((encC Rw.none.cell) ++ ((Value.slice (some ⟨b111, 0, none⟩) (((List.replicate (p0).toNat Hd.none).set (p1).toNat (⟨true, (⟨p2, Cl.zero.offer, Cl.zero.report, Cl.zero.view⟩ : Cl)⟩ : Hd)).length) ((p0).toNat)) :: []))))) rfl rfl rfl hl158 ⟨(some ⟨b111, 0, none⟩), (p0).toNat, rfl, hl153, (elN (ok' := ok) hr161), hs160⟩

theorem lives15_ok (w : World) (ok : Nat → Prop)  {r : Bool} (h : lives15  = some r) :
    Ret Try.prog 31 [] w (fun v w' => v = Value.bool r ∧ St [] w w' []) := by
  rw [lives15] at h
  have hs100 : St [] w w [] := St.start w
  refine enter (n := 92) Try.func31 rfl rfl rfl ?_
  refine WC.seq ?_
  refine WC.region ?_
  refine WL.val (R.assign (v := Value.bool false) rfl) rfl ?_
  refine WL.nil ?_
  refine thenN ?_
  refine WC.seq ?_
  refine WC.region ?_
  obtain ⟨y101, hx102, h103⟩ := ob (o := said15 4 0 9) h
  refine WL.call (said15_ok _ (In (fun _ => False) w [] []) 4 0 9  hx102) (R.call (vs := [Value.int .i64 4, Value.int .i64 0, Value.int .i64 9]) (caps := []) bo101 rfl rfl) rfl ?_
  rintro v110 w111 ⟨a106, c107, rfl, hl108, he109, ht104⟩
  have ht105 := hs100.call (N := []) (M := []) (List.Perm.refl _) ht104
  have he112 := elC hs100 (M := []) (List.Perm.refl _) ht104 he109
  have hs113 := hs100.trans ht105
  obtain ⟨y115, hx116, h117⟩ := ob (o := said15 4 0 5) h103
  refine WL.call (said15_ok _ (In (fun _ => False) w [] []) 4 0 5  hx116) (R.call (vs := [Value.int .i64 4, Value.int .i64 0, Value.int .i64 5]) (caps := []) bo101 rfl rfl) rfl ?_
  rintro v124 w125 ⟨a120, c121, rfl, hl122, he123, ht118⟩
  have ht119 := hs113.call (N := []) (M := []) (List.Perm.refl _) ht118
  have he126 := elC hs113 (M := []) (List.Perm.refl _) ht118 he123
  have hs127 := hs113.trans ht119
  obtain ⟨y129, hx130, h131⟩ := ob (o := said15 4 0 5) h117
  refine WL.call (said15_ok _ (In (fun _ => False) w [] []) 4 0 5  hx130) (R.call (vs := [Value.int .i64 4, Value.int .i64 0, Value.int .i64 5]) (caps := []) bo101 rfl rfl) rfl ?_
  rintro v138 w139 ⟨a134, c135, rfl, hl136, he137, ht132⟩
  have ht133 := hs127.call (N := []) (M := []) (List.Perm.refl _) ht132
  have he140 := elC hs127 (M := []) (List.Perm.refl _) ht132 he137
  have hs141 := hs127.trans ht133
  obtain ⟨y143, hx144, h145⟩ := ob (o := said15 4 0 5) h131
  refine WL.call (said15_ok _ (In (fun _ => False) w [] []) 4 0 5  hx144) (R.call (vs := [Value.int .i64 4, Value.int .i64 0, Value.int .i64 5]) (caps := []) bo101 rfl rfl) rfl ?_
  rintro v152 w153 ⟨a148, c149, rfl, hl150, he151, ht146⟩
  have ht147 := hs141.call (N := []) (M := []) (List.Perm.refl _) ht146
  have he154 := elC hs141 (M := []) (List.Perm.refl _) ht146 he151
  have hs155 := hs141.trans ht147
  have hd162 : ∀ w : World, (Instr.buildSlice 22 4 #[(0, Value.agg (List.toArray (encR y101 (Value.slice a106 y101.table.length c107)))), (1, Value.agg (List.toArray (encR y115 (Value.slice a120 y115.table.length c121)))), (2, Value.agg (List.toArray (encR y129 (Value.slice a134 y129.table.length c135)))), (3, Value.agg (List.toArray (encR y143 (Value.slice a148 y143.table.length c149))))]).run Try.prog w = .ok (.slice (some ⟨w.heap.size, 0, none⟩) 4 4) { w with heap := w.heap.push (.cells (List.toArray ((encR y101 (Value.slice a106 y101.table.length c107)) ++ ((encR y115 (Value.slice a120 y115.table.length c121)) ++ ((encR y129 (Value.slice a134 y129.table.length c135)) ++ ((encR y143 (Value.slice a148 y143.table.length c149))))))) 62) } := fun _ => by kernel_rfl
  refine WL.new (L' := fun b157 => [blk b157 62 ((encR y101 (Value.slice a106 y101.table.length c107)) ++ ((encR y115 (Value.slice a120 y115.table.length c121)) ++ ((encR y129 (Value.slice a134 y129.table.length c135)) ++ ((encR y143 (Value.slice a148 y143.table.length c149))))))]) (f := fun b157 => Value.slice (some ⟨b157, 0, none⟩) 4 4) (X.buildSlice (c := (encR y101 (Value.slice a106 y101.table.length c107)) ++ ((encR y115 (Value.slice a120 y115.table.length c121)) ++ ((encR y129 (Value.slice a134 y129.table.length c135)) ++ ((encR y143 (Value.slice a148 y143.table.length c149)))))) (vs := [(0, Value.agg (List.toArray (encR y101 (Value.slice a106 y101.table.length c107)))), (1, Value.agg (List.toArray (encR y115 (Value.slice a120 y115.table.length c121)))), (2, Value.agg (List.toArray (encR y129 (Value.slice a134 y129.table.length c135)))), (3, Value.agg (List.toArray (encR y143 (Value.slice a148 y143.table.length c149))))]) (hs155.here) rfl hd162 (fun _ => rfl)) rfl ?_
  intro b157 w158 ht164 he160 hz161
  have hs165 := hs155.trans ht164
  have hr167 := elT ht164 he154
  have hr168 := elT (ht147.trans ht164) he140
  have hr169 := elT ((ht133.trans ht147).trans ht164) he126
  have hr170 := elT (((ht119.trans ht133).trans ht147).trans ht164) he112
  have hr171 : readsL rowW w158 (In (fun _ => False) w [] [blk b157 62 ((encR y101 (Value.slice a106 y101.table.length c107)) ++ ((encR y115 (Value.slice a120 y115.table.length c121)) ++ ((encR y129 (Value.slice a134 y129.table.length c135)) ++ ((encR y143 (Value.slice a148 y143.table.length c149))))))]) [y101, y115, y129, y143] [(⟨encR y101 (Value.slice a106 y101.table.length c107), rfl, rfl⟩ : Raw 57), (⟨encR y115 (Value.slice a120 y115.table.length c121), rfl, rfl⟩ : Raw 57), (⟨encR y129 (Value.slice a134 y129.table.length c135), rfl, rfl⟩ : Raw 57), (⟨encR y143 (Value.slice a148 y143.table.length c149), rfl, rfl⟩ : Raw 57)] := (readsL_cons ⟨_, rfl, ⟨_, _, rfl, hl108, hr170⟩⟩ (readsL_cons ⟨_, rfl, ⟨_, _, rfl, hl122, hr169⟩⟩ (readsL_cons ⟨_, rfl, ⟨_, _, rfl, hl136, hr168⟩⟩ (readsL_cons ⟨_, rfl, ⟨_, _, rfl, hl150, hr167⟩⟩ readsL_nil))))
  have ht166 : St [blk b157 62 ((encR y101 (Value.slice a106 y101.table.length c107)) ++ ((encR y115 (Value.slice a120 y115.table.length c121)) ++ ((encR y129 (Value.slice a134 y129.table.length c135)) ++ ((encR y143 (Value.slice a148 y143.table.length c149))))))] w158 w158 [gsl 62 (rawE 57) (Value.slice (some ⟨b157, 0, none⟩) (([y101, y115, y129, y143]).length) 4) [(⟨encR y101 (Value.slice a106 y101.table.length c107), rfl, rfl⟩ : Raw 57), (⟨encR y115 (Value.slice a120 y115.table.length c121), rfl, rfl⟩ : Raw 57), (⟨encR y129 (Value.slice a134 y129.table.length c135), rfl, rfl⟩ : Raw 57), (⟨encR y143 (Value.slice a148 y143.table.length c149), rfl, rfl⟩ : Raw 57)]] := (hs165.here).conv (i := 0) rfl (arr_gsl (E := 62) (e := (rawE 57)) (xs := [(⟨encR y101 (Value.slice a106 y101.table.length c107), rfl, rfl⟩ : Raw 57), (⟨encR y115 (Value.slice a120 y115.table.length c121), rfl, rfl⟩ : Raw 57), (⟨encR y129 (Value.slice a134 y129.table.length c135), rfl, rfl⟩ : Raw 57), (⟨encR y143 (Value.slice a148 y143.table.length c149), rfl, rfl⟩ : Raw 57)]) (hs165.heap (i := 0) rfl) (show (4 : Nat) ≤ maxLen from by decide)) (fun b hb => (Option.some.inj hb).symm) rfl
  have hs173 := hs165.trans ht166
  have hr180 := rlT ht166 hr171
  obtain ⟨a174, c175, hv176, hl177, he178⟩ := el_freezeR hs173 (List.Perm.refl _) rfl hr180
  obtain ⟨rfl, rfl⟩ : (some ⟨b157, 0, none⟩) = a174 ∧ 4 = c175 := ⟨(Value.slice.inj hv176).1, (Value.slice.inj hv176).2.2⟩
  have ht179 := (hs173.here).perm (L' := []) (G := [gsl 62 (rawE 57) (Value.slice (some ⟨b157, 0, none⟩) (([y101, y115, y129, y143]).length) 4) [(⟨encR y101 (Value.slice a106 y101.table.length c107), rfl, rfl⟩ : Raw 57), (⟨encR y115 (Value.slice a120 y115.table.length c121), rfl, rfl⟩ : Raw 57), (⟨encR y129 (Value.slice a134 y129.table.length c135), rfl, rfl⟩ : Raw 57), (⟨encR y143 (Value.slice a148 y143.table.length c149), rfl, rfl⟩ : Raw 57)]]) ((List.Perm.refl _))
  have hs181 := hs173.trans ht179
  obtain ⟨y183, hx184, h185⟩ := ob (o := agree15 4 [y101, y115, y129, y143]) h145
  refine WL.call (agree15_ok _ _ 4 [y101, y115, y129, y143] _ _ he178 hl177 hx184) (R.call (vs := [Value.int .i64 4, Value.slice (some ⟨b157, 0, none⟩) 4 4]) (caps := []) bo34 rfl rfl) rfl ?_
  rintro v192 w193 ⟨a188, c189, rfl, hl190, he191, ht186⟩
  have ht187 := hs181.call (N := []) (M := []) (List.Perm.refl _) ht186
  have he194 := elC hs181 (M := []) (List.Perm.refl _) ht186 he191
  have hs195 := hs181.trans ht187
  refine WL.val (R.assign (v := Value.slice a188 y183.length c189) rfl) rfl ?_
  refine WL.nil ?_
  refine thenN ?_
  refine WC.seq ?_
  refine WC.region ?_
  obtain ⟨y197, hx198, h199⟩ := ob (o := said15 4 0 9) h185
  refine WL.call (said15_ok _ (In (fun _ => False) w [] []) 4 0 9  hx198) (R.call (vs := [Value.int .i64 4, Value.int .i64 0, Value.int .i64 9]) (caps := []) bo101 rfl rfl) rfl ?_
  rintro v206 w207 ⟨a202, c203, rfl, hl204, he205, ht200⟩
  have ht201 := hs195.call (N := []) (M := []) (List.Perm.refl _) ht200
  have he208 := elC hs195 (M := []) (List.Perm.refl _) ht200 he205
  have hs209 := hs195.trans ht201
  obtain ⟨y211, hx212, h213⟩ := ob (o := said15 4 0 5) h199
  refine WL.call (said15_ok _ (In (fun _ => False) w [] []) 4 0 5  hx212) (R.call (vs := [Value.int .i64 4, Value.int .i64 0, Value.int .i64 5]) (caps := []) bo101 rfl rfl) rfl ?_
  rintro v220 w221 ⟨a216, c217, rfl, hl218, he219, ht214⟩
  have ht215 := hs209.call (N := []) (M := []) (List.Perm.refl _) ht214
  have he222 := elC hs209 (M := []) (List.Perm.refl _) ht214 he219
  have hs223 := hs209.trans ht215
  obtain ⟨y225, hx226, h227⟩ := ob (o := said15 4 0 6) h213
  refine WL.call (said15_ok _ (In (fun _ => False) w [] []) 4 0 6  hx226) (R.call (vs := [Value.int .i64 4, Value.int .i64 0, Value.int .i64 6]) (caps := []) bo101 rfl rfl) rfl ?_
  rintro v234 w235 ⟨a230, c231, rfl, hl232, he233, ht228⟩
  have ht229 := hs223.call (N := []) (M := []) (List.Perm.refl _) ht228
  have he236 := elC hs223 (M := []) (List.Perm.refl _) ht228 he233
  have hs237 := hs223.trans ht229
  obtain ⟨y239, hx240, h241⟩ := ob (o := said15 4 0 5) h227
  refine WL.call (said15_ok _ (In (fun _ => False) w [] []) 4 0 5  hx240) (R.call (vs := [Value.int .i64 4, Value.int .i64 0, Value.int .i64 5]) (caps := []) bo101 rfl rfl) rfl ?_
  rintro v248 w249 ⟨a244, c245, rfl, hl246, he247, ht242⟩
  have ht243 := hs237.call (N := []) (M := []) (List.Perm.refl _) ht242
  have he250 := elC hs237 (M := []) (List.Perm.refl _) ht242 he247
  have hs251 := hs237.trans ht243
  have hd258 : ∀ w : World, (Instr.buildSlice 22 4 #[(0, Value.agg (List.toArray (encR y197 (Value.slice a202 y197.table.length c203)))), (1, Value.agg (List.toArray (encR y211 (Value.slice a216 y211.table.length c217)))), (2, Value.agg (List.toArray (encR y225 (Value.slice a230 y225.table.length c231)))), (3, Value.agg (List.toArray (encR y239 (Value.slice a244 y239.table.length c245))))]).run Try.prog w = .ok (.slice (some ⟨w.heap.size, 0, none⟩) 4 4) { w with heap := w.heap.push (.cells (List.toArray ((encR y197 (Value.slice a202 y197.table.length c203)) ++ ((encR y211 (Value.slice a216 y211.table.length c217)) ++ ((encR y225 (Value.slice a230 y225.table.length c231)) ++ ((encR y239 (Value.slice a244 y239.table.length c245))))))) 62) } := fun _ => by kernel_rfl
  refine WL.new (L' := fun b253 => [blk b253 62 ((encR y197 (Value.slice a202 y197.table.length c203)) ++ ((encR y211 (Value.slice a216 y211.table.length c217)) ++ ((encR y225 (Value.slice a230 y225.table.length c231)) ++ ((encR y239 (Value.slice a244 y239.table.length c245))))))]) (f := fun b253 => Value.slice (some ⟨b253, 0, none⟩) 4 4) (X.buildSlice (c := (encR y197 (Value.slice a202 y197.table.length c203)) ++ ((encR y211 (Value.slice a216 y211.table.length c217)) ++ ((encR y225 (Value.slice a230 y225.table.length c231)) ++ ((encR y239 (Value.slice a244 y239.table.length c245)))))) (vs := [(0, Value.agg (List.toArray (encR y197 (Value.slice a202 y197.table.length c203)))), (1, Value.agg (List.toArray (encR y211 (Value.slice a216 y211.table.length c217)))), (2, Value.agg (List.toArray (encR y225 (Value.slice a230 y225.table.length c231)))), (3, Value.agg (List.toArray (encR y239 (Value.slice a244 y239.table.length c245))))]) (hs251.here) rfl hd258 (fun _ => rfl)) rfl ?_
  intro b253 w254 ht260 he256 hz257
  have hs261 := hs251.trans ht260
  have hr263 := elT ht260 he250
  have hr264 := elT (ht243.trans ht260) he236
  have hr265 := elT ((ht229.trans ht243).trans ht260) he222
  have hr266 := elT (((ht215.trans ht229).trans ht243).trans ht260) he208
  have hr267 : readsL rowW w254 (In (fun _ => False) w [] [blk b253 62 ((encR y197 (Value.slice a202 y197.table.length c203)) ++ ((encR y211 (Value.slice a216 y211.table.length c217)) ++ ((encR y225 (Value.slice a230 y225.table.length c231)) ++ ((encR y239 (Value.slice a244 y239.table.length c245))))))]) [y197, y211, y225, y239] [(⟨encR y197 (Value.slice a202 y197.table.length c203), rfl, rfl⟩ : Raw 57), (⟨encR y211 (Value.slice a216 y211.table.length c217), rfl, rfl⟩ : Raw 57), (⟨encR y225 (Value.slice a230 y225.table.length c231), rfl, rfl⟩ : Raw 57), (⟨encR y239 (Value.slice a244 y239.table.length c245), rfl, rfl⟩ : Raw 57)] := (readsL_cons ⟨_, rfl, ⟨_, _, rfl, hl204, hr266⟩⟩ (readsL_cons ⟨_, rfl, ⟨_, _, rfl, hl218, hr265⟩⟩ (readsL_cons ⟨_, rfl, ⟨_, _, rfl, hl232, hr264⟩⟩ (readsL_cons ⟨_, rfl, ⟨_, _, rfl, hl246, hr263⟩⟩ readsL_nil))))
  have ht262 : St [blk b253 62 ((encR y197 (Value.slice a202 y197.table.length c203)) ++ ((encR y211 (Value.slice a216 y211.table.length c217)) ++ ((encR y225 (Value.slice a230 y225.table.length c231)) ++ ((encR y239 (Value.slice a244 y239.table.length c245))))))] w254 w254 [gsl 62 (rawE 57) (Value.slice (some ⟨b253, 0, none⟩) (([y197, y211, y225, y239]).length) 4) [(⟨encR y197 (Value.slice a202 y197.table.length c203), rfl, rfl⟩ : Raw 57), (⟨encR y211 (Value.slice a216 y211.table.length c217), rfl, rfl⟩ : Raw 57), (⟨encR y225 (Value.slice a230 y225.table.length c231), rfl, rfl⟩ : Raw 57), (⟨encR y239 (Value.slice a244 y239.table.length c245), rfl, rfl⟩ : Raw 57)]] := (hs261.here).conv (i := 0) rfl (arr_gsl (E := 62) (e := (rawE 57)) (xs := [(⟨encR y197 (Value.slice a202 y197.table.length c203), rfl, rfl⟩ : Raw 57), (⟨encR y211 (Value.slice a216 y211.table.length c217), rfl, rfl⟩ : Raw 57), (⟨encR y225 (Value.slice a230 y225.table.length c231), rfl, rfl⟩ : Raw 57), (⟨encR y239 (Value.slice a244 y239.table.length c245), rfl, rfl⟩ : Raw 57)]) (hs261.heap (i := 0) rfl) (show (4 : Nat) ≤ maxLen from by decide)) (fun b hb => (Option.some.inj hb).symm) rfl
  have hs269 := hs261.trans ht262
  have hr276 := rlT ht262 hr267
  obtain ⟨a270, c271, hv272, hl273, he274⟩ := el_freezeR hs269 (List.Perm.refl _) rfl hr276
  obtain ⟨rfl, rfl⟩ : (some ⟨b253, 0, none⟩) = a270 ∧ 4 = c271 := ⟨(Value.slice.inj hv272).1, (Value.slice.inj hv272).2.2⟩
  have ht275 := (hs269.here).perm (L' := []) (G := [gsl 62 (rawE 57) (Value.slice (some ⟨b253, 0, none⟩) (([y197, y211, y225, y239]).length) 4) [(⟨encR y197 (Value.slice a202 y197.table.length c203), rfl, rfl⟩ : Raw 57), (⟨encR y211 (Value.slice a216 y211.table.length c217), rfl, rfl⟩ : Raw 57), (⟨encR y225 (Value.slice a230 y225.table.length c231), rfl, rfl⟩ : Raw 57), (⟨encR y239 (Value.slice a244 y239.table.length c245), rfl, rfl⟩ : Raw 57)]]) ((List.Perm.refl _))
  have hs277 := hs269.trans ht275
  obtain ⟨y279, hx280, h281⟩ := ob (o := agree15 4 [y197, y211, y225, y239]) h241
  refine WL.call (agree15_ok _ _ 4 [y197, y211, y225, y239] _ _ he274 hl273 hx280) (R.call (vs := [Value.int .i64 4, Value.slice (some ⟨b253, 0, none⟩) 4 4]) (caps := []) bo34 rfl rfl) rfl ?_
  rintro v288 w289 ⟨a284, c285, rfl, hl286, he287, ht282⟩
  have ht283 := hs277.call (N := []) (M := []) (List.Perm.refl _) ht282
  have he290 := elC hs277 (M := []) (List.Perm.refl _) ht282 he287
  have hs291 := hs277.trans ht283
  refine WL.val (R.assign (v := Value.slice a284 y279.length c285) rfl) rfl ?_
  refine WL.nil ?_
  refine thenN ?_
  refine WC.seq ?_
  refine WC.region ?_
  obtain ⟨y293, hx294, h295⟩ := ob (o := said15 4 0 9) h281
  refine WL.call (said15_ok _ (In (fun _ => False) w [] []) 4 0 9  hx294) (R.call (vs := [Value.int .i64 4, Value.int .i64 0, Value.int .i64 9]) (caps := []) bo101 rfl rfl) rfl ?_
  rintro v302 w303 ⟨a298, c299, rfl, hl300, he301, ht296⟩
  have ht297 := hs291.call (N := []) (M := []) (List.Perm.refl _) ht296
  have he304 := elC hs291 (M := []) (List.Perm.refl _) ht296 he301
  have hs305 := hs291.trans ht297
  obtain ⟨y307, hx308, h309⟩ := ob (o := said15 4 0 5) h295
  refine WL.call (said15_ok _ (In (fun _ => False) w [] []) 4 0 5  hx308) (R.call (vs := [Value.int .i64 4, Value.int .i64 0, Value.int .i64 5]) (caps := []) bo101 rfl rfl) rfl ?_
  rintro v316 w317 ⟨a312, c313, rfl, hl314, he315, ht310⟩
  have ht311 := hs305.call (N := []) (M := []) (List.Perm.refl _) ht310
  have he318 := elC hs305 (M := []) (List.Perm.refl _) ht310 he315
  have hs319 := hs305.trans ht311
  obtain ⟨y321, hx322, h323⟩ := ob (o := said15 4 0 6) h309
  refine WL.call (said15_ok _ (In (fun _ => False) w [] []) 4 0 6  hx322) (R.call (vs := [Value.int .i64 4, Value.int .i64 0, Value.int .i64 6]) (caps := []) bo101 rfl rfl) rfl ?_
  rintro v330 w331 ⟨a326, c327, rfl, hl328, he329, ht324⟩
  have ht325 := hs319.call (N := []) (M := []) (List.Perm.refl _) ht324
  have he332 := elC hs319 (M := []) (List.Perm.refl _) ht324 he329
  have hs333 := hs319.trans ht325
  obtain ⟨y335, hx336, h337⟩ := ob (o := said15 4 0 7) h323
  refine WL.call (said15_ok _ (In (fun _ => False) w [] []) 4 0 7  hx336) (R.call (vs := [Value.int .i64 4, Value.int .i64 0, Value.int .i64 7]) (caps := []) bo101 rfl rfl) rfl ?_
  rintro v344 w345 ⟨a340, c341, rfl, hl342, he343, ht338⟩
  have ht339 := hs333.call (N := []) (M := []) (List.Perm.refl _) ht338
  have he346 := elC hs333 (M := []) (List.Perm.refl _) ht338 he343
  have hs347 := hs333.trans ht339
  have hd354 : ∀ w : World, (Instr.buildSlice 22 4 #[(0, Value.agg (List.toArray (encR y293 (Value.slice a298 y293.table.length c299)))), (1, Value.agg (List.toArray (encR y307 (Value.slice a312 y307.table.length c313)))), (2, Value.agg (List.toArray (encR y321 (Value.slice a326 y321.table.length c327)))), (3, Value.agg (List.toArray (encR y335 (Value.slice a340 y335.table.length c341))))]).run Try.prog w = .ok (.slice (some ⟨w.heap.size, 0, none⟩) 4 4) { w with heap := w.heap.push (.cells (List.toArray ((encR y293 (Value.slice a298 y293.table.length c299)) ++ ((encR y307 (Value.slice a312 y307.table.length c313)) ++ ((encR y321 (Value.slice a326 y321.table.length c327)) ++ ((encR y335 (Value.slice a340 y335.table.length c341))))))) 62) } := fun _ => by kernel_rfl
  refine WL.new (L' := fun b349 => [blk b349 62 ((encR y293 (Value.slice a298 y293.table.length c299)) ++ ((encR y307 (Value.slice a312 y307.table.length c313)) ++ ((encR y321 (Value.slice a326 y321.table.length c327)) ++ ((encR y335 (Value.slice a340 y335.table.length c341))))))]) (f := fun b349 => Value.slice (some ⟨b349, 0, none⟩) 4 4) (X.buildSlice (c := (encR y293 (Value.slice a298 y293.table.length c299)) ++ ((encR y307 (Value.slice a312 y307.table.length c313)) ++ ((encR y321 (Value.slice a326 y321.table.length c327)) ++ ((encR y335 (Value.slice a340 y335.table.length c341)))))) (vs := [(0, Value.agg (List.toArray (encR y293 (Value.slice a298 y293.table.length c299)))), (1, Value.agg (List.toArray (encR y307 (Value.slice a312 y307.table.length c313)))), (2, Value.agg (List.toArray (encR y321 (Value.slice a326 y321.table.length c327)))), (3, Value.agg (List.toArray (encR y335 (Value.slice a340 y335.table.length c341))))]) (hs347.here) rfl hd354 (fun _ => rfl)) rfl ?_
  intro b349 w350 ht356 he352 hz353
  have hs357 := hs347.trans ht356
  have hr359 := elT ht356 he346
  have hr360 := elT (ht339.trans ht356) he332
  have hr361 := elT ((ht325.trans ht339).trans ht356) he318
  have hr362 := elT (((ht311.trans ht325).trans ht339).trans ht356) he304
  have hr363 : readsL rowW w350 (In (fun _ => False) w [] [blk b349 62 ((encR y293 (Value.slice a298 y293.table.length c299)) ++ ((encR y307 (Value.slice a312 y307.table.length c313)) ++ ((encR y321 (Value.slice a326 y321.table.length c327)) ++ ((encR y335 (Value.slice a340 y335.table.length c341))))))]) [y293, y307, y321, y335] [(⟨encR y293 (Value.slice a298 y293.table.length c299), rfl, rfl⟩ : Raw 57), (⟨encR y307 (Value.slice a312 y307.table.length c313), rfl, rfl⟩ : Raw 57), (⟨encR y321 (Value.slice a326 y321.table.length c327), rfl, rfl⟩ : Raw 57), (⟨encR y335 (Value.slice a340 y335.table.length c341), rfl, rfl⟩ : Raw 57)] := (readsL_cons ⟨_, rfl, ⟨_, _, rfl, hl300, hr362⟩⟩ (readsL_cons ⟨_, rfl, ⟨_, _, rfl, hl314, hr361⟩⟩ (readsL_cons ⟨_, rfl, ⟨_, _, rfl, hl328, hr360⟩⟩ (readsL_cons ⟨_, rfl, ⟨_, _, rfl, hl342, hr359⟩⟩ readsL_nil))))
  have ht358 : St [blk b349 62 ((encR y293 (Value.slice a298 y293.table.length c299)) ++ ((encR y307 (Value.slice a312 y307.table.length c313)) ++ ((encR y321 (Value.slice a326 y321.table.length c327)) ++ ((encR y335 (Value.slice a340 y335.table.length c341))))))] w350 w350 [gsl 62 (rawE 57) (Value.slice (some ⟨b349, 0, none⟩) (([y293, y307, y321, y335]).length) 4) [(⟨encR y293 (Value.slice a298 y293.table.length c299), rfl, rfl⟩ : Raw 57), (⟨encR y307 (Value.slice a312 y307.table.length c313), rfl, rfl⟩ : Raw 57), (⟨encR y321 (Value.slice a326 y321.table.length c327), rfl, rfl⟩ : Raw 57), (⟨encR y335 (Value.slice a340 y335.table.length c341), rfl, rfl⟩ : Raw 57)]] := (hs357.here).conv (i := 0) rfl (arr_gsl (E := 62) (e := (rawE 57)) (xs := [(⟨encR y293 (Value.slice a298 y293.table.length c299), rfl, rfl⟩ : Raw 57), (⟨encR y307 (Value.slice a312 y307.table.length c313), rfl, rfl⟩ : Raw 57), (⟨encR y321 (Value.slice a326 y321.table.length c327), rfl, rfl⟩ : Raw 57), (⟨encR y335 (Value.slice a340 y335.table.length c341), rfl, rfl⟩ : Raw 57)]) (hs357.heap (i := 0) rfl) (show (4 : Nat) ≤ maxLen from by decide)) (fun b hb => (Option.some.inj hb).symm) rfl
  have hs365 := hs357.trans ht358
  have hr372 := rlT ht358 hr363
  obtain ⟨a366, c367, hv368, hl369, he370⟩ := el_freezeR hs365 (List.Perm.refl _) rfl hr372
  obtain ⟨rfl, rfl⟩ : (some ⟨b349, 0, none⟩) = a366 ∧ 4 = c367 := ⟨(Value.slice.inj hv368).1, (Value.slice.inj hv368).2.2⟩
  have ht371 := (hs365.here).perm (L' := []) (G := [gsl 62 (rawE 57) (Value.slice (some ⟨b349, 0, none⟩) (([y293, y307, y321, y335]).length) 4) [(⟨encR y293 (Value.slice a298 y293.table.length c299), rfl, rfl⟩ : Raw 57), (⟨encR y307 (Value.slice a312 y307.table.length c313), rfl, rfl⟩ : Raw 57), (⟨encR y321 (Value.slice a326 y321.table.length c327), rfl, rfl⟩ : Raw 57), (⟨encR y335 (Value.slice a340 y335.table.length c341), rfl, rfl⟩ : Raw 57)]]) ((List.Perm.refl _))
  have hs373 := hs365.trans ht371
  obtain ⟨y375, hx376, h377⟩ := ob (o := agree15 4 [y293, y307, y321, y335]) h337
  refine WL.call (agree15_ok _ _ 4 [y293, y307, y321, y335] _ _ he370 hl369 hx376) (R.call (vs := [Value.int .i64 4, Value.slice (some ⟨b349, 0, none⟩) 4 4]) (caps := []) bo34 rfl rfl) rfl ?_
  rintro v384 w385 ⟨a380, c381, rfl, hl382, he383, ht378⟩
  have ht379 := hs373.call (N := []) (M := []) (List.Perm.refl _) ht378
  have he386 := elC hs373 (M := []) (List.Perm.refl _) ht378 he383
  have hs387 := hs373.trans ht379
  refine WL.val (R.assign (v := Value.slice a380 y375.length c381) rfl) rfl ?_
  refine WL.nil ?_
  refine thenN ?_
  refine WC.seq ?_
  refine WC.region ?_
  have hd389 : ∀ w, (Instr.build 58 #[(0, Value.int .i64 3)]).run Try.prog w = .ok (Value.agg (List.toArray (encC (⟨3, Cl.zero.offer, Cl.zero.report, Cl.zero.view⟩ : Cl)))) w := fun _ => by kernel_rfl
  refine WL.val (R.build (vs := [(0, Value.int .i64 3)]) rfl hd389) rfl ?_
  have hd390 : ∀ w, (Instr.build 62 #[(0, Value.bool true), (1, Value.agg (List.toArray (encC (⟨3, Cl.zero.offer, Cl.zero.report, Cl.zero.view⟩ : Cl))))]).run Try.prog w = .ok (Value.agg (List.toArray ((Value.bool true) :: ((encC (⟨3, Cl.zero.offer, Cl.zero.report, Cl.zero.view⟩ : Cl)) ++ ((Value.slice none 0 0) :: []))))) w := fun _ => by kernel_rfl
  refine WL.val (R.build (vs := [(0, Value.bool true), (1, Value.agg (List.toArray (encC (⟨3, Cl.zero.offer, Cl.zero.report, Cl.zero.view⟩ : Cl))))]) rfl hd390) rfl ?_
  have hd391 : ∀ w, (Instr.build 62 #[]).run Try.prog w = .ok (Value.agg (List.toArray (encR Rw.none (Value.slice none 0 0)))) w := fun _ => by kernel_rfl
  refine WL.val (R.build (vs := []) rfl hd391) rfl ?_
  have hd397 : ∀ w : World, (Instr.buildSlice 22 2 #[(0, Value.agg (List.toArray ((Value.bool true) :: ((encC (⟨3, Cl.zero.offer, Cl.zero.report, Cl.zero.view⟩ : Cl)) ++ ((Value.slice none 0 0) :: []))))), (1, Value.agg (List.toArray (encR Rw.none (Value.slice none 0 0))))]).run Try.prog w = .ok (.slice (some ⟨w.heap.size, 0, none⟩) 2 2) { w with heap := w.heap.push (.cells (List.toArray (((Value.bool true) :: ((encC (⟨3, Cl.zero.offer, Cl.zero.report, Cl.zero.view⟩ : Cl)) ++ ((Value.slice none 0 0) :: []))) ++ ((encR Rw.none (Value.slice none 0 0))))) 62) } := fun _ => by kernel_rfl
  refine WL.new (L' := fun b392 => [blk b392 62 (((Value.bool true) :: ((encC (⟨3, Cl.zero.offer, Cl.zero.report, Cl.zero.view⟩ : Cl)) ++ ((Value.slice none 0 0) :: []))) ++ ((encR Rw.none (Value.slice none 0 0))))]) (f := fun b392 => Value.slice (some ⟨b392, 0, none⟩) 2 2) (X.buildSlice (c := ((Value.bool true) :: ((encC (⟨3, Cl.zero.offer, Cl.zero.report, Cl.zero.view⟩ : Cl)) ++ ((Value.slice none 0 0) :: []))) ++ ((encR Rw.none (Value.slice none 0 0)))) (vs := [(0, Value.agg (List.toArray ((Value.bool true) :: ((encC (⟨3, Cl.zero.offer, Cl.zero.report, Cl.zero.view⟩ : Cl)) ++ ((Value.slice none 0 0) :: []))))), (1, Value.agg (List.toArray (encR Rw.none (Value.slice none 0 0))))]) (hs387.here) rfl hd397 (fun _ => rfl)) rfl ?_
  intro b392 w393 ht399 he395 hz396
  have hs400 := hs387.trans ht399
  have hr402 : readsL rowW w393 (In (fun _ => False) w [] [blk b392 62 (((Value.bool true) :: ((encC (⟨3, Cl.zero.offer, Cl.zero.report, Cl.zero.view⟩ : Cl)) ++ ((Value.slice none 0 0) :: []))) ++ ((encR Rw.none (Value.slice none 0 0))))]) [(⟨true, (⟨3, Cl.zero.offer, Cl.zero.report, Cl.zero.view⟩ : Cl), []⟩ : Rw), Rw.none] [(⟨(Value.bool true) :: ((encC (⟨3, Cl.zero.offer, Cl.zero.report, Cl.zero.view⟩ : Cl)) ++ ((Value.slice none 0 0) :: [])), rfl, rfl⟩ : Raw 57), (⟨encR Rw.none (Value.slice none 0 0), rfl, rfl⟩ : Raw 57)] := (readsL_cons ⟨_, rfl, ⟨_, _, rfl, Nat.le_refl _, elems_nil⟩⟩ (readsL_cons ⟨_, rfl, ⟨_, _, rfl, Nat.le_refl _, elems_nil⟩⟩ readsL_nil))
  have ht401 : St [blk b392 62 (((Value.bool true) :: ((encC (⟨3, Cl.zero.offer, Cl.zero.report, Cl.zero.view⟩ : Cl)) ++ ((Value.slice none 0 0) :: []))) ++ ((encR Rw.none (Value.slice none 0 0))))] w393 w393 [gsl 62 (rawE 57) (Value.slice (some ⟨b392, 0, none⟩) (([(⟨true, (⟨3, Cl.zero.offer, Cl.zero.report, Cl.zero.view⟩ : Cl), []⟩ : Rw), Rw.none]).length) 2) [(⟨(Value.bool true) :: ((encC (⟨3, Cl.zero.offer, Cl.zero.report, Cl.zero.view⟩ : Cl)) ++ ((Value.slice none 0 0) :: [])), rfl, rfl⟩ : Raw 57), (⟨encR Rw.none (Value.slice none 0 0), rfl, rfl⟩ : Raw 57)]] := (hs400.here).conv (i := 0) rfl (arr_gsl (E := 62) (e := (rawE 57)) (xs := [(⟨(Value.bool true) :: ((encC (⟨3, Cl.zero.offer, Cl.zero.report, Cl.zero.view⟩ : Cl)) ++ ((Value.slice none 0 0) :: [])), rfl, rfl⟩ : Raw 57), (⟨encR Rw.none (Value.slice none 0 0), rfl, rfl⟩ : Raw 57)]) (hs400.heap (i := 0) rfl) (show (2 : Nat) ≤ maxLen from by decide)) (fun b hb => (Option.some.inj hb).symm) rfl
  have hs404 := hs400.trans ht401
  have hr411 := rlT ht401 hr402
  obtain ⟨a405, c406, hv407, hl408, he409⟩ := el_freezeR hs404 (List.Perm.refl _) rfl hr411
  obtain ⟨rfl, rfl⟩ : (some ⟨b392, 0, none⟩) = a405 ∧ 2 = c406 := ⟨(Value.slice.inj hv407).1, (Value.slice.inj hv407).2.2⟩
  have ht410 := (hs404.here).perm (L' := []) (G := [gsl 62 (rawE 57) (Value.slice (some ⟨b392, 0, none⟩) (([(⟨true, (⟨3, Cl.zero.offer, Cl.zero.report, Cl.zero.view⟩ : Cl), []⟩ : Rw), Rw.none]).length) 2) [(⟨(Value.bool true) :: ((encC (⟨3, Cl.zero.offer, Cl.zero.report, Cl.zero.view⟩ : Cl)) ++ ((Value.slice none 0 0) :: [])), rfl, rfl⟩ : Raw 57), (⟨encR Rw.none (Value.slice none 0 0), rfl, rfl⟩ : Raw 57)]]) ((List.Perm.refl _))
  have hs412 := hs404.trans ht410
  obtain ⟨y414, hx415, h416⟩ := ob (o := table15 [(⟨true, (⟨3, Cl.zero.offer, Cl.zero.report, Cl.zero.view⟩ : Cl), []⟩ : Rw), Rw.none]) h377
  refine WL.call (table15_ok _ _ [(⟨true, (⟨3, Cl.zero.offer, Cl.zero.report, Cl.zero.view⟩ : Cl), []⟩ : Rw), Rw.none] _ _ he409 hl408 hx415) (R.call (vs := [Value.slice (some ⟨b392, 0, none⟩) 2 2]) (caps := []) bo33 rfl rfl) rfl ?_
  rintro v423 w424 ⟨a419, c420, rfl, hl421, he422, ht417⟩
  have ht418 := hs412.call (N := []) (M := []) (List.Perm.refl _) ht417
  have he425 := elC hs412 (M := []) (List.Perm.refl _) ht417 he422
  have hs426 := hs412.trans ht418
  refine WL.val (R.assign (v := Value.slice a419 y414.length c420) rfl) rfl ?_
  refine WL.nil ?_
  refine thenN ?_
  refine WC.seq ?_
  refine WC.region ?_
  have hd428 : ∀ w, (Instr.build 58 #[(0, Value.int .i64 5)]).run Try.prog w = .ok (Value.agg (List.toArray (encC (⟨5, Cl.zero.offer, Cl.zero.report, Cl.zero.view⟩ : Cl)))) w := fun _ => by kernel_rfl
  refine WL.val (R.build (vs := [(0, Value.int .i64 5)]) rfl hd428) rfl ?_
  have hd429 : ∀ w, (Instr.build 60 #[(0, Value.bool true), (1, Value.agg (List.toArray (encC (⟨5, Cl.zero.offer, Cl.zero.report, Cl.zero.view⟩ : Cl))))]).run Try.prog w = .ok (Value.agg (List.toArray (encH (⟨true, (⟨5, Cl.zero.offer, Cl.zero.report, Cl.zero.view⟩ : Cl)⟩ : Hd)))) w := fun _ => by kernel_rfl
  refine WL.val (R.build (vs := [(0, Value.bool true), (1, Value.agg (List.toArray (encC (⟨5, Cl.zero.offer, Cl.zero.report, Cl.zero.view⟩ : Cl))))]) rfl hd429) rfl ?_
  refine WL.new (L' := fun b430 => [blk b430 60 (encH Hd.none)]) (f := fun b430 => Value.pointer (some ⟨b430, 0, none⟩)) (X.alloc (c := encH Hd.none) (hs426.here) zr60 rfl (fun _ => rfl)) rfl ?_
  intro b430 w431 ht436 he433 hz434
  have hs437 := hs426.trans ht436
  refine WL.sto (L' := [blk b430 60 (encH (⟨true, (⟨5, Cl.zero.offer, Cl.zero.report, Cl.zero.view⟩ : Cl)⟩ : Hd))]) (X.store (i := 0) (n := 56) (b := b430) (off := 0) (c := encH Hd.none) (U := 60) (vs := encH (⟨true, (⟨5, Cl.zero.offer, Cl.zero.report, Cl.zero.view⟩ : Cl)⟩ : Hd)) (v := Value.agg (List.toArray (encH (⟨true, (⟨5, Cl.zero.offer, Cl.zero.report, Cl.zero.view⟩ : Cl)⟩ : Hd)))) (c' := encH (⟨true, (⟨5, Cl.zero.offer, Cl.zero.report, Cl.zero.view⟩ : Cl)⟩ : Hd)) (hs437.here) rfl ag60.size rfl rfl rfl rfl rfl rfl rfl rfl) rfl rfl ?_
  intro w438 ht439
  have hs440 := hs437.trans ht439
  refine WL.nil ?_
  refine thenN ?_
  refine WC.seq ?_
  refine WC.drawE mixed (NP.then NP.rq) ?_
  have ht441 := (hs440.here).ext (Ext.drew _)
  have hs442 := hs440.trans ht441
  refine WE.take 0 rfl (by decide +kernel) (by decide +kernel) (by decide +kernel) (by decide +kernel) rfl rfl (fun wq hq => R.move (v := Value.slice a188 y183.length c189) rfl) ?_
  refine WE.take 1 rfl (by decide +kernel) (by decide +kernel) (by decide +kernel) (by decide +kernel) rfl rfl (fun wq hq => R.len (a := a188) (n := y183.length) (c := c189) un28 rfl) ?_
  by_cases hc443 : ((y183.length : Nat) : Int) = 4
  · have h444 := ifT hc443 h416
    refine WE.take 2 rfl (by decide +kernel) (by decide +kernel) (by decide +kernel) (by decide +kernel) rfl rfl (fun wq hq => R.eqlT (k := .i64) (a := ((y183.length : Nat) : Int)) (b := 4) un3 rfl rfl hc443) ?_
    refine WE.take 3 rfl (by decide +kernel) (by decide +kernel) (by decide +kernel) (by decide +kernel) rfl rfl (fun wq hq => R.move (v := Value.bool true) rfl) ?_
    refine WE.takeY 4 (e := 34) rfl (by decide +kernel) (by decide +kernel) (by decide +kernel) (by decide +kernel) rfl rfl rfl rfl rfl (fun wq hq => R.move (v := Value.slice a188 y183.length c189) rfl) ?_
    obtain ⟨x445, hx446, h447⟩ := ob (o := rd y183 0) h444
    obtain ⟨h0448, hx449, hl450, hm451⟩ := rdE hx446
    have hr452 := elT ((((((((((((((((((((((ht201.trans ht215).trans ht229).trans ht243).trans ht260).trans ht262).trans ht275).trans ht283).trans ht297).trans ht311).trans ht325).trans ht339).trans ht356).trans ht358).trans ht371).trans ht379).trans ht399).trans ht401).trans ht410).trans ht418).trans ht436).trans ht439).trans ht441) he194
    obtain ⟨ad453, e458, ha454, hp455, hat456, hrd457⟩ := hr452 _ _ hx449
    obtain ⟨-, rfl⟩ := hrd457
    refine WE.takeY 5 (e := 34) rfl (by decide +kernel) (by decide +kernel) (by decide +kernel) (by decide +kernel) rfl rfl rfl rfl rfl (fun wq hq => R.indexS (n := 56) (m := (0 : Int).toNat) (a := a188) (ad := ad453) (len := y183.length) (cap := c189) (z := 0) un28 ag60.size rfl ha454 rfl hm451 hl450 hp455) ?_
    refine WE.takeY 6 (e := 34) rfl (by decide +kernel) (by decide +kernel) (by decide +kernel) (by decide +kernel) rfl rfl rfl rfl rfl (fun wq hq => R.loadA (cs := encH x445) (n := 56) ag60 rfl (At.exT hq hat456) rfl) ?_
    refine WE.takeY 7 (e := 34) rfl (by decide +kernel) (by decide +kernel) (by decide +kernel) (by decide +kernel) rfl rfl rfl rfl rfl (fun wq hq => R.loadA (cs := encH (⟨true, (⟨5, Cl.zero.offer, Cl.zero.report, Cl.zero.view⟩ : Cl)⟩ : Hd)) (n := 56) ag60 rfl ((hs442.ext hq).at (i := 0) (off := 0) (n := 56) (cs := encH (⟨true, (⟨5, Cl.zero.offer, Cl.zero.report, Cl.zero.view⟩ : Cl)⟩ : Hd)) rfl rfl rfl) rfl) ?_
    refine WE.takeY 8 (e := 34) rfl (by decide +kernel) (by decide +kernel) (by decide +kernel) (by decide +kernel) rfl rfl rfl rfl rfl (fun wq hq => R.eqHeld (a := x445) (b := (⟨true, (⟨5, Cl.zero.offer, Cl.zero.report, Cl.zero.view⟩ : Cl)⟩ : Hd)) rfl rfl) ?_
    refine WE.take 9 rfl (by decide +kernel) (by decide +kernel) (by decide +kernel) (by decide +kernel) rfl rfl (fun wq hq => R.pickT (v := Value.bool (decide (x445 = (⟨true, (⟨5, Cl.zero.offer, Cl.zero.report, Cl.zero.view⟩ : Cl)⟩ : Hd)))) rfl rfl) ?_
    refine WE.take 10 rfl (by decide +kernel) (by decide +kernel) (by decide +kernel) (by decide +kernel) rfl rfl (fun wq hq => R.move (v := Value.bool (decide (x445 = (⟨true, (⟨5, Cl.zero.offer, Cl.zero.report, Cl.zero.view⟩ : Cl)⟩ : Hd)))) rfl) ?_
    by_cases hc460 : x445 = (⟨true, (⟨5, Cl.zero.offer, Cl.zero.report, Cl.zero.view⟩ : Cl)⟩ : Hd)
    · have h461 := ifT hc460 h447
      refine WE.takeY 11 (e := 41) rfl (by decide +kernel) (by decide +kernel) (by decide +kernel) (by decide +kernel) rfl rfl rfl rfl (Eq.trans (show _ = Value.bool (decide (x445 = (⟨true, (⟨5, Cl.zero.offer, Cl.zero.report, Cl.zero.view⟩ : Cl)⟩ : Hd))) from rfl) (congrArg Value.bool (decide_eq_true hc460))) (fun wq hq => R.move (v := Value.slice a188 y183.length c189) rfl) ?_
      obtain ⟨x462, hx463, h464⟩ := ob (o := rd y183 1) h461
      obtain ⟨h0465, hx466, hl467, hm468⟩ := rdE hx463
      obtain ⟨ad469, e474, ha470, hp471, hat472, hrd473⟩ := hr452 _ _ hx466
      obtain ⟨-, rfl⟩ := hrd473
      refine WE.takeY 12 (e := 41) rfl (by decide +kernel) (by decide +kernel) (by decide +kernel) (by decide +kernel) rfl rfl rfl rfl (Eq.trans (show _ = Value.bool (decide (x445 = (⟨true, (⟨5, Cl.zero.offer, Cl.zero.report, Cl.zero.view⟩ : Cl)⟩ : Hd))) from rfl) (congrArg Value.bool (decide_eq_true hc460))) (fun wq hq => R.indexS (n := 56) (m := (1 : Int).toNat) (a := a188) (ad := ad469) (len := y183.length) (cap := c189) (z := 1) un28 ag60.size rfl ha470 rfl hm468 hl467 hp471) ?_
      refine WE.takeY 13 (e := 41) rfl (by decide +kernel) (by decide +kernel) (by decide +kernel) (by decide +kernel) rfl rfl rfl rfl (Eq.trans (show _ = Value.bool (decide (x445 = (⟨true, (⟨5, Cl.zero.offer, Cl.zero.report, Cl.zero.view⟩ : Cl)⟩ : Hd))) from rfl) (congrArg Value.bool (decide_eq_true hc460))) (fun wq hq => R.fieldAddr (o := ad469.off + (1 : Int).toNat * 56) (o' := ad469.off + (1 : Int).toNat * 56) fa60_0 rfl rfl) ?_
      refine WE.takeY 14 (e := 41) rfl (by decide +kernel) (by decide +kernel) (by decide +kernel) (by decide +kernel) rfl rfl rfl rfl (Eq.trans (show _ = Value.bool (decide (x445 = (⟨true, (⟨5, Cl.zero.offer, Cl.zero.report, Cl.zero.view⟩ : Cl)⟩ : Hd))) from rfl) (congrArg Value.bool (decide_eq_true hc460))) (fun wq hq => R.loadL (v := Value.bool x462.is) lf4 rfl (At.sub (a := ⟨ad469.block, ad469.off + (1 : Int).toNat * 56, none⟩) (off := 0) (n := 1) (cs := encH x462) (ds := [Value.bool x462.is]) (At.exT hq hat472) rfl rfl)) ?_
      refine WE.takeY 15 (e := 41) rfl (by decide +kernel) (by decide +kernel) (by decide +kernel) (by decide +kernel) rfl rfl rfl rfl (Eq.trans (show _ = Value.bool (decide (x445 = (⟨true, (⟨5, Cl.zero.offer, Cl.zero.report, Cl.zero.view⟩ : Cl)⟩ : Hd))) from rfl) (congrArg Value.bool (decide_eq_true hc460))) (fun wq hq => R.not (b := x462.is) rfl) ?_
      refine WE.take 16 rfl (by decide +kernel) (by decide +kernel) (by decide +kernel) (by decide +kernel) rfl rfl (fun wq hq => R.pickT (v := Value.bool (!x462.is)) (Eq.trans (show _ = Value.bool (decide (x445 = (⟨true, (⟨5, Cl.zero.offer, Cl.zero.report, Cl.zero.view⟩ : Cl)⟩ : Hd))) from rfl) (congrArg Value.bool (decide_eq_true hc460))) rfl) ?_
      refine WE.take 17 rfl (by decide +kernel) (by decide +kernel) (by decide +kernel) (by decide +kernel) rfl rfl (fun wq hq => R.move (v := Value.bool (!x462.is)) rfl) ?_
      by_cases hc476 : x462.is = true
      · have h477 := ifT hc476 h464
        have hk478 : (!x462.is) = false := by simp [hc476]
        refine WE.takeN 18 (e := 48) (v := .bool false) rfl (by decide +kernel) (by decide +kernel) (by decide +kernel) (by decide +kernel) rfl rfl rfl (Eq.trans (show _ = Value.bool (!x462.is) from rfl) (congrArg Value.bool hk478)) rfl ?_
        refine WE.takeN 19 (e := 48) (v := .bool false) rfl (by decide +kernel) (by decide +kernel) (by decide +kernel) (by decide +kernel) rfl rfl rfl (Eq.trans (show _ = Value.bool (!x462.is) from rfl) (congrArg Value.bool hk478)) rfl ?_
        refine WE.takeN 20 (e := 48) (v := .bool false) rfl (by decide +kernel) (by decide +kernel) (by decide +kernel) (by decide +kernel) rfl rfl rfl (Eq.trans (show _ = Value.bool (!x462.is) from rfl) (congrArg Value.bool hk478)) rfl ?_
        refine WE.take 21 rfl (by decide +kernel) (by decide +kernel) (by decide +kernel) (by decide +kernel) rfl rfl (fun wq hq => R.pickF (v := Value.bool false) (Eq.trans (show _ = Value.bool (!x462.is) from rfl) (congrArg Value.bool hk478)) rfl) ?_
        refine WE.take 22 rfl (by decide +kernel) (by decide +kernel) (by decide +kernel) (by decide +kernel) rfl rfl (fun wq hq => R.move (v := Value.bool false) rfl) ?_
        refine WE.takeN 23 (e := 53) (v := .bool false) rfl (by decide +kernel) (by decide +kernel) (by decide +kernel) (by decide +kernel) rfl rfl rfl rfl rfl ?_
        refine WE.takeN 24 (e := 53) (v := .bool false) rfl (by decide +kernel) (by decide +kernel) (by decide +kernel) (by decide +kernel) rfl rfl rfl rfl rfl ?_
        refine WE.takeN 25 (e := 53) (v := .bool false) rfl (by decide +kernel) (by decide +kernel) (by decide +kernel) (by decide +kernel) rfl rfl rfl rfl rfl ?_
        refine WE.takeN 26 (e := 53) (v := .bool false) rfl (by decide +kernel) (by decide +kernel) (by decide +kernel) (by decide +kernel) rfl rfl rfl rfl rfl ?_
        refine WE.takeN 27 (e := 53) (v := .bool false) rfl (by decide +kernel) (by decide +kernel) (by decide +kernel) (by decide +kernel) rfl rfl rfl rfl rfl ?_
        refine WE.take 28 rfl (by decide +kernel) (by decide +kernel) (by decide +kernel) (by decide +kernel) rfl rfl (fun wq hq => R.pickF (v := Value.bool false) rfl rfl) ?_
        refine WE.take 29 rfl (by decide +kernel) (by decide +kernel) (by decide +kernel) (by decide +kernel) rfl rfl (fun wq hq => R.move (v := Value.bool false) rfl) ?_
        refine WE.takeN 30 (e := 60) (v := .bool false) rfl (by decide +kernel) (by decide +kernel) (by decide +kernel) (by decide +kernel) rfl rfl rfl rfl rfl ?_
        refine WE.takeN 31 (e := 60) (v := .bool false) rfl (by decide +kernel) (by decide +kernel) (by decide +kernel) (by decide +kernel) rfl rfl rfl rfl rfl ?_
        refine WE.takeN 32 (e := 60) (v := .bool false) rfl (by decide +kernel) (by decide +kernel) (by decide +kernel) (by decide +kernel) rfl rfl rfl rfl rfl ?_
        refine WE.take 33 rfl (by decide +kernel) (by decide +kernel) (by decide +kernel) (by decide +kernel) rfl rfl (fun wq hq => R.pickF (v := Value.bool false) rfl rfl) ?_
        refine WE.take 34 rfl (by decide +kernel) (by decide +kernel) (by decide +kernel) (by decide +kernel) rfl rfl (fun wq hq => R.move (v := Value.bool false) rfl) ?_
        refine WE.takeN 35 (e := 65) (v := .bool false) rfl (by decide +kernel) (by decide +kernel) (by decide +kernel) (by decide +kernel) rfl rfl rfl rfl rfl ?_
        refine WE.takeN 36 (e := 65) (v := .bool false) rfl (by decide +kernel) (by decide +kernel) (by decide +kernel) (by decide +kernel) rfl rfl rfl rfl rfl ?_
        refine WE.takeN 37 (e := 65) (v := .bool false) rfl (by decide +kernel) (by decide +kernel) (by decide +kernel) (by decide +kernel) rfl rfl rfl rfl rfl ?_
        refine WE.takeN 38 (e := 65) (v := .bool false) rfl (by decide +kernel) (by decide +kernel) (by decide +kernel) (by decide +kernel) rfl rfl rfl rfl rfl ?_
        refine WE.takeN 39 (e := 65) (v := .bool false) rfl (by decide +kernel) (by decide +kernel) (by decide +kernel) (by decide +kernel) rfl rfl rfl rfl rfl ?_
        refine WE.take 40 rfl (by decide +kernel) (by decide +kernel) (by decide +kernel) (by decide +kernel) rfl rfl (fun wq hq => R.pickF (v := Value.bool false) rfl rfl) ?_
        refine WE.take 41 rfl (by decide +kernel) (by decide +kernel) (by decide +kernel) (by decide +kernel) rfl rfl (fun wq hq => R.move (v := Value.bool false) rfl) ?_
        refine WE.takeN 42 (e := 72) (v := .bool false) rfl (by decide +kernel) (by decide +kernel) (by decide +kernel) (by decide +kernel) rfl rfl rfl rfl rfl ?_
        refine WE.takeN 43 (e := 72) (v := .bool false) rfl (by decide +kernel) (by decide +kernel) (by decide +kernel) (by decide +kernel) rfl rfl rfl rfl rfl ?_
        refine WE.takeN 44 (e := 72) (v := .bool false) rfl (by decide +kernel) (by decide +kernel) (by decide +kernel) (by decide +kernel) rfl rfl rfl rfl rfl ?_
        refine WE.take 45 rfl (by decide +kernel) (by decide +kernel) (by decide +kernel) (by decide +kernel) rfl rfl (fun wq hq => R.pickF (v := Value.bool false) rfl rfl) ?_
        refine WE.take 46 rfl (by decide +kernel) (by decide +kernel) (by decide +kernel) (by decide +kernel) rfl rfl (fun wq hq => R.move (v := Value.bool false) rfl) ?_
        refine WE.takeN 47 (e := 77) (v := .bool false) rfl (by decide +kernel) (by decide +kernel) (by decide +kernel) (by decide +kernel) rfl rfl rfl rfl rfl ?_
        refine WE.takeN 48 (e := 77) (v := .bool false) rfl (by decide +kernel) (by decide +kernel) (by decide +kernel) (by decide +kernel) rfl rfl rfl rfl rfl ?_
        refine WE.takeN 49 (e := 77) (v := .bool false) rfl (by decide +kernel) (by decide +kernel) (by decide +kernel) (by decide +kernel) rfl rfl rfl rfl rfl ?_
        refine WE.takeN 50 (e := 77) (v := .bool false) rfl (by decide +kernel) (by decide +kernel) (by decide +kernel) (by decide +kernel) rfl rfl rfl rfl rfl ?_
        refine WE.takeN 51 (e := 77) (v := .bool false) rfl (by decide +kernel) (by decide +kernel) (by decide +kernel) (by decide +kernel) rfl rfl rfl rfl rfl ?_
        refine WE.takeN 52 (e := 77) (v := .bool false) rfl (by decide +kernel) (by decide +kernel) (by decide +kernel) (by decide +kernel) rfl rfl rfl rfl rfl ?_
        refine WE.take 53 rfl (by decide +kernel) (by decide +kernel) (by decide +kernel) (by decide +kernel) rfl rfl (fun wq hq => R.pickF (v := Value.bool false) rfl rfl) ?_
        refine WE.take 54 rfl (by decide +kernel) (by decide +kernel) (by decide +kernel) (by decide +kernel) rfl rfl (fun wq hq => R.move (v := Value.bool false) rfl) ?_
        refine WE.takeN 55 (e := 85) (v := .bool false) rfl (by decide +kernel) (by decide +kernel) (by decide +kernel) (by decide +kernel) rfl rfl rfl rfl rfl ?_
        refine WE.takeN 56 (e := 85) (v := .bool false) rfl (by decide +kernel) (by decide +kernel) (by decide +kernel) (by decide +kernel) rfl rfl rfl rfl rfl ?_
        refine WE.takeN 57 (e := 85) (v := .bool false) rfl (by decide +kernel) (by decide +kernel) (by decide +kernel) (by decide +kernel) rfl rfl rfl rfl rfl ?_
        refine WE.takeN 58 (e := 85) (v := .bool false) rfl (by decide +kernel) (by decide +kernel) (by decide +kernel) (by decide +kernel) rfl rfl rfl rfl rfl ?_
        refine WE.takeN 59 (e := 85) (v := .bool false) rfl (by decide +kernel) (by decide +kernel) (by decide +kernel) (by decide +kernel) rfl rfl rfl rfl rfl ?_
        refine WE.take 60 rfl (by decide +kernel) (by decide +kernel) (by decide +kernel) (by decide +kernel) rfl rfl (fun wq hq => R.pickF (v := Value.bool false) rfl rfl) ?_
        refine WE.take 61 rfl (by decide +kernel) (by decide +kernel) (by decide +kernel) (by decide +kernel) rfl rfl (fun wq hq => R.assign (v := Value.bool false) rfl) ?_
        refine WE.done (by decide +kernel) ?_
        refine thenN ?_
        refine WC.ret ?_
        have ht479 := (hs442.here).perm (L' := []) (G := [blk b430 60 (encH (⟨true, (⟨5, Cl.zero.offer, Cl.zero.report, Cl.zero.view⟩ : Cl)⟩ : Hd))]) ((List.Perm.refl _))
        have hs480 := hs442.trans ht479
        obtain rfl := Option.some.inj (show some false = some r from h477)
        exact ret1 (P := Try.prog) (n := 92) (fn := Try.f31) (R := fun v w' => v = Value.bool false ∧ St [] w w' []) (t := 0) (v := Value.bool false) rfl rfl rfl ⟨rfl, hs480⟩
      · have h481 := ifF hc476 h464
        have hk482 : (!x462.is) = true := by simp [hc476]
        refine WE.takeY 18 (e := 48) rfl (by decide +kernel) (by decide +kernel) (by decide +kernel) (by decide +kernel) rfl rfl rfl rfl (Eq.trans (show _ = Value.bool (!x462.is) from rfl) (congrArg Value.bool hk482)) (fun wq hq => R.move (v := Value.slice a284 y279.length c285) rfl) ?_
        refine WE.takeY 19 (e := 48) rfl (by decide +kernel) (by decide +kernel) (by decide +kernel) (by decide +kernel) rfl rfl rfl rfl (Eq.trans (show _ = Value.bool (!x462.is) from rfl) (congrArg Value.bool hk482)) (fun wq hq => R.len (a := a284) (n := y279.length) (c := c285) un28 rfl) ?_
        by_cases hc483 : ((y279.length : Nat) : Int) = 4
        · have h484 := ifT hc483 h481
          refine WE.takeY 20 (e := 48) rfl (by decide +kernel) (by decide +kernel) (by decide +kernel) (by decide +kernel) rfl rfl rfl rfl (Eq.trans (show _ = Value.bool (!x462.is) from rfl) (congrArg Value.bool hk482)) (fun wq hq => R.eqlT (k := .i64) (a := ((y279.length : Nat) : Int)) (b := 4) un3 rfl rfl hc483) ?_
          refine WE.take 21 rfl (by decide +kernel) (by decide +kernel) (by decide +kernel) (by decide +kernel) rfl rfl (fun wq hq => R.pickT (v := Value.bool true) (Eq.trans (show _ = Value.bool (!x462.is) from rfl) (congrArg Value.bool hk482)) rfl) ?_
          refine WE.take 22 rfl (by decide +kernel) (by decide +kernel) (by decide +kernel) (by decide +kernel) rfl rfl (fun wq hq => R.move (v := Value.bool true) rfl) ?_
          refine WE.takeY 23 (e := 53) rfl (by decide +kernel) (by decide +kernel) (by decide +kernel) (by decide +kernel) rfl rfl rfl rfl rfl (fun wq hq => R.move (v := Value.slice a284 y279.length c285) rfl) ?_
          obtain ⟨x485, hx486, h487⟩ := ob (o := rd y279 0) h484
          obtain ⟨h0488, hx489, hl490, hm491⟩ := rdE hx486
          have hr492 := elT ((((((((((((((ht297.trans ht311).trans ht325).trans ht339).trans ht356).trans ht358).trans ht371).trans ht379).trans ht399).trans ht401).trans ht410).trans ht418).trans ht436).trans ht439).trans ht441) he290
          obtain ⟨ad493, e498, ha494, hp495, hat496, hrd497⟩ := hr492 _ _ hx489
          obtain ⟨-, rfl⟩ := hrd497
          refine WE.takeY 24 (e := 53) rfl (by decide +kernel) (by decide +kernel) (by decide +kernel) (by decide +kernel) rfl rfl rfl rfl rfl (fun wq hq => R.indexS (n := 56) (m := (0 : Int).toNat) (a := a284) (ad := ad493) (len := y279.length) (cap := c285) (z := 0) un28 ag60.size rfl ha494 rfl hm491 hl490 hp495) ?_
          refine WE.takeY 25 (e := 53) rfl (by decide +kernel) (by decide +kernel) (by decide +kernel) (by decide +kernel) rfl rfl rfl rfl rfl (fun wq hq => R.loadA (cs := encH x485) (n := 56) ag60 rfl (At.exT hq hat496) rfl) ?_
          refine WE.takeY 26 (e := 53) rfl (by decide +kernel) (by decide +kernel) (by decide +kernel) (by decide +kernel) rfl rfl rfl rfl rfl (fun wq hq => R.loadA (cs := encH (⟨true, (⟨5, Cl.zero.offer, Cl.zero.report, Cl.zero.view⟩ : Cl)⟩ : Hd)) (n := 56) ag60 rfl ((hs442.ext hq).at (i := 0) (off := 0) (n := 56) (cs := encH (⟨true, (⟨5, Cl.zero.offer, Cl.zero.report, Cl.zero.view⟩ : Cl)⟩ : Hd)) rfl rfl rfl) rfl) ?_
          refine WE.takeY 27 (e := 53) rfl (by decide +kernel) (by decide +kernel) (by decide +kernel) (by decide +kernel) rfl rfl rfl rfl rfl (fun wq hq => R.eqHeld (a := x485) (b := (⟨true, (⟨5, Cl.zero.offer, Cl.zero.report, Cl.zero.view⟩ : Cl)⟩ : Hd)) rfl rfl) ?_
          refine WE.take 28 rfl (by decide +kernel) (by decide +kernel) (by decide +kernel) (by decide +kernel) rfl rfl (fun wq hq => R.pickT (v := Value.bool (decide (x485 = (⟨true, (⟨5, Cl.zero.offer, Cl.zero.report, Cl.zero.view⟩ : Cl)⟩ : Hd)))) rfl rfl) ?_
          refine WE.take 29 rfl (by decide +kernel) (by decide +kernel) (by decide +kernel) (by decide +kernel) rfl rfl (fun wq hq => R.move (v := Value.bool (decide (x485 = (⟨true, (⟨5, Cl.zero.offer, Cl.zero.report, Cl.zero.view⟩ : Cl)⟩ : Hd)))) rfl) ?_
          by_cases hc500 : x485 = (⟨true, (⟨5, Cl.zero.offer, Cl.zero.report, Cl.zero.view⟩ : Cl)⟩ : Hd)
          · have h501 := ifT hc500 h487
            refine WE.takeY 30 (e := 60) rfl (by decide +kernel) (by decide +kernel) (by decide +kernel) (by decide +kernel) rfl rfl rfl rfl (Eq.trans (show _ = Value.bool (decide (x485 = (⟨true, (⟨5, Cl.zero.offer, Cl.zero.report, Cl.zero.view⟩ : Cl)⟩ : Hd))) from rfl) (congrArg Value.bool (decide_eq_true hc500))) (fun wq hq => R.move (v := Value.slice a380 y375.length c381) rfl) ?_
            refine WE.takeY 31 (e := 60) rfl (by decide +kernel) (by decide +kernel) (by decide +kernel) (by decide +kernel) rfl rfl rfl rfl (Eq.trans (show _ = Value.bool (decide (x485 = (⟨true, (⟨5, Cl.zero.offer, Cl.zero.report, Cl.zero.view⟩ : Cl)⟩ : Hd))) from rfl) (congrArg Value.bool (decide_eq_true hc500))) (fun wq hq => R.len (a := a380) (n := y375.length) (c := c381) un28 rfl) ?_
            by_cases hc502 : ((y375.length : Nat) : Int) = 4
            · have h503 := ifT hc502 h501
              refine WE.takeY 32 (e := 60) rfl (by decide +kernel) (by decide +kernel) (by decide +kernel) (by decide +kernel) rfl rfl rfl rfl (Eq.trans (show _ = Value.bool (decide (x485 = (⟨true, (⟨5, Cl.zero.offer, Cl.zero.report, Cl.zero.view⟩ : Cl)⟩ : Hd))) from rfl) (congrArg Value.bool (decide_eq_true hc500))) (fun wq hq => R.eqlT (k := .i64) (a := ((y375.length : Nat) : Int)) (b := 4) un3 rfl rfl hc502) ?_
              refine WE.take 33 rfl (by decide +kernel) (by decide +kernel) (by decide +kernel) (by decide +kernel) rfl rfl (fun wq hq => R.pickT (v := Value.bool true) (Eq.trans (show _ = Value.bool (decide (x485 = (⟨true, (⟨5, Cl.zero.offer, Cl.zero.report, Cl.zero.view⟩ : Cl)⟩ : Hd))) from rfl) (congrArg Value.bool (decide_eq_true hc500))) rfl) ?_
              refine WE.take 34 rfl (by decide +kernel) (by decide +kernel) (by decide +kernel) (by decide +kernel) rfl rfl (fun wq hq => R.move (v := Value.bool true) rfl) ?_
              refine WE.takeY 35 (e := 65) rfl (by decide +kernel) (by decide +kernel) (by decide +kernel) (by decide +kernel) rfl rfl rfl rfl rfl (fun wq hq => R.move (v := Value.slice a380 y375.length c381) rfl) ?_
              obtain ⟨x504, hx505, h506⟩ := ob (o := rd y375 0) h503
              obtain ⟨h0507, hx508, hl509, hm510⟩ := rdE hx505
              have hr511 := elT ((((((ht399.trans ht401).trans ht410).trans ht418).trans ht436).trans ht439).trans ht441) he386
              obtain ⟨ad512, e517, ha513, hp514, hat515, hrd516⟩ := hr511 _ _ hx508
              obtain ⟨-, rfl⟩ := hrd516
              refine WE.takeY 36 (e := 65) rfl (by decide +kernel) (by decide +kernel) (by decide +kernel) (by decide +kernel) rfl rfl rfl rfl rfl (fun wq hq => R.indexS (n := 56) (m := (0 : Int).toNat) (a := a380) (ad := ad512) (len := y375.length) (cap := c381) (z := 0) un28 ag60.size rfl ha513 rfl hm510 hl509 hp514) ?_
              refine WE.takeY 37 (e := 65) rfl (by decide +kernel) (by decide +kernel) (by decide +kernel) (by decide +kernel) rfl rfl rfl rfl rfl (fun wq hq => R.fieldAddr (o := ad512.off + (0 : Int).toNat * 56) (o' := ad512.off + (0 : Int).toNat * 56) fa60_0 rfl rfl) ?_
              refine WE.takeY 38 (e := 65) rfl (by decide +kernel) (by decide +kernel) (by decide +kernel) (by decide +kernel) rfl rfl rfl rfl rfl (fun wq hq => R.loadL (v := Value.bool x504.is) lf4 rfl (At.sub (a := ⟨ad512.block, ad512.off + (0 : Int).toNat * 56, none⟩) (off := 0) (n := 1) (cs := encH x504) (ds := [Value.bool x504.is]) (At.exT hq hat515) rfl rfl)) ?_
              refine WE.takeY 39 (e := 65) rfl (by decide +kernel) (by decide +kernel) (by decide +kernel) (by decide +kernel) rfl rfl rfl rfl rfl (fun wq hq => R.not (b := x504.is) rfl) ?_
              refine WE.take 40 rfl (by decide +kernel) (by decide +kernel) (by decide +kernel) (by decide +kernel) rfl rfl (fun wq hq => R.pickT (v := Value.bool (!x504.is)) rfl rfl) ?_
              refine WE.take 41 rfl (by decide +kernel) (by decide +kernel) (by decide +kernel) (by decide +kernel) rfl rfl (fun wq hq => R.move (v := Value.bool (!x504.is)) rfl) ?_
              by_cases hc519 : x504.is = true
              · have h520 := ifT hc519 h506
                have hk521 : (!x504.is) = false := by simp [hc519]
                refine WE.takeN 42 (e := 72) (v := .bool false) rfl (by decide +kernel) (by decide +kernel) (by decide +kernel) (by decide +kernel) rfl rfl rfl (Eq.trans (show _ = Value.bool (!x504.is) from rfl) (congrArg Value.bool hk521)) rfl ?_
                refine WE.takeN 43 (e := 72) (v := .bool false) rfl (by decide +kernel) (by decide +kernel) (by decide +kernel) (by decide +kernel) rfl rfl rfl (Eq.trans (show _ = Value.bool (!x504.is) from rfl) (congrArg Value.bool hk521)) rfl ?_
                refine WE.takeN 44 (e := 72) (v := .bool false) rfl (by decide +kernel) (by decide +kernel) (by decide +kernel) (by decide +kernel) rfl rfl rfl (Eq.trans (show _ = Value.bool (!x504.is) from rfl) (congrArg Value.bool hk521)) rfl ?_
                refine WE.take 45 rfl (by decide +kernel) (by decide +kernel) (by decide +kernel) (by decide +kernel) rfl rfl (fun wq hq => R.pickF (v := Value.bool false) (Eq.trans (show _ = Value.bool (!x504.is) from rfl) (congrArg Value.bool hk521)) rfl) ?_
                refine WE.take 46 rfl (by decide +kernel) (by decide +kernel) (by decide +kernel) (by decide +kernel) rfl rfl (fun wq hq => R.move (v := Value.bool false) rfl) ?_
                refine WE.takeN 47 (e := 77) (v := .bool false) rfl (by decide +kernel) (by decide +kernel) (by decide +kernel) (by decide +kernel) rfl rfl rfl rfl rfl ?_
                refine WE.takeN 48 (e := 77) (v := .bool false) rfl (by decide +kernel) (by decide +kernel) (by decide +kernel) (by decide +kernel) rfl rfl rfl rfl rfl ?_
                refine WE.takeN 49 (e := 77) (v := .bool false) rfl (by decide +kernel) (by decide +kernel) (by decide +kernel) (by decide +kernel) rfl rfl rfl rfl rfl ?_
                refine WE.takeN 50 (e := 77) (v := .bool false) rfl (by decide +kernel) (by decide +kernel) (by decide +kernel) (by decide +kernel) rfl rfl rfl rfl rfl ?_
                refine WE.takeN 51 (e := 77) (v := .bool false) rfl (by decide +kernel) (by decide +kernel) (by decide +kernel) (by decide +kernel) rfl rfl rfl rfl rfl ?_
                refine WE.takeN 52 (e := 77) (v := .bool false) rfl (by decide +kernel) (by decide +kernel) (by decide +kernel) (by decide +kernel) rfl rfl rfl rfl rfl ?_
                refine WE.take 53 rfl (by decide +kernel) (by decide +kernel) (by decide +kernel) (by decide +kernel) rfl rfl (fun wq hq => R.pickF (v := Value.bool false) rfl rfl) ?_
                refine WE.take 54 rfl (by decide +kernel) (by decide +kernel) (by decide +kernel) (by decide +kernel) rfl rfl (fun wq hq => R.move (v := Value.bool false) rfl) ?_
                refine WE.takeN 55 (e := 85) (v := .bool false) rfl (by decide +kernel) (by decide +kernel) (by decide +kernel) (by decide +kernel) rfl rfl rfl rfl rfl ?_
                refine WE.takeN 56 (e := 85) (v := .bool false) rfl (by decide +kernel) (by decide +kernel) (by decide +kernel) (by decide +kernel) rfl rfl rfl rfl rfl ?_
                refine WE.takeN 57 (e := 85) (v := .bool false) rfl (by decide +kernel) (by decide +kernel) (by decide +kernel) (by decide +kernel) rfl rfl rfl rfl rfl ?_
                refine WE.takeN 58 (e := 85) (v := .bool false) rfl (by decide +kernel) (by decide +kernel) (by decide +kernel) (by decide +kernel) rfl rfl rfl rfl rfl ?_
                refine WE.takeN 59 (e := 85) (v := .bool false) rfl (by decide +kernel) (by decide +kernel) (by decide +kernel) (by decide +kernel) rfl rfl rfl rfl rfl ?_
                refine WE.take 60 rfl (by decide +kernel) (by decide +kernel) (by decide +kernel) (by decide +kernel) rfl rfl (fun wq hq => R.pickF (v := Value.bool false) rfl rfl) ?_
                refine WE.take 61 rfl (by decide +kernel) (by decide +kernel) (by decide +kernel) (by decide +kernel) rfl rfl (fun wq hq => R.assign (v := Value.bool false) rfl) ?_
                refine WE.done (by decide +kernel) ?_
                refine thenN ?_
                refine WC.ret ?_
                have ht522 := (hs442.here).perm (L' := []) (G := [blk b430 60 (encH (⟨true, (⟨5, Cl.zero.offer, Cl.zero.report, Cl.zero.view⟩ : Cl)⟩ : Hd))]) ((List.Perm.refl _))
                have hs523 := hs442.trans ht522
                obtain rfl := Option.some.inj (show some false = some r from h520)
                exact ret1 (P := Try.prog) (n := 92) (fn := Try.f31) (R := fun v w' => v = Value.bool false ∧ St [] w w' []) (t := 0) (v := Value.bool false) rfl rfl rfl ⟨rfl, hs523⟩
              · have h524 := ifF hc519 h506
                have hk525 : (!x504.is) = true := by simp [hc519]
                refine WE.takeY 42 (e := 72) rfl (by decide +kernel) (by decide +kernel) (by decide +kernel) (by decide +kernel) rfl rfl rfl rfl (Eq.trans (show _ = Value.bool (!x504.is) from rfl) (congrArg Value.bool hk525)) (fun wq hq => R.move (v := Value.slice a419 y414.length c420) rfl) ?_
                refine WE.takeY 43 (e := 72) rfl (by decide +kernel) (by decide +kernel) (by decide +kernel) (by decide +kernel) rfl rfl rfl rfl (Eq.trans (show _ = Value.bool (!x504.is) from rfl) (congrArg Value.bool hk525)) (fun wq hq => R.len (a := a419) (n := y414.length) (c := c420) un28 rfl) ?_
                by_cases hc526 : ((y414.length : Nat) : Int) = 2
                · have h527 := ifT hc526 h524
                  refine WE.takeY 44 (e := 72) rfl (by decide +kernel) (by decide +kernel) (by decide +kernel) (by decide +kernel) rfl rfl rfl rfl (Eq.trans (show _ = Value.bool (!x504.is) from rfl) (congrArg Value.bool hk525)) (fun wq hq => R.eqlT (k := .i64) (a := ((y414.length : Nat) : Int)) (b := 2) un3 rfl rfl hc526) ?_
                  refine WE.take 45 rfl (by decide +kernel) (by decide +kernel) (by decide +kernel) (by decide +kernel) rfl rfl (fun wq hq => R.pickT (v := Value.bool true) (Eq.trans (show _ = Value.bool (!x504.is) from rfl) (congrArg Value.bool hk525)) rfl) ?_
                  refine WE.take 46 rfl (by decide +kernel) (by decide +kernel) (by decide +kernel) (by decide +kernel) rfl rfl (fun wq hq => R.move (v := Value.bool true) rfl) ?_
                  refine WE.takeY 47 (e := 77) rfl (by decide +kernel) (by decide +kernel) (by decide +kernel) (by decide +kernel) rfl rfl rfl rfl rfl (fun wq hq => R.move (v := Value.slice a419 y414.length c420) rfl) ?_
                  obtain ⟨x528, hx529, h530⟩ := ob (o := rd y414 0) h527
                  obtain ⟨h0531, hx532, hl533, hm534⟩ := rdE hx529
                  have hr535 := elT ((ht436.trans ht439).trans ht441) he425
                  obtain ⟨ad536, e541, ha537, hp538, hat539, hrd540⟩ := hr535 _ _ hx532
                  obtain ⟨-, rfl⟩ := hrd540
                  refine WE.takeY 48 (e := 77) rfl (by decide +kernel) (by decide +kernel) (by decide +kernel) (by decide +kernel) rfl rfl rfl rfl rfl (fun wq hq => R.indexS (n := 56) (m := (0 : Int).toNat) (a := a419) (ad := ad536) (len := y414.length) (cap := c420) (z := 0) un28 ag60.size rfl ha537 rfl hm534 hl533 hp538) ?_
                  refine WE.takeY 49 (e := 77) rfl (by decide +kernel) (by decide +kernel) (by decide +kernel) (by decide +kernel) rfl rfl rfl rfl rfl (fun wq hq => R.loadA (cs := encH x528) (n := 56) ag60 rfl (At.exT hq hat539) rfl) ?_
                  have hd543 : ∀ w, (Instr.build 58 #[(0, Value.int .i64 3)]).run Try.prog w = .ok (Value.agg (List.toArray (encC (⟨3, Cl.zero.offer, Cl.zero.report, Cl.zero.view⟩ : Cl)))) w := fun _ => by kernel_rfl
                  refine WE.takeY 50 (e := 77) rfl (by decide +kernel) (by decide +kernel) (by decide +kernel) (by decide +kernel) rfl rfl rfl rfl rfl (fun wq hq => R.build (vs := [(0, Value.int .i64 3)]) rfl hd543) ?_
                  have hd544 : ∀ w, (Instr.build 60 #[(0, Value.bool true), (1, Value.agg (List.toArray (encC (⟨3, Cl.zero.offer, Cl.zero.report, Cl.zero.view⟩ : Cl))))]).run Try.prog w = .ok (Value.agg (List.toArray (encH (⟨true, (⟨3, Cl.zero.offer, Cl.zero.report, Cl.zero.view⟩ : Cl)⟩ : Hd)))) w := fun _ => by kernel_rfl
                  refine WE.takeY 51 (e := 77) rfl (by decide +kernel) (by decide +kernel) (by decide +kernel) (by decide +kernel) rfl rfl rfl rfl rfl (fun wq hq => R.build (vs := [(0, Value.bool true), (1, Value.agg (List.toArray (encC (⟨3, Cl.zero.offer, Cl.zero.report, Cl.zero.view⟩ : Cl))))]) rfl hd544) ?_
                  refine WE.takeY 52 (e := 77) rfl (by decide +kernel) (by decide +kernel) (by decide +kernel) (by decide +kernel) rfl rfl rfl rfl rfl (fun wq hq => R.eqHeld (a := x528) (b := (⟨true, (⟨3, Cl.zero.offer, Cl.zero.report, Cl.zero.view⟩ : Cl)⟩ : Hd)) rfl rfl) ?_
                  refine WE.take 53 rfl (by decide +kernel) (by decide +kernel) (by decide +kernel) (by decide +kernel) rfl rfl (fun wq hq => R.pickT (v := Value.bool (decide (x528 = (⟨true, (⟨3, Cl.zero.offer, Cl.zero.report, Cl.zero.view⟩ : Cl)⟩ : Hd)))) rfl rfl) ?_
                  refine WE.take 54 rfl (by decide +kernel) (by decide +kernel) (by decide +kernel) (by decide +kernel) rfl rfl (fun wq hq => R.move (v := Value.bool (decide (x528 = (⟨true, (⟨3, Cl.zero.offer, Cl.zero.report, Cl.zero.view⟩ : Cl)⟩ : Hd)))) rfl) ?_
                  by_cases hc545 : x528 = (⟨true, (⟨3, Cl.zero.offer, Cl.zero.report, Cl.zero.view⟩ : Cl)⟩ : Hd)
                  · have h546 := ifT hc545 h530
                    refine WE.takeY 55 (e := 85) rfl (by decide +kernel) (by decide +kernel) (by decide +kernel) (by decide +kernel) rfl rfl rfl rfl (Eq.trans (show _ = Value.bool (decide (x528 = (⟨true, (⟨3, Cl.zero.offer, Cl.zero.report, Cl.zero.view⟩ : Cl)⟩ : Hd))) from rfl) (congrArg Value.bool (decide_eq_true hc545))) (fun wq hq => R.move (v := Value.slice a419 y414.length c420) rfl) ?_
                    obtain ⟨x547, hx548, h549⟩ := ob (o := rd y414 1) h546
                    obtain ⟨h0550, hx551, hl552, hm553⟩ := rdE hx548
                    obtain ⟨ad554, e559, ha555, hp556, hat557, hrd558⟩ := hr535 _ _ hx551
                    obtain ⟨-, rfl⟩ := hrd558
                    refine WE.takeY 56 (e := 85) rfl (by decide +kernel) (by decide +kernel) (by decide +kernel) (by decide +kernel) rfl rfl rfl rfl (Eq.trans (show _ = Value.bool (decide (x528 = (⟨true, (⟨3, Cl.zero.offer, Cl.zero.report, Cl.zero.view⟩ : Cl)⟩ : Hd))) from rfl) (congrArg Value.bool (decide_eq_true hc545))) (fun wq hq => R.indexS (n := 56) (m := (1 : Int).toNat) (a := a419) (ad := ad554) (len := y414.length) (cap := c420) (z := 1) un28 ag60.size rfl ha555 rfl hm553 hl552 hp556) ?_
                    refine WE.takeY 57 (e := 85) rfl (by decide +kernel) (by decide +kernel) (by decide +kernel) (by decide +kernel) rfl rfl rfl rfl (Eq.trans (show _ = Value.bool (decide (x528 = (⟨true, (⟨3, Cl.zero.offer, Cl.zero.report, Cl.zero.view⟩ : Cl)⟩ : Hd))) from rfl) (congrArg Value.bool (decide_eq_true hc545))) (fun wq hq => R.fieldAddr (o := ad554.off + (1 : Int).toNat * 56) (o' := ad554.off + (1 : Int).toNat * 56) fa60_0 rfl rfl) ?_
                    refine WE.takeY 58 (e := 85) rfl (by decide +kernel) (by decide +kernel) (by decide +kernel) (by decide +kernel) rfl rfl rfl rfl (Eq.trans (show _ = Value.bool (decide (x528 = (⟨true, (⟨3, Cl.zero.offer, Cl.zero.report, Cl.zero.view⟩ : Cl)⟩ : Hd))) from rfl) (congrArg Value.bool (decide_eq_true hc545))) (fun wq hq => R.loadL (v := Value.bool x547.is) lf4 rfl (At.sub (a := ⟨ad554.block, ad554.off + (1 : Int).toNat * 56, none⟩) (off := 0) (n := 1) (cs := encH x547) (ds := [Value.bool x547.is]) (At.exT hq hat557) rfl rfl)) ?_
                    refine WE.takeY 59 (e := 85) rfl (by decide +kernel) (by decide +kernel) (by decide +kernel) (by decide +kernel) rfl rfl rfl rfl (Eq.trans (show _ = Value.bool (decide (x528 = (⟨true, (⟨3, Cl.zero.offer, Cl.zero.report, Cl.zero.view⟩ : Cl)⟩ : Hd))) from rfl) (congrArg Value.bool (decide_eq_true hc545))) (fun wq hq => R.not (b := x547.is) rfl) ?_
                    refine WE.take 60 rfl (by decide +kernel) (by decide +kernel) (by decide +kernel) (by decide +kernel) rfl rfl (fun wq hq => R.pickT (v := Value.bool (!x547.is)) (Eq.trans (show _ = Value.bool (decide (x528 = (⟨true, (⟨3, Cl.zero.offer, Cl.zero.report, Cl.zero.view⟩ : Cl)⟩ : Hd))) from rfl) (congrArg Value.bool (decide_eq_true hc545))) rfl) ?_
                    refine WE.take 61 rfl (by decide +kernel) (by decide +kernel) (by decide +kernel) (by decide +kernel) rfl rfl (fun wq hq => R.assign (v := Value.bool (!x547.is)) rfl) ?_
                    refine WE.done (by decide +kernel) ?_
                    refine thenN ?_
                    refine WC.ret ?_
                    have ht561 := (hs442.here).perm (L' := []) (G := [blk b430 60 (encH (⟨true, (⟨5, Cl.zero.offer, Cl.zero.report, Cl.zero.view⟩ : Cl)⟩ : Hd))]) ((List.Perm.refl _))
                    have hs562 := hs442.trans ht561
                    obtain rfl := Option.some.inj (show some (!x547.is) = some r from h549)
                    exact ret1 (P := Try.prog) (n := 92) (fn := Try.f31) (R := fun v w' => v = Value.bool (!x547.is) ∧ St [] w w' []) (t := 0) (v := Value.bool (!x547.is)) rfl rfl rfl ⟨rfl, hs562⟩
                  · have h563 := ifF hc545 h530
                    refine WE.takeN 55 (e := 85) (v := .bool false) rfl (by decide +kernel) (by decide +kernel) (by decide +kernel) (by decide +kernel) rfl rfl rfl (Eq.trans (show _ = Value.bool (decide (x528 = (⟨true, (⟨3, Cl.zero.offer, Cl.zero.report, Cl.zero.view⟩ : Cl)⟩ : Hd))) from rfl) (congrArg Value.bool (decide_eq_false hc545))) rfl ?_
                    refine WE.takeN 56 (e := 85) (v := .bool false) rfl (by decide +kernel) (by decide +kernel) (by decide +kernel) (by decide +kernel) rfl rfl rfl (Eq.trans (show _ = Value.bool (decide (x528 = (⟨true, (⟨3, Cl.zero.offer, Cl.zero.report, Cl.zero.view⟩ : Cl)⟩ : Hd))) from rfl) (congrArg Value.bool (decide_eq_false hc545))) rfl ?_
                    refine WE.takeN 57 (e := 85) (v := .bool false) rfl (by decide +kernel) (by decide +kernel) (by decide +kernel) (by decide +kernel) rfl rfl rfl (Eq.trans (show _ = Value.bool (decide (x528 = (⟨true, (⟨3, Cl.zero.offer, Cl.zero.report, Cl.zero.view⟩ : Cl)⟩ : Hd))) from rfl) (congrArg Value.bool (decide_eq_false hc545))) rfl ?_
                    refine WE.takeN 58 (e := 85) (v := .bool false) rfl (by decide +kernel) (by decide +kernel) (by decide +kernel) (by decide +kernel) rfl rfl rfl (Eq.trans (show _ = Value.bool (decide (x528 = (⟨true, (⟨3, Cl.zero.offer, Cl.zero.report, Cl.zero.view⟩ : Cl)⟩ : Hd))) from rfl) (congrArg Value.bool (decide_eq_false hc545))) rfl ?_
                    refine WE.takeN 59 (e := 85) (v := .bool false) rfl (by decide +kernel) (by decide +kernel) (by decide +kernel) (by decide +kernel) rfl rfl rfl (Eq.trans (show _ = Value.bool (decide (x528 = (⟨true, (⟨3, Cl.zero.offer, Cl.zero.report, Cl.zero.view⟩ : Cl)⟩ : Hd))) from rfl) (congrArg Value.bool (decide_eq_false hc545))) rfl ?_
                    refine WE.take 60 rfl (by decide +kernel) (by decide +kernel) (by decide +kernel) (by decide +kernel) rfl rfl (fun wq hq => R.pickF (v := Value.bool false) (Eq.trans (show _ = Value.bool (decide (x528 = (⟨true, (⟨3, Cl.zero.offer, Cl.zero.report, Cl.zero.view⟩ : Cl)⟩ : Hd))) from rfl) (congrArg Value.bool (decide_eq_false hc545))) rfl) ?_
                    refine WE.take 61 rfl (by decide +kernel) (by decide +kernel) (by decide +kernel) (by decide +kernel) rfl rfl (fun wq hq => R.assign (v := Value.bool false) rfl) ?_
                    refine WE.done (by decide +kernel) ?_
                    refine thenN ?_
                    refine WC.ret ?_
                    have ht564 := (hs442.here).perm (L' := []) (G := [blk b430 60 (encH (⟨true, (⟨5, Cl.zero.offer, Cl.zero.report, Cl.zero.view⟩ : Cl)⟩ : Hd))]) ((List.Perm.refl _))
                    have hs565 := hs442.trans ht564
                    obtain rfl := Option.some.inj (show some false = some r from h563)
                    exact ret1 (P := Try.prog) (n := 92) (fn := Try.f31) (R := fun v w' => v = Value.bool false ∧ St [] w w' []) (t := 0) (v := Value.bool false) rfl rfl rfl ⟨rfl, hs565⟩
                · have h566 := ifF hc526 h524
                  refine WE.takeY 44 (e := 72) rfl (by decide +kernel) (by decide +kernel) (by decide +kernel) (by decide +kernel) rfl rfl rfl rfl (Eq.trans (show _ = Value.bool (!x504.is) from rfl) (congrArg Value.bool hk525)) (fun wq hq => R.eqlF (k := .i64) (a := ((y414.length : Nat) : Int)) (b := 2) un3 rfl rfl hc526) ?_
                  refine WE.take 45 rfl (by decide +kernel) (by decide +kernel) (by decide +kernel) (by decide +kernel) rfl rfl (fun wq hq => R.pickT (v := Value.bool false) (Eq.trans (show _ = Value.bool (!x504.is) from rfl) (congrArg Value.bool hk525)) rfl) ?_
                  refine WE.take 46 rfl (by decide +kernel) (by decide +kernel) (by decide +kernel) (by decide +kernel) rfl rfl (fun wq hq => R.move (v := Value.bool false) rfl) ?_
                  refine WE.takeN 47 (e := 77) (v := .bool false) rfl (by decide +kernel) (by decide +kernel) (by decide +kernel) (by decide +kernel) rfl rfl rfl rfl rfl ?_
                  refine WE.takeN 48 (e := 77) (v := .bool false) rfl (by decide +kernel) (by decide +kernel) (by decide +kernel) (by decide +kernel) rfl rfl rfl rfl rfl ?_
                  refine WE.takeN 49 (e := 77) (v := .bool false) rfl (by decide +kernel) (by decide +kernel) (by decide +kernel) (by decide +kernel) rfl rfl rfl rfl rfl ?_
                  refine WE.takeN 50 (e := 77) (v := .bool false) rfl (by decide +kernel) (by decide +kernel) (by decide +kernel) (by decide +kernel) rfl rfl rfl rfl rfl ?_
                  refine WE.takeN 51 (e := 77) (v := .bool false) rfl (by decide +kernel) (by decide +kernel) (by decide +kernel) (by decide +kernel) rfl rfl rfl rfl rfl ?_
                  refine WE.takeN 52 (e := 77) (v := .bool false) rfl (by decide +kernel) (by decide +kernel) (by decide +kernel) (by decide +kernel) rfl rfl rfl rfl rfl ?_
                  refine WE.take 53 rfl (by decide +kernel) (by decide +kernel) (by decide +kernel) (by decide +kernel) rfl rfl (fun wq hq => R.pickF (v := Value.bool false) rfl rfl) ?_
                  refine WE.take 54 rfl (by decide +kernel) (by decide +kernel) (by decide +kernel) (by decide +kernel) rfl rfl (fun wq hq => R.move (v := Value.bool false) rfl) ?_
                  refine WE.takeN 55 (e := 85) (v := .bool false) rfl (by decide +kernel) (by decide +kernel) (by decide +kernel) (by decide +kernel) rfl rfl rfl rfl rfl ?_
                  refine WE.takeN 56 (e := 85) (v := .bool false) rfl (by decide +kernel) (by decide +kernel) (by decide +kernel) (by decide +kernel) rfl rfl rfl rfl rfl ?_
                  refine WE.takeN 57 (e := 85) (v := .bool false) rfl (by decide +kernel) (by decide +kernel) (by decide +kernel) (by decide +kernel) rfl rfl rfl rfl rfl ?_
                  refine WE.takeN 58 (e := 85) (v := .bool false) rfl (by decide +kernel) (by decide +kernel) (by decide +kernel) (by decide +kernel) rfl rfl rfl rfl rfl ?_
                  refine WE.takeN 59 (e := 85) (v := .bool false) rfl (by decide +kernel) (by decide +kernel) (by decide +kernel) (by decide +kernel) rfl rfl rfl rfl rfl ?_
                  refine WE.take 60 rfl (by decide +kernel) (by decide +kernel) (by decide +kernel) (by decide +kernel) rfl rfl (fun wq hq => R.pickF (v := Value.bool false) rfl rfl) ?_
                  refine WE.take 61 rfl (by decide +kernel) (by decide +kernel) (by decide +kernel) (by decide +kernel) rfl rfl (fun wq hq => R.assign (v := Value.bool false) rfl) ?_
                  refine WE.done (by decide +kernel) ?_
                  refine thenN ?_
                  refine WC.ret ?_
                  have ht567 := (hs442.here).perm (L' := []) (G := [blk b430 60 (encH (⟨true, (⟨5, Cl.zero.offer, Cl.zero.report, Cl.zero.view⟩ : Cl)⟩ : Hd))]) ((List.Perm.refl _))
                  have hs568 := hs442.trans ht567
                  obtain rfl := Option.some.inj (show some false = some r from h566)
                  exact ret1 (P := Try.prog) (n := 92) (fn := Try.f31) (R := fun v w' => v = Value.bool false ∧ St [] w w' []) (t := 0) (v := Value.bool false) rfl rfl rfl ⟨rfl, hs568⟩
            · have h569 := ifF hc502 h501
              refine WE.takeY 32 (e := 60) rfl (by decide +kernel) (by decide +kernel) (by decide +kernel) (by decide +kernel) rfl rfl rfl rfl (Eq.trans (show _ = Value.bool (decide (x485 = (⟨true, (⟨5, Cl.zero.offer, Cl.zero.report, Cl.zero.view⟩ : Cl)⟩ : Hd))) from rfl) (congrArg Value.bool (decide_eq_true hc500))) (fun wq hq => R.eqlF (k := .i64) (a := ((y375.length : Nat) : Int)) (b := 4) un3 rfl rfl hc502) ?_
              refine WE.take 33 rfl (by decide +kernel) (by decide +kernel) (by decide +kernel) (by decide +kernel) rfl rfl (fun wq hq => R.pickT (v := Value.bool false) (Eq.trans (show _ = Value.bool (decide (x485 = (⟨true, (⟨5, Cl.zero.offer, Cl.zero.report, Cl.zero.view⟩ : Cl)⟩ : Hd))) from rfl) (congrArg Value.bool (decide_eq_true hc500))) rfl) ?_
              refine WE.take 34 rfl (by decide +kernel) (by decide +kernel) (by decide +kernel) (by decide +kernel) rfl rfl (fun wq hq => R.move (v := Value.bool false) rfl) ?_
              refine WE.takeN 35 (e := 65) (v := .bool false) rfl (by decide +kernel) (by decide +kernel) (by decide +kernel) (by decide +kernel) rfl rfl rfl rfl rfl ?_
              refine WE.takeN 36 (e := 65) (v := .bool false) rfl (by decide +kernel) (by decide +kernel) (by decide +kernel) (by decide +kernel) rfl rfl rfl rfl rfl ?_
              refine WE.takeN 37 (e := 65) (v := .bool false) rfl (by decide +kernel) (by decide +kernel) (by decide +kernel) (by decide +kernel) rfl rfl rfl rfl rfl ?_
              refine WE.takeN 38 (e := 65) (v := .bool false) rfl (by decide +kernel) (by decide +kernel) (by decide +kernel) (by decide +kernel) rfl rfl rfl rfl rfl ?_
              refine WE.takeN 39 (e := 65) (v := .bool false) rfl (by decide +kernel) (by decide +kernel) (by decide +kernel) (by decide +kernel) rfl rfl rfl rfl rfl ?_
              refine WE.take 40 rfl (by decide +kernel) (by decide +kernel) (by decide +kernel) (by decide +kernel) rfl rfl (fun wq hq => R.pickF (v := Value.bool false) rfl rfl) ?_
              refine WE.take 41 rfl (by decide +kernel) (by decide +kernel) (by decide +kernel) (by decide +kernel) rfl rfl (fun wq hq => R.move (v := Value.bool false) rfl) ?_
              refine WE.takeN 42 (e := 72) (v := .bool false) rfl (by decide +kernel) (by decide +kernel) (by decide +kernel) (by decide +kernel) rfl rfl rfl rfl rfl ?_
              refine WE.takeN 43 (e := 72) (v := .bool false) rfl (by decide +kernel) (by decide +kernel) (by decide +kernel) (by decide +kernel) rfl rfl rfl rfl rfl ?_
              refine WE.takeN 44 (e := 72) (v := .bool false) rfl (by decide +kernel) (by decide +kernel) (by decide +kernel) (by decide +kernel) rfl rfl rfl rfl rfl ?_
              refine WE.take 45 rfl (by decide +kernel) (by decide +kernel) (by decide +kernel) (by decide +kernel) rfl rfl (fun wq hq => R.pickF (v := Value.bool false) rfl rfl) ?_
              refine WE.take 46 rfl (by decide +kernel) (by decide +kernel) (by decide +kernel) (by decide +kernel) rfl rfl (fun wq hq => R.move (v := Value.bool false) rfl) ?_
              refine WE.takeN 47 (e := 77) (v := .bool false) rfl (by decide +kernel) (by decide +kernel) (by decide +kernel) (by decide +kernel) rfl rfl rfl rfl rfl ?_
              refine WE.takeN 48 (e := 77) (v := .bool false) rfl (by decide +kernel) (by decide +kernel) (by decide +kernel) (by decide +kernel) rfl rfl rfl rfl rfl ?_
              refine WE.takeN 49 (e := 77) (v := .bool false) rfl (by decide +kernel) (by decide +kernel) (by decide +kernel) (by decide +kernel) rfl rfl rfl rfl rfl ?_
              refine WE.takeN 50 (e := 77) (v := .bool false) rfl (by decide +kernel) (by decide +kernel) (by decide +kernel) (by decide +kernel) rfl rfl rfl rfl rfl ?_
              refine WE.takeN 51 (e := 77) (v := .bool false) rfl (by decide +kernel) (by decide +kernel) (by decide +kernel) (by decide +kernel) rfl rfl rfl rfl rfl ?_
              refine WE.takeN 52 (e := 77) (v := .bool false) rfl (by decide +kernel) (by decide +kernel) (by decide +kernel) (by decide +kernel) rfl rfl rfl rfl rfl ?_
              refine WE.take 53 rfl (by decide +kernel) (by decide +kernel) (by decide +kernel) (by decide +kernel) rfl rfl (fun wq hq => R.pickF (v := Value.bool false) rfl rfl) ?_
              refine WE.take 54 rfl (by decide +kernel) (by decide +kernel) (by decide +kernel) (by decide +kernel) rfl rfl (fun wq hq => R.move (v := Value.bool false) rfl) ?_
              refine WE.takeN 55 (e := 85) (v := .bool false) rfl (by decide +kernel) (by decide +kernel) (by decide +kernel) (by decide +kernel) rfl rfl rfl rfl rfl ?_
              refine WE.takeN 56 (e := 85) (v := .bool false) rfl (by decide +kernel) (by decide +kernel) (by decide +kernel) (by decide +kernel) rfl rfl rfl rfl rfl ?_
              refine WE.takeN 57 (e := 85) (v := .bool false) rfl (by decide +kernel) (by decide +kernel) (by decide +kernel) (by decide +kernel) rfl rfl rfl rfl rfl ?_
              refine WE.takeN 58 (e := 85) (v := .bool false) rfl (by decide +kernel) (by decide +kernel) (by decide +kernel) (by decide +kernel) rfl rfl rfl rfl rfl ?_
              refine WE.takeN 59 (e := 85) (v := .bool false) rfl (by decide +kernel) (by decide +kernel) (by decide +kernel) (by decide +kernel) rfl rfl rfl rfl rfl ?_
              refine WE.take 60 rfl (by decide +kernel) (by decide +kernel) (by decide +kernel) (by decide +kernel) rfl rfl (fun wq hq => R.pickF (v := Value.bool false) rfl rfl) ?_
              refine WE.take 61 rfl (by decide +kernel) (by decide +kernel) (by decide +kernel) (by decide +kernel) rfl rfl (fun wq hq => R.assign (v := Value.bool false) rfl) ?_
              refine WE.done (by decide +kernel) ?_
              refine thenN ?_
              refine WC.ret ?_
              have ht570 := (hs442.here).perm (L' := []) (G := [blk b430 60 (encH (⟨true, (⟨5, Cl.zero.offer, Cl.zero.report, Cl.zero.view⟩ : Cl)⟩ : Hd))]) ((List.Perm.refl _))
              have hs571 := hs442.trans ht570
              obtain rfl := Option.some.inj (show some false = some r from h569)
              exact ret1 (P := Try.prog) (n := 92) (fn := Try.f31) (R := fun v w' => v = Value.bool false ∧ St [] w w' []) (t := 0) (v := Value.bool false) rfl rfl rfl ⟨rfl, hs571⟩
          · have h572 := ifF hc500 h487
            refine WE.takeN 30 (e := 60) (v := .bool false) rfl (by decide +kernel) (by decide +kernel) (by decide +kernel) (by decide +kernel) rfl rfl rfl (Eq.trans (show _ = Value.bool (decide (x485 = (⟨true, (⟨5, Cl.zero.offer, Cl.zero.report, Cl.zero.view⟩ : Cl)⟩ : Hd))) from rfl) (congrArg Value.bool (decide_eq_false hc500))) rfl ?_
            refine WE.takeN 31 (e := 60) (v := .bool false) rfl (by decide +kernel) (by decide +kernel) (by decide +kernel) (by decide +kernel) rfl rfl rfl (Eq.trans (show _ = Value.bool (decide (x485 = (⟨true, (⟨5, Cl.zero.offer, Cl.zero.report, Cl.zero.view⟩ : Cl)⟩ : Hd))) from rfl) (congrArg Value.bool (decide_eq_false hc500))) rfl ?_
            refine WE.takeN 32 (e := 60) (v := .bool false) rfl (by decide +kernel) (by decide +kernel) (by decide +kernel) (by decide +kernel) rfl rfl rfl (Eq.trans (show _ = Value.bool (decide (x485 = (⟨true, (⟨5, Cl.zero.offer, Cl.zero.report, Cl.zero.view⟩ : Cl)⟩ : Hd))) from rfl) (congrArg Value.bool (decide_eq_false hc500))) rfl ?_
            refine WE.take 33 rfl (by decide +kernel) (by decide +kernel) (by decide +kernel) (by decide +kernel) rfl rfl (fun wq hq => R.pickF (v := Value.bool false) (Eq.trans (show _ = Value.bool (decide (x485 = (⟨true, (⟨5, Cl.zero.offer, Cl.zero.report, Cl.zero.view⟩ : Cl)⟩ : Hd))) from rfl) (congrArg Value.bool (decide_eq_false hc500))) rfl) ?_
            refine WE.take 34 rfl (by decide +kernel) (by decide +kernel) (by decide +kernel) (by decide +kernel) rfl rfl (fun wq hq => R.move (v := Value.bool false) rfl) ?_
            refine WE.takeN 35 (e := 65) (v := .bool false) rfl (by decide +kernel) (by decide +kernel) (by decide +kernel) (by decide +kernel) rfl rfl rfl rfl rfl ?_
            refine WE.takeN 36 (e := 65) (v := .bool false) rfl (by decide +kernel) (by decide +kernel) (by decide +kernel) (by decide +kernel) rfl rfl rfl rfl rfl ?_
            refine WE.takeN 37 (e := 65) (v := .bool false) rfl (by decide +kernel) (by decide +kernel) (by decide +kernel) (by decide +kernel) rfl rfl rfl rfl rfl ?_
            refine WE.takeN 38 (e := 65) (v := .bool false) rfl (by decide +kernel) (by decide +kernel) (by decide +kernel) (by decide +kernel) rfl rfl rfl rfl rfl ?_
            refine WE.takeN 39 (e := 65) (v := .bool false) rfl (by decide +kernel) (by decide +kernel) (by decide +kernel) (by decide +kernel) rfl rfl rfl rfl rfl ?_
            refine WE.take 40 rfl (by decide +kernel) (by decide +kernel) (by decide +kernel) (by decide +kernel) rfl rfl (fun wq hq => R.pickF (v := Value.bool false) rfl rfl) ?_
            refine WE.take 41 rfl (by decide +kernel) (by decide +kernel) (by decide +kernel) (by decide +kernel) rfl rfl (fun wq hq => R.move (v := Value.bool false) rfl) ?_
            refine WE.takeN 42 (e := 72) (v := .bool false) rfl (by decide +kernel) (by decide +kernel) (by decide +kernel) (by decide +kernel) rfl rfl rfl rfl rfl ?_
            refine WE.takeN 43 (e := 72) (v := .bool false) rfl (by decide +kernel) (by decide +kernel) (by decide +kernel) (by decide +kernel) rfl rfl rfl rfl rfl ?_
            refine WE.takeN 44 (e := 72) (v := .bool false) rfl (by decide +kernel) (by decide +kernel) (by decide +kernel) (by decide +kernel) rfl rfl rfl rfl rfl ?_
            refine WE.take 45 rfl (by decide +kernel) (by decide +kernel) (by decide +kernel) (by decide +kernel) rfl rfl (fun wq hq => R.pickF (v := Value.bool false) rfl rfl) ?_
            refine WE.take 46 rfl (by decide +kernel) (by decide +kernel) (by decide +kernel) (by decide +kernel) rfl rfl (fun wq hq => R.move (v := Value.bool false) rfl) ?_
            refine WE.takeN 47 (e := 77) (v := .bool false) rfl (by decide +kernel) (by decide +kernel) (by decide +kernel) (by decide +kernel) rfl rfl rfl rfl rfl ?_
            refine WE.takeN 48 (e := 77) (v := .bool false) rfl (by decide +kernel) (by decide +kernel) (by decide +kernel) (by decide +kernel) rfl rfl rfl rfl rfl ?_
            refine WE.takeN 49 (e := 77) (v := .bool false) rfl (by decide +kernel) (by decide +kernel) (by decide +kernel) (by decide +kernel) rfl rfl rfl rfl rfl ?_
            refine WE.takeN 50 (e := 77) (v := .bool false) rfl (by decide +kernel) (by decide +kernel) (by decide +kernel) (by decide +kernel) rfl rfl rfl rfl rfl ?_
            refine WE.takeN 51 (e := 77) (v := .bool false) rfl (by decide +kernel) (by decide +kernel) (by decide +kernel) (by decide +kernel) rfl rfl rfl rfl rfl ?_
            refine WE.takeN 52 (e := 77) (v := .bool false) rfl (by decide +kernel) (by decide +kernel) (by decide +kernel) (by decide +kernel) rfl rfl rfl rfl rfl ?_
            refine WE.take 53 rfl (by decide +kernel) (by decide +kernel) (by decide +kernel) (by decide +kernel) rfl rfl (fun wq hq => R.pickF (v := Value.bool false) rfl rfl) ?_
            refine WE.take 54 rfl (by decide +kernel) (by decide +kernel) (by decide +kernel) (by decide +kernel) rfl rfl (fun wq hq => R.move (v := Value.bool false) rfl) ?_
            refine WE.takeN 55 (e := 85) (v := .bool false) rfl (by decide +kernel) (by decide +kernel) (by decide +kernel) (by decide +kernel) rfl rfl rfl rfl rfl ?_
            refine WE.takeN 56 (e := 85) (v := .bool false) rfl (by decide +kernel) (by decide +kernel) (by decide +kernel) (by decide +kernel) rfl rfl rfl rfl rfl ?_
            refine WE.takeN 57 (e := 85) (v := .bool false) rfl (by decide +kernel) (by decide +kernel) (by decide +kernel) (by decide +kernel) rfl rfl rfl rfl rfl ?_
            refine WE.takeN 58 (e := 85) (v := .bool false) rfl (by decide +kernel) (by decide +kernel) (by decide +kernel) (by decide +kernel) rfl rfl rfl rfl rfl ?_
            refine WE.takeN 59 (e := 85) (v := .bool false) rfl (by decide +kernel) (by decide +kernel) (by decide +kernel) (by decide +kernel) rfl rfl rfl rfl rfl ?_
            refine WE.take 60 rfl (by decide +kernel) (by decide +kernel) (by decide +kernel) (by decide +kernel) rfl rfl (fun wq hq => R.pickF (v := Value.bool false) rfl rfl) ?_
            refine WE.take 61 rfl (by decide +kernel) (by decide +kernel) (by decide +kernel) (by decide +kernel) rfl rfl (fun wq hq => R.assign (v := Value.bool false) rfl) ?_
            refine WE.done (by decide +kernel) ?_
            refine thenN ?_
            refine WC.ret ?_
            have ht573 := (hs442.here).perm (L' := []) (G := [blk b430 60 (encH (⟨true, (⟨5, Cl.zero.offer, Cl.zero.report, Cl.zero.view⟩ : Cl)⟩ : Hd))]) ((List.Perm.refl _))
            have hs574 := hs442.trans ht573
            obtain rfl := Option.some.inj (show some false = some r from h572)
            exact ret1 (P := Try.prog) (n := 92) (fn := Try.f31) (R := fun v w' => v = Value.bool false ∧ St [] w w' []) (t := 0) (v := Value.bool false) rfl rfl rfl ⟨rfl, hs574⟩
        · have h575 := ifF hc483 h481
          refine WE.takeY 20 (e := 48) rfl (by decide +kernel) (by decide +kernel) (by decide +kernel) (by decide +kernel) rfl rfl rfl rfl (Eq.trans (show _ = Value.bool (!x462.is) from rfl) (congrArg Value.bool hk482)) (fun wq hq => R.eqlF (k := .i64) (a := ((y279.length : Nat) : Int)) (b := 4) un3 rfl rfl hc483) ?_
          refine WE.take 21 rfl (by decide +kernel) (by decide +kernel) (by decide +kernel) (by decide +kernel) rfl rfl (fun wq hq => R.pickT (v := Value.bool false) (Eq.trans (show _ = Value.bool (!x462.is) from rfl) (congrArg Value.bool hk482)) rfl) ?_
          refine WE.take 22 rfl (by decide +kernel) (by decide +kernel) (by decide +kernel) (by decide +kernel) rfl rfl (fun wq hq => R.move (v := Value.bool false) rfl) ?_
          refine WE.takeN 23 (e := 53) (v := .bool false) rfl (by decide +kernel) (by decide +kernel) (by decide +kernel) (by decide +kernel) rfl rfl rfl rfl rfl ?_
          refine WE.takeN 24 (e := 53) (v := .bool false) rfl (by decide +kernel) (by decide +kernel) (by decide +kernel) (by decide +kernel) rfl rfl rfl rfl rfl ?_
          refine WE.takeN 25 (e := 53) (v := .bool false) rfl (by decide +kernel) (by decide +kernel) (by decide +kernel) (by decide +kernel) rfl rfl rfl rfl rfl ?_
          refine WE.takeN 26 (e := 53) (v := .bool false) rfl (by decide +kernel) (by decide +kernel) (by decide +kernel) (by decide +kernel) rfl rfl rfl rfl rfl ?_
          refine WE.takeN 27 (e := 53) (v := .bool false) rfl (by decide +kernel) (by decide +kernel) (by decide +kernel) (by decide +kernel) rfl rfl rfl rfl rfl ?_
          refine WE.take 28 rfl (by decide +kernel) (by decide +kernel) (by decide +kernel) (by decide +kernel) rfl rfl (fun wq hq => R.pickF (v := Value.bool false) rfl rfl) ?_
          refine WE.take 29 rfl (by decide +kernel) (by decide +kernel) (by decide +kernel) (by decide +kernel) rfl rfl (fun wq hq => R.move (v := Value.bool false) rfl) ?_
          refine WE.takeN 30 (e := 60) (v := .bool false) rfl (by decide +kernel) (by decide +kernel) (by decide +kernel) (by decide +kernel) rfl rfl rfl rfl rfl ?_
          refine WE.takeN 31 (e := 60) (v := .bool false) rfl (by decide +kernel) (by decide +kernel) (by decide +kernel) (by decide +kernel) rfl rfl rfl rfl rfl ?_
          refine WE.takeN 32 (e := 60) (v := .bool false) rfl (by decide +kernel) (by decide +kernel) (by decide +kernel) (by decide +kernel) rfl rfl rfl rfl rfl ?_
          refine WE.take 33 rfl (by decide +kernel) (by decide +kernel) (by decide +kernel) (by decide +kernel) rfl rfl (fun wq hq => R.pickF (v := Value.bool false) rfl rfl) ?_
          refine WE.take 34 rfl (by decide +kernel) (by decide +kernel) (by decide +kernel) (by decide +kernel) rfl rfl (fun wq hq => R.move (v := Value.bool false) rfl) ?_
          refine WE.takeN 35 (e := 65) (v := .bool false) rfl (by decide +kernel) (by decide +kernel) (by decide +kernel) (by decide +kernel) rfl rfl rfl rfl rfl ?_
          refine WE.takeN 36 (e := 65) (v := .bool false) rfl (by decide +kernel) (by decide +kernel) (by decide +kernel) (by decide +kernel) rfl rfl rfl rfl rfl ?_
          refine WE.takeN 37 (e := 65) (v := .bool false) rfl (by decide +kernel) (by decide +kernel) (by decide +kernel) (by decide +kernel) rfl rfl rfl rfl rfl ?_
          refine WE.takeN 38 (e := 65) (v := .bool false) rfl (by decide +kernel) (by decide +kernel) (by decide +kernel) (by decide +kernel) rfl rfl rfl rfl rfl ?_
          refine WE.takeN 39 (e := 65) (v := .bool false) rfl (by decide +kernel) (by decide +kernel) (by decide +kernel) (by decide +kernel) rfl rfl rfl rfl rfl ?_
          refine WE.take 40 rfl (by decide +kernel) (by decide +kernel) (by decide +kernel) (by decide +kernel) rfl rfl (fun wq hq => R.pickF (v := Value.bool false) rfl rfl) ?_
          refine WE.take 41 rfl (by decide +kernel) (by decide +kernel) (by decide +kernel) (by decide +kernel) rfl rfl (fun wq hq => R.move (v := Value.bool false) rfl) ?_
          refine WE.takeN 42 (e := 72) (v := .bool false) rfl (by decide +kernel) (by decide +kernel) (by decide +kernel) (by decide +kernel) rfl rfl rfl rfl rfl ?_
          refine WE.takeN 43 (e := 72) (v := .bool false) rfl (by decide +kernel) (by decide +kernel) (by decide +kernel) (by decide +kernel) rfl rfl rfl rfl rfl ?_
          refine WE.takeN 44 (e := 72) (v := .bool false) rfl (by decide +kernel) (by decide +kernel) (by decide +kernel) (by decide +kernel) rfl rfl rfl rfl rfl ?_
          refine WE.take 45 rfl (by decide +kernel) (by decide +kernel) (by decide +kernel) (by decide +kernel) rfl rfl (fun wq hq => R.pickF (v := Value.bool false) rfl rfl) ?_
          refine WE.take 46 rfl (by decide +kernel) (by decide +kernel) (by decide +kernel) (by decide +kernel) rfl rfl (fun wq hq => R.move (v := Value.bool false) rfl) ?_
          refine WE.takeN 47 (e := 77) (v := .bool false) rfl (by decide +kernel) (by decide +kernel) (by decide +kernel) (by decide +kernel) rfl rfl rfl rfl rfl ?_
          refine WE.takeN 48 (e := 77) (v := .bool false) rfl (by decide +kernel) (by decide +kernel) (by decide +kernel) (by decide +kernel) rfl rfl rfl rfl rfl ?_
          refine WE.takeN 49 (e := 77) (v := .bool false) rfl (by decide +kernel) (by decide +kernel) (by decide +kernel) (by decide +kernel) rfl rfl rfl rfl rfl ?_
          refine WE.takeN 50 (e := 77) (v := .bool false) rfl (by decide +kernel) (by decide +kernel) (by decide +kernel) (by decide +kernel) rfl rfl rfl rfl rfl ?_
          refine WE.takeN 51 (e := 77) (v := .bool false) rfl (by decide +kernel) (by decide +kernel) (by decide +kernel) (by decide +kernel) rfl rfl rfl rfl rfl ?_
          refine WE.takeN 52 (e := 77) (v := .bool false) rfl (by decide +kernel) (by decide +kernel) (by decide +kernel) (by decide +kernel) rfl rfl rfl rfl rfl ?_
          refine WE.take 53 rfl (by decide +kernel) (by decide +kernel) (by decide +kernel) (by decide +kernel) rfl rfl (fun wq hq => R.pickF (v := Value.bool false) rfl rfl) ?_
          refine WE.take 54 rfl (by decide +kernel) (by decide +kernel) (by decide +kernel) (by decide +kernel) rfl rfl (fun wq hq => R.move (v := Value.bool false) rfl) ?_
          refine WE.takeN 55 (e := 85) (v := .bool false) rfl (by decide +kernel) (by decide +kernel) (by decide +kernel) (by decide +kernel) rfl rfl rfl rfl rfl ?_
          refine WE.takeN 56 (e := 85) (v := .bool false) rfl (by decide +kernel) (by decide +kernel) (by decide +kernel) (by decide +kernel) rfl rfl rfl rfl rfl ?_
          refine WE.takeN 57 (e := 85) (v := .bool false) rfl (by decide +kernel) (by decide +kernel) (by decide +kernel) (by decide +kernel) rfl rfl rfl rfl rfl ?_
          refine WE.takeN 58 (e := 85) (v := .bool false) rfl (by decide +kernel) (by decide +kernel) (by decide +kernel) (by decide +kernel) rfl rfl rfl rfl rfl ?_
          refine WE.takeN 59 (e := 85) (v := .bool false) rfl (by decide +kernel) (by decide +kernel) (by decide +kernel) (by decide +kernel) rfl rfl rfl rfl rfl ?_
          refine WE.take 60 rfl (by decide +kernel) (by decide +kernel) (by decide +kernel) (by decide +kernel) rfl rfl (fun wq hq => R.pickF (v := Value.bool false) rfl rfl) ?_
          refine WE.take 61 rfl (by decide +kernel) (by decide +kernel) (by decide +kernel) (by decide +kernel) rfl rfl (fun wq hq => R.assign (v := Value.bool false) rfl) ?_
          refine WE.done (by decide +kernel) ?_
          refine thenN ?_
          refine WC.ret ?_
          have ht576 := (hs442.here).perm (L' := []) (G := [blk b430 60 (encH (⟨true, (⟨5, Cl.zero.offer, Cl.zero.report, Cl.zero.view⟩ : Cl)⟩ : Hd))]) ((List.Perm.refl _))
          have hs577 := hs442.trans ht576
          obtain rfl := Option.some.inj (show some false = some r from h575)
          exact ret1 (P := Try.prog) (n := 92) (fn := Try.f31) (R := fun v w' => v = Value.bool false ∧ St [] w w' []) (t := 0) (v := Value.bool false) rfl rfl rfl ⟨rfl, hs577⟩
    · have h578 := ifF hc460 h447
      refine WE.takeN 11 (e := 41) (v := .bool false) rfl (by decide +kernel) (by decide +kernel) (by decide +kernel) (by decide +kernel) rfl rfl rfl (Eq.trans (show _ = Value.bool (decide (x445 = (⟨true, (⟨5, Cl.zero.offer, Cl.zero.report, Cl.zero.view⟩ : Cl)⟩ : Hd))) from rfl) (congrArg Value.bool (decide_eq_false hc460))) rfl ?_
      refine WE.takeN 12 (e := 41) (v := .bool false) rfl (by decide +kernel) (by decide +kernel) (by decide +kernel) (by decide +kernel) rfl rfl rfl (Eq.trans (show _ = Value.bool (decide (x445 = (⟨true, (⟨5, Cl.zero.offer, Cl.zero.report, Cl.zero.view⟩ : Cl)⟩ : Hd))) from rfl) (congrArg Value.bool (decide_eq_false hc460))) rfl ?_
      refine WE.takeN 13 (e := 41) (v := .bool false) rfl (by decide +kernel) (by decide +kernel) (by decide +kernel) (by decide +kernel) rfl rfl rfl (Eq.trans (show _ = Value.bool (decide (x445 = (⟨true, (⟨5, Cl.zero.offer, Cl.zero.report, Cl.zero.view⟩ : Cl)⟩ : Hd))) from rfl) (congrArg Value.bool (decide_eq_false hc460))) rfl ?_
      refine WE.takeN 14 (e := 41) (v := .bool false) rfl (by decide +kernel) (by decide +kernel) (by decide +kernel) (by decide +kernel) rfl rfl rfl (Eq.trans (show _ = Value.bool (decide (x445 = (⟨true, (⟨5, Cl.zero.offer, Cl.zero.report, Cl.zero.view⟩ : Cl)⟩ : Hd))) from rfl) (congrArg Value.bool (decide_eq_false hc460))) rfl ?_
      refine WE.takeN 15 (e := 41) (v := .bool false) rfl (by decide +kernel) (by decide +kernel) (by decide +kernel) (by decide +kernel) rfl rfl rfl (Eq.trans (show _ = Value.bool (decide (x445 = (⟨true, (⟨5, Cl.zero.offer, Cl.zero.report, Cl.zero.view⟩ : Cl)⟩ : Hd))) from rfl) (congrArg Value.bool (decide_eq_false hc460))) rfl ?_
      refine WE.take 16 rfl (by decide +kernel) (by decide +kernel) (by decide +kernel) (by decide +kernel) rfl rfl (fun wq hq => R.pickF (v := Value.bool false) (Eq.trans (show _ = Value.bool (decide (x445 = (⟨true, (⟨5, Cl.zero.offer, Cl.zero.report, Cl.zero.view⟩ : Cl)⟩ : Hd))) from rfl) (congrArg Value.bool (decide_eq_false hc460))) rfl) ?_
      refine WE.take 17 rfl (by decide +kernel) (by decide +kernel) (by decide +kernel) (by decide +kernel) rfl rfl (fun wq hq => R.move (v := Value.bool false) rfl) ?_
      refine WE.takeN 18 (e := 48) (v := .bool false) rfl (by decide +kernel) (by decide +kernel) (by decide +kernel) (by decide +kernel) rfl rfl rfl rfl rfl ?_
      refine WE.takeN 19 (e := 48) (v := .bool false) rfl (by decide +kernel) (by decide +kernel) (by decide +kernel) (by decide +kernel) rfl rfl rfl rfl rfl ?_
      refine WE.takeN 20 (e := 48) (v := .bool false) rfl (by decide +kernel) (by decide +kernel) (by decide +kernel) (by decide +kernel) rfl rfl rfl rfl rfl ?_
      refine WE.take 21 rfl (by decide +kernel) (by decide +kernel) (by decide +kernel) (by decide +kernel) rfl rfl (fun wq hq => R.pickF (v := Value.bool false) rfl rfl) ?_
      refine WE.take 22 rfl (by decide +kernel) (by decide +kernel) (by decide +kernel) (by decide +kernel) rfl rfl (fun wq hq => R.move (v := Value.bool false) rfl) ?_
      refine WE.takeN 23 (e := 53) (v := .bool false) rfl (by decide +kernel) (by decide +kernel) (by decide +kernel) (by decide +kernel) rfl rfl rfl rfl rfl ?_
      refine WE.takeN 24 (e := 53) (v := .bool false) rfl (by decide +kernel) (by decide +kernel) (by decide +kernel) (by decide +kernel) rfl rfl rfl rfl rfl ?_
      refine WE.takeN 25 (e := 53) (v := .bool false) rfl (by decide +kernel) (by decide +kernel) (by decide +kernel) (by decide +kernel) rfl rfl rfl rfl rfl ?_
      refine WE.takeN 26 (e := 53) (v := .bool false) rfl (by decide +kernel) (by decide +kernel) (by decide +kernel) (by decide +kernel) rfl rfl rfl rfl rfl ?_
      refine WE.takeN 27 (e := 53) (v := .bool false) rfl (by decide +kernel) (by decide +kernel) (by decide +kernel) (by decide +kernel) rfl rfl rfl rfl rfl ?_
      refine WE.take 28 rfl (by decide +kernel) (by decide +kernel) (by decide +kernel) (by decide +kernel) rfl rfl (fun wq hq => R.pickF (v := Value.bool false) rfl rfl) ?_
      refine WE.take 29 rfl (by decide +kernel) (by decide +kernel) (by decide +kernel) (by decide +kernel) rfl rfl (fun wq hq => R.move (v := Value.bool false) rfl) ?_
      refine WE.takeN 30 (e := 60) (v := .bool false) rfl (by decide +kernel) (by decide +kernel) (by decide +kernel) (by decide +kernel) rfl rfl rfl rfl rfl ?_
      refine WE.takeN 31 (e := 60) (v := .bool false) rfl (by decide +kernel) (by decide +kernel) (by decide +kernel) (by decide +kernel) rfl rfl rfl rfl rfl ?_
      refine WE.takeN 32 (e := 60) (v := .bool false) rfl (by decide +kernel) (by decide +kernel) (by decide +kernel) (by decide +kernel) rfl rfl rfl rfl rfl ?_
      refine WE.take 33 rfl (by decide +kernel) (by decide +kernel) (by decide +kernel) (by decide +kernel) rfl rfl (fun wq hq => R.pickF (v := Value.bool false) rfl rfl) ?_
      refine WE.take 34 rfl (by decide +kernel) (by decide +kernel) (by decide +kernel) (by decide +kernel) rfl rfl (fun wq hq => R.move (v := Value.bool false) rfl) ?_
      refine WE.takeN 35 (e := 65) (v := .bool false) rfl (by decide +kernel) (by decide +kernel) (by decide +kernel) (by decide +kernel) rfl rfl rfl rfl rfl ?_
      refine WE.takeN 36 (e := 65) (v := .bool false) rfl (by decide +kernel) (by decide +kernel) (by decide +kernel) (by decide +kernel) rfl rfl rfl rfl rfl ?_
      refine WE.takeN 37 (e := 65) (v := .bool false) rfl (by decide +kernel) (by decide +kernel) (by decide +kernel) (by decide +kernel) rfl rfl rfl rfl rfl ?_
      refine WE.takeN 38 (e := 65) (v := .bool false) rfl (by decide +kernel) (by decide +kernel) (by decide +kernel) (by decide +kernel) rfl rfl rfl rfl rfl ?_
      refine WE.takeN 39 (e := 65) (v := .bool false) rfl (by decide +kernel) (by decide +kernel) (by decide +kernel) (by decide +kernel) rfl rfl rfl rfl rfl ?_
      refine WE.take 40 rfl (by decide +kernel) (by decide +kernel) (by decide +kernel) (by decide +kernel) rfl rfl (fun wq hq => R.pickF (v := Value.bool false) rfl rfl) ?_
      refine WE.take 41 rfl (by decide +kernel) (by decide +kernel) (by decide +kernel) (by decide +kernel) rfl rfl (fun wq hq => R.move (v := Value.bool false) rfl) ?_
      refine WE.takeN 42 (e := 72) (v := .bool false) rfl (by decide +kernel) (by decide +kernel) (by decide +kernel) (by decide +kernel) rfl rfl rfl rfl rfl ?_
      refine WE.takeN 43 (e := 72) (v := .bool false) rfl (by decide +kernel) (by decide +kernel) (by decide +kernel) (by decide +kernel) rfl rfl rfl rfl rfl ?_
      refine WE.takeN 44 (e := 72) (v := .bool false) rfl (by decide +kernel) (by decide +kernel) (by decide +kernel) (by decide +kernel) rfl rfl rfl rfl rfl ?_
      refine WE.take 45 rfl (by decide +kernel) (by decide +kernel) (by decide +kernel) (by decide +kernel) rfl rfl (fun wq hq => R.pickF (v := Value.bool false) rfl rfl) ?_
      refine WE.take 46 rfl (by decide +kernel) (by decide +kernel) (by decide +kernel) (by decide +kernel) rfl rfl (fun wq hq => R.move (v := Value.bool false) rfl) ?_
      refine WE.takeN 47 (e := 77) (v := .bool false) rfl (by decide +kernel) (by decide +kernel) (by decide +kernel) (by decide +kernel) rfl rfl rfl rfl rfl ?_
      refine WE.takeN 48 (e := 77) (v := .bool false) rfl (by decide +kernel) (by decide +kernel) (by decide +kernel) (by decide +kernel) rfl rfl rfl rfl rfl ?_
      refine WE.takeN 49 (e := 77) (v := .bool false) rfl (by decide +kernel) (by decide +kernel) (by decide +kernel) (by decide +kernel) rfl rfl rfl rfl rfl ?_
      refine WE.takeN 50 (e := 77) (v := .bool false) rfl (by decide +kernel) (by decide +kernel) (by decide +kernel) (by decide +kernel) rfl rfl rfl rfl rfl ?_
      refine WE.takeN 51 (e := 77) (v := .bool false) rfl (by decide +kernel) (by decide +kernel) (by decide +kernel) (by decide +kernel) rfl rfl rfl rfl rfl ?_
      refine WE.takeN 52 (e := 77) (v := .bool false) rfl (by decide +kernel) (by decide +kernel) (by decide +kernel) (by decide +kernel) rfl rfl rfl rfl rfl ?_
      refine WE.take 53 rfl (by decide +kernel) (by decide +kernel) (by decide +kernel) (by decide +kernel) rfl rfl (fun wq hq => R.pickF (v := Value.bool false) rfl rfl) ?_
      refine WE.take 54 rfl (by decide +kernel) (by decide +kernel) (by decide +kernel) (by decide +kernel) rfl rfl (fun wq hq => R.move (v := Value.bool false) rfl) ?_
      refine WE.takeN 55 (e := 85) (v := .bool false) rfl (by decide +kernel) (by decide +kernel) (by decide +kernel) (by decide +kernel) rfl rfl rfl rfl rfl ?_
      refine WE.takeN 56 (e := 85) (v := .bool false) rfl (by decide +kernel) (by decide +kernel) (by decide +kernel) (by decide +kernel) rfl rfl rfl rfl rfl ?_
      refine WE.takeN 57 (e := 85) (v := .bool false) rfl (by decide +kernel) (by decide +kernel) (by decide +kernel) (by decide +kernel) rfl rfl rfl rfl rfl ?_
      refine WE.takeN 58 (e := 85) (v := .bool false) rfl (by decide +kernel) (by decide +kernel) (by decide +kernel) (by decide +kernel) rfl rfl rfl rfl rfl ?_
      refine WE.takeN 59 (e := 85) (v := .bool false) rfl (by decide +kernel) (by decide +kernel) (by decide +kernel) (by decide +kernel) rfl rfl rfl rfl rfl ?_
      refine WE.take 60 rfl (by decide +kernel) (by decide +kernel) (by decide +kernel) (by decide +kernel) rfl rfl (fun wq hq => R.pickF (v := Value.bool false) rfl rfl) ?_
      refine WE.take 61 rfl (by decide +kernel) (by decide +kernel) (by decide +kernel) (by decide +kernel) rfl rfl (fun wq hq => R.assign (v := Value.bool false) rfl) ?_
      refine WE.done (by decide +kernel) ?_
      refine thenN ?_
      refine WC.ret ?_
      have ht579 := (hs442.here).perm (L' := []) (G := [blk b430 60 (encH (⟨true, (⟨5, Cl.zero.offer, Cl.zero.report, Cl.zero.view⟩ : Cl)⟩ : Hd))]) ((List.Perm.refl _))
      have hs580 := hs442.trans ht579
      obtain rfl := Option.some.inj (show some false = some r from h578)
      exact ret1 (P := Try.prog) (n := 92) (fn := Try.f31) (R := fun v w' => v = Value.bool false ∧ St [] w w' []) (t := 0) (v := Value.bool false) rfl rfl rfl ⟨rfl, hs580⟩
  · have h581 := ifF hc443 h416
    refine WE.take 2 rfl (by decide +kernel) (by decide +kernel) (by decide +kernel) (by decide +kernel) rfl rfl (fun wq hq => R.eqlF (k := .i64) (a := ((y183.length : Nat) : Int)) (b := 4) un3 rfl rfl hc443) ?_
    refine WE.take 3 rfl (by decide +kernel) (by decide +kernel) (by decide +kernel) (by decide +kernel) rfl rfl (fun wq hq => R.move (v := Value.bool false) rfl) ?_
    refine WE.takeN 4 (e := 34) (v := .bool false) rfl (by decide +kernel) (by decide +kernel) (by decide +kernel) (by decide +kernel) rfl rfl rfl rfl rfl ?_
    refine WE.takeN 5 (e := 34) (v := .bool false) rfl (by decide +kernel) (by decide +kernel) (by decide +kernel) (by decide +kernel) rfl rfl rfl rfl rfl ?_
    refine WE.takeN 6 (e := 34) (v := .bool false) rfl (by decide +kernel) (by decide +kernel) (by decide +kernel) (by decide +kernel) rfl rfl rfl rfl rfl ?_
    refine WE.takeN 7 (e := 34) (v := .bool false) rfl (by decide +kernel) (by decide +kernel) (by decide +kernel) (by decide +kernel) rfl rfl rfl rfl rfl ?_
    refine WE.takeN 8 (e := 34) (v := .bool false) rfl (by decide +kernel) (by decide +kernel) (by decide +kernel) (by decide +kernel) rfl rfl rfl rfl rfl ?_
    refine WE.take 9 rfl (by decide +kernel) (by decide +kernel) (by decide +kernel) (by decide +kernel) rfl rfl (fun wq hq => R.pickF (v := Value.bool false) rfl rfl) ?_
    refine WE.take 10 rfl (by decide +kernel) (by decide +kernel) (by decide +kernel) (by decide +kernel) rfl rfl (fun wq hq => R.move (v := Value.bool false) rfl) ?_
    refine WE.takeN 11 (e := 41) (v := .bool false) rfl (by decide +kernel) (by decide +kernel) (by decide +kernel) (by decide +kernel) rfl rfl rfl rfl rfl ?_
    refine WE.takeN 12 (e := 41) (v := .bool false) rfl (by decide +kernel) (by decide +kernel) (by decide +kernel) (by decide +kernel) rfl rfl rfl rfl rfl ?_
    refine WE.takeN 13 (e := 41) (v := .bool false) rfl (by decide +kernel) (by decide +kernel) (by decide +kernel) (by decide +kernel) rfl rfl rfl rfl rfl ?_
    refine WE.takeN 14 (e := 41) (v := .bool false) rfl (by decide +kernel) (by decide +kernel) (by decide +kernel) (by decide +kernel) rfl rfl rfl rfl rfl ?_
    refine WE.takeN 15 (e := 41) (v := .bool false) rfl (by decide +kernel) (by decide +kernel) (by decide +kernel) (by decide +kernel) rfl rfl rfl rfl rfl ?_
    refine WE.take 16 rfl (by decide +kernel) (by decide +kernel) (by decide +kernel) (by decide +kernel) rfl rfl (fun wq hq => R.pickF (v := Value.bool false) rfl rfl) ?_
    refine WE.take 17 rfl (by decide +kernel) (by decide +kernel) (by decide +kernel) (by decide +kernel) rfl rfl (fun wq hq => R.move (v := Value.bool false) rfl) ?_
    refine WE.takeN 18 (e := 48) (v := .bool false) rfl (by decide +kernel) (by decide +kernel) (by decide +kernel) (by decide +kernel) rfl rfl rfl rfl rfl ?_
    refine WE.takeN 19 (e := 48) (v := .bool false) rfl (by decide +kernel) (by decide +kernel) (by decide +kernel) (by decide +kernel) rfl rfl rfl rfl rfl ?_
    refine WE.takeN 20 (e := 48) (v := .bool false) rfl (by decide +kernel) (by decide +kernel) (by decide +kernel) (by decide +kernel) rfl rfl rfl rfl rfl ?_
    refine WE.take 21 rfl (by decide +kernel) (by decide +kernel) (by decide +kernel) (by decide +kernel) rfl rfl (fun wq hq => R.pickF (v := Value.bool false) rfl rfl) ?_
    refine WE.take 22 rfl (by decide +kernel) (by decide +kernel) (by decide +kernel) (by decide +kernel) rfl rfl (fun wq hq => R.move (v := Value.bool false) rfl) ?_
    refine WE.takeN 23 (e := 53) (v := .bool false) rfl (by decide +kernel) (by decide +kernel) (by decide +kernel) (by decide +kernel) rfl rfl rfl rfl rfl ?_
    refine WE.takeN 24 (e := 53) (v := .bool false) rfl (by decide +kernel) (by decide +kernel) (by decide +kernel) (by decide +kernel) rfl rfl rfl rfl rfl ?_
    refine WE.takeN 25 (e := 53) (v := .bool false) rfl (by decide +kernel) (by decide +kernel) (by decide +kernel) (by decide +kernel) rfl rfl rfl rfl rfl ?_
    refine WE.takeN 26 (e := 53) (v := .bool false) rfl (by decide +kernel) (by decide +kernel) (by decide +kernel) (by decide +kernel) rfl rfl rfl rfl rfl ?_
    refine WE.takeN 27 (e := 53) (v := .bool false) rfl (by decide +kernel) (by decide +kernel) (by decide +kernel) (by decide +kernel) rfl rfl rfl rfl rfl ?_
    refine WE.take 28 rfl (by decide +kernel) (by decide +kernel) (by decide +kernel) (by decide +kernel) rfl rfl (fun wq hq => R.pickF (v := Value.bool false) rfl rfl) ?_
    refine WE.take 29 rfl (by decide +kernel) (by decide +kernel) (by decide +kernel) (by decide +kernel) rfl rfl (fun wq hq => R.move (v := Value.bool false) rfl) ?_
    refine WE.takeN 30 (e := 60) (v := .bool false) rfl (by decide +kernel) (by decide +kernel) (by decide +kernel) (by decide +kernel) rfl rfl rfl rfl rfl ?_
    refine WE.takeN 31 (e := 60) (v := .bool false) rfl (by decide +kernel) (by decide +kernel) (by decide +kernel) (by decide +kernel) rfl rfl rfl rfl rfl ?_
    refine WE.takeN 32 (e := 60) (v := .bool false) rfl (by decide +kernel) (by decide +kernel) (by decide +kernel) (by decide +kernel) rfl rfl rfl rfl rfl ?_
    refine WE.take 33 rfl (by decide +kernel) (by decide +kernel) (by decide +kernel) (by decide +kernel) rfl rfl (fun wq hq => R.pickF (v := Value.bool false) rfl rfl) ?_
    refine WE.take 34 rfl (by decide +kernel) (by decide +kernel) (by decide +kernel) (by decide +kernel) rfl rfl (fun wq hq => R.move (v := Value.bool false) rfl) ?_
    refine WE.takeN 35 (e := 65) (v := .bool false) rfl (by decide +kernel) (by decide +kernel) (by decide +kernel) (by decide +kernel) rfl rfl rfl rfl rfl ?_
    refine WE.takeN 36 (e := 65) (v := .bool false) rfl (by decide +kernel) (by decide +kernel) (by decide +kernel) (by decide +kernel) rfl rfl rfl rfl rfl ?_
    refine WE.takeN 37 (e := 65) (v := .bool false) rfl (by decide +kernel) (by decide +kernel) (by decide +kernel) (by decide +kernel) rfl rfl rfl rfl rfl ?_
    refine WE.takeN 38 (e := 65) (v := .bool false) rfl (by decide +kernel) (by decide +kernel) (by decide +kernel) (by decide +kernel) rfl rfl rfl rfl rfl ?_
    refine WE.takeN 39 (e := 65) (v := .bool false) rfl (by decide +kernel) (by decide +kernel) (by decide +kernel) (by decide +kernel) rfl rfl rfl rfl rfl ?_
    refine WE.take 40 rfl (by decide +kernel) (by decide +kernel) (by decide +kernel) (by decide +kernel) rfl rfl (fun wq hq => R.pickF (v := Value.bool false) rfl rfl) ?_
    refine WE.take 41 rfl (by decide +kernel) (by decide +kernel) (by decide +kernel) (by decide +kernel) rfl rfl (fun wq hq => R.move (v := Value.bool false) rfl) ?_
    refine WE.takeN 42 (e := 72) (v := .bool false) rfl (by decide +kernel) (by decide +kernel) (by decide +kernel) (by decide +kernel) rfl rfl rfl rfl rfl ?_
    refine WE.takeN 43 (e := 72) (v := .bool false) rfl (by decide +kernel) (by decide +kernel) (by decide +kernel) (by decide +kernel) rfl rfl rfl rfl rfl ?_
    refine WE.takeN 44 (e := 72) (v := .bool false) rfl (by decide +kernel) (by decide +kernel) (by decide +kernel) (by decide +kernel) rfl rfl rfl rfl rfl ?_
    refine WE.take 45 rfl (by decide +kernel) (by decide +kernel) (by decide +kernel) (by decide +kernel) rfl rfl (fun wq hq => R.pickF (v := Value.bool false) rfl rfl) ?_
    refine WE.take 46 rfl (by decide +kernel) (by decide +kernel) (by decide +kernel) (by decide +kernel) rfl rfl (fun wq hq => R.move (v := Value.bool false) rfl) ?_
    refine WE.takeN 47 (e := 77) (v := .bool false) rfl (by decide +kernel) (by decide +kernel) (by decide +kernel) (by decide +kernel) rfl rfl rfl rfl rfl ?_
    refine WE.takeN 48 (e := 77) (v := .bool false) rfl (by decide +kernel) (by decide +kernel) (by decide +kernel) (by decide +kernel) rfl rfl rfl rfl rfl ?_
    refine WE.takeN 49 (e := 77) (v := .bool false) rfl (by decide +kernel) (by decide +kernel) (by decide +kernel) (by decide +kernel) rfl rfl rfl rfl rfl ?_
    refine WE.takeN 50 (e := 77) (v := .bool false) rfl (by decide +kernel) (by decide +kernel) (by decide +kernel) (by decide +kernel) rfl rfl rfl rfl rfl ?_
    refine WE.takeN 51 (e := 77) (v := .bool false) rfl (by decide +kernel) (by decide +kernel) (by decide +kernel) (by decide +kernel) rfl rfl rfl rfl rfl ?_
    refine WE.takeN 52 (e := 77) (v := .bool false) rfl (by decide +kernel) (by decide +kernel) (by decide +kernel) (by decide +kernel) rfl rfl rfl rfl rfl ?_
    refine WE.take 53 rfl (by decide +kernel) (by decide +kernel) (by decide +kernel) (by decide +kernel) rfl rfl (fun wq hq => R.pickF (v := Value.bool false) rfl rfl) ?_
    refine WE.take 54 rfl (by decide +kernel) (by decide +kernel) (by decide +kernel) (by decide +kernel) rfl rfl (fun wq hq => R.move (v := Value.bool false) rfl) ?_
    refine WE.takeN 55 (e := 85) (v := .bool false) rfl (by decide +kernel) (by decide +kernel) (by decide +kernel) (by decide +kernel) rfl rfl rfl rfl rfl ?_
    refine WE.takeN 56 (e := 85) (v := .bool false) rfl (by decide +kernel) (by decide +kernel) (by decide +kernel) (by decide +kernel) rfl rfl rfl rfl rfl ?_
    refine WE.takeN 57 (e := 85) (v := .bool false) rfl (by decide +kernel) (by decide +kernel) (by decide +kernel) (by decide +kernel) rfl rfl rfl rfl rfl ?_
    refine WE.takeN 58 (e := 85) (v := .bool false) rfl (by decide +kernel) (by decide +kernel) (by decide +kernel) (by decide +kernel) rfl rfl rfl rfl rfl ?_
    refine WE.takeN 59 (e := 85) (v := .bool false) rfl (by decide +kernel) (by decide +kernel) (by decide +kernel) (by decide +kernel) rfl rfl rfl rfl rfl ?_
    refine WE.take 60 rfl (by decide +kernel) (by decide +kernel) (by decide +kernel) (by decide +kernel) rfl rfl (fun wq hq => R.pickF (v := Value.bool false) rfl rfl) ?_
    refine WE.take 61 rfl (by decide +kernel) (by decide +kernel) (by decide +kernel) (by decide +kernel) rfl rfl (fun wq hq => R.assign (v := Value.bool false) rfl) ?_
    refine WE.done (by decide +kernel) ?_
    refine thenN ?_
    refine WC.ret ?_
    have ht582 := (hs442.here).perm (L' := []) (G := [blk b430 60 (encH (⟨true, (⟨5, Cl.zero.offer, Cl.zero.report, Cl.zero.view⟩ : Cl)⟩ : Hd))]) ((List.Perm.refl _))
    have hs583 := hs442.trans ht582
    obtain rfl := Option.some.inj (show some false = some r from h581)
    exact ret1 (P := Try.prog) (n := 92) (fn := Try.f31) (R := fun v w' => v = Value.bool false ∧ St [] w w' []) (t := 0) (v := Value.bool false) rfl rfl rfl ⟨rfl, hs583⟩

end Go.Proofs.Ytckcldimnelklaa
