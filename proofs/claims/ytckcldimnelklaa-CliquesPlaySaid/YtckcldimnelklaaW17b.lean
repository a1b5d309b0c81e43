/- The functions come to what their twins answer: group 17. -/
import Derived.Test.YtckcldimnelklaaTA
import Derived.Test.YtckcldimnelklaaLG
import Derived.Test.YtckcldimnelklaaD17
import Derived.Test.YtckcldimnelklaaW17a
namespace Go.Proofs.Ytckcldimnelklaa
open Go
set_option linter.unusedVariables false
set_option linter.unusedSimpArgs false
set_option maxRecDepth 100000
set_option maxHeartbeats 4000000

theorem play17_ok (w : World) (ok : Nat → Prop) (p0 : Int) (p1 : List ((List Hd) × Int)) (a1 : Option Addr) (c1 : Nat) (he1 : elems (pairK (slW heldW) (intW .i64)) w ok a1 p1) (hc1 : p1.length ≤ c1) {r : Bool} (h : play17 p0 p1 = some r) :
    Ret Try.prog 5 [Value.int .i64 p0, Value.slice a1 p1.length c1] w (fun v w' => v = Value.bool r ∧ St [] w w' []) := by
  rw [play17] at h
  have hs100 : St [] w w [] := St.start w
  have he1001 := el0 (L0 := []) (fun b _ => out_nil b) he1
  refine enter (n := 102) Try.func5 rfl rfl rfl ?_
  refine WC.seq ?_
  refine WC.region ?_
  refine WL.val (R.assign (v := Value.bool false) rfl) rfl ?_
  refine WL.nil ?_
  refine thenN ?_
  refine WC.seq ?_
  refine WC.seq ?_
  refine WC.region ?_
  refine WL.val (R.move (v := Value.slice a1 p1.length c1) rfl) rfl ?_
  refine WL.val (R.len (a := a1) (n := p1.length) (c := c1) un64 rfl) rfl ?_
  by_cases hc102 : 120 < ((p1.length : Nat) : Int)
  · have h103 := ifT hc102 h
    refine WL.val (R.gtrT (k := .i64) (a := ((p1.length : Nat) : Int)) (b := 120) un3 rfl rfl hc102) rfl ?_
    refine WL.nil ?_
    refine thenN ?_
    refine WC.condT rfl rfl ?_
    refine WC.seq ?_
    refine WC.region ?_
    obtain ⟨y104, hx105, h106⟩ := ob (o := lives17 ) h103
    refine WL.call (lives17_ok _ (In ok w [] [])   hx105) (R.call (vs := []) (caps := []) bo41 rfl rfl) rfl ?_
    rintro v109 w110 ⟨rfl, ht107⟩
    have ht108 := hs100.call (N := []) (M := []) (List.Perm.refl _) ht107
    have hs111 := hs100.trans ht108
    refine WL.val (R.assign (v := Value.bool y104) rfl) rfl ?_
    refine WL.nil ?_
    refine thenN ?_
    refine WC.ret ?_
    obtain rfl := Option.some.inj (show some y104 = some r from h106)
    exact ret1 (P := Try.prog) (n := 102) (fn := Try.f5) (R := fun v w' => v = Value.bool y104 ∧ St [] w w' []) (t := 4) (v := Value.bool y104) rfl rfl rfl ⟨rfl, hs111⟩
  · have h112 := ifF hc102 h
    refine WL.val (R.gtrF (k := .i64) (a := ((p1.length : Nat) : Int)) (b := 120) un3 rfl rfl hc102) rfl ?_
    refine WL.nil ?_
    refine thenN ?_
    refine WC.condF rfl rfl ?_
    refine WC.skip ?_
    refine thenN ?_
    refine WC.seq ?_
    refine WC.region ?_
    refine WL.val (R.move (v := Value.int .i64 p0) rfl) rfl ?_
    obtain ⟨y113, hx114, h115⟩ := ob (o := cnew17 p0) h112
    refine WL.call (cnew17_ok _ (In ok w [] []) p0  hx114) (R.call (vs := [Value.int .i64 p0]) (caps := []) bo42 rfl rfl) rfl ?_
    rintro v121 w122 ⟨rp118, rL119, rfl, ho120, ht116⟩
    rcases ocE h115 with ⟨ho125, h123⟩ | ⟨q124, ho125, h123⟩
    · rw [ho125] at ho120
      obtain ⟨rfl, rfl⟩ := ho120
      have ht117 := hs100.call (N := []) (M := []) (List.Perm.refl _) ht116
      have hs126 := hs100.trans ht117
      refine WL.val (R.move (v := Value.tuple #[Value.pointer none, Value.int .i64 y113.2]) rfl) rfl ?_
      refine WL.val (R.extract (v := Value.pointer none) rfl rfl) rfl ?_
      refine WL.val (R.extract (v := Value.int .i64 y113.2) rfl rfl) rfl ?_
      refine WL.val (R.assign (v := Value.pointer none) rfl) rfl ?_
      refine WL.val (R.assign (v := Value.int .i64 y113.2) rfl) rfl ?_
      refine WL.nil ?_
      refine thenN ?_
      refine WC.seq ?_
      refine WC.region ?_
      refine WL.val (R.move (v := Value.int .i64 p0) rfl) rfl ?_
      obtain ⟨y127, hx128, h129⟩ := ob (o := rnew17 p0) h123
      refine WL.call (rnew17_ok _ (In ok w [] []) p0  hx128) (R.call (vs := [Value.int .i64 p0]) (caps := []) bo43 rfl rfl) rfl ?_
      rintro v135 w136 ⟨rp132, rL133, rfl, ho134, ht130⟩
      rcases ocE h129 with ⟨ho139, h137⟩ | ⟨q138, ho139, h137⟩
      · rw [ho139] at ho134
        obtain ⟨rfl, rfl⟩ := ho134
        have ht131 := hs126.call (N := []) (M := []) (List.Perm.refl _) ht130
        have hs140 := hs126.trans ht131
        refine WL.val (R.move (v := Value.tuple #[Value.pointer none, Value.int .i64 y127.2]) rfl) rfl ?_
        refine WL.val (R.extract (v := Value.pointer none) rfl rfl) rfl ?_
        refine WL.val (R.extract (v := Value.int .i64 y127.2) rfl rfl) rfl ?_
        refine WL.val (R.assign (v := Value.pointer none) rfl) rfl ?_
        refine WL.val (R.assign (v := Value.int .i64 y127.2) rfl) rfl ?_
        refine WL.nil ?_
        refine thenN ?_
        refine WC.seq ?_
        refine WC.seq ?_
        refine WC.region ?_
        refine WL.val (R.move (v := Value.int .i64 y113.2) rfl) rfl ?_
        refine WL.val (R.move (v := Value.int .i64 y127.2) rfl) rfl ?_
        by_cases hc141 : y113.2 = y127.2
        · have h142 := ifT hc141 h137
          refine WL.val (R.neqF (k := .i64) (a := y113.2) (b := y127.2) un66 rfl rfl (not_not_intro hc141)) rfl ?_
          refine WL.nil ?_
          refine thenN ?_
          refine WC.condF rfl rfl ?_
          refine WC.skip ?_
          refine thenN ?_
          refine WC.seq ?_
          refine WC.seq ?_
          refine WC.region ?_
          refine WL.val (R.assign (v := Value.int .i64 0) rfl) rfl ?_
          refine WL.nil ?_
          refine thenN ?_
          have hr385 := elT (ht117.trans ht131) he1001
          obtain ⟨K377, hK378, h379⟩ := kE (G := fun K377 => play17_l1 p1 p0 y113 K377 1000000 0) h142
          refine WC.join (fun σ387 w386 => σ387 5 = (Value.pointer none) ∧ σ387 6 = (Value.int .i64 y113.2) ∧ K377 () = some r ∧ St [] w w386 []) ?_ ?_
          · refine WC.block ?_
            refine WC.loop (T := Nat) (fun k383 σ381 w380 => ∃ i376 : Int, σ381 0 = (Value.int .i64 p0) ∧ σ381 1 = (Value.slice a1 p1.length c1) ∧ σ381 5 = (Value.pointer none) ∧ σ381 6 = (Value.int .i64 y113.2) ∧ σ381 7 = (Value.pointer none) ∧ σ381 9 = (Value.int .i64 i376) ∧ elems (pairK (slW heldW) (intW .i64)) w380 (In ok w [] []) a1 p1 ∧ play17_l1 p1 p0 y113 K377 k383 i376 = some r ∧ St [] w w380 []) (fun k383 => k383) 1000000 ⟨0, rfl, rfl, rfl, rfl, rfl, rfl, hr385, h379, hs140⟩ ?_
            rintro k383 σ381 w380 ⟨i376, s390, s391, s392, s393, s394, s395, he384, h389, hs382⟩
            rcases k383 with _ | k383
            · rw [play17_l1] at h389; cases h389
            rw [play17_l1] at h389
            refine WC.seq ?_
            refine WC.seq ?_
            refine WC.region ?_
            refine WL.val (R.move (v := Value.int .i64 i376) (by exact s395)) rfl ?_
            refine WL.val (R.move (v := Value.slice a1 p1.length c1) (by exact s391)) rfl ?_
            refine WL.val (R.len (a := a1) (n := p1.length) (c := c1) un64 rfl) rfl ?_
            by_cases hc396 : i376 < ((p1.length : Nat) : Int)
            · have h397 := ifT hc396 h389
              refine WL.val (R.lssT (k := .i64) (a := i376) (b := ((p1.length : Nat) : Int)) un3 rfl rfl hc396) rfl ?_
              refine WL.nil ?_
              refine thenN ?_
              refine WC.condT rfl rfl ?_
              refine WC.skip ?_
              refine thenN ?_
              refine WC.seq ?_
              refine WC.block ?_
              refine WC.seq ?_
              refine WC.seq ?_
              refine WC.region ?_
              refine WL.val (R.move (v := Value.slice a1 p1.length c1) (by exact s391)) rfl ?_
              refine WL.val (R.move (v := Value.int .i64 i376) (by exact s395)) rfl ?_
              obtain ⟨x398, hx399, h400⟩ := ob (o := rd p1 i376) h397
              obtain ⟨h0401, hx402, hl403, hm404⟩ := rdE hx399
              obtain ⟨ad405, e410, ha406, hp407, hat408, hrd409⟩ := he384 _ _ hx402
              obtain ⟨cs411, cs412, rfl, hp413, hp414⟩ := hrd409
              obtain ⟨a415, c416, rfl, hl417, he418⟩ := hp413
              obtain ⟨-, rfl⟩ := hp414
              refine WL.val (R.indexS (n := 2) (m := (i376).toNat) (a := a1) (ad := ad405) (len := p1.length) (cap := c1) (z := i376) un64 ag73.size rfl ha406 rfl hm404 hl403 hp407) rfl ?_
              refine WL.val (R.fieldAddr (o := ad405.off + (i376).toNat * 2) (o' := ad405.off + (i376).toNat * 2) fa73_0 rfl rfl) rfl ?_
              refine WL.val (R.loadL (v := Value.slice a415 x398.1.length c416) lf28 rfl (At.sub (off := 0) (n := 1) (ds := [Value.slice a415 x398.1.length c416]) hat408 rfl rfl)) rfl ?_
              refine WL.val (R.len (a := a415) (n := x398.1.length) (c := c416) un28 rfl) rfl ?_
              by_cases hc421 : 40 < ((x398.1.length : Nat) : Int)
              · have h422 := ifT hc421 h400
                refine WL.val (R.gtrT (k := .i64) (a := ((x398.1.length : Nat) : Int)) (b := 40) un3 rfl rfl hc421) rfl ?_
                refine WL.nil ?_
                refine thenN ?_
                refine WC.condT rfl rfl ?_
                refine WC.seq ?_
                refine WC.region ?_
                obtain ⟨y423, hx424, h425⟩ := ob (o := lives17 ) h422
                refine WL.call (lives17_ok _ (In ok w [] [])   hx424) (R.call (vs := []) (caps := []) bo41 rfl rfl) rfl ?_
                rintro v428 w429 ⟨rfl, ht426⟩
                have ht427 := hs382.call (N := []) (M := []) (List.Perm.refl _) ht426
                have hs430 := hs382.trans ht427
                refine WL.val (R.assign (v := Value.bool y423) rfl) rfl ?_
                refine WL.nil ?_
                refine thenN ?_
                refine WC.ret ?_
                obtain rfl := Option.some.inj (show some y423 = some r from h425)
                exact ret1 (P := Try.prog) (n := 102) (fn := Try.f5) (R := fun v w' => v = Value.bool y423 ∧ St [] w w' []) (t := 4) (v := Value.bool y423) rfl rfl rfl ⟨rfl, hs430⟩
              · have h431 := ifF hc421 h400
                refine WL.val (R.gtrF (k := .i64) (a := ((x398.1.length : Nat) : Int)) (b := 40) un3 rfl rfl hc421) rfl ?_
                refine WL.nil ?_
                refine thenN ?_
                refine WC.condF rfl rfl ?_
                refine WC.skip ?_
                refine thenN ?_
                refine WC.seq ?_
                refine WC.region ?_
                refine WL.val (R.move (v := Value.slice a1 p1.length c1) (by exact s391)) rfl ?_
                refine WL.val (R.move (v := Value.int .i64 i376) (by exact s395)) rfl ?_
                refine WL.val (R.indexS (n := 2) (m := (i376).toNat) (a := a1) (ad := ad405) (len := p1.length) (cap := c1) (z := i376) un64 ag73.size rfl ha406 rfl hm404 hl403 hp407) rfl ?_
                refine WL.val (R.fieldAddr (o := ad405.off + (i376).toNat * 2) (o' := ad405.off + (i376).toNat * 2) fa73_0 rfl rfl) rfl ?_
                refine WL.val (R.loadL (v := Value.slice a415 x398.1.length c416) lf28 rfl (At.sub (off := 0) (n := 1) (ds := [Value.slice a415 x398.1.length c416]) hat408 rfl rfl)) rfl ?_
                obtain ⟨y432, hx433, h434⟩ := ob (o := others17 x398.1) h431
                refine WL.call (others17_ok _ _ x398.1 _ _ he418 hl417 hx433) (R.call (vs := [Value.slice a415 x398.1.length c416]) (caps := []) bo44 rfl rfl) rfl ?_
                rintro v441 w442 ⟨a437, c438, rfl, hl439, he440, ht435⟩
                have ht436 := hs382.call (N := []) (M := []) (List.Perm.refl _) ht435
                have he443 := elC hs382 (M := []) (List.Perm.refl _) ht435 he440
                have hs444 := hs382.trans ht436
                refine WL.val (R.assign (v := Value.slice a437 y432.length c438) rfl) rfl ?_
                refine WL.nil ?_
                refine thenN ?_
                refine WC.seq ?_
                refine WC.seq ?_
                refine WC.drawK (L := []) mixed (NP.then (NP.then (NP.block (NP.then (NP.then (NP.block (NP.join (NP.then NP.rq)))))))) ?_
                have ht446 := (hs444.here).ext (Ext.drew _)
                have hs447 := hs444.trans ht446
                refine WK.take 0 rfl (by decide +kernel) (by decide +kernel) (by decide +kernel) (by decide +kernel) rfl rfl (fun wq hq => R.move (v := Value.int .i64 p0) (by exact s390)) ?_
                refine WK.take 1 rfl (by decide +kernel) (by decide +kernel) (by decide +kernel) (by decide +kernel) rfl rfl (fun wq hq => R.move (v := Value.slice a1 p1.length c1) (by exact s391)) ?_
                refine WK.take 2 rfl (by decide +kernel) (by decide +kernel) (by decide +kernel) (by decide +kernel) rfl rfl (fun wq hq => R.move (v := Value.int .i64 i376) (by exact s395)) ?_
                refine WK.take 3 rfl (by decide +kernel) (by decide +kernel) (by decide +kernel) (by decide +kernel) rfl rfl (fun wq hq => R.indexS (n := 2) (m := (i376).toNat) (a := a1) (ad := ad405) (len := p1.length) (cap := c1) (z := i376) un64 ag73.size rfl ha406 rfl hm404 hl403 hp407) ?_
                refine WK.take 4 rfl (by decide +kernel) (by decide +kernel) (by decide +kernel) (by decide +kernel) rfl rfl (fun wq hq => R.fieldAddr (o := ad405.off + (i376).toNat * 2) (o' := ad405.off + (i376).toNat * 2) fa73_0 rfl rfl) ?_
                have hr448 := At.trT (ht436.trans ht446) hat408
                refine WK.take 5 rfl (by decide +kernel) (by decide +kernel) (by decide +kernel) (by decide +kernel) rfl rfl (fun wq hq => R.loadL (v := Value.slice a415 x398.1.length c416) lf28 rfl (At.sub (off := 0) (n := 1) (ds := [Value.slice a415 x398.1.length c416]) (At.kK hq hr448) rfl rfl)) ?_
                refine WK.take 6 rfl (by decide +kernel) (by decide +kernel) (by decide +kernel) (by decide +kernel) rfl rfl (fun wq hq => R.move (v := Value.slice a1 p1.length c1) (by exact s391)) ?_
                refine WK.take 7 rfl (by decide +kernel) (by decide +kernel) (by decide +kernel) (by decide +kernel) rfl rfl (fun wq hq => R.move (v := Value.int .i64 i376) (by exact s395)) ?_
                refine WK.take 8 rfl (by decide +kernel) (by decide +kernel) (by decide +kernel) (by decide +kernel) rfl rfl (fun wq hq => R.indexS (n := 2) (m := (i376).toNat) (a := a1) (ad := ad405) (len := p1.length) (cap := c1) (z := i376) un64 ag73.size rfl ha406 rfl hm404 hl403 hp407) ?_
                refine WK.take 9 rfl (by decide +kernel) (by decide +kernel) (by decide +kernel) (by decide +kernel) rfl rfl (fun wq hq => R.fieldAddr (o := ad405.off + (i376).toNat * 2) (o' := ad405.off + (i376).toNat * 2 + 1) fa73_1 rfl rfl) ?_
                refine WK.take 10 rfl (by decide +kernel) (by decide +kernel) (by decide +kernel) (by decide +kernel) rfl rfl (fun wq hq => R.loadL (v := Value.int .i64 x398.2) lf2 rfl (At.sub (off := 1) (n := 1) (ds := [Value.int .i64 x398.2]) (At.kK hq hr448) rfl rfl)) ?_
                refine WK.take 12 rfl (by decide +kernel) (by decide +kernel) (by decide +kernel) (by decide +kernel) rfl rfl (fun wq hq => R.move (v := Value.int .i64 p0) (by exact s390)) ?_
                refine WK.take 13 rfl (by decide +kernel) (by decide +kernel) (by decide +kernel) (by decide +kernel) rfl rfl (fun wq hq => R.move (v := Value.slice a437 y432.length c438) rfl) ?_
                refine WK.take 14 rfl (by decide +kernel) (by decide +kernel) (by decide +kernel) (by decide +kernel) rfl rfl (fun wq hq => R.move (v := Value.slice a1 p1.length c1) (by exact s391)) ?_
                refine WK.take 15 rfl (by decide +kernel) (by decide +kernel) (by decide +kernel) (by decide +kernel) rfl rfl (fun wq hq => R.move (v := Value.int .i64 i376) (by exact s395)) ?_
                refine WK.take 16 rfl (by decide +kernel) (by decide +kernel) (by decide +kernel) (by decide +kernel) rfl rfl (fun wq hq => R.indexS (n := 2) (m := (i376).toNat) (a := a1) (ad := ad405) (len := p1.length) (cap := c1) (z := i376) un64 ag73.size rfl ha406 rfl hm404 hl403 hp407) ?_
                refine WK.take 17 rfl (by decide +kernel) (by decide +kernel) (by decide +kernel) (by decide +kernel) rfl rfl (fun wq hq => R.fieldAddr (o := ad405.off + (i376).toNat * 2) (o' := ad405.off + (i376).toNat * 2 + 1) fa73_1 rfl rfl) ?_
                refine WK.take 18 rfl (by decide +kernel) (by decide +kernel) (by decide +kernel) (by decide +kernel) rfl rfl (fun wq hq => R.loadL (v := Value.int .i64 x398.2) lf2 rfl (At.sub (off := 1) (n := 1) (ds := [Value.int .i64 x398.2]) (At.kK hq hr448) rfl rfl)) ?_
                obtain ⟨y449, hx450, h451⟩ := ob (o := even17 p0 x398.1 x398.2) h434
                have hr452 := elT (ht436.trans ht446) he418
                refine WK.call 11 (by decide +kernel) rfl rfl rfl (even17_ok _ _ p0 x398.1 x398.2 _ _ hr452 hl417 hx450) (R.call (vs := [Value.int .i64 p0, Value.slice a415 x398.1.length c416, Value.int .i64 x398.2]) (caps := []) bo45 rfl rfl) ?_
                rintro v455 w456 ⟨rfl, ht453⟩
                have ht454 := hs447.call (N := []) (M := []) (List.Perm.refl _) ht453
                have hs457 := hs447.trans ht454
                refine ⟨_, ht454, ?_⟩
                obtain ⟨y458, hx459, h460⟩ := ob (o := reven17 p0 y432 x398.2) h451
                have hr461 := elT (ht446.trans ht454) he443
                refine WK.call 19 (by decide +kernel) rfl rfl rfl (reven17_ok _ _ p0 y432 x398.2 _ _ hr461 hl439 hx459) (R.call (vs := [Value.int .i64 p0, Value.slice a437 y432.length c438, Value.int .i64 x398.2]) (caps := []) bo46 rfl rfl) ?_
                rintro v464 w465 ⟨rfl, ht462⟩
                have ht463 := hs457.call (N := []) (M := []) (List.Perm.refl _) ht462
                have hs466 := hs457.trans ht463
                refine ⟨_, ht463, ?_⟩
                by_cases hc467 : y449 = true
                · have h468 := ifT hc467 h460
                  by_cases hc469 : y458 = true
                  · have h470 := ifT hc469 h468
                    refine WK.take 20 rfl (by decide +kernel) (by decide +kernel) (by decide +kernel) (by decide +kernel) rfl rfl (fun wq hq => R.neB (a := true) (b := true) un4 (Eq.trans (show _ = Value.bool y449 from rfl) (congrArg Value.bool hc467)) (Eq.trans (show _ = Value.bool y458 from rfl) (congrArg Value.bool hc469))) ?_
                    refine WK.done (by decide +kernel) ?_
                    refine thenN ?_
                    refine WC.condF rfl rfl ?_
                    refine WC.skip ?_
                    refine thenN ?_
                    refine WC.seq ?_
                    refine WC.drawK (L := []) mixed (NP.then (NP.block (NP.then (NP.then (NP.block (NP.join (NP.then NP.rq))))))) ?_
                    have ht471 := (hs466.here).ext (Ext.drew _)
                    have hs472 := hs466.trans ht471
                    refine WK.take 0 rfl (by decide +kernel) (by decide +kernel) (by decide +kernel) (by decide +kernel) rfl rfl (fun wq hq => R.move (v := Value.int .i64 y113.2) (by exact s393)) ?_
                    by_cases hc473 : y113.2 = 0
                    · have h474 := ifT hc473 h470
                      refine WK.take 1 rfl (by decide +kernel) (by decide +kernel) (by decide +kernel) (by decide +kernel) rfl rfl (fun wq hq => R.eqlT (k := .i64) (a := y113.2) (b := 0) un66 rfl rfl hc473) ?_
                      refine WK.take 2 rfl (by decide +kernel) (by decide +kernel) (by decide +kernel) (by decide +kernel) rfl rfl (fun wq hq => R.move (v := Value.bool true) rfl) ?_
                      refine WK.takeY 3 (e := 71) rfl (by decide +kernel) (by decide +kernel) (by decide +kernel) (by decide +kernel) rfl rfl rfl rfl rfl (fun wq hq => R.move (v := Value.pointer none) (by exact s392)) ?_
                      refine WK.takeY 4 (e := 71) rfl (by decide +kernel) (by decide +kernel) (by decide +kernel) (by decide +kernel) rfl rfl rfl rfl rfl (fun wq hq => R.move (v := Value.slice a1 p1.length c1) (by exact s391)) ?_
                      refine WK.takeY 5 (e := 71) rfl (by decide +kernel) (by decide +kernel) (by decide +kernel) (by decide +kernel) rfl rfl rfl rfl rfl (fun wq hq => R.move (v := Value.int .i64 i376) (by exact s395)) ?_
                      refine WK.takeY 6 (e := 71) rfl (by decide +kernel) (by decide +kernel) (by decide +kernel) (by decide +kernel) rfl rfl rfl rfl rfl (fun wq hq => R.indexS (n := 2) (m := (i376).toNat) (a := a1) (ad := ad405) (len := p1.length) (cap := c1) (z := i376) un64 ag73.size rfl ha406 rfl hm404 hl403 hp407) ?_
                      refine WK.takeY 7 (e := 71) rfl (by decide +kernel) (by decide +kernel) (by decide +kernel) (by decide +kernel) rfl rfl rfl rfl rfl (fun wq hq => R.fieldAddr (o := ad405.off + (i376).toNat * 2) (o' := ad405.off + (i376).toNat * 2) fa73_0 rfl rfl) ?_
                      have hr475 := At.trT ((ht454.trans ht463).trans ht471) hr448
                      refine WK.takeY 8 (e := 71) rfl (by decide +kernel) (by decide +kernel) (by decide +kernel) (by decide +kernel) rfl rfl rfl rfl rfl (fun wq hq => R.loadL (v := Value.slice a415 x398.1.length c416) lf28 rfl (At.sub (off := 0) (n := 1) (ds := [Value.slice a415 x398.1.length c416]) (At.kK hq hr475) rfl rfl)) ?_
                      refine WK.takeY 9 (e := 71) rfl (by decide +kernel) (by decide +kernel) (by decide +kernel) (by decide +kernel) rfl rfl rfl rfl rfl (fun wq hq => R.move (v := Value.slice a1 p1.length c1) (by exact s391)) ?_
                      refine WK.takeY 10 (e := 71) rfl (by decide +kernel) (by decide +kernel) (by decide +kernel) (by decide +kernel) rfl rfl rfl rfl rfl (fun wq hq => R.move (v := Value.int .i64 i376) (by exact s395)) ?_
                      refine WK.takeY 11 (e := 71) rfl (by decide +kernel) (by decide +kernel) (by decide +kernel) (by decide +kernel) rfl rfl rfl rfl rfl (fun wq hq => R.indexS (n := 2) (m := (i376).toNat) (a := a1) (ad := ad405) (len := p1.length) (cap := c1) (z := i376) un64 ag73.size rfl ha406 rfl hm404 hl403 hp407) ?_
                      refine WK.takeY 12 (e := 71) rfl (by decide +kernel) (by decide +kernel) (by decide +kernel) (by decide +kernel) rfl rfl rfl rfl rfl (fun wq hq => R.fieldAddr (o := ad405.off + (i376).toNat * 2) (o' := ad405.off + (i376).toNat * 2 + 1) fa73_1 rfl rfl) ?_
                      refine WK.takeY 13 (e := 71) rfl (by decide +kernel) (by decide +kernel) (by decide +kernel) (by decide +kernel) rfl rfl rfl rfl rfl (fun wq hq => R.loadL (v := Value.int .i64 x398.2) lf2 rfl (At.sub (off := 1) (n := 1) (ds := [Value.int .i64 x398.2]) (At.kK hq hr475) rfl rfl)) ?_
                      refine WK.takeY 15 (e := 71) rfl (by decide +kernel) (by decide +kernel) (by decide +kernel) (by decide +kernel) rfl rfl rfl rfl rfl (fun wq hq => R.move (v := Value.pointer none) (by exact s394)) ?_
                      refine WK.takeY 16 (e := 71) rfl (by decide +kernel) (by decide +kernel) (by decide +kernel) (by decide +kernel) rfl rfl rfl rfl rfl (fun wq hq => R.move (v := Value.slice a437 y432.length c438) rfl) ?_
                      refine WK.takeY 17 (e := 71) rfl (by decide +kernel) (by decide +kernel) (by decide +kernel) (by decide +kernel) rfl rfl rfl rfl rfl (fun wq hq => R.move (v := Value.slice a1 p1.length c1) (by exact s391)) ?_
                      refine WK.takeY 18 (e := 71) rfl (by decide +kernel) (by decide +kernel) (by decide +kernel) (by decide +kernel) rfl rfl rfl rfl rfl (fun wq hq => R.move (v := Value.int .i64 i376) (by exact s395)) ?_
                      refine WK.takeY 19 (e := 71) rfl (by decide +kernel) (by decide +kernel) (by decide +kernel) (by decide +kernel) rfl rfl rfl rfl rfl (fun wq hq => R.indexS (n := 2) (m := (i376).toNat) (a := a1) (ad := ad405) (len := p1.length) (cap := c1) (z := i376) un64 ag73.size rfl ha406 rfl hm404 hl403 hp407) ?_
                      refine WK.takeY 20 (e := 71) rfl (by decide +kernel) (by decide +kernel) (by decide +kernel) (by decide +kernel) rfl rfl rfl rfl rfl (fun wq hq => R.fieldAddr (o := ad405.off + (i376).toNat * 2) (o' := ad405.off + (i376).toNat * 2 + 1) fa73_1 rfl rfl) ?_
                      refine WK.takeY 21 (e := 71) rfl (by decide +kernel) (by decide +kernel) (by decide +kernel) (by decide +kernel) rfl rfl rfl rfl rfl (fun wq hq => R.loadL (v := Value.int .i64 x398.2) lf2 rfl (At.sub (off := 1) (n := 1) (ds := [Value.int .i64 x398.2]) (At.kK hq hr475) rfl rfl)) ?_
                      obtain ⟨y476, hx477, h478⟩ := ob (o := stepN17 x398.1 x398.2) h474
                      have hr479 := elT ((ht454.trans ht463).trans ht471) hr452
                      refine WK.callY 14 (e := 71) (by decide +kernel) rfl rfl rfl rfl rfl rfl (stepN17_ok _ _ x398.1 x398.2 _ _ hr479 hl417 hx477) (R.call (vs := [Value.pointer none, Value.slice a415 x398.1.length c416, Value.int .i64 x398.2]) (caps := []) bo47 rfl rfl) ?_
                      rintro v482 w483 ⟨rfl, ht480⟩
                      have ht481 := hs472.call (N := []) (M := []) (List.Perm.refl _) ht480
                      have hs484 := hs472.trans ht481
                      refine ⟨_, ht481, ?_⟩
                      cases h478
                    · have h485 := ifF hc473 h470
                      refine WK.take 1 rfl (by decide +kernel) (by decide +kernel) (by decide +kernel) (by decide +kernel) rfl rfl (fun wq hq => R.eqlF (k := .i64) (a := y113.2) (b := 0) un66 rfl rfl hc473) ?_
                      refine WK.take 2 rfl (by decide +kernel) (by decide +kernel) (by decide +kernel) (by decide +kernel) rfl rfl (fun wq hq => R.move (v := Value.bool false) rfl) ?_
                      refine WK.takeN 3 (e := 71) (v := .bool false) rfl (by decide +kernel) (by decide +kernel) (by decide +kernel) (by decide +kernel) rfl rfl rfl rfl rfl ?_
                      refine WK.takeN 4 (e := 71) (v := .bool false) rfl (by decide +kernel) (by decide +kernel) (by decide +kernel) (by decide +kernel) rfl rfl rfl rfl rfl ?_
                      refine WK.takeN 5 (e := 71) (v := .bool false) rfl (by decide +kernel) (by decide +kernel) (by decide +kernel) (by decide +kernel) rfl rfl rfl rfl rfl ?_
                      refine WK.takeN 6 (e := 71) (v := .bool false) rfl (by decide +kernel) (by decide +kernel) (by decide +kernel) (by decide +kernel) rfl rfl rfl rfl rfl ?_
                      refine WK.takeN 7 (e := 71) (v := .bool false) rfl (by decide +kernel) (by decide +kernel) (by decide +kernel) (by decide +kernel) rfl rfl rfl rfl rfl ?_
                      refine WK.takeN 8 (e := 71) (v := .bool false) rfl (by decide +kernel) (by decide +kernel) (by decide +kernel) (by decide +kernel) rfl rfl rfl rfl rfl ?_
                      refine WK.takeN 9 (e := 71) (v := .bool false) rfl (by decide +kernel) (by decide +kernel) (by decide +kernel) (by decide +kernel) rfl rfl rfl rfl rfl ?_
                      refine WK.takeN 10 (e := 71) (v := .bool false) rfl (by decide +kernel) (by decide +kernel) (by decide +kernel) (by decide +kernel) rfl rfl rfl rfl rfl ?_
                      refine WK.takeN 11 (e := 71) (v := .bool false) rfl (by decide +kernel) (by decide +kernel) (by decide +kernel) (by decide +kernel) rfl rfl rfl rfl rfl ?_
                      refine WK.takeN 12 (e := 71) (v := .bool false) rfl (by decide +kernel) (by decide +kernel) (by decide +kernel) (by decide +kernel) rfl rfl rfl rfl rfl ?_
                      refine WK.takeN 13 (e := 71) (v := .bool false) rfl (by decide +kernel) (by decide +kernel) (by decide +kernel) (by decide +kernel) rfl rfl rfl rfl rfl ?_
                      refine WK.takeN 14 (e := 71) (v := .bool false) rfl (by decide +kernel) (by decide +kernel) (by decide +kernel) (by decide +kernel) rfl rfl rfl rfl rfl ?_
                      refine WK.takeN 15 (e := 71) (v := .bool false) rfl (by decide +kernel) (by decide +kernel) (by decide +kernel) (by decide +kernel) rfl rfl rfl rfl rfl ?_
                      refine WK.takeN 16 (e := 71) (v := .bool false) rfl (by decide +kernel) (by decide +kernel) (by decide +kernel) (by decide +kernel) rfl rfl rfl rfl rfl ?_
                      refine WK.takeN 17 (e := 71) (v := .bool false) rfl (by decide +kernel) (by decide +kernel) (by decide +kernel) (by decide +kernel) rfl rfl rfl rfl rfl ?_
                      refine WK.takeN 18 (e := 71) (v := .bool false) rfl (by decide +kernel) (by decide +kernel) (by decide +kernel) (by decide +kernel) rfl rfl rfl rfl rfl ?_
                      refine WK.takeN 19 (e := 71) (v := .bool false) rfl (by decide +kernel) (by decide +kernel) (by decide +kernel) (by decide +kernel) rfl rfl rfl rfl rfl ?_
                      refine WK.takeN 20 (e := 71) (v := .bool false) rfl (by decide +kernel) (by decide +kernel) (by decide +kernel) (by decide +kernel) rfl rfl rfl rfl rfl ?_
                      refine WK.takeN 21 (e := 71) (v := .bool false) rfl (by decide +kernel) (by decide +kernel) (by decide +kernel) (by decide +kernel) rfl rfl rfl rfl rfl ?_
                      refine WK.takeN 22 (e := 71) (v := .bool false) rfl (by decide +kernel) (by decide +kernel) (by decide +kernel) (by decide +kernel) rfl rfl rfl rfl rfl ?_
                      refine WK.takeN 23 (e := 71) (v := .bool false) rfl (by decide +kernel) (by decide +kernel) (by decide +kernel) (by decide +kernel) rfl rfl rfl rfl rfl ?_
                      refine WK.take 24 rfl (by decide +kernel) (by decide +kernel) (by decide +kernel) (by decide +kernel) rfl rfl (fun wq hq => R.pickF (v := Value.bool false) rfl rfl) ?_
                      refine WK.done (by decide +kernel) ?_
                      refine thenN ?_
                      refine WC.condF rfl rfl ?_
                      refine WC.skip ?_
                      refine blockN ?_
                      refine thenN ?_
                      refine WC.region ?_
                      refine WL.val (R.move (v := Value.int .i64 i376) (by exact s395)) rfl ?_
                      obtain ⟨hg486, h487⟩ := ckE (c := -9223372036854775808 ≤ i376 + 1 ∧ i376 + 1 ≤ 9223372036854775807) h485
                      refine WL.val (R.add (a := i376) (b := 1) (z := i376 + 1) rfl rfl (w64e rfl hg486.1 hg486.2)) rfl ?_
                      refine WL.val (R.assign (v := Value.int .i64 (i376 + 1)) rfl) rfl ?_
                      refine WL.nil ?_
                      have hr488 := elT ((((ht436.trans ht446).trans ht454).trans ht463).trans ht471) he384
                      exact roundEnd (s := k383) ⟨i376 + 1, s390, s391, s392, s393, s394, rfl, hr488, h487, hs472⟩ (Nat.lt_succ_self _)
                  · have h489 := ifF hc469 h468
                    refine WK.take 20 rfl (by decide +kernel) (by decide +kernel) (by decide +kernel) (by decide +kernel) rfl rfl (fun wq hq => R.neB (a := true) (b := false) un4 (Eq.trans (show _ = Value.bool y449 from rfl) (congrArg Value.bool hc467)) (Eq.trans (show _ = Value.bool y458 from rfl) (congrArg Value.bool (Bool.eq_false_iff.2 hc469)))) ?_
                    refine WK.done (by decide +kernel) ?_
                    refine thenN ?_
                    refine WC.condT rfl rfl ?_
                    refine WC.seq ?_
                    refine WC.region ?_
                    refine WL.val (R.assign (v := Value.bool false) rfl) rfl ?_
                    refine WL.nil ?_
                    refine thenN ?_
                    refine WC.ret ?_
                    obtain rfl := Option.some.inj (show some false = some r from h489)
                    exact ret1 (P := Try.prog) (n := 102) (fn := Try.f5) (R := fun v w' => v = Value.bool false ∧ St [] w w' []) (t := 4) (v := Value.bool false) rfl rfl rfl ⟨rfl, hs466⟩
                · have h490 := ifF hc467 h460
                  by_cases hc491 : y458 = true
                  · have h492 := ifT hc491 h490
                    refine WK.take 20 rfl (by decide +kernel) (by decide +kernel) (by decide +kernel) (by decide +kernel) rfl rfl (fun wq hq => R.neB (a := false) (b := true) un4 (Eq.trans (show _ = Value.bool y449 from rfl) (congrArg Value.bool (Bool.eq_false_iff.2 hc467))) (Eq.trans (show _ = Value.bool y458 from rfl) (congrArg Value.bool hc491))) ?_
                    refine WK.done (by decide +kernel) ?_
                    refine thenN ?_
                    refine WC.condT rfl rfl ?_
                    refine WC.seq ?_
                    refine WC.region ?_
                    refine WL.val (R.assign (v := Value.bool false) rfl) rfl ?_
                    refine WL.nil ?_
                    refine thenN ?_
                    refine WC.ret ?_
                    obtain rfl := Option.some.inj (show some false = some r from h492)
                    exact ret1 (P := Try.prog) (n := 102) (fn := Try.f5) (R := fun v w' => v = Value.bool false ∧ St [] w w' []) (t := 4) (v := Value.bool false) rfl rfl rfl ⟨rfl, hs466⟩
                  · have h493 := ifF hc491 h490
                    refine WK.take 20 rfl (by decide +kernel) (by decide +kernel) (by decide +kernel) (by decide +kernel) rfl rfl (fun wq hq => R.neB (a := false) (b := false) un4 (Eq.trans (show _ = Value.bool y449 from rfl) (congrArg Value.bool (Bool.eq_false_iff.2 hc467))) (Eq.trans (show _ = Value.bool y458 from rfl) (congrArg Value.bool (Bool.eq_false_iff.2 hc491)))) ?_
                    refine WK.done (by decide +kernel) ?_
                    refine thenN ?_
                    refine WC.condF rfl rfl ?_
                    refine WC.skip ?_
                    refine thenN ?_
                    refine WC.seq ?_
                    refine WC.drawK (L := []) mixed (NP.then (NP.block (NP.then (NP.then (NP.block (NP.join (NP.then NP.rq))))))) ?_
                    have ht494 := (hs466.here).ext (Ext.drew _)
                    have hs495 := hs466.trans ht494
                    refine WK.take 0 rfl (by decide +kernel) (by decide +kernel) (by decide +kernel) (by decide +kernel) rfl rfl (fun wq hq => R.move (v := Value.int .i64 y113.2) (by exact s393)) ?_
                    by_cases hc496 : y113.2 = 0
                    · have h497 := ifT hc496 h493
                      refine WK.take 1 rfl (by decide +kernel) (by decide +kernel) (by decide +kernel) (by decide +kernel) rfl rfl (fun wq hq => R.eqlT (k := .i64) (a := y113.2) (b := 0) un66 rfl rfl hc496) ?_
                      refine WK.take 2 rfl (by decide +kernel) (by decide +kernel) (by decide +kernel) (by decide +kernel) rfl rfl (fun wq hq => R.move (v := Value.bool true) rfl) ?_
                      refine WK.takeY 3 (e := 71) rfl (by decide +kernel) (by decide +kernel) (by decide +kernel) (by decide +kernel) rfl rfl rfl rfl rfl (fun wq hq => R.move (v := Value.pointer none) (by exact s392)) ?_
                      refine WK.takeY 4 (e := 71) rfl (by decide +kernel) (by decide +kernel) (by decide +kernel) (by decide +kernel) rfl rfl rfl rfl rfl (fun wq hq => R.move (v := Value.slice a1 p1.length c1) (by exact s391)) ?_
                      refine WK.takeY 5 (e := 71) rfl (by decide +kernel) (by decide +kernel) (by decide +kernel) (by decide +kernel) rfl rfl rfl rfl rfl (fun wq hq => R.move (v := Value.int .i64 i376) (by exact s395)) ?_
                      refine WK.takeY 6 (e := 71) rfl (by decide +kernel) (by decide +kernel) (by decide +kernel) (by decide +kernel) rfl rfl rfl rfl rfl (fun wq hq => R.indexS (n := 2) (m := (i376).toNat) (a := a1) (ad := ad405) (len := p1.length) (cap := c1) (z := i376) un64 ag73.size rfl ha406 rfl hm404 hl403 hp407) ?_
                      refine WK.takeY 7 (e := 71) rfl (by decide +kernel) (by decide +kernel) (by decide +kernel) (by decide +kernel) rfl rfl rfl rfl rfl (fun wq hq => R.fieldAddr (o := ad405.off + (i376).toNat * 2) (o' := ad405.off + (i376).toNat * 2) fa73_0 rfl rfl) ?_
                      have hr498 := At.trT ((ht454.trans ht463).trans ht494) hr448
                      refine WK.takeY 8 (e := 71) rfl (by decide +kernel) (by decide +kernel) (by decide +kernel) (by decide +kernel) rfl rfl rfl rfl rfl (fun wq hq => R.loadL (v := Value.slice a415 x398.1.length c416) lf28 rfl (At.sub (off := 0) (n := 1) (ds := [Value.slice a415 x398.1.length c416]) (At.kK hq hr498) rfl rfl)) ?_
                      refine WK.takeY 9 (e := 71) rfl (by decide +kernel) (by decide +kernel) (by decide +kernel) (by decide +kernel) rfl rfl rfl rfl rfl (fun wq hq => R.move (v := Value.slice a1 p1.length c1) (by exact s391)) ?_
                      refine WK.takeY 10 (e := 71) rfl (by decide +kernel) (by decide +kernel) (by decide +kernel) (by decide +kernel) rfl rfl rfl rfl rfl (fun wq hq => R.move (v := Value.int .i64 i376) (by exact s395)) ?_
                      refine WK.takeY 11 (e := 71) rfl (by decide +kernel) (by decide +kernel) (by decide +kernel) (by decide +kernel) rfl rfl rfl rfl rfl (fun wq hq => R.indexS (n := 2) (m := (i376).toNat) (a := a1) (ad := ad405) (len := p1.length) (cap := c1) (z := i376) un64 ag73.size rfl ha406 rfl hm404 hl403 hp407) ?_
                      refine WK.takeY 12 (e := 71) rfl (by decide +kernel) (by decide +kernel) (by decide +kernel) (by decide +kernel) rfl rfl rfl rfl rfl (fun wq hq => R.fieldAddr (o := ad405.off + (i376).toNat * 2) (o' := ad405.off + (i376).toNat * 2 + 1) fa73_1 rfl rfl) ?_
                      refine WK.takeY 13 (e := 71) rfl (by decide +kernel) (by decide +kernel) (by decide +kernel) (by decide +kernel) rfl rfl rfl rfl rfl (fun wq hq => R.loadL (v := Value.int .i64 x398.2) lf2 rfl (At.sub (off := 1) (n := 1) (ds := [Value.int .i64 x398.2]) (At.kK hq hr498) rfl rfl)) ?_
                      refine WK.takeY 15 (e := 71) rfl (by decide +kernel) (by decide +kernel) (by decide +kernel) (by decide +kernel) rfl rfl rfl rfl rfl (fun wq hq => R.move (v := Value.pointer none) (by exact s394)) ?_
                      refine WK.takeY 16 (e := 71) rfl (by decide +kernel) (by decide +kernel) (by decide +kernel) (by decide +kernel) rfl rfl rfl rfl rfl (fun wq hq => R.move (v := Value.slice a437 y432.length c438) rfl) ?_
                      refine WK.takeY 17 (e := 71) rfl (by decide +kernel) (by decide +kernel) (by decide +kernel) (by decide +kernel) rfl rfl rfl rfl rfl (fun wq hq => R.move (v := Value.slice a1 p1.length c1) (by exact s391)) ?_
                      refine WK.takeY 18 (e := 71) rfl (by decide +kernel) (by decide +kernel) (by decide +kernel) (by decide +kernel) rfl rfl rfl rfl rfl (fun wq hq => R.move (v := Value.int .i64 i376) (by exact s395)) ?_
                      refine WK.takeY 19 (e := 71) rfl (by decide +kernel) (by decide +kernel) (by decide +kernel) (by decide +kernel) rfl rfl rfl rfl rfl (fun wq hq => R.indexS (n := 2) (m := (i376).toNat) (a := a1) (ad := ad405) (len := p1.length) (cap := c1) (z := i376) un64 ag73.size rfl ha406 rfl hm404 hl403 hp407) ?_
                      refine WK.takeY 20 (e := 71) rfl (by decide +kernel) (by decide +kernel) (by decide +kernel) (by decide +kernel) rfl rfl rfl rfl rfl (fun wq hq => R.fieldAddr (o := ad405.off + (i376).toNat * 2) (o' := ad405.off + (i376).toNat * 2 + 1) fa73_1 rfl rfl) ?_
                      refine WK.takeY 21 (e := 71) rfl (by decide +kernel) (by decide +kernel) (by decide +kernel) (by decide +kernel) rfl rfl rfl rfl rfl (fun wq hq => R.loadL (v := Value.int .i64 x398.2) lf2 rfl (At.sub (off := 1) (n := 1) (ds := [Value.int .i64 x398.2]) (At.kK hq hr498) rfl rfl)) ?_
                      obtain ⟨y499, hx500, h501⟩ := ob (o := stepN17 x398.1 x398.2) h497
                      have hr502 := elT ((ht454.trans ht463).trans ht494) hr452
                      refine WK.callY 14 (e := 71) (by decide +kernel) rfl rfl rfl rfl rfl rfl (stepN17_ok _ _ x398.1 x398.2 _ _ hr502 hl417 hx500) (R.call (vs := [Value.pointer none, Value.slice a415 x398.1.length c416, Value.int .i64 x398.2]) (caps := []) bo47 rfl rfl) ?_
                      rintro v505 w506 ⟨rfl, ht503⟩
                      have ht504 := hs495.call (N := []) (M := []) (List.Perm.refl _) ht503
                      have hs507 := hs495.trans ht504
                      refine ⟨_, ht504, ?_⟩
                      cases h501
                    · have h508 := ifF hc496 h493
                      refine WK.take 1 rfl (by decide +kernel) (by decide +kernel) (by decide +kernel) (by decide +kernel) rfl rfl (fun wq hq => R.eqlF (k := .i64) (a := y113.2) (b := 0) un66 rfl rfl hc496) ?_
                      refine WK.take 2 rfl (by decide +kernel) (by decide +kernel) (by decide +kernel) (by decide +kernel) rfl rfl (fun wq hq => R.move (v := Value.bool false) rfl) ?_
                      refine WK.takeN 3 (e := 71) (v := .bool false) rfl (by decide +kernel) (by decide +kernel) (by decide +kernel) (by decide +kernel) rfl rfl rfl rfl rfl ?_
                      refine WK.takeN 4 (e := 71) (v := .bool false) rfl (by decide +kernel) (by decide +kernel) (by decide +kernel) (by decide +kernel) rfl rfl rfl rfl rfl ?_
                      refine WK.takeN 5 (e := 71) (v := .bool false) rfl (by decide +kernel) (by decide +kernel) (by decide +kernel) (by decide +kernel) rfl rfl rfl rfl rfl ?_
                      refine WK.takeN 6 (e := 71) (v := .bool false) rfl (by decide +kernel) (by decide +kernel) (by decide +kernel) (by decide +kernel) rfl rfl rfl rfl rfl ?_
                      refine WK.takeN 7 (e := 71) (v := .bool false) rfl (by decide +kernel) (by decide +kernel) (by decide +kernel) (by decide +kernel) rfl rfl rfl rfl rfl ?_
                      refine WK.takeN 8 (e := 71) (v := .bool false) rfl (by decide +kernel) (by decide +kernel) (by decide +kernel) (by decide +kernel) rfl rfl rfl rfl rfl ?_
                      refine WK.takeN 9 (e := 71) (v := .bool false) rfl (by decide +kernel) (by decide +kernel) (by decide +kernel) (by decide +kernel) rfl rfl rfl rfl rfl ?_
                      refine WK.takeN 10 (e := 71) (v := .bool false) rfl (by decide +kernel) (by decide +kernel) (by decide +kernel) (by decide +kernel) rfl rfl rfl rfl rfl ?_
                      refine WK.takeN 11 (e := 71) (v := .bool false) rfl (by decide +kernel) (by decide +kernel) (by decide +kernel) (by decide +kernel) rfl rfl rfl rfl rfl ?_
                      refine WK.takeN 12 (e := 71) (v := .bool false) rfl (by decide +kernel) (by decide +kernel) (by decide +kernel) (by decide +kernel) rfl rfl rfl rfl rfl ?_
                      refine WK.takeN 13 (e := 71) (v := .bool false) rfl (by decide +kernel) (by decide +kernel) (by decide +kernel) (by decide +kernel) rfl rfl rfl rfl rfl ?_
                      refine WK.takeN 14 (e := 71) (v := .bool false) rfl (by decide +kernel) (by decide +kernel) (by decide +kernel) (by decide +kernel) rfl rfl rfl rfl rfl ?_
                      refine WK.takeN 15 (e := 71) (v := .bool false) rfl (by decide +kernel) (by decide +kernel) (by decide +kernel) (by decide +kernel) rfl rfl rfl rfl rfl ?_
                      refine WK.takeN 16 (e := 71) (v := .bool false) rfl (by decide +kernel) (by decide +kernel) (by decide +kernel) (by decide +kernel) rfl rfl rfl rfl rfl ?_
                      refine WK.takeN 17 (e := 71) (v := .bool false) rfl (by decide +kernel) (by decide +kernel) (by decide +kernel) (by decide +kernel) rfl rfl rfl rfl rfl ?_
                      refine WK.takeN 18 (e := 71) (v := .bool false) rfl (by decide +kernel) (by decide +kernel) (by decide +kernel) (by decide +kernel) rfl rfl rfl rfl rfl ?_
                      refine WK.takeN 19 (e := 71) (v := .bool false) rfl (by decide +kernel) (by decide +kernel) (by decide +kernel) (by decide +kernel) rfl rfl rfl rfl rfl ?_
                      refine WK.takeN 20 (e := 71) (v := .bool false) rfl (by decide +kernel) (by decide +kernel) (by decide +kernel) (by decide +kernel) rfl rfl rfl rfl rfl ?_
                      refine WK.takeN 21 (e := 71) (v := .bool false) rfl (by decide +kernel) (by decide +kernel) (by decide +kernel) (by decide +kernel) rfl rfl rfl rfl rfl ?_
                      refine WK.takeN 22 (e := 71) (v := .bool false) rfl (by decide +kernel) (by decide +kernel) (by decide +kernel) (by decide +kernel) rfl rfl rfl rfl rfl ?_
                      refine WK.takeN 23 (e := 71) (v := .bool false) rfl (by decide +kernel) (by decide +kernel) (by decide +kernel) (by decide +kernel) rfl rfl rfl rfl rfl ?_
                      refine WK.take 24 rfl (by decide +kernel) (by decide +kernel) (by decide +kernel) (by decide +kernel) rfl rfl (fun wq hq => R.pickF (v := Value.bool false) rfl rfl) ?_
                      refine WK.done (by decide +kernel) ?_
                      refine thenN ?_
                      refine WC.condF rfl rfl ?_
                      refine WC.skip ?_
                      refine blockN ?_
                      refine thenN ?_
                      refine WC.region ?_
                      refine WL.val (R.move (v := Value.int .i64 i376) (by exact s395)) rfl ?_
                      obtain ⟨hg509, h510⟩ := ckE (c := -9223372036854775808 ≤ i376 + 1 ∧ i376 + 1 ≤ 9223372036854775807) h508
                      refine WL.val (R.add (a := i376) (b := 1) (z := i376 + 1) rfl rfl (w64e rfl hg509.1 hg509.2)) rfl ?_
                      refine WL.val (R.assign (v := Value.int .i64 (i376 + 1)) rfl) rfl ?_
                      refine WL.nil ?_
                      have hr511 := elT ((((ht436.trans ht446).trans ht454).trans ht463).trans ht494) he384
                      exact roundEnd (s := k383) ⟨i376 + 1, s390, s391, s392, s393, s394, rfl, hr511, h510, hs495⟩ (Nat.lt_succ_self _)
            · have h512 := ifF hc396 h389
              refine WL.val (R.lssF (k := .i64) (a := i376) (b := ((p1.length : Nat) : Int)) un3 rfl rfl hc396) rfl ?_
              refine WL.nil ?_
              refine thenN ?_
              refine WC.condF rfl rfl ?_
              refine WC.exit ?_
              refine thenE ?_
              refine thenE ?_
              refine blockHit ?_
              exact joinI ⟨s392, s393, h512, hs382⟩
          · rintro σ387 w386 ⟨s514, s515, h513, hs388⟩
            subst hK378
            refine thenN ?_
            refine WC.seq ?_
            refine WC.region ?_
            refine WL.val (R.move (v := Value.int .i64 y113.2) (by exact s515)) rfl ?_
            by_cases hc516 : y113.2 = 0
            · have h517 := ifT hc516 h513
              refine WL.val (R.eqlT (k := .i64) (a := y113.2) (b := 0) un66 rfl rfl hc516) rfl ?_
              refine WL.val (R.move (v := Value.pointer none) (by exact s514)) rfl ?_
              refine WL.val (R.nilNilN un65 rfl rfl) rfl ?_
              refine WL.val (R.eqB (a := true) (b := false) un4 rfl rfl) rfl ?_
              refine WL.val (R.move (v := Value.bool false) rfl) rfl ?_
              refine WL.guardN (e := 99) (v := .bool false) rfl rfl rfl rfl ?_
              refine WL.val (R.pickF (v := Value.bool false) rfl rfl) rfl ?_
              refine WL.val (R.assign (v := Value.bool false) rfl) rfl ?_
              refine WL.nil ?_
              refine thenN ?_
              refine WC.ret ?_
              obtain rfl := Option.some.inj (show some false = some r from h517)
              exact ret1 (P := Try.prog) (n := 102) (fn := Try.f5) (R := fun v w' => v = Value.bool false ∧ St [] w w' []) (t := 4) (v := Value.bool false) rfl rfl rfl ⟨rfl, hs388⟩
            · have h518 := ifF hc516 h513
              refine WL.val (R.eqlF (k := .i64) (a := y113.2) (b := 0) un66 rfl rfl hc516) rfl ?_
              refine WL.val (R.move (v := Value.pointer none) (by exact s514)) rfl ?_
              refine WL.val (R.nilNilN un65 rfl rfl) rfl ?_
              refine WL.val (R.eqB (a := false) (b := false) un4 rfl rfl) rfl ?_
              refine WL.val (R.move (v := Value.bool true) rfl) rfl ?_
              refine WL.guardY (e := 99) rfl rfl rfl ?_
              obtain ⟨y519, hx520, h521⟩ := ob (o := lives17 ) h518
              refine WL.call (lives17_ok _ (In ok w [] [])   hx520) (R.call (vs := []) (caps := []) bo41 rfl rfl) rfl ?_
              rintro v524 w525 ⟨rfl, ht522⟩
              have ht523 := hs388.call (N := []) (M := []) (List.Perm.refl _) ht522
              have hs526 := hs388.trans ht523
              refine WL.val (R.pickT (v := Value.bool y519) rfl rfl) rfl ?_
              refine WL.val (R.assign (v := Value.bool y519) rfl) rfl ?_
              refine WL.nil ?_
              refine thenN ?_
              refine WC.ret ?_
              obtain rfl := Option.some.inj (show some y519 = some r from h521)
              exact ret1 (P := Try.prog) (n := 102) (fn := Try.f5) (R := fun v w' => v = Value.bool y519 ∧ St [] w w' []) (t := 4) (v := Value.bool y519) rfl rfl rfl ⟨rfl, hs526⟩
        · have h527 := ifF hc141 h137
          refine WL.val (R.neqT (k := .i64) (a := y113.2) (b := y127.2) un66 rfl rfl hc141) rfl ?_
          refine WL.nil ?_
          refine thenN ?_
          refine WC.condT rfl rfl ?_
          refine WC.seq ?_
          refine WC.region ?_
          refine WL.val (R.assign (v := Value.bool false) rfl) rfl ?_
          refine WL.nil ?_
          refine thenN ?_
          refine WC.ret ?_
          obtain rfl := Option.some.inj (show some false = some r from h527)
          exact ret1 (P := Try.prog) (n := 102) (fn := Try.f5) (R := fun v w' => v = Value.bool false ∧ St [] w w' []) (t := 4) (v := Value.bool false) rfl rfl rfl ⟨rfl, hs140⟩
      · rw [ho139] at ho134
        obtain ⟨b528, rfl, a529, c530, rfl⟩ := ho134
        have ht131 := hs126.call (N := []) (M := []) (List.Perm.refl _) ht130
        have hs533 := hs126.trans ht131
        refine WL.val (R.move (v := Value.tuple #[Value.pointer (some ⟨b528, 0, none⟩), Value.int .i64 y127.2]) rfl) rfl ?_
        refine WL.val (R.extract (v := Value.pointer (some ⟨b528, 0, none⟩)) rfl rfl) rfl ?_
        refine WL.val (R.extract (v := Value.int .i64 y127.2) rfl rfl) rfl ?_
        refine WL.val (R.assign (v := Value.pointer (some ⟨b528, 0, none⟩)) rfl) rfl ?_
        refine WL.val (R.assign (v := Value.int .i64 y127.2) rfl) rfl ?_
        refine WL.nil ?_
        refine thenN ?_
        refine WC.seq ?_
        refine WC.seq ?_
        refine WC.region ?_
        refine WL.val (R.move (v := Value.int .i64 y113.2) rfl) rfl ?_
        refine WL.val (R.move (v := Value.int .i64 y127.2) rfl) rfl ?_
        by_cases hc534 : y113.2 = y127.2
        · have h535 := ifT hc534 h137
          refine WL.val (R.neqF (k := .i64) (a := y113.2) (b := y127.2) un66 rfl rfl (not_not_intro hc534)) rfl ?_
          refine WL.nil ?_
          refine thenN ?_
          refine WC.condF rfl rfl ?_
          refine WC.skip ?_
          refine thenN ?_
          refine WC.seq ?_
          refine WC.seq ?_
          refine WC.region ?_
          refine WL.val (R.assign (v := Value.int .i64 0) rfl) rfl ?_
          refine WL.nil ?_
          refine thenN ?_
          have hr874 := elT (ht117.trans ht131) he1001
          obtain ⟨K866, hK867, h868⟩ := kE (G := fun K866 => play17_l2 p1 p0 y113 K866 1000000 0 q138.1 q138.2) h535
          refine WC.join (fun σ876 w875 => σ876 5 = (Value.pointer none) ∧ σ876 6 = (Value.int .i64 y113.2) ∧ K866 () = some r ∧ St [] w w875 []) ?_ ?_
          · refine WC.block ?_
            refine WC.loop (T := Nat) (fun k872 σ870 w869 => ∃ i861 : Int, ∃ i862 : Int, ∃ l863 : List Bool, ∃ a864, ∃ c865, σ870 0 = (Value.int .i64 p0) ∧ σ870 1 = (Value.slice a1 p1.length c1) ∧ σ870 5 = (Value.pointer none) ∧ σ870 6 = (Value.int .i64 y113.2) ∧ σ870 7 = (Value.pointer (some ⟨b528, 0, none⟩)) ∧ σ870 9 = (Value.int .i64 i861) ∧ elems (pairK (slW heldW) (intW .i64)) w869 (In ok w [] [blk b528 227 [Value.int .i64 i862, Value.slice a864 l863.length c865], gsl 4 boolE (Value.slice a864 l863.length c865) l863]) a1 p1 ∧ play17_l2 p1 p0 y113 K866 k872 i861 i862 l863 = some r ∧ St [] w w869 [blk b528 227 [Value.int .i64 i862, Value.slice a864 l863.length c865], gsl 4 boolE (Value.slice a864 l863.length c865) l863]) (fun k872 => k872) 1000000 ⟨0, q138.1, q138.2, a529, c530, rfl, rfl, rfl, rfl, rfl, rfl, hr874, h868, hs533⟩ ?_
            rintro k872 σ870 w869 ⟨i861, i862, l863, a864, c865, s879, s880, s881, s882, s883, s884, he873, h878, hs871⟩
            rcases k872 with _ | k872
            · rw [play17_l2] at h878; cases h878
            rw [play17_l2] at h878
            refine WC.seq ?_
            refine WC.seq ?_
            refine WC.region ?_
            refine WL.val (R.move (v := Value.int .i64 i861) (by exact s884)) rfl ?_
            refine WL.val (R.move (v := Value.slice a1 p1.length c1) (by exact s880)) rfl ?_
            refine WL.val (R.len (a := a1) (n := p1.length) (c := c1) un64 rfl) rfl ?_
            by_cases hc885 : i861 < ((p1.length : Nat) : Int)
            · have h886 := ifT hc885 h878
              refine WL.val (R.lssT (k := .i64) (a := i861) (b := ((p1.length : Nat) : Int)) un3 rfl rfl hc885) rfl ?_
              refine WL.nil ?_
              refine thenN ?_
              refine WC.condT rfl rfl ?_
              refine WC.skip ?_
              refine thenN ?_
              refine WC.seq ?_
              refine WC.block ?_
              refine WC.seq ?_
              refine WC.seq ?_
              refine WC.region ?_
              refine WL.val (R.move (v := Value.slice a1 p1.length c1) (by exact s880)) rfl ?_
              refine WL.val (R.move (v := Value.int .i64 i861) (by exact s884)) rfl ?_
              obtain ⟨x887, hx888, h889⟩ := ob (o := rd p1 i861) h886
              obtain ⟨h0890, hx891, hl892, hm893⟩ := rdE hx888
              obtain ⟨ad894, e899, ha895, hp896, hat897, hrd898⟩ := he873 _ _ hx891
              obtain ⟨cs900, cs901, rfl, hp902, hp903⟩ := hrd898
              obtain ⟨a904, c905, rfl, hl906, he907⟩ := hp902
              obtain ⟨-, rfl⟩ := hp903
              refine WL.val (R.indexS (n := 2) (m := (i861).toNat) (a := a1) (ad := ad894) (len := p1.length) (cap := c1) (z := i861) un64 ag73.size rfl ha895 rfl hm893 hl892 hp896) rfl ?_
              refine WL.val (R.fieldAddr (o := ad894.off + (i861).toNat * 2) (o' := ad894.off + (i861).toNat * 2) fa73_0 rfl rfl) rfl ?_
              refine WL.val (R.loadL (v := Value.slice a904 x887.1.length c905) lf28 rfl (At.sub (off := 0) (n := 1) (ds := [Value.slice a904 x887.1.length c905]) hat897 rfl rfl)) rfl ?_
              refine WL.val (R.len (a := a904) (n := x887.1.length) (c := c905) un28 rfl) rfl ?_
              by_cases hc910 : 40 < ((x887.1.length : Nat) : Int)
              · have h911 := ifT hc910 h889
                refine WL.val (R.gtrT (k := .i64) (a := ((x887.1.length : Nat) : Int)) (b := 40) un3 rfl rfl hc910) rfl ?_
                refine WL.nil ?_
                refine thenN ?_
                refine WC.condT rfl rfl ?_
                refine WC.seq ?_
                refine WC.region ?_
                obtain ⟨y912, hx913, h914⟩ := ob (o := lives17 ) h911
                refine WL.call (lives17_ok _ (In ok w [] [blk b528 227 [Value.int .i64 i862, Value.slice a864 l863.length c865], gsl 4 boolE (Value.slice a864 l863.length c865) l863])   hx913) (R.call (vs := []) (caps := []) bo41 rfl rfl) rfl ?_
                rintro v917 w918 ⟨rfl, ht915⟩
                have ht916 := hs871.call (N := [blk b528 227 [Value.int .i64 i862, Value.slice a864 l863.length c865], gsl 4 boolE (Value.slice a864 l863.length c865) l863]) (M := []) (List.Perm.refl _) ht915
                have hs919 := hs871.trans ht916
                refine WL.val (R.assign (v := Value.bool y912) rfl) rfl ?_
                refine WL.nil ?_
                refine thenN ?_
                refine WC.ret ?_
                have ht920 := (hs919.here).perm (L' := []) (G := [blk b528 227 [Value.int .i64 i862, Value.slice a864 l863.length c865], gsl 4 boolE (Value.slice a864 l863.length c865) l863]) ((List.Perm.refl _))
                have hs921 := hs919.trans ht920
                obtain rfl := Option.some.inj (show some y912 = some r from h914)
                exact ret1 (P := Try.prog) (n := 102) (fn := Try.f5) (R := fun v w' => v = Value.bool y912 ∧ St [] w w' []) (t := 4) (v := Value.bool y912) rfl rfl rfl ⟨rfl, hs921⟩
              · have h922 := ifF hc910 h889
                refine WL.val (R.gtrF (k := .i64) (a := ((x887.1.length : Nat) : Int)) (b := 40) un3 rfl rfl hc910) rfl ?_
                refine WL.nil ?_
                refine thenN ?_
                refine WC.condF rfl rfl ?_
                refine WC.skip ?_
                refine thenN ?_
                refine WC.seq ?_
                refine WC.region ?_
                refine WL.val (R.move (v := Value.slice a1 p1.length c1) (by exact s880)) rfl ?_
                refine WL.val (R.move (v := Value.int .i64 i861) (by exact s884)) rfl ?_
                refine WL.val (R.indexS (n := 2) (m := (i861).toNat) (a := a1) (ad := ad894) (len := p1.length) (cap := c1) (z := i861) un64 ag73.size rfl ha895 rfl hm893 hl892 hp896) rfl ?_
                refine WL.val (R.fieldAddr (o := ad894.off + (i861).toNat * 2) (o' := ad894.off + (i861).toNat * 2) fa73_0 rfl rfl) rfl ?_
                refine WL.val (R.loadL (v := Value.slice a904 x887.1.length c905) lf28 rfl (At.sub (off := 0) (n := 1) (ds := [Value.slice a904 x887.1.length c905]) hat897 rfl rfl)) rfl ?_
                obtain ⟨y923, hx924, h925⟩ := ob (o := others17 x887.1) h922
                refine WL.call (others17_ok _ _ x887.1 _ _ he907 hl906 hx924) (R.call (vs := [Value.slice a904 x887.1.length c905]) (caps := []) bo44 rfl rfl) rfl ?_
                rintro v932 w933 ⟨a928, c929, rfl, hl930, he931, ht926⟩
                have ht927 := hs871.call (N := [blk b528 227 [Value.int .i64 i862, Value.slice a864 l863.length c865], gsl 4 boolE (Value.slice a864 l863.length c865) l863]) (M := []) (List.Perm.refl _) ht926
                have he934 := elC hs871 (M := []) (List.Perm.refl _) ht926 he931
                have hs935 := hs871.trans ht927
                refine WL.val (R.assign (v := Value.slice a928 y923.length c929) rfl) rfl ?_
                refine WL.nil ?_
                refine thenN ?_
                refine WC.seq ?_
                refine WC.seq ?_
                refine WC.drawK (L := [blk b528 227 [Value.int .i64 i862, Value.slice a864 l863.length c865], gsl 4 boolE (Value.slice a864 l863.length c865) l863]) mixed (NP.then (NP.then (NP.block (NP.then (NP.then (NP.block (NP.join (NP.then NP.rq)))))))) ?_
                have ht937 := (hs935.here).ext (Ext.drew _)
                have hs938 := hs935.trans ht937
                refine WK.take 0 rfl (by decide +kernel) (by decide +kernel) (by decide +kernel) (by decide +kernel) rfl rfl (fun wq hq => R.move (v := Value.int .i64 p0) (by exact s879)) ?_
                refine WK.take 1 rfl (by decide +kernel) (by decide +kernel) (by decide +kernel) (by decide +kernel) rfl rfl (fun wq hq => R.move (v := Value.slice a1 p1.length c1) (by exact s880)) ?_
                refine WK.take 2 rfl (by decide +kernel) (by decide +kernel) (by decide +kernel) (by decide +kernel) rfl rfl (fun wq hq => R.move (v := Value.int .i64 i861) (by exact s884)) ?_
                refine WK.take 3 rfl (by decide +kernel) (by decide +kernel) (by decide +kernel) (by decide +kernel) rfl rfl (fun wq hq => R.indexS (n := 2) (m := (i861).toNat) (a := a1) (ad := ad894) (len := p1.length) (cap := c1) (z := i861) un64 ag73.size rfl ha895 rfl hm893 hl892 hp896) ?_
                refine WK.take 4 rfl (by decide +kernel) (by decide +kernel) (by decide +kernel) (by decide +kernel) rfl rfl (fun wq hq => R.fieldAddr (o := ad894.off + (i861).toNat * 2) (o' := ad894.off + (i861).toNat * 2) fa73_0 rfl rfl) ?_
                have hr939 := At.trT (ht927.trans ht937) hat897
                refine WK.take 5 rfl (by decide +kernel) (by decide +kernel) (by decide +kernel) (by decide +kernel) rfl rfl (fun wq hq => R.loadL (v := Value.slice a904 x887.1.length c905) lf28 rfl (At.sub (off := 0) (n := 1) (ds := [Value.slice a904 x887.1.length c905]) (At.kK hq hr939) rfl rfl)) ?_
                refine WK.take 6 rfl (by decide +kernel) (by decide +kernel) (by decide +kernel) (by decide +kernel) rfl rfl (fun wq hq => R.move (v := Value.slice a1 p1.length c1) (by exact s880)) ?_
                refine WK.take 7 rfl (by decide +kernel) (by decide +kernel) (by decide +kernel) (by decide +kernel) rfl rfl (fun wq hq => R.move (v := Value.int .i64 i861) (by exact s884)) ?_
                refine WK.take 8 rfl (by decide +kernel) (by decide +kernel) (by decide +kernel) (by decide +kernel) rfl rfl (fun wq hq => R.indexS (n := 2) (m := (i861).toNat) (a := a1) (ad := ad894) (len := p1.length) (cap := c1) (z := i861) un64 ag73.size rfl ha895 rfl hm893 hl892 hp896) ?_
                refine WK.take 9 rfl (by decide +kernel) (by decide +kernel) (by decide +kernel) (by decide +kernel) rfl rfl (fun wq hq => R.fieldAddr (o := ad894.off + (i861).toNat * 2) (o' := ad894.off + (i861).toNat * 2 + 1) fa73_1 rfl rfl) ?_
                refine WK.take 10 rfl (by decide +kernel) (by decide +kernel) (by decide +kernel) (by decide +kernel) rfl rfl (fun wq hq => R.loadL (v := Value.int .i64 x887.2) lf2 rfl (At.sub (off := 1) (n := 1) (ds := [Value.int .i64 x887.2]) (At.kK hq hr939) rfl rfl)) ?_
                refine WK.take 12 rfl (by decide +kernel) (by decide +kernel) (by decide +kernel) (by decide +kernel) rfl rfl (fun wq hq => R.move (v := Value.int .i64 p0) (by exact s879)) ?_
                refine WK.take 13 rfl (by decide +kernel) (by decide +kernel) (by decide +kernel) (by decide +kernel) rfl rfl (fun wq hq => R.move (v := Value.slice a928 y923.length c929) rfl) ?_
                refine WK.take 14 rfl (by decide +kernel) (by decide +kernel) (by decide +kernel) (by decide +kernel) rfl rfl (fun wq hq => R.move (v := Value.slice a1 p1.length c1) (by exact s880)) ?_
                refine WK.take 15 rfl (by decide +kernel) (by decide +kernel) (by decide +kernel) (by decide +kernel) rfl rfl (fun wq hq => R.move (v := Value.int .i64 i861) (by exact s884)) ?_
                refine WK.take 16 rfl (by decide +kernel) (by decide +kernel) (by decide +kernel) (by decide +kernel) rfl rfl (fun wq hq => R.indexS (n := 2) (m := (i861).toNat) (a := a1) (ad := ad894) (len := p1.length) (cap := c1) (z := i861) un64 ag73.size rfl ha895 rfl hm893 hl892 hp896) ?_
                refine WK.take 17 rfl (by decide +kernel) (by decide +kernel) (by decide +kernel) (by decide +kernel) rfl rfl (fun wq hq => R.fieldAddr (o := ad894.off + (i861).toNat * 2) (o' := ad894.off + (i861).toNat * 2 + 1) fa73_1 rfl rfl) ?_
                refine WK.take 18 rfl (by decide +kernel) (by decide +kernel) (by decide +kernel) (by decide +kernel) rfl rfl (fun wq hq => R.loadL (v := Value.int .i64 x887.2) lf2 rfl (At.sub (off := 1) (n := 1) (ds := [Value.int .i64 x887.2]) (At.kK hq hr939) rfl rfl)) ?_
                obtain ⟨y940, hx941, h942⟩ := ob (o := even17 p0 x887.1 x887.2) h925
                have hr943 := elT (ht927.trans ht937) he907
                refine WK.call 11 (by decide +kernel) rfl rfl rfl (even17_ok _ _ p0 x887.1 x887.2 _ _ hr943 hl906 hx941) (R.call (vs := [Value.int .i64 p0, Value.slice a904 x887.1.length c905, Value.int .i64 x887.2]) (caps := []) bo45 rfl rfl) ?_
                rintro v946 w947 ⟨rfl, ht944⟩
                have ht945 := hs938.call (N := [blk b528 227 [Value.int .i64 i862, Value.slice a864 l863.length c865], gsl 4 boolE (Value.slice a864 l863.length c865) l863]) (M := []) (List.Perm.refl _) ht944
                have hs948 := hs938.trans ht945
                refine ⟨_, ht945, ?_⟩
                obtain ⟨y949, hx950, h951⟩ := ob (o := reven17 p0 y923 x887.2) h942
                have hr952 := elT (ht937.trans ht945) he934
                refine WK.call 19 (by decide +kernel) rfl rfl rfl (reven17_ok _ _ p0 y923 x887.2 _ _ hr952 hl930 hx950) (R.call (vs := [Value.int .i64 p0, Value.slice a928 y923.length c929, Value.int .i64 x887.2]) (caps := []) bo46 rfl rfl) ?_
                rintro v955 w956 ⟨rfl, ht953⟩
                have ht954 := hs948.call (N := [blk b528 227 [Value.int .i64 i862, Value.slice a864 l863.length c865], gsl 4 boolE (Value.slice a864 l863.length c865) l863]) (M := []) (List.Perm.refl _) ht953
                have hs957 := hs948.trans ht954
                refine ⟨_, ht954, ?_⟩
                by_cases hc958 : y940 = true
                · have h959 := ifT hc958 h951
                  by_cases hc960 : y949 = true
                  · have h961 := ifT hc960 h959
                    refine WK.take 20 rfl (by decide +kernel) (by decide +kernel) (by decide +kernel) (by decide +kernel) rfl rfl (fun wq hq => R.neB (a := true) (b := true) un4 (Eq.trans (show _ = Value.bool y940 from rfl) (congrArg Value.bool hc958)) (Eq.trans (show _ = Value.bool y949 from rfl) (congrArg Value.bool hc960))) ?_
                    refine WK.done (by decide +kernel) ?_
                    refine thenN ?_
                    refine WC.condF rfl rfl ?_
                    refine WC.skip ?_
                    refine thenN ?_
                    refine WC.seq ?_
                    refine WC.drawK (L := [blk b528 227 [Value.int .i64 i862, Value.slice a864 l863.length c865], gsl 4 boolE (Value.slice a864 l863.length c865) l863]) mixed (NP.then (NP.block (NP.then (NP.then (NP.block (NP.join (NP.then NP.rq))))))) ?_
                    have ht962 := (hs957.here).ext (Ext.drew _)
                    have hs963 := hs957.trans ht962
                    refine WK.take 0 rfl (by decide +kernel) (by decide +kernel) (by decide +kernel) (by decide +kernel) rfl rfl (fun wq hq => R.move (v := Value.int .i64 y113.2) (by exact s882)) ?_
                    by_cases hc964 : y113.2 = 0
                    · have h965 := ifT hc964 h961
                      refine WK.take 1 rfl (by decide +kernel) (by decide +kernel) (by decide +kernel) (by decide +kernel) rfl rfl (fun wq hq => R.eqlT (k := .i64) (a := y113.2) (b := 0) un66 rfl rfl hc964) ?_
                      refine WK.take 2 rfl (by decide +kernel) (by decide +kernel) (by decide +kernel) (by decide +kernel) rfl rfl (fun wq hq => R.move (v := Value.bool true) rfl) ?_
                      refine WK.takeY 3 (e := 71) rfl (by decide +kernel) (by decide +kernel) (by decide +kernel) (by decide +kernel) rfl rfl rfl rfl rfl (fun wq hq => R.move (v := Value.pointer none) (by exact s881)) ?_
                      refine WK.takeY 4 (e := 71) rfl (by decide +kernel) (by decide +kernel) (by decide +kernel) (by decide +kernel) rfl rfl rfl rfl rfl (fun wq hq => R.move (v := Value.slice a1 p1.length c1) (by exact s880)) ?_
                      refine WK.takeY 5 (e := 71) rfl (by decide +kernel) (by decide +kernel) (by decide +kernel) (by decide +kernel) rfl rfl rfl rfl rfl (fun wq hq => R.move (v := Value.int .i64 i861) (by exact s884)) ?_
                      refine WK.takeY 6 (e := 71) rfl (by decide +kernel) (by decide +kernel) (by decide +kernel) (by decide +kernel) rfl rfl rfl rfl rfl (fun wq hq => R.indexS (n := 2) (m := (i861).toNat) (a := a1) (ad := ad894) (len := p1.length) (cap := c1) (z := i861) un64 ag73.size rfl ha895 rfl hm893 hl892 hp896) ?_
                      refine WK.takeY 7 (e := 71) rfl (by decide +kernel) (by decide +kernel) (by decide +kernel) (by decide +kernel) rfl rfl rfl rfl rfl (fun wq hq => R.fieldAddr (o := ad894.off + (i861).toNat * 2) (o' := ad894.off + (i861).toNat * 2) fa73_0 rfl rfl) ?_
                      have hr966 := At.trT ((ht945.trans ht954).trans ht962) hr939
                      refine WK.takeY 8 (e := 71) rfl (by decide +kernel) (by decide +kernel) (by decide +kernel) (by decide +kernel) rfl rfl rfl rfl rfl (fun wq hq => R.loadL (v := Value.slice a904 x887.1.length c905) lf28 rfl (At.sub (off := 0) (n := 1) (ds := [Value.slice a904 x887.1.length c905]) (At.kK hq hr966) rfl rfl)) ?_
                      refine WK.takeY 9 (e := 71) rfl (by decide +kernel) (by decide +kernel) (by decide +kernel) (by decide +kernel) rfl rfl rfl rfl rfl (fun wq hq => R.move (v := Value.slice a1 p1.length c1) (by exact s880)) ?_
                      refine WK.takeY 10 (e := 71) rfl (by decide +kernel) (by decide +kernel) (by decide +kernel) (by decide +kernel) rfl rfl rfl rfl rfl (fun wq hq => R.move (v := Value.int .i64 i861) (by exact s884)) ?_
                      refine WK.takeY 11 (e := 71) rfl (by decide +kernel) (by decide +kernel) (by decide +kernel) (by decide +kernel) rfl rfl rfl rfl rfl (fun wq hq => R.indexS (n := 2) (m := (i861).toNat) (a := a1) (ad := ad894) (len := p1.length) (cap := c1) (z := i861) un64 ag73.size rfl ha895 rfl hm893 hl892 hp896) ?_
                      refine WK.takeY 12 (e := 71) rfl (by decide +kernel) (by decide +kernel) (by decide +kernel) (by decide +kernel) rfl rfl rfl rfl rfl (fun wq hq => R.fieldAddr (o := ad894.off + (i861).toNat * 2) (o' := ad894.off + (i861).toNat * 2 + 1) fa73_1 rfl rfl) ?_
                      refine WK.takeY 13 (e := 71) rfl (by decide +kernel) (by decide +kernel) (by decide +kernel) (by decide +kernel) rfl rfl rfl rfl rfl (fun wq hq => R.loadL (v := Value.int .i64 x887.2) lf2 rfl (At.sub (off := 1) (n := 1) (ds := [Value.int .i64 x887.2]) (At.kK hq hr966) rfl rfl)) ?_
                      refine WK.takeY 15 (e := 71) rfl (by decide +kernel) (by decide +kernel) (by decide +kernel) (by decide +kernel) rfl rfl rfl rfl rfl (fun wq hq => R.move (v := Value.pointer (some ⟨b528, 0, none⟩)) (by exact s883)) ?_
                      refine WK.takeY 16 (e := 71) rfl (by decide +kernel) (by decide +kernel) (by decide +kernel) (by decide +kernel) rfl rfl rfl rfl rfl (fun wq hq => R.move (v := Value.slice a928 y923.length c929) rfl) ?_
                      refine WK.takeY 17 (e := 71) rfl (by decide +kernel) (by decide +kernel) (by decide +kernel) (by decide +kernel) rfl rfl rfl rfl rfl (fun wq hq => R.move (v := Value.slice a1 p1.length c1) (by exact s880)) ?_
                      refine WK.takeY 18 (e := 71) rfl (by decide +kernel) (by decide +kernel) (by decide +kernel) (by decide +kernel) rfl rfl rfl rfl rfl (fun wq hq => R.move (v := Value.int .i64 i861) (by exact s884)) ?_
                      refine WK.takeY 19 (e := 71) rfl (by decide +kernel) (by decide +kernel) (by decide +kernel) (by decide +kernel) rfl rfl rfl rfl rfl (fun wq hq => R.indexS (n := 2) (m := (i861).toNat) (a := a1) (ad := ad894) (len := p1.length) (cap := c1) (z := i861) un64 ag73.size rfl ha895 rfl hm893 hl892 hp896) ?_
                      refine WK.takeY 20 (e := 71) rfl (by decide +kernel) (by decide +kernel) (by decide +kernel) (by decide +kernel) rfl rfl rfl rfl rfl (fun wq hq => R.fieldAddr (o := ad894.off + (i861).toNat * 2) (o' := ad894.off + (i861).toNat * 2 + 1) fa73_1 rfl rfl) ?_
                      refine WK.takeY 21 (e := 71) rfl (by decide +kernel) (by decide +kernel) (by decide +kernel) (by decide +kernel) rfl rfl rfl rfl rfl (fun wq hq => R.loadL (v := Value.int .i64 x887.2) lf2 rfl (At.sub (off := 1) (n := 1) (ds := [Value.int .i64 x887.2]) (At.kK hq hr966) rfl rfl)) ?_
                      obtain ⟨y967, hx968, h969⟩ := ob (o := stepN17 x887.1 x887.2) h965
                      have hr970 := elT ((ht945.trans ht954).trans ht962) hr943
                      refine WK.callY 14 (e := 71) (by decide +kernel) rfl rfl rfl rfl rfl rfl (stepN17_ok _ _ x887.1 x887.2 _ _ hr970 hl906 hx968) (R.call (vs := [Value.pointer none, Value.slice a904 x887.1.length c905, Value.int .i64 x887.2]) (caps := []) bo47 rfl rfl) ?_
                      rintro v973 w974 ⟨rfl, ht971⟩
                      have ht972 := hs963.call (N := [blk b528 227 [Value.int .i64 i862, Value.slice a864 l863.length c865], gsl 4 boolE (Value.slice a864 l863.length c865) l863]) (M := []) (List.Perm.refl _) ht971
                      have hs975 := hs963.trans ht972
                      refine ⟨_, ht972, ?_⟩
                      obtain ⟨y976, hx977, h978⟩ := ob (o := rstep17 (i862, l863) y923 x887.2) h969
                      have hr979 := elT ((ht954.trans ht962).trans ht972) hr952
                      refine WK.callY 22 (e := 71) (by decide +kernel) rfl rfl rfl rfl rfl rfl (rstep17_ok _ _ (i862, l863) y923 x887.2 _ _ hr979 hl930 b528 _ _ (In.outM (M := [blk b528 227 [Value.int .i64 i862, Value.slice a864 l863.length c865], gsl 4 boolE (Value.slice a864 l863.length c865) l863]) (N := []) ((List.Perm.refl _))) (show St [blk b528 227 [Value.int .i64 i862, Value.slice a864 l863.length c865], gsl 4 boolE (Value.slice a864 l863.length c865) l863] _ _ [blk b528 227 [Value.int .i64 i862, Value.slice a864 l863.length c865], gsl 4 boolE (Value.slice a864 l863.length c865) l863] from St.ofM (M := [blk b528 227 [Value.int .i64 i862, Value.slice a864 l863.length c865], gsl 4 boolE (Value.slice a864 l863.length c865) l863]) (N := []) hs975 ((List.Perm.refl _))) hx977) (R.call (vs := [Value.pointer (some ⟨b528, 0, none⟩), Value.slice a928 y923.length c929, Value.int .i64 x887.2]) (caps := []) bo48 rfl rfl) ?_
                      rintro v984 w985 ⟨a982, c983, rfl, ht980⟩
                      have ht981 := hs975.call (N := []) (M := [blk b528 227 [Value.int .i64 i862, Value.slice a864 l863.length c865], gsl 4 boolE (Value.slice a864 l863.length c865) l863]) ((List.Perm.refl _)) ht980
                      have hs986 := hs975.trans ht981
                      refine ⟨_, ht981, ?_⟩
                      by_cases hc987 : y967 = true
                      · have h988 := ifT hc987 h978
                        by_cases hc989 : y976.1 = true
                        · have h990 := ifT hc989 h988
                          refine WK.takeY 23 (e := 71) rfl (by decide +kernel) (by decide +kernel) (by decide +kernel) (by decide +kernel) rfl rfl rfl rfl rfl (fun wq hq => R.neB (a := true) (b := true) un4 (Eq.trans (show _ = Value.bool y967 from rfl) (congrArg Value.bool hc987)) (Eq.trans (show _ = Value.bool y976.1 from rfl) (congrArg Value.bool hc989))) ?_
                          refine WK.take 24 rfl (by decide +kernel) (by decide +kernel) (by decide +kernel) (by decide +kernel) rfl rfl (fun wq hq => R.pickT (v := Value.bool false) rfl rfl) ?_
                          refine WK.done (by decide +kernel) ?_
                          refine thenN ?_
                          refine WC.condF rfl rfl ?_
                          refine WC.skip ?_
                          refine blockN ?_
                          refine thenN ?_
                          refine WC.region ?_
                          refine WL.val (R.move (v := Value.int .i64 i861) (by exact s884)) rfl ?_
                          obtain ⟨hg991, h992⟩ := ckE (c := -9223372036854775808 ≤ i861 + 1 ∧ i861 + 1 ≤ 9223372036854775807) h990
                          refine WL.val (R.add (a := i861) (b := 1) (z := i861 + 1) rfl rfl (w64e rfl hg991.1 hg991.2)) rfl ?_
                          refine WL.val (R.assign (v := Value.int .i64 (i861 + 1)) rfl) rfl ?_
                          refine WL.nil ?_
                          have hr993 := elT ((((((ht927.trans ht937).trans ht945).trans ht954).trans ht962).trans ht972).trans ht981) he873
                          exact roundEnd (s := k872) ⟨i861 + 1, y976.2.1, y976.2.2, a982, c983, s879, s880, s881, s882, s883, rfl, hr993, h992, hs986⟩ (Nat.lt_succ_self _)
                        · have h994 := ifF hc989 h988
                          refine WK.takeY 23 (e := 71) rfl (by decide +kernel) (by decide +kernel) (by decide +kernel) (by decide +kernel) rfl rfl rfl rfl rfl (fun wq hq => R.neB (a := true) (b := false) un4 (Eq.trans (show _ = Value.bool y967 from rfl) (congrArg Value.bool hc987)) (Eq.trans (show _ = Value.bool y976.1 from rfl) (congrArg Value.bool (Bool.eq_false_iff.2 hc989)))) ?_
                          refine WK.take 24 rfl (by decide +kernel) (by decide +kernel) (by decide +kernel) (by decide +kernel) rfl rfl (fun wq hq => R.pickT (v := Value.bool true) rfl rfl) ?_
                          refine WK.done (by decide +kernel) ?_
                          refine thenN ?_
                          refine WC.condT rfl rfl ?_
                          refine WC.seq ?_
                          refine WC.region ?_
                          refine WL.val (R.assign (v := Value.bool false) rfl) rfl ?_
                          refine WL.nil ?_
                          refine thenN ?_
                          refine WC.ret ?_
                          have ht995 := (hs986.here).perm (L' := []) (G := [blk b528 227 [Value.int .i64 y976.2.1, Value.slice a982 y976.2.2.length c983], gsl 4 boolE (Value.slice a982 y976.2.2.length c983) y976.2.2]) ((List.Perm.refl _))
                          have hs996 := hs986.trans ht995
                          obtain rfl := Option.some.inj (show some false = some r from h994)
                          exact ret1 (P := Try.prog) (n := 102) (fn := Try.f5) (R := fun v w' => v = Value.bool false ∧ St [] w w' []) (t := 4) (v := Value.bool false) rfl rfl rfl ⟨rfl, hs996⟩
                      · have h997 := ifF hc987 h978
                        by_cases hc998 : y976.1 = true
                        · have h999 := ifT hc998 h997
                          refine WK.takeY 23 (e := 71) rfl (by decide +kernel) (by decide +kernel) (by decide +kernel) (by decide +kernel) rfl rfl rfl rfl rfl (fun wq hq => R.neB (a := false) (b := true) un4 (Eq.trans (show _ = Value.bool y967 from rfl) (congrArg Value.bool (Bool.eq_false_iff.2 hc987))) (Eq.trans (show _ = Value.bool y976.1 from rfl) (congrArg Value.bool hc998))) ?_
                          refine WK.take 24 rfl (by decide +kernel) (by decide +kernel) (by decide +kernel) (by decide +kernel) rfl rfl (fun wq hq => R.pickT (v := Value.bool true) rfl rfl) ?_
                          refine WK.done (by decide +kernel) ?_
                          refine thenN ?_
                          refine WC.condT rfl rfl ?_
                          refine WC.seq ?_
                          refine WC.region ?_
                          refine WL.val (R.assign (v := Value.bool false) rfl) rfl ?_
                          refine WL.nil ?_
                          refine thenN ?_
                          refine WC.ret ?_
                          have ht1000 := (hs986.here).perm (L' := []) (G := [blk b528 227 [Value.int .i64 y976.2.1, Value.slice a982 y976.2.2.length c983], gsl 4 boolE (Value.slice a982 y976.2.2.length c983) y976.2.2]) ((List.Perm.refl _))
                          have hs1001 := hs986.trans ht1000
                          obtain rfl := Option.some.inj (show some false = some r from h999)
                          exact ret1 (P := Try.prog) (n := 102) (fn := Try.f5) (R := fun v w' => v = Value.bool false ∧ St [] w w' []) (t := 4) (v := Value.bool false) rfl rfl rfl ⟨rfl, hs1001⟩
                        · have h1002 := ifF hc998 h997
                          refine WK.takeY 23 (e := 71) rfl (by decide +kernel) (by decide +kernel) (by decide +kernel) (by decide +kernel) rfl rfl rfl rfl rfl (fun wq hq => R.neB (a := false) (b := false) un4 (Eq.trans (show _ = Value.bool y967 from rfl) (congrArg Value.bool (Bool.eq_false_iff.2 hc987))) (Eq.trans (show _ = Value.bool y976.1 from rfl) (congrArg Value.bool (Bool.eq_false_iff.2 hc998)))) ?_
                          refine WK.take 24 rfl (by decide +kernel) (by decide +kernel) (by decide +kernel) (by decide +kernel) rfl rfl (fun wq hq => R.pickT (v := Value.bool false) rfl rfl) ?_
                          refine WK.done (by decide +kernel) ?_
                          refine thenN ?_
                          refine WC.condF rfl rfl ?_
                          refine WC.skip ?_
                          refine blockN ?_
                          refine thenN ?_
                          refine WC.region ?_
                          refine WL.val (R.move (v := Value.int .i64 i861) (by exact s884)) rfl ?_
                          obtain ⟨hg1003, h1004⟩ := ckE (c := -9223372036854775808 ≤ i861 + 1 ∧ i861 + 1 ≤ 9223372036854775807) h1002
                          refine WL.val (R.add (a := i861) (b := 1) (z := i861 + 1) rfl rfl (w64e rfl hg1003.1 hg1003.2)) rfl ?_
                          refine WL.val (R.assign (v := Value.int .i64 (i861 + 1)) rfl) rfl ?_
                          refine WL.nil ?_
                          have hr1005 := elT ((((((ht927.trans ht937).trans ht945).trans ht954).trans ht962).trans ht972).trans ht981) he873
                          exact roundEnd (s := k872) ⟨i861 + 1, y976.2.1, y976.2.2, a982, c983, s879, s880, s881, s882, s883, rfl, hr1005, h1004, hs986⟩ (Nat.lt_succ_self _)
                    · have h1006 := ifF hc964 h961
                      refine WK.take 1 rfl (by decide +kernel) (by decide +kernel) (by decide +kernel) (by decide +kernel) rfl rfl (fun wq hq => R.eqlF (k := .i64) (a := y113.2) (b := 0) un66 rfl rfl hc964) ?_
                      refine WK.take 2 rfl (by decide +kernel) (by decide +kernel) (by decide +kernel) (by decide +kernel) rfl rfl (fun wq hq => R.move (v := Value.bool false) rfl) ?_
                      refine WK.takeN 3 (e := 71) (v := .bool false) rfl (by decide +kernel) (by decide +kernel) (by decide +kernel) (by decide +kernel) rfl rfl rfl rfl rfl ?_
                      refine WK.takeN 4 (e := 71) (v := .bool false) rfl (by decide +kernel) (by decide +kernel) (by decide +kernel) (by decide +kernel) rfl rfl rfl rfl rfl ?_
                      refine WK.takeN 5 (e := 71) (v := .bool false) rfl (by decide +kernel) (by decide +kernel) (by decide +kernel) (by decide +kernel) rfl rfl rfl rfl rfl ?_
                      refine WK.takeN 6 (e := 71) (v := .bool false) rfl (by decide +kernel) (by decide +kernel) (by decide +kernel) (by decide +kernel) rfl rfl rfl rfl rfl ?_
                      refine WK.takeN 7 (e := 71) (v := .bool false) rfl (by decide +kernel) (by decide +kernel) (by decide +kernel) (by decide +kernel) rfl rfl rfl rfl rfl ?_
                      refine WK.takeN 8 (e := 71) (v := .bool false) rfl (by decide +kernel) (by decide +kernel) (by decide +kernel) (by decide +kernel) rfl rfl rfl rfl rfl ?_
                      refine WK.takeN 9 (e := 71) (v := .bool false) rfl (by decide +kernel) (by decide +kernel) (by decide +kernel) (by decide +kernel) rfl rfl rfl rfl rfl ?_
                      refine WK.takeN 10 (e := 71) (v := .bool false) rfl (by decide +kernel) (by decide +kernel) (by decide +kernel) (by decide +kernel) rfl rfl rfl rfl rfl ?_
                      refine WK.takeN 11 (e := 71) (v := .bool false) rfl (by decide +kernel) (by decide +kernel) (by decide +kernel) (by decide +kernel) rfl rfl rfl rfl rfl ?_
                      refine WK.takeN 12 (e := 71) (v := .bool false) rfl (by decide +kernel) (by decide +kernel) (by decide +kernel) (by decide +kernel) rfl rfl rfl rfl rfl ?_
                      refine WK.takeN 13 (e := 71) (v := .bool false) rfl (by decide +kernel) (by decide +kernel) (by decide +kernel) (by decide +kernel) rfl rfl rfl rfl rfl ?_
                      refine WK.takeN 14 (e := 71) (v := .bool false) rfl (by decide +kernel) (by decide +kernel) (by decide +kernel) (by decide +kernel) rfl rfl rfl rfl rfl ?_
                      refine WK.takeN 15 (e := 71) (v := .bool false) rfl (by decide +kernel) (by decide +kernel) (by decide +kernel) (by decide +kernel) rfl rfl rfl rfl rfl ?_
                      refine WK.takeN 16 (e := 71) (v := .bool false) rfl (by decide +kernel) (by decide +kernel) (by decide +kernel) (by decide +kernel) rfl rfl rfl rfl rfl ?_
                      refine WK.takeN 17 (e := 71) (v := .bool false) rfl (by decide +kernel) (by decide +kernel) (by decide +kernel) (by decide +kernel) rfl rfl rfl rfl rfl ?_
                      refine WK.takeN 18 (e := 71) (v := .bool false) rfl (by decide +kernel) (by decide +kernel) (by decide +kernel) (by decide +kernel) rfl rfl rfl rfl rfl ?_
                      refine WK.takeN 19 (e := 71) (v := .bool false) rfl (by decide +kernel) (by decide +kernel) (by decide +kernel) (by decide +kernel) rfl rfl rfl rfl rfl ?_
                      refine WK.takeN 20 (e := 71) (v := .bool false) rfl (by decide +kernel) (by decide +kernel) (by decide +kernel) (by decide +kernel) rfl rfl rfl rfl rfl ?_
                      refine WK.takeN 21 (e := 71) (v := .bool false) rfl (by decide +kernel) (by decide +kernel) (by decide +kernel) (by decide +kernel) rfl rfl rfl rfl rfl ?_
                      refine WK.takeN 22 (e := 71) (v := .bool false) rfl (by decide +kernel) (by decide +kernel) (by decide +kernel) (by decide +kernel) rfl rfl rfl rfl rfl ?_
                      refine WK.takeN 23 (e := 71) (v := .bool false) rfl (by decide +kernel) (by decide +kernel) (by decide +kernel) (by decide +kernel) rfl rfl rfl rfl rfl ?_
                      refine WK.take 24 rfl (by decide +kernel) (by decide +kernel) (by decide +kernel) (by decide +kernel) rfl rfl (fun wq hq => R.pickF (v := Value.bool false) rfl rfl) ?_
                      refine WK.done (by decide +kernel) ?_
                      refine thenN ?_
                      refine WC.condF rfl rfl ?_
                      refine WC.skip ?_
                      refine blockN ?_
                      refine thenN ?_
                      refine WC.region ?_
                      refine WL.val (R.move (v := Value.int .i64 i861) (by exact s884)) rfl ?_
                      obtain ⟨hg1007, h1008⟩ := ckE (c := -9223372036854775808 ≤ i861 + 1 ∧ i861 + 1 ≤ 9223372036854775807) h1006
                      refine WL.val (R.add (a := i861) (b := 1) (z := i861 + 1) rfl rfl (w64e rfl hg1007.1 hg1007.2)) rfl ?_
                      refine WL.val (R.assign (v := Value.int .i64 (i861 + 1)) rfl) rfl ?_
                      refine WL.nil ?_
                      have hr1009 := elT ((((ht927.trans ht937).trans ht945).trans ht954).trans ht962) he873
                      exact roundEnd (s := k872) ⟨i861 + 1, i862, l863, a864, c865, s879, s880, s881, s882, s883, rfl, hr1009, h1008, hs963⟩ (Nat.lt_succ_self _)
                  · have h1010 := ifF hc960 h959
                    refine WK.take 20 rfl (by decide +kernel) (by decide +kernel) (by decide +kernel) (by decide +kernel) rfl rfl (fun wq hq => R.neB (a := true) (b := false) un4 (Eq.trans (show _ = Value.bool y940 from rfl) (congrArg Value.bool hc958)) (Eq.trans (show _ = Value.bool y949 from rfl) (congrArg Value.bool (Bool.eq_false_iff.2 hc960)))) ?_
                    refine WK.done (by decide +kernel) ?_
                    refine thenN ?_
                    refine WC.condT rfl rfl ?_
                    refine WC.seq ?_
                    refine WC.region ?_
                    refine WL.val (R.assign (v := Value.bool false) rfl) rfl ?_
                    refine WL.nil ?_
                    refine thenN ?_
                    refine WC.ret ?_
                    have ht1011 := (hs957.here).perm (L' := []) (G := [blk b528 227 [Value.int .i64 i862, Value.slice a864 l863.length c865], gsl 4 boolE (Value.slice a864 l863.length c865) l863]) ((List.Perm.refl _))
                    have hs1012 := hs957.trans ht1011
                    obtain rfl := Option.some.inj (show some false = some r from h1010)
                    exact ret1 (P := Try.prog) (n := 102) (fn := Try.f5) (R := fun v w' => v = Value.bool false ∧ St [] w w' []) (t := 4) (v := Value.bool false) rfl rfl rfl ⟨rfl, hs1012⟩
                · have h1013 := ifF hc958 h951
                  by_cases hc1014 : y949 = true
                  · have h1015 := ifT hc1014 h1013
                    refine WK.take 20 rfl (by decide +kernel) (by decide +kernel) (by decide +kernel) (by decide +kernel) rfl rfl (fun wq hq => R.neB (a := false) (b := true) un4 (Eq.trans (show _ = Value.bool y940 from rfl) (congrArg Value.bool (Bool.eq_false_iff.2 hc958))) (Eq.trans (show _ = Value.bool y949 from rfl) (congrArg Value.bool hc1014))) ?_
                    refine WK.done (by decide +kernel) ?_
                    refine thenN ?_
                    refine WC.condT rfl rfl ?_
                    refine WC.seq ?_
                    refine WC.region ?_
                    refine WL.val (R.assign (v := Value.bool false) rfl) rfl ?_
                    refine WL.nil ?_
                    refine thenN ?_
                    refine WC.ret ?_
                    have ht1016 := (hs957.here).perm (L' := []) (G := [blk b528 227 [Value.int .i64 i862, Value.slice a864 l863.length c865], gsl 4 boolE (Value.slice a864 l863.length c865) l863]) ((List.Perm.refl _))
                    have hs1017 := hs957.trans ht1016
                    obtain rfl := Option.some.inj (show some false = some r from h1015)
                    exact ret1 (P := Try.prog) (n := 102) (fn := Try.f5) (R := fun v w' => v = Value.bool false ∧ St [] w w' []) (t := 4) (v := Value.bool false) rfl rfl rfl ⟨rfl, hs1017⟩
                  · have h1018 := ifF hc1014 h1013
                    refine WK.take 20 rfl (by decide +kernel) (by decide +kernel) (by decide +kernel) (by decide +kernel) rfl rfl (fun wq hq => R.neB (a := false) (b := false) un4 (Eq.trans (show _ = Value.bool y940 from rfl) (congrArg Value.bool (Bool.eq_false_iff.2 hc958))) (Eq.trans (show _ = Value.bool y949 from rfl) (congrArg Value.bool (Bool.eq_false_iff.2 hc1014)))) ?_
                    refine WK.done (by decide +kernel) ?_
                    refine thenN ?_
                    refine WC.condF rfl rfl ?_
                    refine WC.skip ?_
                    refine thenN ?_
                    refine WC.seq ?_
                    refine WC.drawK (L := [blk b528 227 [Value.int .i64 i862, Value.slice a864 l863.length c865], gsl 4 boolE (Value.slice a864 l863.length c865) l863]) mixed (NP.then (NP.block (NP.then (NP.then (NP.block (NP.join (NP.then NP.rq))))))) ?_
                    have ht1019 := (hs957.here).ext (Ext.drew _)
                    have hs1020 := hs957.trans ht1019
                    refine WK.take 0 rfl (by decide +kernel) (by decide +kernel) (by decide +kernel) (by decide +kernel) rfl rfl (fun wq hq => R.move (v := Value.int .i64 y113.2) (by exact s882)) ?_
                    by_cases hc1021 : y113.2 = 0
                    · have h1022 := ifT hc1021 h1018
                      refine WK.take 1 rfl (by decide +kernel) (by decide +kernel) (by decide +kernel) (by decide +kernel) rfl rfl (fun wq hq => R.eqlT (k := .i64) (a := y113.2) (b := 0) un66 rfl rfl hc1021) ?_
                      refine WK.take 2 rfl (by decide +kernel) (by decide +kernel) (by decide +kernel) (by decide +kernel) rfl rfl (fun wq hq => R.move (v := Value.bool true) rfl) ?_
                      refine WK.takeY 3 (e := 71) rfl (by decide +kernel) (by decide +kernel) (by decide +kernel) (by decide +kernel) rfl rfl rfl rfl rfl (fun wq hq => R.move (v := Value.pointer none) (by exact s881)) ?_
                      refine WK.takeY 4 (e := 71) rfl (by decide +kernel) (by decide +kernel) (by decide +kernel) (by decide +kernel) rfl rfl rfl rfl rfl (fun wq hq => R.move (v := Value.slice a1 p1.length c1) (by exact s880)) ?_
                      refine WK.takeY 5 (e := 71) rfl (by decide +kernel) (by decide +kernel) (by decide +kernel) (by decide +kernel) rfl rfl rfl rfl rfl (fun wq hq => R.move (v := Value.int .i64 i861) (by exact s884)) ?_
                      refine WK.takeY 6 (e := 71) rfl (by decide +kernel) (by decide +kernel) (by decide +kernel) (by decide +kernel) rfl rfl rfl rfl rfl (fun wq hq => R.indexS (n := 2) (m := (i861).toNat) (a := a1) (ad := ad894) (len := p1.length) (cap := c1) (z := i861) un64 ag73.size rfl ha895 rfl hm893 hl892 hp896) ?_
                      refine WK.takeY 7 (e := 71) rfl (by decide +kernel) (by decide +kernel) (by decide +kernel) (by decide +kernel) rfl rfl rfl rfl rfl (fun wq hq => R.fieldAddr (o := ad894.off + (i861).toNat * 2) (o' := ad894.off + (i861).toNat * 2) fa73_0 rfl rfl) ?_
                      have hr1023 := At.trT ((ht945.trans ht954).trans ht1019) hr939
                      refine WK.takeY 8 (e := 71) rfl (by decide +kernel) (by decide +kernel) (by decide +kernel) (by decide +kernel) rfl rfl rfl rfl rfl (fun wq hq => R.loadL (v := Value.slice a904 x887.1.length c905) lf28 rfl (At.sub (off := 0) (n := 1) (ds := [Value.slice a904 x887.1.length c905]) (At.kK hq hr1023) rfl rfl)) ?_
                      refine WK.takeY 9 (e := 71) rfl (by decide +kernel) (by decide +kernel) (by decide +kernel) (by decide +kernel) rfl rfl rfl rfl rfl (fun wq hq => R.move (v := Value.slice a1 p1.length c1) (by exact s880)) ?_
                      refine WK.takeY 10 (e := 71) rfl (by decide +kernel) (by decide +kernel) (by decide +kernel) (by decide +kernel) rfl rfl rfl rfl rfl (fun wq hq => R.move (v := Value.int .i64 i861) (by exact s884)) ?_
                      refine WK.takeY 11 (e := 71) rfl (by decide +kernel) (by decide +kernel) (by decide +kernel) (by decide +kernel) rfl rfl rfl rfl rfl (fun wq hq => R.indexS (n := 2) (m := (i861).toNat) (a := a1) (ad := ad894) (len := p1.length) (cap := c1) (z := i861) un64 ag73.size rfl ha895 rfl hm893 hl892 hp896) ?_
                      refine WK.takeY 12 (e := 71) rfl (by decide +kernel) (by decide +kernel) (by decide +kernel) (by decide +kernel) rfl rfl rfl rfl rfl (fun wq hq => R.fieldAddr (o := ad894.off + (i861).toNat * 2) (o' := ad894.off + (i861).toNat * 2 + 1) fa73_1 rfl rfl) ?_
                      refine WK.takeY 13 (e := 71) rfl (by decide +kernel) (by decide +kernel) (by decide +kernel) (by decide +kernel) rfl rfl rfl rfl rfl (fun wq hq => R.loadL (v := Value.int .i64 x887.2) lf2 rfl (At.sub (off := 1) (n := 1) (ds := [Value.int .i64 x887.2]) (At.kK hq hr1023) rfl rfl)) ?_
                      refine WK.takeY 15 (e := 71) rfl (by decide +kernel) (by decide +kernel) (by decide +kernel) (by decide +kernel) rfl rfl rfl rfl rfl (fun wq hq => R.move (v := Value.pointer (some ⟨b528, 0, none⟩)) (by exact s883)) ?_
                      refine WK.takeY 16 (e := 71) rfl (by decide +kernel) (by decide +kernel) (by decide +kernel) (by decide +kernel) rfl rfl rfl rfl rfl (fun wq hq => R.move (v := Value.slice a928 y923.length c929) rfl) ?_
                      refine WK.takeY 17 (e := 71) rfl (by decide +kernel) (by decide +kernel) (by decide +kernel) (by decide +kernel) rfl rfl rfl rfl rfl (fun wq hq => R.move (v := Value.slice a1 p1.length c1) (by exact s880)) ?_
                      refine WK.takeY 18 (e := 71) rfl (by decide +kernel) (by decide +kernel) (by decide +kernel) (by decide +kernel) rfl rfl rfl rfl rfl (fun wq hq => R.move (v := Value.int .i64 i861) (by exact s884)) ?_
                      refine WK.takeY 19 (e := 71) rfl (by decide +kernel) (by decide +kernel) (by decide +kernel) (by decide +kernel) rfl rfl rfl rfl rfl (fun wq hq => R.indexS (n := 2) (m := (i861).toNat) (a := a1) (ad := ad894) (len := p1.length) (cap := c1) (z := i861) un64 ag73.size rfl ha895 rfl hm893 hl892 hp896) ?_
                      refine WK.takeY 20 (e := 71) rfl (by decide +kernel) (by decide +kernel) (by decide +kernel) (by decide +kernel) rfl rfl rfl rfl rfl (fun wq hq => R.fieldAddr (o := ad894.off + (i861).toNat * 2) (o' := ad894.off + (i861).toNat * 2 + 1) fa73_1 rfl rfl) ?_
                      refine WK.takeY 21 (e := 71) rfl (by decide +kernel) (by decide +kernel) (by decide +kernel) (by decide +kernel) rfl rfl rfl rfl rfl (fun wq hq => R.loadL (v := Value.int .i64 x887.2) lf2 rfl (At.sub (off := 1) (n := 1) (ds := [Value.int .i64 x887.2]) (At.kK hq hr1023) rfl rfl)) ?_
                      obtain ⟨y1024, hx1025, h1026⟩ := ob (o := stepN17 x887.1 x887.2) h1022
                      have hr1027 := elT ((ht945.trans ht954).trans ht1019) hr943
                      refine WK.callY 14 (e := 71) (by decide +kernel) rfl rfl rfl rfl rfl rfl (stepN17_ok _ _ x887.1 x887.2 _ _ hr1027 hl906 hx1025) (R.call (vs := [Value.pointer none, Value.slice a904 x887.1.length c905, Value.int .i64 x887.2]) (caps := []) bo47 rfl rfl) ?_
                      rintro v1030 w1031 ⟨rfl, ht1028⟩
                      have ht1029 := hs1020.call (N := [blk b528 227 [Value.int .i64 i862, Value.slice a864 l863.length c865], gsl 4 boolE (Value.slice a864 l863.length c865) l863]) (M := []) (List.Perm.refl _) ht1028
                      have hs1032 := hs1020.trans ht1029
                      refine ⟨_, ht1029, ?_⟩
                      obtain ⟨y1033, hx1034, h1035⟩ := ob (o := rstep17 (i862, l863) y923 x887.2) h1026
                      have hr1036 := elT ((ht954.trans ht1019).trans ht1029) hr952
                      refine WK.callY 22 (e := 71) (by decide +kernel) rfl rfl rfl rfl rfl rfl (rstep17_ok _ _ (i862, l863) y923 x887.2 _ _ hr1036 hl930 b528 _ _ (In.outM (M := [blk b528 227 [Value.int .i64 i862, Value.slice a864 l863.length c865], gsl 4 boolE (Value.slice a864 l863.length c865) l863]) (N := []) ((List.Perm.refl _))) (show St [blk b528 227 [Value.int .i64 i862, Value.slice a864 l863.length c865], gsl 4 boolE (Value.slice a864 l863.length c865) l863] _ _ [blk b528 227 [Value.int .i64 i862, Value.slice a864 l863.length c865], gsl 4 boolE (Value.slice a864 l863.length c865) l863] from St.ofM (M := [blk b528 227 [Value.int .i64 i862, Value.slice a864 l863.length c865], gsl 4 boolE (Value.slice a864 l863.length c865) l863]) (N := []) hs1032 ((List.Perm.refl _))) hx1034) (R.call (vs := [Value.pointer (some ⟨b528, 0, none⟩), Value.slice a928 y923.length c929, Value.int .i64 x887.2]) (caps := []) bo48 rfl rfl) ?_
                      rintro v1041 w1042 ⟨a1039, c1040, rfl, ht1037⟩
                      have ht1038 := hs1032.call (N := []) (M := [blk b528 227 [Value.int .i64 i862, Value.slice a864 l863.length c865], gsl 4 boolE (Value.slice a864 l863.length c865) l863]) ((List.Perm.refl _)) ht1037
                      have hs1043 := hs1032.trans ht1038
                      refine ⟨_, ht1038, ?_⟩
                      by_cases hc1044 : y1024 = true
                      · have h1045 := ifT hc1044 h1035
                        by_cases hc1046 : y1033.1 = true
                        · have h1047 := ifT hc1046 h1045
                          refine WK.takeY 23 (e := 71) rfl (by decide +kernel) (by decide +kernel) (by decide +kernel) (by decide +kernel) rfl rfl rfl rfl rfl (fun wq hq => R.neB (a := true) (b := true) un4 (Eq.trans (show _ = Value.bool y1024 from rfl) (congrArg Value.bool hc1044)) (Eq.trans (show _ = Value.bool y1033.1 from rfl) (congrArg Value.bool hc1046))) ?_
                          refine WK.take 24 rfl (by decide +kernel) (by decide +kernel) (by decide +kernel) (by decide +kernel) rfl rfl (fun wq hq => R.pickT (v := Value.bool false) rfl rfl) ?_
                          refine WK.done (by decide +kernel) ?_
                          refine thenN ?_
                          refine WC.condF rfl rfl ?_
                          refine WC.skip ?_
                          refine blockN ?_
                          refine thenN ?_
                          refine WC.region ?_
                          refine WL.val (R.move (v := Value.int .i64 i861) (by exact s884)) rfl ?_
                          obtain ⟨hg1048, h1049⟩ := ckE (c := -9223372036854775808 ≤ i861 + 1 ∧ i861 + 1 ≤ 9223372036854775807) h1047
                          refine WL.val (R.add (a := i861) (b := 1) (z := i861 + 1) rfl rfl (w64e rfl hg1048.1 hg1048.2)) rfl ?_
                          refine WL.val (R.assign (v := Value.int .i64 (i861 + 1)) rfl) rfl ?_
                          refine WL.nil ?_
                          have hr1050 := elT ((((((ht927.trans ht937).trans ht945).trans ht954).trans ht1019).trans ht1029).trans ht1038) he873
                          exact roundEnd (s := k872) ⟨i861 + 1, y1033.2.1, y1033.2.2, a1039, c1040, s879, s880, s881, s882, s883, rfl, hr1050, h1049, hs1043⟩ (Nat.lt_succ_self _)
                        · have h1051 := ifF hc1046 h1045
                          refine WK.takeY 23 (e := 71) rfl (by decide +kernel) (by decide +kernel) (by decide +kernel) (by decide +kernel) rfl rfl rfl rfl rfl (fun wq hq => R.neB (a := true) (b := false) un4 (Eq.trans (show _ = Value.bool y1024 from rfl) (congrArg Value.bool hc1044)) (Eq.trans (show _ = Value.bool y1033.1 from rfl) (congrArg Value.bool (Bool.eq_false_iff.2 hc1046)))) ?_
                          refine WK.take 24 rfl (by decide +kernel) (by decide +kernel) (by decide +kernel) (by decide +kernel) rfl rfl (fun wq hq => R.pickT (v := Value.bool true) rfl rfl) ?_
                          refine WK.done (by decide +kernel) ?_
                          refine thenN ?_
                          refine WC.condT rfl rfl ?_
                          refine WC.seq ?_
                          refine WC.region ?_
                          refine WL.val (R.assign (v := Value.bool false) rfl) rfl ?_
                          refine WL.nil ?_
                          refine thenN ?_
                          refine WC.ret ?_
                          have ht1052 := (hs1043.here).perm (L' := []) (G := [blk b528 227 [Value.int .i64 y1033.2.1, Value.slice a1039 y1033.2.2.length c1040], gsl 4 boolE (Value.slice a1039 y1033.2.2.length c1040) y1033.2.2]) ((List.Perm.refl _))
                          have hs1053 := hs1043.trans ht1052
                          obtain rfl := Option.some.inj (show some false = some r from h1051)
                          exact ret1 (P := Try.prog) (n := 102) (fn := Try.f5) (R := fun v w' => v = Value.bool false ∧ St [] w w' []) (t := 4) (v := Value.bool false) rfl rfl rfl ⟨rfl, hs1053⟩
                      · have h1054 := ifF hc1044 h1035
                        by_cases hc1055 : y1033.1 = true
                        · have h1056 := ifT hc1055 h1054
                          refine WK.takeY 23 (e := 71) rfl (by decide +kernel) (by decide +kernel) (by decide +kernel) (by decide +kernel) rfl rfl rfl rfl rfl (fun wq hq => R.neB (a := false) (b := true) un4 (Eq.trans (show _ = Value.bool y1024 from rfl) (congrArg Value.bool (Bool.eq_false_iff.2 hc1044))) (Eq.trans (show _ = Value.bool y1033.1 from rfl) (congrArg Value.bool hc1055))) ?_
                          refine WK.take 24 rfl (by decide +kernel) (by decide +kernel) (by decide +kernel) (by decide +kernel) rfl rfl (fun wq hq => R.pickT (v := Value.bool true) rfl rfl) ?_
                          refine WK.done (by decide +kernel) ?_
                          refine thenN ?_
                          refine WC.condT rfl rfl ?_
                          refine WC.seq ?_
                          refine WC.region ?_
                          refine WL.val (R.assign (v := Value.bool false) rfl) rfl ?_
                          refine WL.nil ?_
                          refine thenN ?_
                          refine WC.ret ?_
                          have ht1057 := (hs1043.here).perm (L' := []) (G := [blk b528 227 [Value.int .i64 y1033.2.1, Value.slice a1039 y1033.2.2.length c1040], gsl 4 boolE (Value.slice a1039 y1033.2.2.length c1040) y1033.2.2]) ((List.Perm.refl _))
                          have hs1058 := hs1043.trans ht1057
                          obtain rfl := Option.some.inj (show some false = some r from h1056)
                          exact ret1 (P := Try.prog) (n := 102) (fn := Try.f5) (R := fun v w' => v = Value.bool false ∧ St [] w w' []) (t := 4) (v := Value.bool false) rfl rfl rfl ⟨rfl, hs1058⟩
                        · have h1059 := ifF hc1055 h1054
                          refine WK.takeY 23 (e := 71) rfl (by decide +kernel) (by decide +kernel) (by decide +kernel) (by decide +kernel) rfl rfl rfl rfl rfl (fun wq hq => R.neB (a := false) (b := false) un4 (Eq.trans (show _ = Value.bool y1024 from rfl) (congrArg Value.bool (Bool.eq_false_iff.2 hc1044))) (Eq.trans (show _ = Value.bool y1033.1 from rfl) (congrArg Value.bool (Bool.eq_false_iff.2 hc1055)))) ?_
                          refine WK.take 24 rfl (by decide +kernel) (by decide +kernel) (by decide +kernel) (by decide +kernel) rfl rfl (fun wq hq => R.pickT (v := Value.bool false) rfl rfl) ?_
                          refine WK.done (by decide +kernel) ?_
                          refine thenN ?_
                          refine WC.condF rfl rfl ?_
                          refine WC.skip ?_
                          refine blockN ?_
                          refine thenN ?_
                          refine WC.region ?_
                          refine WL.val (R.move (v := Value.int .i64 i861) (by exact s884)) rfl ?_
                          obtain ⟨hg1060, h1061⟩ := ckE (c := -9223372036854775808 ≤ i861 + 1 ∧ i861 + 1 ≤ 9223372036854775807) h1059
                          refine WL.val (R.add (a := i861) (b := 1) (z := i861 + 1) rfl rfl (w64e rfl hg1060.1 hg1060.2)) rfl ?_
                          refine WL.val (R.assign (v := Value.int .i64 (i861 + 1)) rfl) rfl ?_
                          refine WL.nil ?_
                          have hr1062 := elT ((((((ht927.trans ht937).trans ht945).trans ht954).trans ht1019).trans ht1029).trans ht1038) he873
                          exact roundEnd (s := k872) ⟨i861 + 1, y1033.2.1, y1033.2.2, a1039, c1040, s879, s880, s881, s882, s883, rfl, hr1062, h1061, hs1043⟩ (Nat.lt_succ_self _)
                    · have h1063 := ifF hc1021 h1018
                      refine WK.take 1 rfl (by decide +kernel) (by decide +kernel) (by decide +kernel) (by decide +kernel) rfl rfl (fun wq hq => R.eqlF (k := .i64) (a := y113.2) (b := 0) un66 rfl rfl hc1021) ?_
                      refine WK.take 2 rfl (by decide +kernel) (by decide +kernel) (by decide +kernel) (by decide +kernel) rfl rfl (fun wq hq => R.move (v := Value.bool false) rfl) ?_
                      refine WK.takeN 3 (e := 71) (v := .bool false) rfl (by decide +kernel) (by decide +kernel) (by decide +kernel) (by decide +kernel) rfl rfl rfl rfl rfl ?_
                      refine WK.takeN 4 (e := 71) (v := .bool false) rfl (by decide +kernel) (by decide +kernel) (by decide +kernel) (by decide +kernel) rfl rfl rfl rfl rfl ?_
                      refine WK.takeN 5 (e := 71) (v := .bool false) rfl (by decide +kernel) (by decide +kernel) (by decide +kernel) (by decide +kernel) rfl rfl rfl rfl rfl ?_
                      refine WK.takeN 6 (e := 71) (v := .bool false) rfl (by decide +kernel) (by decide +kernel) (by decide +kernel) (by decide +kernel) rfl rfl rfl rfl rfl ?_
                      refine WK.takeN 7 (e := 71) (v := .bool false) rfl (by decide +kernel) (by decide +kernel) (by decide +kernel) (by decide +kernel) rfl rfl rfl rfl rfl ?_
                      refine WK.takeN 8 (e := 71) (v := .bool false) rfl (by decide +kernel) (by decide +kernel) (by decide +kernel) (by decide +kernel) rfl rfl rfl rfl rfl ?_
                      refine WK.takeN 9 (e := 71) (v := .bool false) rfl (by decide +kernel) (by decide +kernel) (by decide +kernel) (by decide +kernel) rfl rfl rfl rfl rfl ?_
                      refine WK.takeN 10 (e := 71) (v := .bool false) rfl (by decide +kernel) (by decide +kernel) (by decide +kernel) (by decide +kernel) rfl rfl rfl rfl rfl ?_
                      refine WK.takeN 11 (e := 71) (v := .bool false) rfl (by decide +kernel) (by decide +kernel) (by decide +kernel) (by decide +kernel) rfl rfl rfl rfl rfl ?_
                      refine WK.takeN 12 (e := 71) (v := .bool false) rfl (by decide +kernel) (by decide +kernel) (by decide +kernel) (by decide +kernel) rfl rfl rfl rfl rfl ?_
                      refine WK.takeN 13 (e := 71) (v := .bool false) rfl (by decide +kernel) (by decide +kernel) (by decide +kernel) (by decide +kernel) rfl rfl rfl rfl rfl ?_
                      refine WK.takeN 14 (e := 71) (v := .bool false) rfl (by decide +kernel) (by decide +kernel) (by decide +kernel) (by decide +kernel) rfl rfl rfl rfl rfl ?_
                      refine WK.takeN 15 (e := 71) (v := .bool false) rfl (by decide +kernel) (by decide +kernel) (by decide +kernel) (by decide +kernel) rfl rfl rfl rfl rfl ?_
                      refine WK.takeN 16 (e := 71) (v := .bool false) rfl (by decide +kernel) (by decide +kernel) (by decide +kernel) (by decide +kernel) rfl rfl rfl rfl rfl ?_
                      refine WK.takeN 17 (e := 71) (v := .bool false) rfl (by decide +kernel) (by decide +kernel) (by decide +kernel) (by decide +kernel) rfl rfl rfl rfl rfl ?_
                      refine WK.takeN 18 (e := 71) (v := .bool false) rfl (by decide +kernel) (by decide +kernel) (by decide +kernel) (by decide +kernel) rfl rfl rfl rfl rfl ?_
                      refine WK.takeN 19 (e := 71) (v := .bool false) rfl (by decide +kernel) (by decide +kernel) (by decide +kernel) (by decide +kernel) rfl rfl rfl rfl rfl ?_
                      refine WK.takeN 20 (e := 71) (v := .bool false) rfl (by decide +kernel) (by decide +kernel) (by decide +kernel) (by decide +kernel) rfl rfl rfl rfl rfl ?_
                      refine WK.takeN 21 (e := 71) (v := .bool false) rfl (by decide +kernel) (by decide +kernel) (by decide +kernel) (by decide +kernel) rfl rfl rfl rfl rfl ?_
                      refine WK.takeN 22 (e := 71) (v := .bool false) rfl (by decide +kernel) (by decide +kernel) (by decide +kernel) (by decide +kernel) rfl rfl rfl rfl rfl ?_
                      refine WK.takeN 23 (e := 71) (v := .bool false) rfl (by decide +kernel) (by decide +kernel) (by decide +kernel) (by decide +kernel) rfl rfl rfl rfl rfl ?_
                      refine WK.take 24 rfl (by decide +kernel) (by decide +kernel) (by decide +kernel) (by decide +kernel) rfl rfl (fun wq hq => R.pickF (v := Value.bool false) rfl rfl) ?_
                      refine WK.done (by decide +kernel) ?_
                      refine thenN ?_
                      refine WC.condF rfl rfl ?_
                      refine WC.skip ?_
                      refine blockN ?_
                      refine thenN ?_
                      refine WC.region ?_
                      refine WL.val (R.move (v := Value.int .i64 i861) (by exact s884)) rfl ?_
                      obtain ⟨hg1064, h1065⟩ := ckE (c := -9223372036854775808 ≤ i861 + 1 ∧ i861 + 1 ≤ 9223372036854775807) h1063
                      refine WL.val (R.add (a := i861) (b := 1) (z := i861 + 1) rfl rfl (w64e rfl hg1064.1 hg1064.2)) rfl ?_
                      refine WL.val (R.assign (v := Value.int .i64 (i861 + 1)) rfl) rfl ?_
                      refine WL.nil ?_
                      have hr1066 := elT ((((ht927.trans ht937).trans ht945).trans ht954).trans ht1019) he873
                      exact roundEnd (s := k872) ⟨i861 + 1, i862, l863, a864, c865, s879, s880, s881, s882, s883, rfl, hr1066, h1065, hs1020⟩ (Nat.lt_succ_self _)
            · have h1067 := ifF hc885 h878
              refine WL.val (R.lssF (k := .i64) (a := i861) (b := ((p1.length : Nat) : Int)) un3 rfl rfl hc885) rfl ?_
              refine WL.nil ?_
              refine thenN ?_
              refine WC.condF rfl rfl ?_
              refine WC.exit ?_
              refine thenE ?_
              refine thenE ?_
              refine blockHit ?_
              have ht1068 := (hs871.here).perm (L' := []) (G := [blk b528 227 [Value.int .i64 i862, Value.slice a864 l863.length c865], gsl 4 boolE (Value.slice a864 l863.length c865) l863]) ((List.Perm.refl _))
              have hs1069 := hs871.trans ht1068
              exact joinI ⟨s881, s882, h1067, hs1069⟩
          · rintro σ876 w875 ⟨s1071, s1072, h1070, hs877⟩
            subst hK867
            refine thenN ?_
            refine WC.seq ?_
            refine WC.region ?_
            refine WL.val (R.move (v := Value.int .i64 y113.2) (by exact s1072)) rfl ?_
            by_cases hc1073 : y113.2 = 0
            · have h1074 := ifT hc1073 h1070
              refine WL.val (R.eqlT (k := .i64) (a := y113.2) (b := 0) un66 rfl rfl hc1073) rfl ?_
              refine WL.val (R.move (v := Value.pointer none) (by exact s1071)) rfl ?_
              refine WL.val (R.nilNilN un65 rfl rfl) rfl ?_
              refine WL.val (R.eqB (a := true) (b := false) un4 rfl rfl) rfl ?_
              refine WL.val (R.move (v := Value.bool false) rfl) rfl ?_
              refine WL.guardN (e := 99) (v := .bool false) rfl rfl rfl rfl ?_
              refine WL.val (R.pickF (v := Value.bool false) rfl rfl) rfl ?_
              refine WL.val (R.assign (v := Value.bool false) rfl) rfl ?_
              refine WL.nil ?_
              refine thenN ?_
              refine WC.ret ?_
              obtain rfl := Option.some.inj (show some false = some r from h1074)
              exact ret1 (P := Try.prog) (n := 102) (fn := Try.f5) (R := fun v w' => v = Value.bool false ∧ St [] w w' []) (t := 4) (v := Value.bool false) rfl rfl rfl ⟨rfl, hs877⟩
            · have h1075 := ifF hc1073 h1070
              refine WL.val (R.eqlF (k := .i64) (a := y113.2) (b := 0) un66 rfl rfl hc1073) rfl ?_
              refine WL.val (R.move (v := Value.pointer none) (by exact s1071)) rfl ?_
              refine WL.val (R.nilNilN un65 rfl rfl) rfl ?_
              refine WL.val (R.eqB (a := false) (b := false) un4 rfl rfl) rfl ?_
              refine WL.val (R.move (v := Value.bool true) rfl) rfl ?_
              refine WL.guardY (e := 99) rfl rfl rfl ?_
              obtain ⟨y1076, hx1077, h1078⟩ := ob (o := lives17 ) h1075
              refine WL.call (lives17_ok _ (In ok w [] [])   hx1077) (R.call (vs := []) (caps := []) bo41 rfl rfl) rfl ?_
              rintro v1081 w1082 ⟨rfl, ht1079⟩
              have ht1080 := hs877.call (N := []) (M := []) (List.Perm.refl _) ht1079
              have hs1083 := hs877.trans ht1080
              refine WL.val (R.pickT (v := Value.bool y1076) rfl rfl) rfl ?_
              refine WL.val (R.assign (v := Value.bool y1076) rfl) rfl ?_
              refine WL.nil ?_
              refine thenN ?_
              refine WC.ret ?_
              obtain rfl := Option.some.inj (show some y1076 = some r from h1078)
              exact ret1 (P := Try.prog) (n := 102) (fn := Try.f5) (R := fun v w' => v = Value.bool y1076 ∧ St [] w w' []) (t := 4) (v := Value.bool y1076) rfl rfl rfl ⟨rfl, hs1083⟩
        · have h1084 := ifF hc534 h137
          refine WL.val (R.neqT (k := .i64) (a := y113.2) (b := y127.2) un66 rfl rfl hc534) rfl ?_
          refine WL.nil ?_
          refine thenN ?_
          refine WC.condT rfl rfl ?_
          refine WC.seq ?_
          refine WC.region ?_
          refine WL.val (R.assign (v := Value.bool false) rfl) rfl ?_
          refine WL.nil ?_
          refine thenN ?_
          refine WC.ret ?_
          have ht1085 := (hs533.here).perm (L' := []) (G := [blk b528 227 [Value.int .i64 q138.1, Value.slice a529 q138.2.length c530], gsl 4 boolE (Value.slice a529 q138.2.length c530) q138.2]) ((List.Perm.refl _))
          have hs1086 := hs533.trans ht1085
          obtain rfl := Option.some.inj (show some false = some r from h1084)
          exact ret1 (P := Try.prog) (n := 102) (fn := Try.f5) (R := fun v w' => v = Value.bool false ∧ St [] w w' []) (t := 4) (v := Value.bool false) rfl rfl rfl ⟨rfl, hs1086⟩
    · rw [ho125] at ho120
      obtain ⟨b1087, rfl, rfl⟩ := ho120
      have ht117 := hs100.call (N := []) (M := []) (List.Perm.refl _) ht116
      have hs1089 := hs100.trans ht117
      refine WL.val (R.move (v := Value.tuple #[Value.pointer (some ⟨b1087, 0, none⟩), Value.int .i64 y113.2]) rfl) rfl ?_
      refine WL.val (R.extract (v := Value.pointer (some ⟨b1087, 0, none⟩)) rfl rfl) rfl ?_
      refine WL.val (R.extract (v := Value.int .i64 y113.2) rfl rfl) rfl ?_
      refine WL.val (R.assign (v := Value.pointer (some ⟨b1087, 0, none⟩)) rfl) rfl ?_
      refine WL.val (R.assign (v := Value.int .i64 y113.2) rfl) rfl ?_
      refine WL.nil ?_
      refine thenN ?_
      refine WC.seq ?_
      refine WC.region ?_
      refine WL.val (R.move (v := Value.int .i64 p0) rfl) rfl ?_
      obtain ⟨y1090, hx1091, h1092⟩ := ob (o := rnew17 p0) h123
      refine WL.call (rnew17_ok _ (In ok w [] [blk b1087 83 ([Value.int .i64 q124.1.1, Value.int .i64 q124.1.2] ++ ((Value.int .i64 q124.2) :: []))]) p0  hx1091) (R.call (vs := [Value.int .i64 p0]) (caps := []) bo43 rfl rfl) rfl ?_
      rintro v1098 w1099 ⟨rp1095, rL1096, rfl, ho1097, ht1093⟩
      rcases ocE h1092 with ⟨ho1102, h1100⟩ | ⟨q1101, ho1102, h1100⟩
      · rw [ho1102] at ho1097
        obtain ⟨rfl, rfl⟩ := ho1097
        have ht1094 := hs1089.call (N := [blk b1087 83 ([Value.int .i64 q124.1.1, Value.int .i64 q124.1.2] ++ ((Value.int .i64 q124.2) :: []))]) (M := []) (List.Perm.refl _) ht1093
        have hs1103 := hs1089.trans ht1094
        refine WL.val (R.move (v := Value.tuple #[Value.pointer none, Value.int .i64 y1090.2]) rfl) rfl ?_
        refine WL.val (R.extract (v := Value.pointer none) rfl rfl) rfl ?_
        refine WL.val (R.extract (v := Value.int .i64 y1090.2) rfl rfl) rfl ?_
        refine WL.val (R.assign (v := Value.pointer none) rfl) rfl ?_
        refine WL.val (R.assign (v := Value.int .i64 y1090.2) rfl) rfl ?_
        refine WL.nil ?_
        refine thenN ?_
        refine WC.seq ?_
        refine WC.seq ?_
        refine WC.region ?_
        refine WL.val (R.move (v := Value.int .i64 y113.2) rfl) rfl ?_
        refine WL.val (R.move (v := Value.int .i64 y1090.2) rfl) rfl ?_
        by_cases hc1104 : y113.2 = y1090.2
        · have h1105 := ifT hc1104 h1100
          refine WL.val (R.neqF (k := .i64) (a := y113.2) (b := y1090.2) un66 rfl rfl (not_not_intro hc1104)) rfl ?_
          refine WL.nil ?_
          refine thenN ?_
          refine WC.condF rfl rfl ?_
          refine WC.skip ?_
          refine thenN ?_
          refine WC.seq ?_
          refine WC.seq ?_
          refine WC.region ?_
          refine WL.val (R.assign (v := Value.int .i64 0) rfl) rfl ?_
          refine WL.nil ?_
          refine thenN ?_
          have hr1348 := elT (ht117.trans ht1094) he1001
          obtain ⟨K1340, hK1341, h1342⟩ := kE (G := fun K1340 => play17_l3 p1 p0 y113 q124 K1340 1000000 0) h1105
          refine WC.join (fun σ1350 w1349 => σ1350 5 = (Value.pointer (some ⟨b1087, 0, none⟩)) ∧ σ1350 6 = (Value.int .i64 y113.2) ∧ K1340 () = some r ∧ St [] w w1349 [blk b1087 83 ([Value.int .i64 q124.1.1, Value.int .i64 q124.1.2] ++ ((Value.int .i64 q124.2) :: []))]) ?_ ?_
          · refine WC.block ?_
            refine WC.loop (T := Nat) (fun k1346 σ1344 w1343 => ∃ i1339 : Int, σ1344 0 = (Value.int .i64 p0) ∧ σ1344 1 = (Value.slice a1 p1.length c1) ∧ σ1344 5 = (Value.pointer (some ⟨b1087, 0, none⟩)) ∧ σ1344 6 = (Value.int .i64 y113.2) ∧ σ1344 7 = (Value.pointer none) ∧ σ1344 9 = (Value.int .i64 i1339) ∧ elems (pairK (slW heldW) (intW .i64)) w1343 (In ok w [] [blk b1087 83 ([Value.int .i64 q124.1.1, Value.int .i64 q124.1.2] ++ ((Value.int .i64 q124.2) :: []))]) a1 p1 ∧ play17_l3 p1 p0 y113 q124 K1340 k1346 i1339 = some r ∧ St [] w w1343 [blk b1087 83 ([Value.int .i64 q124.1.1, Value.int .i64 q124.1.2] ++ ((Value.int .i64 q124.2) :: []))]) (fun k1346 => k1346) 1000000 ⟨0, rfl, rfl, rfl, rfl, rfl, rfl, hr1348, h1342, hs1103⟩ ?_
            rintro k1346 σ1344 w1343 ⟨i1339, s1353, s1354, s1355, s1356, s1357, s1358, he1347, h1352, hs1345⟩
            rcases k1346 with _ | k1346
            · rw [play17_l3] at h1352; cases h1352
            rw [play17_l3] at h1352
            refine WC.seq ?_
            refine WC.seq ?_
            refine WC.region ?_
            refine WL.val (R.move (v := Value.int .i64 i1339) (by exact s1358)) rfl ?_
            refine WL.val (R.move (v := Value.slice a1 p1.length c1) (by exact s1354)) rfl ?_
            refine WL.val (R.len (a := a1) (n := p1.length) (c := c1) un64 rfl) rfl ?_
            by_cases hc1359 : i1339 < ((p1.length : Nat) : Int)
            · have h1360 := ifT hc1359 h1352
              refine WL.val (R.lssT (k := .i64) (a := i1339) (b := ((p1.length : Nat) : Int)) un3 rfl rfl hc1359) rfl ?_
              refine WL.nil ?_
              refine thenN ?_
              refine WC.condT rfl rfl ?_
              refine WC.skip ?_
              refine thenN ?_
              refine WC.seq ?_
              refine WC.block ?_
              refine WC.seq ?_
              refine WC.seq ?_
              refine WC.region ?_
              refine WL.val (R.move (v := Value.slice a1 p1.length c1) (by exact s1354)) rfl ?_
              refine WL.val (R.move (v := Value.int .i64 i1339) (by exact s1358)) rfl ?_
              obtain ⟨x1361, hx1362, h1363⟩ := ob (o := rd p1 i1339) h1360
              obtain ⟨h01364, hx1365, hl1366, hm1367⟩ := rdE hx1362
              obtain ⟨ad1368, e1373, ha1369, hp1370, hat1371, hrd1372⟩ := he1347 _ _ hx1365
              obtain ⟨cs1374, cs1375, rfl, hp1376, hp1377⟩ := hrd1372
              obtain ⟨a1378, c1379, rfl, hl1380, he1381⟩ := hp1376
              obtain ⟨-, rfl⟩ := hp1377
              refine WL.val (R.indexS (n := 2) (m := (i1339).toNat) (a := a1) (ad := ad1368) (len := p1.length) (cap := c1) (z := i1339) un64 ag73.size rfl ha1369 rfl hm1367 hl1366 hp1370) rfl ?_
              refine WL.val (R.fieldAddr (o := ad1368.off + (i1339).toNat * 2) (o' := ad1368.off + (i1339).toNat * 2) fa73_0 rfl rfl) rfl ?_
              refine WL.val (R.loadL (v := Value.slice a1378 x1361.1.length c1379) lf28 rfl (At.sub (off := 0) (n := 1) (ds := [Value.slice a1378 x1361.1.length c1379]) hat1371 rfl rfl)) rfl ?_
              refine WL.val (R.len (a := a1378) (n := x1361.1.length) (c := c1379) un28 rfl) rfl ?_
              by_cases hc1384 : 40 < ((x1361.1.length : Nat) : Int)
              · have h1385 := ifT hc1384 h1363
                refine WL.val (R.gtrT (k := .i64) (a := ((x1361.1.length : Nat) : Int)) (b := 40) un3 rfl rfl hc1384) rfl ?_
                refine WL.nil ?_
                refine thenN ?_
                refine WC.condT rfl rfl ?_
                refine WC.seq ?_
                refine WC.region ?_
                obtain ⟨y1386, hx1387, h1388⟩ := ob (o := lives17 ) h1385
                refine WL.call (lives17_ok _ (In ok w [] [blk b1087 83 ([Value.int .i64 q124.1.1, Value.int .i64 q124.1.2] ++ ((Value.int .i64 q124.2) :: []))])   hx1387) (R.call (vs := []) (caps := []) bo41 rfl rfl) rfl ?_
                rintro v1391 w1392 ⟨rfl, ht1389⟩
                have ht1390 := hs1345.call (N := [blk b1087 83 ([Value.int .i64 q124.1.1, Value.int .i64 q124.1.2] ++ ((Value.int .i64 q124.2) :: []))]) (M := []) (List.Perm.refl _) ht1389
                have hs1393 := hs1345.trans ht1390
                refine WL.val (R.assign (v := Value.bool y1386) rfl) rfl ?_
                refine WL.nil ?_
                refine thenN ?_
                refine WC.ret ?_
                have ht1394 := (hs1393.here).perm (L' := []) (G := [blk b1087 83 ([Value.int .i64 q124.1.1, Value.int .i64 q124.1.2] ++ ((Value.int .i64 q124.2) :: []))]) ((List.Perm.refl _))
                have hs1395 := hs1393.trans ht1394
                obtain rfl := Option.some.inj (show some y1386 = some r from h1388)
                exact ret1 (P := Try.prog) (n := 102) (fn := Try.f5) (R := fun v w' => v = Value.bool y1386 ∧ St [] w w' []) (t := 4) (v := Value.bool y1386) rfl rfl rfl ⟨rfl, hs1395⟩
              · have h1396 := ifF hc1384 h1363
                refine WL.val (R.gtrF (k := .i64) (a := ((x1361.1.length : Nat) : Int)) (b := 40) un3 rfl rfl hc1384) rfl ?_
                refine WL.nil ?_
                refine thenN ?_
                refine WC.condF rfl rfl ?_
                refine WC.skip ?_
                refine thenN ?_
                refine WC.seq ?_
                refine WC.region ?_
                refine WL.val (R.move (v := Value.slice a1 p1.length c1) (by exact s1354)) rfl ?_
                refine WL.val (R.move (v := Value.int .i64 i1339) (by exact s1358)) rfl ?_
                refine WL.val (R.indexS (n := 2) (m := (i1339).toNat) (a := a1) (ad := ad1368) (len := p1.length) (cap := c1) (z := i1339) un64 ag73.size rfl ha1369 rfl hm1367 hl1366 hp1370) rfl ?_
                refine WL.val (R.fieldAddr (o := ad1368.off + (i1339).toNat * 2) (o' := ad1368.off + (i1339).toNat * 2) fa73_0 rfl rfl) rfl ?_
                refine WL.val (R.loadL (v := Value.slice a1378 x1361.1.length c1379) lf28 rfl (At.sub (off := 0) (n := 1) (ds := [Value.slice a1378 x1361.1.length c1379]) hat1371 rfl rfl)) rfl ?_
                obtain ⟨y1397, hx1398, h1399⟩ := ob (o := others17 x1361.1) h1396
                refine WL.call (others17_ok _ _ x1361.1 _ _ he1381 hl1380 hx1398) (R.call (vs := [Value.slice a1378 x1361.1.length c1379]) (caps := []) bo44 rfl rfl) rfl ?_
                rintro v1406 w1407 ⟨a1402, c1403, rfl, hl1404, he1405, ht1400⟩
                have ht1401 := hs1345.call (N := [blk b1087 83 ([Value.int .i64 q124.1.1, Value.int .i64 q124.1.2] ++ ((Value.int .i64 q124.2) :: []))]) (M := []) (List.Perm.refl _) ht1400
                have he1408 := elC hs1345 (M := []) (List.Perm.refl _) ht1400 he1405
                have hs1409 := hs1345.trans ht1401
                refine WL.val (R.assign (v := Value.slice a1402 y1397.length c1403) rfl) rfl ?_
                refine WL.nil ?_
                refine thenN ?_
                refine WC.seq ?_
                refine WC.seq ?_
                refine WC.drawK (L := [blk b1087 83 ([Value.int .i64 q124.1.1, Value.int .i64 q124.1.2] ++ ((Value.int .i64 q124.2) :: []))]) mixed (NP.then (NP.then (NP.block (NP.then (NP.then (NP.block (NP.join (NP.then NP.rq)))))))) ?_
                have ht1411 := (hs1409.here).ext (Ext.drew _)
                have hs1412 := hs1409.trans ht1411
                refine WK.take 0 rfl (by decide +kernel) (by decide +kernel) (by decide +kernel) (by decide +kernel) rfl rfl (fun wq hq => R.move (v := Value.int .i64 p0) (by exact s1353)) ?_
                refine WK.take 1 rfl (by decide +kernel) (by decide +kernel) (by decide +kernel) (by decide +kernel) rfl rfl (fun wq hq => R.move (v := Value.slice a1 p1.length c1) (by exact s1354)) ?_
                refine WK.take 2 rfl (by decide +kernel) (by decide +kernel) (by decide +kernel) (by decide +kernel) rfl rfl (fun wq hq => R.move (v := Value.int .i64 i1339) (by exact s1358)) ?_
                refine WK.take 3 rfl (by decide +kernel) (by decide +kernel) (by decide +kernel) (by decide +kernel) rfl rfl (fun wq hq => R.indexS (n := 2) (m := (i1339).toNat) (a := a1) (ad := ad1368) (len := p1.length) (cap := c1) (z := i1339) un64 ag73.size rfl ha1369 rfl hm1367 hl1366 hp1370) ?_
                refine WK.take 4 rfl (by decide +kernel) (by decide +kernel) (by decide +kernel) (by decide +kernel) rfl rfl (fun wq hq => R.fieldAddr (o := ad1368.off + (i1339).toNat * 2) (o' := ad1368.off + (i1339).toNat * 2) fa73_0 rfl rfl) ?_
                have hr1413 := At.trT (ht1401.trans ht1411) hat1371
                refine WK.take 5 rfl (by decide +kernel) (by decide +kernel) (by decide +kernel) (by decide +kernel) rfl rfl (fun wq hq => R.loadL (v := Value.slice a1378 x1361.1.length c1379) lf28 rfl (At.sub (off := 0) (n := 1) (ds := [Value.slice a1378 x1361.1.length c1379]) (At.kK hq hr1413) rfl rfl)) ?_
                refine WK.take 6 rfl (by decide +kernel) (by decide +kernel) (by decide +kernel) (by decide +kernel) rfl rfl (fun wq hq => R.move (v := Value.slice a1 p1.length c1) (by exact s1354)) ?_
                refine WK.take 7 rfl (by decide +kernel) (by decide +kernel) (by decide +kernel) (by decide +kernel) rfl rfl (fun wq hq => R.move (v := Value.int .i64 i1339) (by exact s1358)) ?_
                refine WK.take 8 rfl (by decide +kernel) (by decide +kernel) (by decide +kernel) (by decide +kernel) rfl rfl (fun wq hq => R.indexS (n := 2) (m := (i1339).toNat) (a := a1) (ad := ad1368) (len := p1.length) (cap := c1) (z := i1339) un64 ag73.size rfl ha1369 rfl hm1367 hl1366 hp1370) ?_
                refine WK.take 9 rfl (by decide +kernel) (by decide +kernel) (by decide +kernel) (by decide +kernel) rfl rfl (fun wq hq => R.fieldAddr (o := ad1368.off + (i1339).toNat * 2) (o' := ad1368.off + (i1339).toNat * 2 + 1) fa73_1 rfl rfl) ?_
                refine WK.take 10 rfl (by decide +kernel) (by decide +kernel) (by decide +kernel) (by decide +kernel) rfl rfl (fun wq hq => R.loadL (v := Value.int .i64 x1361.2) lf2 rfl (At.sub (off := 1) (n := 1) (ds := [Value.int .i64 x1361.2]) (At.kK hq hr1413) rfl rfl)) ?_
                refine WK.take 12 rfl (by decide +kernel) (by decide +kernel) (by decide +kernel) (by decide +kernel) rfl rfl (fun wq hq => R.move (v := Value.int .i64 p0) (by exact s1353)) ?_
                refine WK.take 13 rfl (by decide +kernel) (by decide +kernel) (by decide +kernel) (by decide +kernel) rfl rfl (fun wq hq => R.move (v := Value.slice a1402 y1397.length c1403) rfl) ?_
                refine WK.take 14 rfl (by decide +kernel) (by decide +kernel) (by decide +kernel) (by decide +kernel) rfl rfl (fun wq hq => R.move (v := Value.slice a1 p1.length c1) (by exact s1354)) ?_
                refine WK.take 15 rfl (by decide +kernel) (by decide +kernel) (by decide +kernel) (by decide +kernel) rfl rfl (fun wq hq => R.move (v := Value.int .i64 i1339) (by exact s1358)) ?_
                refine WK.take 16 rfl (by decide +kernel) (by decide +kernel) (by decide +kernel) (by decide +kernel) rfl rfl (fun wq hq => R.indexS (n := 2) (m := (i1339).toNat) (a := a1) (ad := ad1368) (len := p1.length) (cap := c1) (z := i1339) un64 ag73.size rfl ha1369 rfl hm1367 hl1366 hp1370) ?_
                refine WK.take 17 rfl (by decide +kernel) (by decide +kernel) (by decide +kernel) (by decide +kernel) rfl rfl (fun wq hq => R.fieldAddr (o := ad1368.off + (i1339).toNat * 2) (o' := ad1368.off + (i1339).toNat * 2 + 1) fa73_1 rfl rfl) ?_
                refine WK.take 18 rfl (by decide +kernel) (by decide +kernel) (by decide +kernel) (by decide +kernel) rfl rfl (fun wq hq => R.loadL (v := Value.int .i64 x1361.2) lf2 rfl (At.sub (off := 1) (n := 1) (ds := [Value.int .i64 x1361.2]) (At.kK hq hr1413) rfl rfl)) ?_
                obtain ⟨y1414, hx1415, h1416⟩ := ob (o := even17 p0 x1361.1 x1361.2) h1399
                have hr1417 := elT (ht1401.trans ht1411) he1381
                refine WK.call 11 (by decide +kernel) rfl rfl rfl (even17_ok _ _ p0 x1361.1 x1361.2 _ _ hr1417 hl1380 hx1415) (R.call (vs := [Value.int .i64 p0, Value.slice a1378 x1361.1.length c1379, Value.int .i64 x1361.2]) (caps := []) bo45 rfl rfl) ?_
                rintro v1420 w1421 ⟨rfl, ht1418⟩
                have ht1419 := hs1412.call (N := [blk b1087 83 ([Value.int .i64 q124.1.1, Value.int .i64 q124.1.2] ++ ((Value.int .i64 q124.2) :: []))]) (M := []) (List.Perm.refl _) ht1418
                have hs1422 := hs1412.trans ht1419
                refine ⟨_, ht1419, ?_⟩
                obtain ⟨y1423, hx1424, h1425⟩ := ob (o := reven17 p0 y1397 x1361.2) h1416
                have hr1426 := elT (ht1411.trans ht1419) he1408
                refine WK.call 19 (by decide +kernel) rfl rfl rfl (reven17_ok _ _ p0 y1397 x1361.2 _ _ hr1426 hl1404 hx1424) (R.call (vs := [Value.int .i64 p0, Value.slice a1402 y1397.length c1403, Value.int .i64 x1361.2]) (caps := []) bo46 rfl rfl) ?_
                rintro v1429 w1430 ⟨rfl, ht1427⟩
                have ht1428 := hs1422.call (N := [blk b1087 83 ([Value.int .i64 q124.1.1, Value.int .i64 q124.1.2] ++ ((Value.int .i64 q124.2) :: []))]) (M := []) (List.Perm.refl _) ht1427
                have hs1431 := hs1422.trans ht1428
                refine ⟨_, ht1428, ?_⟩
                by_cases hc1432 : y1414 = true
                · have h1433 := ifT hc1432 h1425
                  by_cases hc1434 : y1423 = true
                  · have h1435 := ifT hc1434 h1433
                    refine WK.take 20 rfl (by decide +kernel) (by decide +kernel) (by decide +kernel) (by decide +kernel) rfl rfl (fun wq hq => R.neB (a := true) (b := true) un4 (Eq.trans (show _ = Value.bool y1414 from rfl) (congrArg Value.bool hc1432)) (Eq.trans (show _ = Value.bool y1423 from rfl) (congrArg Value.bool hc1434))) ?_
                    refine WK.done (by decide +kernel) ?_
                    refine thenN ?_
                    refine WC.condF rfl rfl ?_
                    refine WC.skip ?_
                    refine thenN ?_
                    refine WC.seq ?_
                    refine WC.drawK (L := [blk b1087 83 ([Value.int .i64 q124.1.1, Value.int .i64 q124.1.2] ++ ((Value.int .i64 q124.2) :: []))]) mixed (NP.then (NP.block (NP.then (NP.then (NP.block (NP.join (NP.then NP.rq))))))) ?_
                    have ht1436 := (hs1431.here).ext (Ext.drew _)
                    have hs1437 := hs1431.trans ht1436
                    refine WK.take 0 rfl (by decide +kernel) (by decide +kernel) (by decide +kernel) (by decide +kernel) rfl rfl (fun wq hq => R.move (v := Value.int .i64 y113.2) (by exact s1356)) ?_
                    by_cases hc1438 : y113.2 = 0
                    · have h1439 := ifT hc1438 h1435
                      refine WK.take 1 rfl (by decide +kernel) (by decide +kernel) (by decide +kernel) (by decide +kernel) rfl rfl (fun wq hq => R.eqlT (k := .i64) (a := y113.2) (b := 0) un66 rfl rfl hc1438) ?_
                      refine WK.take 2 rfl (by decide +kernel) (by decide +kernel) (by decide +kernel) (by decide +kernel) rfl rfl (fun wq hq => R.move (v := Value.bool true) rfl) ?_
                      refine WK.takeY 3 (e := 71) rfl (by decide +kernel) (by decide +kernel) (by decide +kernel) (by decide +kernel) rfl rfl rfl rfl rfl (fun wq hq => R.move (v := Value.pointer (some ⟨b1087, 0, none⟩)) (by exact s1355)) ?_
                      refine WK.takeY 4 (e := 71) rfl (by decide +kernel) (by decide +kernel) (by decide +kernel) (by decide +kernel) rfl rfl rfl rfl rfl (fun wq hq => R.move (v := Value.slice a1 p1.length c1) (by exact s1354)) ?_
                      refine WK.takeY 5 (e := 71) rfl (by decide +kernel) (by decide +kernel) (by decide +kernel) (by decide +kernel) rfl rfl rfl rfl rfl (fun wq hq => R.move (v := Value.int .i64 i1339) (by exact s1358)) ?_
                      refine WK.takeY 6 (e := 71) rfl (by decide +kernel) (by decide +kernel) (by decide +kernel) (by decide +kernel) rfl rfl rfl rfl rfl (fun wq hq => R.indexS (n := 2) (m := (i1339).toNat) (a := a1) (ad := ad1368) (len := p1.length) (cap := c1) (z := i1339) un64 ag73.size rfl ha1369 rfl hm1367 hl1366 hp1370) ?_
                      refine WK.takeY 7 (e := 71) rfl (by decide +kernel) (by decide +kernel) (by decide +kernel) (by decide +kernel) rfl rfl rfl rfl rfl (fun wq hq => R.fieldAddr (o := ad1368.off + (i1339).toNat * 2) (o' := ad1368.off + (i1339).toNat * 2) fa73_0 rfl rfl) ?_
                      have hr1440 := At.trT ((ht1419.trans ht1428).trans ht1436) hr1413
                      refine WK.takeY 8 (e := 71) rfl (by decide +kernel) (by decide +kernel) (by decide +kernel) (by decide +kernel) rfl rfl rfl rfl rfl (fun wq hq => R.loadL (v := Value.slice a1378 x1361.1.length c1379) lf28 rfl (At.sub (off := 0) (n := 1) (ds := [Value.slice a1378 x1361.1.length c1379]) (At.kK hq hr1440) rfl rfl)) ?_
                      refine WK.takeY 9 (e := 71) rfl (by decide +kernel) (by decide +kernel) (by decide +kernel) (by decide +kernel) rfl rfl rfl rfl rfl (fun wq hq => R.move (v := Value.slice a1 p1.length c1) (by exact s1354)) ?_
                      refine WK.takeY 10 (e := 71) rfl (by decide +kernel) (by decide +kernel) (by decide +kernel) (by decide +kernel) rfl rfl rfl rfl rfl (fun wq hq => R.move (v := Value.int .i64 i1339) (by exact s1358)) ?_
                      refine WK.takeY 11 (e := 71) rfl (by decide +kernel) (by decide +kernel) (by decide +kernel) (by decide +kernel) rfl rfl rfl rfl rfl (fun wq hq => R.indexS (n := 2) (m := (i1339).toNat) (a := a1) (ad := ad1368) (len := p1.length) (cap := c1) (z := i1339) un64 ag73.size rfl ha1369 rfl hm1367 hl1366 hp1370) ?_
                      refine WK.takeY 12 (e := 71) rfl (by decide +kernel) (by decide +kernel) (by decide +kernel) (by decide +kernel) rfl rfl rfl rfl rfl (fun wq hq => R.fieldAddr (o := ad1368.off + (i1339).toNat * 2) (o' := ad1368.off + (i1339).toNat * 2 + 1) fa73_1 rfl rfl) ?_
                      refine WK.takeY 13 (e := 71) rfl (by decide +kernel) (by decide +kernel) (by decide +kernel) (by decide +kernel) rfl rfl rfl rfl rfl (fun wq hq => R.loadL (v := Value.int .i64 x1361.2) lf2 rfl (At.sub (off := 1) (n := 1) (ds := [Value.int .i64 x1361.2]) (At.kK hq hr1440) rfl rfl)) ?_
                      refine WK.takeY 15 (e := 71) rfl (by decide +kernel) (by decide +kernel) (by decide +kernel) (by decide +kernel) rfl rfl rfl rfl rfl (fun wq hq => R.move (v := Value.pointer none) (by exact s1357)) ?_
                      refine WK.takeY 16 (e := 71) rfl (by decide +kernel) (by decide +kernel) (by decide +kernel) (by decide +kernel) rfl rfl rfl rfl rfl (fun wq hq => R.move (v := Value.slice a1402 y1397.length c1403) rfl) ?_
                      refine WK.takeY 17 (e := 71) rfl (by decide +kernel) (by decide +kernel) (by decide +kernel) (by decide +kernel) rfl rfl rfl rfl rfl (fun wq hq => R.move (v := Value.slice a1 p1.length c1) (by exact s1354)) ?_
                      refine WK.takeY 18 (e := 71) rfl (by decide +kernel) (by decide +kernel) (by decide +kernel) (by decide +kernel) rfl rfl rfl rfl rfl (fun wq hq => R.move (v := Value.int .i64 i1339) (by exact s1358)) ?_
                      refine WK.takeY 19 (e := 71) rfl (by decide +kernel) (by decide +kernel) (by decide +kernel) (by decide +kernel) rfl rfl rfl rfl rfl (fun wq hq => R.indexS (n := 2) (m := (i1339).toNat) (a := a1) (ad := ad1368) (len := p1.length) (cap := c1) (z := i1339) un64 ag73.size rfl ha1369 rfl hm1367 hl1366 hp1370) ?_
                      refine WK.takeY 20 (e := 71) rfl (by decide +kernel) (by decide +kernel) (by decide +kernel) (by decide +kernel) rfl rfl rfl rfl rfl (fun wq hq => R.fieldAddr (o := ad1368.off + (i1339).toNat * 2) (o' := ad1368.off + (i1339).toNat * 2 + 1) fa73_1 rfl rfl) ?_
                      refine WK.takeY 21 (e := 71) rfl (by decide +kernel) (by decide +kernel) (by decide +kernel) (by decide +kernel) rfl rfl rfl rfl rfl (fun wq hq => R.loadL (v := Value.int .i64 x1361.2) lf2 rfl (At.sub (off := 1) (n := 1) (ds := [Value.int .i64 x1361.2]) (At.kK hq hr1440) rfl rfl)) ?_
                      obtain ⟨y1441, hx1442, h1443⟩ := ob (o := step17 (q124.1, q124.2) x1361.1 x1361.2) h1439
                      have hr1444 := elT ((ht1419.trans ht1428).trans ht1436) hr1417
                      refine WK.callY 14 (e := 71) (by decide +kernel) rfl rfl rfl rfl rfl rfl (step17_ok _ _ (q124.1, q124.2) x1361.1 x1361.2 _ _ hr1444 hl1380 b1087 (In.outM (M := [blk b1087 83 ([Value.int .i64 q124.1.1, Value.int .i64 q124.1.2] ++ ((Value.int .i64 q124.2) :: []))]) (N := []) ((List.Perm.refl _))) (show St [blk b1087 83 ([Value.int .i64 q124.1.1, Value.int .i64 q124.1.2] ++ ((Value.int .i64 q124.2) :: []))] _ _ [blk b1087 83 ([Value.int .i64 q124.1.1, Value.int .i64 q124.1.2] ++ ((Value.int .i64 q124.2) :: []))] from St.ofM (M := [blk b1087 83 ([Value.int .i64 q124.1.1, Value.int .i64 q124.1.2] ++ ((Value.int .i64 q124.2) :: []))]) (N := []) hs1437 ((List.Perm.refl _))) hx1442) (R.call (vs := [Value.pointer (some ⟨b1087, 0, none⟩), Value.slice a1378 x1361.1.length c1379, Value.int .i64 x1361.2]) (caps := []) bo47 rfl rfl) ?_
                      rintro v1447 w1448 ⟨rfl, ht1445⟩
                      have ht1446 := hs1437.call (N := []) (M := [blk b1087 83 ([Value.int .i64 q124.1.1, Value.int .i64 q124.1.2] ++ ((Value.int .i64 q124.2) :: []))]) ((List.Perm.refl _)) ht1445
                      have hs1449 := hs1437.trans ht1446
                      refine ⟨_, ht1446, ?_⟩
                      cases h1443
                    · have h1450 := ifF hc1438 h1435
                      refine WK.take 1 rfl (by decide +kernel) (by decide +kernel) (by decide +kernel) (by decide +kernel) rfl rfl (fun wq hq => R.eqlF (k := .i64) (a := y113.2) (b := 0) un66 rfl rfl hc1438) ?_
                      refine WK.take 2 rfl (by decide +kernel) (by decide +kernel) (by decide +kernel) (by decide +kernel) rfl rfl (fun wq hq => R.move (v := Value.bool false) rfl) ?_
                      refine WK.takeN 3 (e := 71) (v := .bool false) rfl (by decide +kernel) (by decide +kernel) (by decide +kernel) (by decide +kernel) rfl rfl rfl rfl rfl ?_
                      refine WK.takeN 4 (e := 71) (v := .bool false) rfl (by decide +kernel) (by decide +kernel) (by decide +kernel) (by decide +kernel) rfl rfl rfl rfl rfl ?_
                      refine WK.takeN 5 (e := 71) (v := .bool false) rfl (by decide +kernel) (by decide +kernel) (by decide +kernel) (by decide +kernel) rfl rfl rfl rfl rfl ?_
                      refine WK.takeN 6 (e := 71) (v := .bool false) rfl (by decide +kernel) (by decide +kernel) (by decide +kernel) (by decide +kernel) rfl rfl rfl rfl rfl ?_
                      refine WK.takeN 7 (e := 71) (v := .bool false) rfl (by decide +kernel) (by decide +kernel) (by decide +kernel) (by decide +kernel) rfl rfl rfl rfl rfl ?_
                      refine WK.takeN 8 (e := 71) (v := .bool false) rfl (by decide +kernel) (by decide +kernel) (by decide +kernel) (by decide +kernel) rfl rfl rfl rfl rfl ?_
                      refine WK.takeN 9 (e := 71) (v := .bool false) rfl (by decide +kernel) (by decide +kernel) (by decide +kernel) (by decide +kernel) rfl rfl rfl rfl rfl ?_
                      refine WK.takeN 10 (e := 71) (v := .bool false) rfl (by decide +kernel) (by decide +kernel) (by decide +kernel) (by decide +kernel) rfl rfl rfl rfl rfl ?_
                      refine WK.takeN 11 (e := 71) (v := .bool false) rfl (by decide +kernel) (by decide +kernel) (by decide +kernel) (by decide +kernel) rfl rfl rfl rfl rfl ?_
                      refine WK.takeN 12 (e := 71) (v := .bool false) rfl (by decide +kernel) (by decide +kernel) (by decide +kernel) (by decide +kernel) rfl rfl rfl rfl rfl ?_
                      refine WK.takeN 13 (e := 71) (v := .bool false) rfl (by decide +kernel) (by decide +kernel) (by decide +kernel) (by decide +kernel) rfl rfl rfl rfl rfl ?_
                      refine WK.takeN 14 (e := 71) (v := .bool false) rfl (by decide +kernel) (by decide +kernel) (by decide +kernel) (by decide +kernel) rfl rfl rfl rfl rfl ?_
                      refine WK.takeN 15 (e := 71) (v := .bool false) rfl (by decide +kernel) (by decide +kernel) (by decide +kernel) (by decide +kernel) rfl rfl rfl rfl rfl ?_
                      refine WK.takeN 16 (e := 71) (v := .bool false) rfl (by decide +kernel) (by decide +kernel) (by decide +kernel) (by decide +kernel) rfl rfl rfl rfl rfl ?_
                      refine WK.takeN 17 (e := 71) (v := .bool false) rfl (by decide +kernel) (by decide +kernel) (by decide +kernel) (by decide +kernel) rfl rfl rfl rfl rfl ?_
                      refine WK.takeN 18 (e := 71) (v := .bool false) rfl (by decide +kernel) (by decide +kernel) (by decide +kernel) (by decide +kernel) rfl rfl rfl rfl rfl ?_
                      refine WK.takeN 19 (e := 71) (v := .bool false) rfl (by decide +kernel) (by decide +kernel) (by decide +kernel) (by decide +kernel) rfl rfl rfl rfl rfl ?_
                      refine WK.takeN 20 (e := 71) (v := .bool false) rfl (by decide +kernel) (by decide +kernel) (by decide +kernel) (by decide +kernel) rfl rfl rfl rfl rfl ?_
                      refine WK.takeN 21 (e := 71) (v := .bool false) rfl (by decide +kernel) (by decide +kernel) (by decide +kernel) (by decide +kernel) rfl rfl rfl rfl rfl ?_
                      refine WK.takeN 22 (e := 71) (v := .bool false) rfl (by decide +kernel) (by decide +kernel) (by decide +kernel) (by decide +kernel) rfl rfl rfl rfl rfl ?_
                      refine WK.takeN 23 (e := 71) (v := .bool false) rfl (by decide +kernel) (by decide +kernel) (by decide +kernel) (by decide +kernel) rfl rfl rfl rfl rfl ?_
                      refine WK.take 24 rfl (by decide +kernel) (by decide +kernel) (by decide +kernel) (by decide +kernel) rfl rfl (fun wq hq => R.pickF (v := Value.bool false) rfl rfl) ?_
                      refine WK.done (by decide +kernel) ?_
                      refine thenN ?_
                      refine WC.condF rfl rfl ?_
                      refine WC.skip ?_
                      refine blockN ?_
                      refine thenN ?_
                      refine WC.region ?_
                      refine WL.val (R.move (v := Value.int .i64 i1339) (by exact s1358)) rfl ?_
                      obtain ⟨hg1451, h1452⟩ := ckE (c := -9223372036854775808 ≤ i1339 + 1 ∧ i1339 + 1 ≤ 9223372036854775807) h1450
                      refine WL.val (R.add (a := i1339) (b := 1) (z := i1339 + 1) rfl rfl (w64e rfl hg1451.1 hg1451.2)) rfl ?_
                      refine WL.val (R.assign (v := Value.int .i64 (i1339 + 1)) rfl) rfl ?_
                      refine WL.nil ?_
                      have hr1453 := elT ((((ht1401.trans ht1411).trans ht1419).trans ht1428).trans ht1436) he1347
                      exact roundEnd (s := k1346) ⟨i1339 + 1, s1353, s1354, s1355, s1356, s1357, rfl, hr1453, h1452, hs1437⟩ (Nat.lt_succ_self _)
                  · have h1454 := ifF hc1434 h1433
                    refine WK.take 20 rfl (by decide +kernel) (by decide +kernel) (by decide +kernel) (by decide +kernel) rfl rfl (fun wq hq => R.neB (a := true) (b := false) un4 (Eq.trans (show _ = Value.bool y1414 from rfl) (congrArg Value.bool hc1432)) (Eq.trans (show _ = Value.bool y1423 from rfl) (congrArg Value.bool (Bool.eq_false_iff.2 hc1434)))) ?_
                    refine WK.done (by decide +kernel) ?_
                    refine thenN ?_
                    refine WC.condT rfl rfl ?_
                    refine WC.seq ?_
                    refine WC.region ?_
                    refine WL.val (R.assign (v := Value.bool false) rfl) rfl ?_
                    refine WL.nil ?_
                    refine thenN ?_
                    refine WC.ret ?_
                    have ht1455 := (hs1431.here).perm (L' := []) (G := [blk b1087 83 ([Value.int .i64 q124.1.1, Value.int .i64 q124.1.2] ++ ((Value.int .i64 q124.2) :: []))]) ((List.Perm.refl _))
                    have hs1456 := hs1431.trans ht1455
                    obtain rfl := Option.some.inj (show some false = some r from h1454)
                    exact ret1 (P := Try.prog) (n := 102) (fn := Try.f5) (R := fun v w' => v = Value.bool false ∧ St [] w w' []) (t := 4) (v := Value.bool false) rfl rfl rfl ⟨rfl, hs1456⟩
                · have h1457 := ifF hc1432 h1425
                  by_cases hc1458 : y1423 = true
                  · have h1459 := ifT hc1458 h1457
                    refine WK.take 20 rfl (by decide +kernel) (by decide +kernel) (by decide +kernel) (by decide +kernel) rfl rfl (fun wq hq => R.neB (a := false) (b := true) un4 (Eq.trans (show _ = Value.bool y1414 from rfl) (congrArg Value.bool (Bool.eq_false_iff.2 hc1432))) (Eq.trans (show _ = Value.bool y1423 from rfl) (congrArg Value.bool hc1458))) ?_
                    refine WK.done (by decide +kernel) ?_
                    refine thenN ?_
                    refine WC.condT rfl rfl ?_
                    refine WC.seq ?_
                    refine WC.region ?_
                    refine WL.val (R.assign (v := Value.bool false) rfl) rfl ?_
                    refine WL.nil ?_
                    refine thenN ?_
                    refine WC.ret ?_
                    have ht1460 := (hs1431.here).perm (L' := []) (G := [blk b1087 83 ([Value.int .i64 q124.1.1, Value.int .i64 q124.1.2] ++ ((Value.int .i64 q124.2) :: []))]) ((List.Perm.refl _))
                    have hs1461 := hs1431.trans ht1460
                    obtain rfl := Option.some.inj (show some false = some r from h1459)
                    exact ret1 (P := Try.prog) (n := 102) (fn := Try.f5) (R := fun v w' => v = Value.bool false ∧ St [] w w' []) (t := 4) (v := Value.bool false) rfl rfl rfl ⟨rfl, hs1461⟩
                  · have h1462 := ifF hc1458 h1457
                    refine WK.take 20 rfl (by decide +kernel) (by decide +kernel) (by decide +kernel) (by decide +kernel) rfl rfl (fun wq hq => R.neB (a := false) (b := false) un4 (Eq.trans (show _ = Value.bool y1414 from rfl) (congrArg Value.bool (Bool.eq_false_iff.2 hc1432))) (Eq.trans (show _ = Value.bool y1423 from rfl) (congrArg Value.bool (Bool.eq_false_iff.2 hc1458)))) ?_
                    refine WK.done (by decide +kernel) ?_
                    refine thenN ?_
                    refine WC.condF rfl rfl ?_
                    refine WC.skip ?_
                    refine thenN ?_
                    refine WC.seq ?_
                    refine WC.drawK (L := [blk b1087 83 ([Value.int .i64 q124.1.1, Value.int .i64 q124.1.2] ++ ((Value.int .i64 q124.2) :: []))]) mixed (NP.then (NP.block (NP.then (NP.then (NP.block (NP.join (NP.then NP.rq))))))) ?_
                    have ht1463 := (hs1431.here).ext (Ext.drew _)
                    have hs1464 := hs1431.trans ht1463
                    refine WK.take 0 rfl (by decide +kernel) (by decide +kernel) (by decide +kernel) (by decide +kernel) rfl rfl (fun wq hq => R.move (v := Value.int .i64 y113.2) (by exact s1356)) ?_
                    by_cases hc1465 : y113.2 = 0
                    · have h1466 := ifT hc1465 h1462
                      refine WK.take 1 rfl (by decide +kernel) (by decide +kernel) (by decide +kernel) (by decide +kernel) rfl rfl (fun wq hq => R.eqlT (k := .i64) (a := y113.2) (b := 0) un66 rfl rfl hc1465) ?_
                      refine WK.take 2 rfl (by decide +kernel) (by decide +kernel) (by decide +kernel) (by decide +kernel) rfl rfl (fun wq hq => R.move (v := Value.bool true) rfl) ?_
                      refine WK.takeY 3 (e := 71) rfl (by decide +kernel) (by decide +kernel) (by decide +kernel) (by decide +kernel) rfl rfl rfl rfl rfl (fun wq hq => R.move (v := Value.pointer (some ⟨b1087, 0, none⟩)) (by exact s1355)) ?_
                      refine WK.takeY 4 (e := 71) rfl (by decide +kernel) (by decide +kernel) (by decide +kernel) (by decide +kernel) rfl rfl rfl rfl rfl (fun wq hq => R.move (v := Value.slice a1 p1.length c1) (by exact s1354)) ?_
                      refine WK.takeY 5 (e := 71) rfl (by decide +kernel) (by decide +kernel) (by decide +kernel) (by decide +kernel) rfl rfl rfl rfl rfl (fun wq hq => R.move (v := Value.int .i64 i1339) (by exact s1358)) ?_
                      refine WK.takeY 6 (e := 71) rfl (by decide +kernel) (by decide +kernel) (by decide +kernel) (by decide +kernel) rfl rfl rfl rfl rfl (fun wq hq => R.indexS (n := 2) (m := (i1339).toNat) (a := a1) (ad := ad1368) (len := p1.length) (cap := c1) (z := i1339) un64 ag73.size rfl ha1369 rfl hm1367 hl1366 hp1370) ?_
                      refine WK.takeY 7 (e := 71) rfl (by decide +kernel) (by decide +kernel) (by decide +kernel) (by decide +kernel) rfl rfl rfl rfl rfl (fun wq hq => R.fieldAddr (o := ad1368.off + (i1339).toNat * 2) (o' := ad1368.off + (i1339).toNat * 2) fa73_0 rfl rfl) ?_
                      have hr1467 := At.trT ((ht1419.trans ht1428).trans ht1463) hr1413
                      refine WK.takeY 8 (e := 71) rfl (by decide +kernel) (by decide +kernel) (by decide +kernel) (by decide +kernel) rfl rfl rfl rfl rfl (fun wq hq => R.loadL (v := Value.slice a1378 x1361.1.length c1379) lf28 rfl (At.sub (off := 0) (n := 1) (ds := [Value.slice a1378 x1361.1.length c1379]) (At.kK hq hr1467) rfl rfl)) ?_
                      refine WK.takeY 9 (e := 71) rfl (by decide +kernel) (by decide +kernel) (by decide +kernel) (by decide +kernel) rfl rfl rfl rfl rfl (fun wq hq => R.move (v := Value.slice a1 p1.length c1) (by exact s1354)) ?_
                      refine WK.takeY 10 (e := 71) rfl (by decide +kernel) (by decide +kernel) (by decide +kernel) (by decide +kernel) rfl rfl rfl rfl rfl (fun wq hq => R.move (v := Value.int .i64 i1339) (by exact s1358)) ?_
                      refine WK.takeY 11 (e := 71) rfl (by decide +kernel) (by decide +kernel) (by decide +kernel) (by decide +kernel) rfl rfl rfl rfl rfl (fun wq hq => R.indexS (n := 2) (m := (i1339).toNat) (a := a1) (ad := ad1368) (len := p1.length) (cap := c1) (z := i1339) un64 ag73.size rfl ha1369 rfl hm1367 hl1366 hp1370) ?_
                      refine WK.takeY 12 (e := 71) rfl (by decide +kernel) (by decide +kernel) (by decide +kernel) (by decide +kernel) rfl rfl rfl rfl rfl (fun wq hq => R.fieldAddr (o := ad1368.off + (i1339).toNat * 2) (o' := ad1368.off + (i1339).toNat * 2 + 1) fa73_1 rfl rfl) ?_
                      refine WK.takeY 13 (e := 71) rfl (by decide +kernel) (by decide +kernel) (by decide +kernel) (by decide +kernel) rfl rfl rfl rfl rfl (fun wq hq => R.loadL (v := Value.int .i64 x1361.2) lf2 rfl (At.sub (off := 1) (n := 1) (ds := [Value.int .i64 x1361.2]) (At.kK hq hr1467) rfl rfl)) ?_
                      refine WK.takeY 15 (e := 71) rfl (by decide +kernel) (by decide +kernel) (by decide +kernel) (by decide +kernel) rfl rfl rfl rfl rfl (fun wq hq => R.move (v := Value.pointer none) (by exact s1357)) ?_
                      refine WK.takeY 16 (e := 71) rfl (by decide +kernel) (by decide +kernel) (by decide +kernel) (by decide +kernel) rfl rfl rfl rfl rfl (fun wq hq => R.move (v := Value.slice a1402 y1397.length c1403) rfl) ?_
                      refine WK.takeY 17 (e := 71) rfl (by decide +kernel) (by decide +kernel) (by decide +kernel) (by decide +kernel) rfl rfl rfl rfl rfl (fun wq hq => R.move (v := Value.slice a1 p1.length c1) (by exact s1354)) ?_
                      refine WK.takeY 18 (e := 71) rfl (by decide +kernel) (by decide +kernel) (by decide +kernel) (by decide +kernel) rfl rfl rfl rfl rfl (fun wq hq => R.move (v := Value.int .i64 i1339) (by exact s1358)) ?_
                      refine WK.takeY 19 (e := 71) rfl (by decide +kernel) (by decide +kernel) (by decide +kernel) (by decide +kernel) rfl rfl rfl rfl rfl (fun wq hq => R.indexS (n := 2) (m := (i1339).toNat) (a := a1) (ad := ad1368) (len := p1.length) (cap := c1) (z := i1339) un64 ag73.size rfl ha1369 rfl hm1367 hl1366 hp1370) ?_
                      refine WK.takeY 20 (e := 71) rfl (by decide +kernel) (by decide +kernel) (by decide +kernel) (by decide +kernel) rfl rfl rfl rfl rfl (fun wq hq => R.fieldAddr (o := ad1368.off + (i1339).toNat * 2) (o' := ad1368.off + (i1339).toNat * 2 + 1) fa73_1 rfl rfl) ?_
                      refine WK.takeY 21 (e := 71) rfl (by decide +kernel) (by decide +kernel) (by decide +kernel) (by decide +kernel) rfl rfl rfl rfl rfl (fun wq hq => R.loadL (v := Value.int .i64 x1361.2) lf2 rfl (At.sub (off := 1) (n := 1) (ds := [Value.int .i64 x1361.2]) (At.kK hq hr1467) rfl rfl)) ?_
                      obtain ⟨y1468, hx1469, h1470⟩ := ob (o := step17 (q124.1, q124.2) x1361.1 x1361.2) h1466
                      have hr1471 := elT ((ht1419.trans ht1428).trans ht1463) hr1417
                      refine WK.callY 14 (e := 71) (by decide +kernel) rfl rfl rfl rfl rfl rfl (step17_ok _ _ (q124.1, q124.2) x1361.1 x1361.2 _ _ hr1471 hl1380 b1087 (In.outM (M := [blk b1087 83 ([Value.int .i64 q124.1.1, Value.int .i64 q124.1.2] ++ ((Value.int .i64 q124.2) :: []))]) (N := []) ((List.Perm.refl _))) (show St [blk b1087 83 ([Value.int .i64 q124.1.1, Value.int .i64 q124.1.2] ++ ((Value.int .i64 q124.2) :: []))] _ _ [blk b1087 83 ([Value.int .i64 q124.1.1, Value.int .i64 q124.1.2] ++ ((Value.int .i64 q124.2) :: []))] from St.ofM (M := [blk b1087 83 ([Value.int .i64 q124.1.1, Value.int .i64 q124.1.2] ++ ((Value.int .i64 q124.2) :: []))]) (N := []) hs1464 ((List.Perm.refl _))) hx1469) (R.call (vs := [Value.pointer (some ⟨b1087, 0, none⟩), Value.slice a1378 x1361.1.length c1379, Value.int .i64 x1361.2]) (caps := []) bo47 rfl rfl) ?_
                      rintro v1474 w1475 ⟨rfl, ht1472⟩
                      have ht1473 := hs1464.call (N := []) (M := [blk b1087 83 ([Value.int .i64 q124.1.1, Value.int .i64 q124.1.2] ++ ((Value.int .i64 q124.2) :: []))]) ((List.Perm.refl _)) ht1472
                      have hs1476 := hs1464.trans ht1473
                      refine ⟨_, ht1473, ?_⟩
                      cases h1470
                    · have h1477 := ifF hc1465 h1462
                      refine WK.take 1 rfl (by decide +kernel) (by decide +kernel) (by decide +kernel) (by decide +kernel) rfl rfl (fun wq hq => R.eqlF (k := .i64) (a := y113.2) (b := 0) un66 rfl rfl hc1465) ?_
                      refine WK.take 2 rfl (by decide +kernel) (by decide +kernel) (by decide +kernel) (by decide +kernel) rfl rfl (fun wq hq => R.move (v := Value.bool false) rfl) ?_
                      refine WK.takeN 3 (e := 71) (v := .bool false) rfl (by decide +kernel) (by decide +kernel) (by decide +kernel) (by decide +kernel) rfl rfl rfl rfl rfl ?_
                      refine WK.takeN 4 (e := 71) (v := .bool false) rfl (by decide +kernel) (by decide +kernel) (by decide +kernel) (by decide +kernel) rfl rfl rfl rfl rfl ?_
                      refine WK.takeN 5 (e := 71) (v := .bool false) rfl (by decide +kernel) (by decide +kernel) (by decide +kernel) (by decide +kernel) rfl rfl rfl rfl rfl ?_
                      refine WK.takeN 6 (e := 71) (v := .bool false) rfl (by decide +kernel) (by decide +kernel) (by decide +kernel) (by decide +kernel) rfl rfl rfl rfl rfl ?_
                      refine WK.takeN 7 (e := 71) (v := .bool false) rfl (by decide +kernel) (by decide +kernel) (by decide +kernel) (by decide +kernel) rfl rfl rfl rfl rfl ?_
                      refine WK.takeN 8 (e := 71) (v := .bool false) rfl (by decide +kernel) (by decide +kernel) (by decide +kernel) (by decide +kernel) rfl rfl rfl rfl rfl ?_
                      refine WK.takeN 9 (e := 71) (v := .bool false) rfl (by decide +kernel) (by decide +kernel) (by decide +kernel) (by decide +kernel) rfl rfl rfl rfl rfl ?_
                      refine WK.takeN 10 (e := 71) (v := .bool false) rfl (by decide +kernel) (by decide +kernel) (by decide +kernel) (by decide +kernel) rfl rfl rfl rfl rfl ?_
                      refine WK.takeN 11 (e := 71) (v := .bool false) rfl (by decide +kernel) (by decide +kernel) (by decide +kernel) (by decide +kernel) rfl rfl rfl rfl rfl ?_
                      refine WK.takeN 12 (e := 71) (v := .bool false) rfl (by decide +kernel) (by decide +kernel) (by decide +kernel) (by decide +kernel) rfl rfl rfl rfl rfl ?_
                      refine WK.takeN 13 (e := 71) (v := .bool false) rfl (by decide +kernel) (by decide +kernel) (by decide +kernel) (by decide +kernel) rfl rfl rfl rfl rfl ?_
                      refine WK.takeN 14 (e := 71) (v := .bool false) rfl (by decide +kernel) (by decide +kernel) (by decide +kernel) (by decide +kernel) rfl rfl rfl rfl rfl ?_
                      refine WK.takeN 15 (e := 71) (v := .bool false) rfl (by decide +kernel) (by decide +kernel) (by decide +kernel) (by decide +kernel) rfl rfl rfl rfl rfl ?_
                      refine WK.takeN 16 (e := 71) (v := .bool false) rfl (by decide +kernel) (by decide +kernel) (by decide +kernel) (by decide +kernel) rfl rfl rfl rfl rfl ?_
                      refine WK.takeN 17 (e := 71) (v := .bool false) rfl (by decide +kernel) (by decide +kernel) (by decide +kernel) (by decide +kernel) rfl rfl rfl rfl rfl ?_
                      refine WK.takeN 18 (e := 71) (v := .bool false) rfl (by decide +kernel) (by decide +kernel) (by decide +kernel) (by decide +kernel) rfl rfl rfl rfl rfl ?_
                      refine WK.takeN 19 (e := 71) (v := .bool false) rfl (by decide +kernel) (by decide +kernel) (by decide +kernel) (by decide +kernel) rfl rfl rfl rfl rfl ?_
                      refine WK.takeN 20 (e := 71) (v := .bool false) rfl (by decide +kernel) (by decide +kernel) (by decide +kernel) (by decide +kernel) rfl rfl rfl rfl rfl ?_
                      refine WK.takeN 21 (e := 71) (v := .bool false) rfl (by decide +kernel) (by decide +kernel) (by decide +kernel) (by decide +kernel) rfl rfl rfl rfl rfl ?_
                      refine WK.takeN 22 (e := 71) (v := .bool false) rfl (by decide +kernel) (by decide +kernel) (by decide +kernel) (by decide +kernel) rfl rfl rfl rfl rfl ?_
                      refine WK.takeN 23 (e := 71) (v := .bool false) rfl (by decide +kernel) (by decide +kernel) (by decide +kernel) (by decide +kernel) rfl rfl rfl rfl rfl ?_
                      refine WK.take 24 rfl (by decide +kernel) (by decide +kernel) (by decide +kernel) (by decide +kernel) rfl rfl (fun wq hq => R.pickF (v := Value.bool false) rfl rfl) ?_
                      refine WK.done (by decide +kernel) ?_
                      refine thenN ?_
                      refine WC.condF rfl rfl ?_
                      refine WC.skip ?_
                      refine blockN ?_
                      refine thenN ?_
                      refine WC.region ?_
                      refine WL.val (R.move (v := Value.int .i64 i1339) (by exact s1358)) rfl ?_
                      obtain ⟨hg1478, h1479⟩ := ckE (c := -9223372036854775808 ≤ i1339 + 1 ∧ i1339 + 1 ≤ 9223372036854775807) h1477
                      refine WL.val (R.add (a := i1339) (b := 1) (z := i1339 + 1) rfl rfl (w64e rfl hg1478.1 hg1478.2)) rfl ?_
                      refine WL.val (R.assign (v := Value.int .i64 (i1339 + 1)) rfl) rfl ?_
                      refine WL.nil ?_
                      have hr1480 := elT ((((ht1401.trans ht1411).trans ht1419).trans ht1428).trans ht1463) he1347
                      exact roundEnd (s := k1346) ⟨i1339 + 1, s1353, s1354, s1355, s1356, s1357, rfl, hr1480, h1479, hs1464⟩ (Nat.lt_succ_self _)
            · have h1481 := ifF hc1359 h1352
              refine WL.val (R.lssF (k := .i64) (a := i1339) (b := ((p1.length : Nat) : Int)) un3 rfl rfl hc1359) rfl ?_
              refine WL.nil ?_
              refine thenN ?_
              refine WC.condF rfl rfl ?_
              refine WC.exit ?_
              refine thenE ?_
              refine thenE ?_
              refine blockHit ?_
              exact joinI ⟨s1355, s1356, h1481, hs1345⟩
          · rintro σ1350 w1349 ⟨s1483, s1484, h1482, hs1351⟩
            subst hK1341
            refine thenN ?_
            refine WC.seq ?_
            refine WC.region ?_
            refine WL.val (R.move (v := Value.int .i64 y113.2) (by exact s1484)) rfl ?_
            by_cases hc1485 : y113.2 = 0
            · have h1486 := ifT hc1485 h1482
              refine WL.val (R.eqlT (k := .i64) (a := y113.2) (b := 0) un66 rfl rfl hc1485) rfl ?_
              refine WL.val (R.move (v := Value.pointer (some ⟨b1087, 0, none⟩)) (by exact s1483)) rfl ?_
              refine WL.val (R.ptrNilN (a := ⟨b1087, 0, none⟩) un65 rfl rfl) rfl ?_
              refine WL.val (R.eqB (a := true) (b := true) un4 rfl rfl) rfl ?_
              refine WL.val (R.move (v := Value.bool true) rfl) rfl ?_
              refine WL.guardY (e := 99) rfl rfl rfl ?_
              obtain ⟨y1487, hx1488, h1489⟩ := ob (o := lives17 ) h1486
              refine WL.call (lives17_ok _ (In ok w [] [blk b1087 83 ([Value.int .i64 q124.1.1, Value.int .i64 q124.1.2] ++ ((Value.int .i64 q124.2) :: []))])   hx1488) (R.call (vs := []) (caps := []) bo41 rfl rfl) rfl ?_
              rintro v1492 w1493 ⟨rfl, ht1490⟩
              have ht1491 := hs1351.call (N := [blk b1087 83 ([Value.int .i64 q124.1.1, Value.int .i64 q124.1.2] ++ ((Value.int .i64 q124.2) :: []))]) (M := []) (List.Perm.refl _) ht1490
              have hs1494 := hs1351.trans ht1491
              refine WL.val (R.pickT (v := Value.bool y1487) rfl rfl) rfl ?_
              refine WL.val (R.assign (v := Value.bool y1487) rfl) rfl ?_
              refine WL.nil ?_
              refine thenN ?_
              refine WC.ret ?_
              have ht1495 := (hs1494.here).perm (L' := []) (G := [blk b1087 83 ([Value.int .i64 q124.1.1, Value.int .i64 q124.1.2] ++ ((Value.int .i64 q124.2) :: []))]) ((List.Perm.refl _))
              have hs1496 := hs1494.trans ht1495
              obtain rfl := Option.some.inj (show some y1487 = some r from h1489)
              exact ret1 (P := Try.prog) (n := 102) (fn := Try.f5) (R := fun v w' => v = Value.bool y1487 ∧ St [] w w' []) (t := 4) (v := Value.bool y1487) rfl rfl rfl ⟨rfl, hs1496⟩
            · have h1497 := ifF hc1485 h1482
              refine WL.val (R.eqlF (k := .i64) (a := y113.2) (b := 0) un66 rfl rfl hc1485) rfl ?_
              refine WL.val (R.move (v := Value.pointer (some ⟨b1087, 0, none⟩)) (by exact s1483)) rfl ?_
              refine WL.val (R.ptrNilN (a := ⟨b1087, 0, none⟩) un65 rfl rfl) rfl ?_
              refine WL.val (R.eqB (a := false) (b := true) un4 rfl rfl) rfl ?_
              refine WL.val (R.move (v := Value.bool false) rfl) rfl ?_
              refine WL.guardN (e := 99) (v := .bool false) rfl rfl rfl rfl ?_
              refine WL.val (R.pickF (v := Value.bool false) rfl rfl) rfl ?_
              refine WL.val (R.assign (v := Value.bool false) rfl) rfl ?_
              refine WL.nil ?_
              refine thenN ?_
              refine WC.ret ?_
              have ht1498 := (hs1351.here).perm (L' := []) (G := [blk b1087 83 ([Value.int .i64 q124.1.1, Value.int .i64 q124.1.2] ++ ((Value.int .i64 q124.2) :: []))]) ((List.Perm.refl _))
              have hs1499 := hs1351.trans ht1498
              obtain rfl := Option.some.inj (show some false = some r from h1497)
              exact ret1 (P := Try.prog) (n := 102) (fn := Try.f5) (R := fun v w' => v = Value.bool false ∧ St [] w w' []) (t := 4) (v := Value.bool false) rfl rfl rfl ⟨rfl, hs1499⟩
        · have h1500 := ifF hc1104 h1100
          refine WL.val (R.neqT (k := .i64) (a := y113.2) (b := y1090.2) un66 rfl rfl hc1104) rfl ?_
          refine WL.nil ?_
          refine thenN ?_
          refine WC.condT rfl rfl ?_
          refine WC.seq ?_
          refine WC.region ?_
          refine WL.val (R.assign (v := Value.bool false) rfl) rfl ?_
          refine WL.nil ?_
          refine thenN ?_
          refine WC.ret ?_
          have ht1501 := (hs1103.here).perm (L' := []) (G := [blk b1087 83 ([Value.int .i64 q124.1.1, Value.int .i64 q124.1.2] ++ ((Value.int .i64 q124.2) :: []))]) ((List.Perm.refl _))
          have hs1502 := hs1103.trans ht1501
          obtain rfl := Option.some.inj (show some false = some r from h1500)
          exact ret1 (P := Try.prog) (n := 102) (fn := Try.f5) (R := fun v w' => v = Value.bool false ∧ St [] w w' []) (t := 4) (v := Value.bool false) rfl rfl rfl ⟨rfl, hs1502⟩
      · rw [ho1102] at ho1097
        obtain ⟨b1503, rfl, a1504, c1505, rfl⟩ := ho1097
        have ht1094 := hs1089.call (N := [blk b1087 83 ([Value.int .i64 q124.1.1, Value.int .i64 q124.1.2] ++ ((Value.int .i64 q124.2) :: []))]) (M := []) (List.Perm.refl _) ht1093
        have hs1508 := hs1089.trans ht1094
        refine WL.val (R.move (v := Value.tuple #[Value.pointer (some ⟨b1503, 0, none⟩), Value.int .i64 y1090.2]) rfl) rfl ?_
        refine WL.val (R.extract (v := Value.pointer (some ⟨b1503, 0, none⟩)) rfl rfl) rfl ?_
        refine WL.val (R.extract (v := Value.int .i64 y1090.2) rfl rfl) rfl ?_
        refine WL.val (R.assign (v := Value.pointer (some ⟨b1503, 0, none⟩)) rfl) rfl ?_
        refine WL.val (R.assign (v := Value.int .i64 y1090.2) rfl) rfl ?_
        refine WL.nil ?_
        refine thenN ?_
        refine WC.seq ?_
        refine WC.seq ?_
        refine WC.region ?_
        refine WL.val (R.move (v := Value.int .i64 y113.2) rfl) rfl ?_
        refine WL.val (R.move (v := Value.int .i64 y1090.2) rfl) rfl ?_
        by_cases hc1509 : y113.2 = y1090.2
        · have h1510 := ifT hc1509 h1100
          refine WL.val (R.neqF (k := .i64) (a := y113.2) (b := y1090.2) un66 rfl rfl (not_not_intro hc1509)) rfl ?_
          refine WL.nil ?_
          refine thenN ?_
          refine WC.condF rfl rfl ?_
          refine WC.skip ?_
          refine thenN ?_
          refine WC.seq ?_
          refine WC.seq ?_
          refine WC.region ?_
          refine WL.val (R.assign (v := Value.int .i64 0) rfl) rfl ?_
          refine WL.nil ?_
          refine thenN ?_
          have ht1858 := (hs1508.here).perm (L' := [blk b1087 83 ([Value.int .i64 q124.1.1, Value.int .i64 q124.1.2] ++ ((Value.int .i64 q124.2) :: [])), blk b1503 227 [Value.int .i64 q1101.1, Value.slice a1504 q1101.2.length c1505], gsl 4 boolE (Value.slice a1504 q1101.2.length c1505) q1101.2]) (G := []) (((List.perm_middle (l₁ := [blk b1503 227 [Value.int .i64 q1101.1, Value.slice a1504 q1101.2.length c1505], gsl 4 boolE (Value.slice a1504 q1101.2.length c1505) q1101.2]) (a := blk b1087 83 ([Value.int .i64 q124.1.1, Value.int .i64 q124.1.2] ++ ((Value.int .i64 q124.2) :: []))) (l₂ := [])).trans (List.Perm.cons _ (List.Perm.refl _))))
          have hs1859 := hs1508.trans ht1858
          have hr1860 := elT ((ht117.trans ht1094).trans ht1858) he1001
          obtain ⟨K1850, hK1851, h1852⟩ := kE (G := fun K1850 => play17_l4 p1 p0 y113 K1850 1000000 0 q124.1.1 q124.1.2 q124.2 q1101.1 q1101.2) h1510
          refine WC.join (fun σ1862 w1861 => ∃ i1847 : Int, ∃ i1848 : Int, ∃ i1849 : Int, σ1862 5 = (Value.pointer (some ⟨b1087, 0, none⟩)) ∧ σ1862 6 = (Value.int .i64 y113.2) ∧ K1850 i1847 i1848 i1849 = some r ∧ St [] w w1861 [blk b1087 83 ([Value.int .i64 i1847, Value.int .i64 i1848] ++ ((Value.int .i64 i1849) :: []))]) ?_ ?_
          · refine WC.block ?_
            refine WC.loop (T := Nat) (fun k1856 σ1854 w1853 => ∃ i1839 : Int, ∃ i1840 : Int, ∃ i1841 : Int, ∃ i1842 : Int, ∃ i1843 : Int, ∃ l1844 : List Bool, ∃ a1845, ∃ c1846, σ1854 0 = (Value.int .i64 p0) ∧ σ1854 1 = (Value.slice a1 p1.length c1) ∧ σ1854 5 = (Value.pointer (some ⟨b1087, 0, none⟩)) ∧ σ1854 6 = (Value.int .i64 y113.2) ∧ σ1854 7 = (Value.pointer (some ⟨b1503, 0, none⟩)) ∧ σ1854 9 = (Value.int .i64 i1839) ∧ elems (pairK (slW heldW) (intW .i64)) w1853 (In ok w [] [blk b1087 83 ([Value.int .i64 i1840, Value.int .i64 i1841] ++ ((Value.int .i64 i1842) :: [])), blk b1503 227 [Value.int .i64 i1843, Value.slice a1845 l1844.length c1846], gsl 4 boolE (Value.slice a1845 l1844.length c1846) l1844]) a1 p1 ∧ play17_l4 p1 p0 y113 K1850 k1856 i1839 i1840 i1841 i1842 i1843 l1844 = some r ∧ St [] w w1853 [blk b1087 83 ([Value.int .i64 i1840, Value.int .i64 i1841] ++ ((Value.int .i64 i1842) :: [])), blk b1503 227 [Value.int .i64 i1843, Value.slice a1845 l1844.length c1846], gsl 4 boolE (Value.slice a1845 l1844.length c1846) l1844]) (fun k1856 => k1856) 1000000 ⟨0, q124.1.1, q124.1.2, q124.2, q1101.1, q1101.2, a1504, c1505, rfl, rfl, rfl, rfl, rfl, rfl, hr1860, h1852, hs1859⟩ ?_
            rintro k1856 σ1854 w1853 ⟨i1839, i1840, i1841, i1842, i1843, l1844, a1845, c1846, s1865, s1866, s1867, s1868, s1869, s1870, he1857, h1864, hs1855⟩
            rcases k1856 with _ | k1856
            · rw [play17_l4] at h1864; cases h1864
            rw [play17_l4] at h1864
            refine WC.seq ?_
            refine WC.seq ?_
            refine WC.region ?_
            refine WL.val (R.move (v := Value.int .i64 i1839) (by exact s1870)) rfl ?_
            refine WL.val (R.move (v := Value.slice a1 p1.length c1) (by exact s1866)) rfl ?_
            refine WL.val (R.len (a := a1) (n := p1.length) (c := c1) un64 rfl) rfl ?_
            by_cases hc1871 : i1839 < ((p1.length : Nat) : Int)
            · have h1872 := ifT hc1871 h1864
              refine WL.val (R.lssT (k := .i64) (a := i1839) (b := ((p1.length : Nat) : Int)) un3 rfl rfl hc1871) rfl ?_
              refine WL.nil ?_
              refine thenN ?_
              refine WC.condT rfl rfl ?_
              refine WC.skip ?_
              refine thenN ?_
              refine WC.seq ?_
              refine WC.block ?_
              refine WC.seq ?_
              refine WC.seq ?_
              refine WC.region ?_
              refine WL.val (R.move (v := Value.slice a1 p1.length c1) (by exact s1866)) rfl ?_
              refine WL.val (R.move (v := Value.int .i64 i1839) (by exact s1870)) rfl ?_
              obtain ⟨x1873, hx1874, h1875⟩ := ob (o := rd p1 i1839) h1872
              obtain ⟨h01876, hx1877, hl1878, hm1879⟩ := rdE hx1874
              obtain ⟨ad1880, e1885, ha1881, hp1882, hat1883, hrd1884⟩ := he1857 _ _ hx1877
              obtain ⟨cs1886, cs1887, rfl, hp1888, hp1889⟩ := hrd1884
              obtain ⟨a1890, c1891, rfl, hl1892, he1893⟩ := hp1888
              obtain ⟨-, rfl⟩ := hp1889
              refine WL.val (R.indexS (n := 2) (m := (i1839).toNat) (a := a1) (ad := ad1880) (len := p1.length) (cap := c1) (z := i1839) un64 ag73.size rfl ha1881 rfl hm1879 hl1878 hp1882) rfl ?_
              refine WL.val (R.fieldAddr (o := ad1880.off + (i1839).toNat * 2) (o' := ad1880.off + (i1839).toNat * 2) fa73_0 rfl rfl) rfl ?_
              refine WL.val (R.loadL (v := Value.slice a1890 x1873.1.length c1891) lf28 rfl (At.sub (off := 0) (n := 1) (ds := [Value.slice a1890 x1873.1.length c1891]) hat1883 rfl rfl)) rfl ?_
              refine WL.val (R.len (a := a1890) (n := x1873.1.length) (c := c1891) un28 rfl) rfl ?_
              by_cases hc1896 : 40 < ((x1873.1.length : Nat) : Int)
              · have h1897 := ifT hc1896 h1875
                refine WL.val (R.gtrT (k := .i64) (a := ((x1873.1.length : Nat) : Int)) (b := 40) un3 rfl rfl hc1896) rfl ?_
                refine WL.nil ?_
                refine thenN ?_
                refine WC.condT rfl rfl ?_
                refine WC.seq ?_
                refine WC.region ?_
                obtain ⟨y1898, hx1899, h1900⟩ := ob (o := lives17 ) h1897
                refine WL.call (lives17_ok _ (In ok w [] [blk b1087 83 ([Value.int .i64 i1840, Value.int .i64 i1841] ++ ((Value.int .i64 i1842) :: [])), blk b1503 227 [Value.int .i64 i1843, Value.slice a1845 l1844.length c1846], gsl 4 boolE (Value.slice a1845 l1844.length c1846) l1844])   hx1899) (R.call (vs := []) (caps := []) bo41 rfl rfl) rfl ?_
                rintro v1903 w1904 ⟨rfl, ht1901⟩
                have ht1902 := hs1855.call (N := [blk b1087 83 ([Value.int .i64 i1840, Value.int .i64 i1841] ++ ((Value.int .i64 i1842) :: [])), blk b1503 227 [Value.int .i64 i1843, Value.slice a1845 l1844.length c1846], gsl 4 boolE (Value.slice a1845 l1844.length c1846) l1844]) (M := []) (List.Perm.refl _) ht1901
                have hs1905 := hs1855.trans ht1902
                refine WL.val (R.assign (v := Value.bool y1898) rfl) rfl ?_
                refine WL.nil ?_
                refine thenN ?_
                refine WC.ret ?_
                have ht1906 := (hs1905.here).perm (L' := []) (G := [blk b1087 83 ([Value.int .i64 i1840, Value.int .i64 i1841] ++ ((Value.int .i64 i1842) :: [])), blk b1503 227 [Value.int .i64 i1843, Value.slice a1845 l1844.length c1846], gsl 4 boolE (Value.slice a1845 l1844.length c1846) l1844]) ((List.Perm.refl _))
                have hs1907 := hs1905.trans ht1906
                obtain rfl := Option.some.inj (show some y1898 = some r from h1900)
                exact ret1 (P := Try.prog) (n := 102) (fn := Try.f5) (R := fun v w' => v = Value.bool y1898 ∧ St [] w w' []) (t := 4) (v := Value.bool y1898) rfl rfl rfl ⟨rfl, hs1907⟩
              · have h1908 := ifF hc1896 h1875
                refine WL.val (R.gtrF (k := .i64) (a := ((x1873.1.length : Nat) : Int)) (b := 40) un3 rfl rfl hc1896) rfl ?_
                refine WL.nil ?_
                refine thenN ?_
                refine WC.condF rfl rfl ?_
                refine WC.skip ?_
                refine thenN ?_
                refine WC.seq ?_
                refine WC.region ?_
                refine WL.val (R.move (v := Value.slice a1 p1.length c1) (by exact s1866)) rfl ?_
                refine WL.val (R.move (v := Value.int .i64 i1839) (by exact s1870)) rfl ?_
                refine WL.val (R.indexS (n := 2) (m := (i1839).toNat) (a := a1) (ad := ad1880) (len := p1.length) (cap := c1) (z := i1839) un64 ag73.size rfl ha1881 rfl hm1879 hl1878 hp1882) rfl ?_
                refine WL.val (R.fieldAddr (o := ad1880.off + (i1839).toNat * 2) (o' := ad1880.off + (i1839).toNat * 2) fa73_0 rfl rfl) rfl ?_
                refine WL.val (R.loadL (v := Value.slice a1890 x1873.1.length c1891) lf28 rfl (At.sub (off := 0) (n := 1) (ds := [Value.slice a1890 x1873.1.length c1891]) hat1883 rfl rfl)) rfl ?_
                obtain ⟨y1909, hx1910, h1911⟩ := ob (o := others17 x1873.1) h1908
                refine WL.call (others17_ok _ _ x1873.1 _ _ he1893 hl1892 hx1910) (R.call (vs := [Value.slice a1890 x1873.1.length c1891]) (caps := []) bo44 rfl rfl) rfl ?_
                rintro v1918 w1919 ⟨a1914, c1915, rfl, hl1916, he1917, ht1912⟩
                have ht1913 := hs1855.call (N := [blk b1087 83 ([Value.int .i64 i1840, Value.int .i64 i1841] ++ ((Value.int .i64 i1842) :: [])), blk b1503 227 [Value.int .i64 i1843, Value.slice a1845 l1844.length c1846], gsl 4 boolE (Value.slice a1845 l1844.length c1846) l1844]) (M := []) (List.Perm.refl _) ht1912
                have he1920 := elC hs1855 (M := []) (List.Perm.refl _) ht1912 he1917
                have hs1921 := hs1855.trans ht1913
                refine WL.val (R.assign (v := Value.slice a1914 y1909.length c1915) rfl) rfl ?_
                refine WL.nil ?_
                refine thenN ?_
                refine WC.seq ?_
                refine WC.seq ?_
                refine WC.drawK (L := [blk b1087 83 ([Value.int .i64 i1840, Value.int .i64 i1841] ++ ((Value.int .i64 i1842) :: [])), blk b1503 227 [Value.int .i64 i1843, Value.slice a1845 l1844.length c1846], gsl 4 boolE (Value.slice a1845 l1844.length c1846) l1844]) mixed (NP.then (NP.then (NP.block (NP.then (NP.then (NP.block (NP.join (NP.then NP.rq)))))))) ?_
                have ht1923 := (hs1921.here).ext (Ext.drew _)
                have hs1924 := hs1921.trans ht1923
                refine WK.take 0 rfl (by decide +kernel) (by decide +kernel) (by decide +kernel) (by decide +kernel) rfl rfl (fun wq hq => R.move (v := Value.int .i64 p0) (by exact s1865)) ?_
                refine WK.take 1 rfl (by decide +kernel) (by decide +kernel) (by decide +kernel) (by decide +kernel) rfl rfl (fun wq hq => R.move (v := Value.slice a1 p1.length c1) (by exact s1866)) ?_
                refine WK.take 2 rfl (by decide +kernel) (by decide +kernel) (by decide +kernel) (by decide +kernel) rfl rfl (fun wq hq => R.move (v := Value.int .i64 i1839) (by exact s1870)) ?_
                refine WK.take 3 rfl (by decide +kernel) (by decide +kernel) (by decide +kernel) (by decide +kernel) rfl rfl (fun wq hq => R.indexS (n := 2) (m := (i1839).toNat) (a := a1) (ad := ad1880) (len := p1.length) (cap := c1) (z := i1839) un64 ag73.size rfl ha1881 rfl hm1879 hl1878 hp1882) ?_
                refine WK.take 4 rfl (by decide +kernel) (by decide +kernel) (by decide +kernel) (by decide +kernel) rfl rfl (fun wq hq => R.fieldAddr (o := ad1880.off + (i1839).toNat * 2) (o' := ad1880.off + (i1839).toNat * 2) fa73_0 rfl rfl) ?_
                have hr1925 := At.trT (ht1913.trans ht1923) hat1883
                refine WK.take 5 rfl (by decide +kernel) (by decide +kernel) (by decide +kernel) (by decide +kernel) rfl rfl (fun wq hq => R.loadL (v := Value.slice a1890 x1873.1.length c1891) lf28 rfl (At.sub (off := 0) (n := 1) (ds := [Value.slice a1890 x1873.1.length c1891]) (At.kK hq hr1925) rfl rfl)) ?_
                refine WK.take 6 rfl (by decide +kernel) (by decide +kernel) (by decide +kernel) (by decide +kernel) rfl rfl (fun wq hq => R.move (v := Value.slice a1 p1.length c1) (by exact s1866)) ?_
                refine WK.take 7 rfl (by decide +kernel) (by decide +kernel) (by decide +kernel) (by decide +kernel) rfl rfl (fun wq hq => R.move (v := Value.int .i64 i1839) (by exact s1870)) ?_
                refine WK.take 8 rfl (by decide +kernel) (by decide +kernel) (by decide +kernel) (by decide +kernel) rfl rfl (fun wq hq => R.indexS (n := 2) (m := (i1839).toNat) (a := a1) (ad := ad1880) (len := p1.length) (cap := c1) (z := i1839) un64 ag73.size rfl ha1881 rfl hm1879 hl1878 hp1882) ?_
                refine WK.take 9 rfl (by decide +kernel) (by decide +kernel) (by decide +kernel) (by decide +kernel) rfl rfl (fun wq hq => R.fieldAddr (o := ad1880.off + (i1839).toNat * 2) (o' := ad1880.off + (i1839).toNat * 2 + 1) fa73_1 rfl rfl) ?_
                refine WK.take 10 rfl (by decide +kernel) (by decide +kernel) (by decide +kernel) (by decide +kernel) rfl rfl (fun wq hq => R.loadL (v := Value.int .i64 x1873.2) lf2 rfl (At.sub (off := 1) (n := 1) (ds := [Value.int .i64 x1873.2]) (At.kK hq hr1925) rfl rfl)) ?_
                refine WK.take 12 rfl (by decide +kernel) (by decide +kernel) (by decide +kernel) (by decide +kernel) rfl rfl (fun wq hq => R.move (v := Value.int .i64 p0) (by exact s1865)) ?_
                refine WK.take 13 rfl (by decide +kernel) (by decide +kernel) (by decide +kernel) (by decide +kernel) rfl rfl (fun wq hq => R.move (v := Value.slice a1914 y1909.length c1915) rfl) ?_
                refine WK.take 14 rfl (by decide +kernel) (by decide +kernel) (by decide +kernel) (by decide +kernel) rfl rfl (fun wq hq => R.move (v := Value.slice a1 p1.length c1) (by exact s1866)) ?_
                refine WK.take 15 rfl (by decide +kernel) (by decide +kernel) (by decide +kernel) (by decide +kernel) rfl rfl (fun wq hq => R.move (v := Value.int .i64 i1839) (by exact s1870)) ?_
                refine WK.take 16 rfl (by decide +kernel) (by decide +kernel) (by decide +kernel) (by decide +kernel) rfl rfl (fun wq hq => R.indexS (n := 2) (m := (i1839).toNat) (a := a1) (ad := ad1880) (len := p1.length) (cap := c1) (z := i1839) un64 ag73.size rfl ha1881 rfl hm1879 hl1878 hp1882) ?_
                refine WK.take 17 rfl (by decide +kernel) (by decide +kernel) (by decide +kernel) (by decide +kernel) rfl rfl (fun wq hq => R.fieldAddr (o := ad1880.off + (i1839).toNat * 2) (o' := ad1880.off + (i1839).toNat * 2 + 1) fa73_1 rfl rfl) ?_
                refine WK.take 18 rfl (by decide +kernel) (by decide +kernel) (by decide +kernel) (by decide +kernel) rfl rfl (fun wq hq => R.loadL (v := Value.int .i64 x1873.2) lf2 rfl (At.sub (off := 1) (n := 1) (ds := [Value.int .i64 x1873.2]) (At.kK hq hr1925) rfl rfl)) ?_
                obtain ⟨y1926, hx1927, h1928⟩ := ob (o := even17 p0 x1873.1 x1873.2) h1911
                have hr1929 := elT (ht1913.trans ht1923) he1893
                refine WK.call 11 (by decide +kernel) rfl rfl rfl (even17_ok _ _ p0 x1873.1 x1873.2 _ _ hr1929 hl1892 hx1927) (R.call (vs := [Value.int .i64 p0, Value.slice a1890 x1873.1.length c1891, Value.int .i64 x1873.2]) (caps := []) bo45 rfl rfl) ?_
                rintro v1932 w1933 ⟨rfl, ht1930⟩
                have ht1931 := hs1924.call (N := [blk b1087 83 ([Value.int .i64 i1840, Value.int .i64 i1841] ++ ((Value.int .i64 i1842) :: [])), blk b1503 227 [Value.int .i64 i1843, Value.slice a1845 l1844.length c1846], gsl 4 boolE (Value.slice a1845 l1844.length c1846) l1844]) (M := []) (List.Perm.refl _) ht1930
                have hs1934 := hs1924.trans ht1931
                refine ⟨_, ht1931, ?_⟩
                obtain ⟨y1935, hx1936, h1937⟩ := ob (o := reven17 p0 y1909 x1873.2) h1928
                have hr1938 := elT (ht1923.trans ht1931) he1920
                refine WK.call 19 (by decide +kernel) rfl rfl rfl (reven17_ok _ _ p0 y1909 x1873.2 _ _ hr1938 hl1916 hx1936) (R.call (vs := [Value.int .i64 p0, Value.slice a1914 y1909.length c1915, Value.int .i64 x1873.2]) (caps := []) bo46 rfl rfl) ?_
                rintro v1941 w1942 ⟨rfl, ht1939⟩
                have ht1940 := hs1934.call (N := [blk b1087 83 ([Value.int .i64 i1840, Value.int .i64 i1841] ++ ((Value.int .i64 i1842) :: [])), blk b1503 227 [Value.int .i64 i1843, Value.slice a1845 l1844.length c1846], gsl 4 boolE (Value.slice a1845 l1844.length c1846) l1844]) (M := []) (List.Perm.refl _) ht1939
                have hs1943 := hs1934.trans ht1940
                refine ⟨_, ht1940, ?_⟩
                by_cases hc1944 : y1926 = true
                · have h1945 := ifT hc1944 h1937
                  by_cases hc1946 : y1935 = true
                  · have h1947 := ifT hc1946 h1945
                    refine WK.take 20 rfl (by decide +kernel) (by decide +kernel) (by decide +kernel) (by decide +kernel) rfl rfl (fun wq hq => R.neB (a := true) (b := true) un4 (Eq.trans (show _ = Value.bool y1926 from rfl) (congrArg Value.bool hc1944)) (Eq.trans (show _ = Value.bool y1935 from rfl) (congrArg Value.bool hc1946))) ?_
                    refine WK.done (by decide +kernel) ?_
                    refine thenN ?_
                    refine WC.condF rfl rfl ?_
                    refine WC.skip ?_
                    refine thenN ?_
                    refine WC.seq ?_
                    refine WC.drawK (L := [blk b1087 83 ([Value.int .i64 i1840, Value.int .i64 i1841] ++ ((Value.int .i64 i1842) :: [])), blk b1503 227 [Value.int .i64 i1843, Value.slice a1845 l1844.length c1846], gsl 4 boolE (Value.slice a1845 l1844.length c1846) l1844]) mixed (NP.then (NP.block (NP.then (NP.then (NP.block (NP.join (NP.then NP.rq))))))) ?_
                    have ht1948 := (hs1943.here).ext (Ext.drew _)
                    have hs1949 := hs1943.trans ht1948
                    refine WK.take 0 rfl (by decide +kernel) (by decide +kernel) (by decide +kernel) (by decide +kernel) rfl rfl (fun wq hq => R.move (v := Value.int .i64 y113.2) (by exact s1868)) ?_
                    by_cases hc1950 : y113.2 = 0
                    · have h1951 := ifT hc1950 h1947
                      refine WK.take 1 rfl (by decide +kernel) (by decide +kernel) (by decide +kernel) (by decide +kernel) rfl rfl (fun wq hq => R.eqlT (k := .i64) (a := y113.2) (b := 0) un66 rfl rfl hc1950) ?_
                      refine WK.take 2 rfl (by decide +kernel) (by decide +kernel) (by decide +kernel) (by decide +kernel) rfl rfl (fun wq hq => R.move (v := Value.bool true) rfl) ?_
                      refine WK.takeY 3 (e := 71) rfl (by decide +kernel) (by decide +kernel) (by decide +kernel) (by decide +kernel) rfl rfl rfl rfl rfl (fun wq hq => R.move (v := Value.pointer (some ⟨b1087, 0, none⟩)) (by exact s1867)) ?_
                      refine WK.takeY 4 (e := 71) rfl (by decide +kernel) (by decide +kernel) (by decide +kernel) (by decide +kernel) rfl rfl rfl rfl rfl (fun wq hq => R.move (v := Value.slice a1 p1.length c1) (by exact s1866)) ?_
                      refine WK.takeY 5 (e := 71) rfl (by decide +kernel) (by decide +kernel) (by decide +kernel) (by decide +kernel) rfl rfl rfl rfl rfl (fun wq hq => R.move (v := Value.int .i64 i1839) (by exact s1870)) ?_
                      refine WK.takeY 6 (e := 71) rfl (by decide +kernel) (by decide +kernel) (by decide +kernel) (by decide +kernel) rfl rfl rfl rfl rfl (fun wq hq => R.indexS (n := 2) (m := (i1839).toNat) (a := a1) (ad := ad1880) (len := p1.length) (cap := c1) (z := i1839) un64 ag73.size rfl ha1881 rfl hm1879 hl1878 hp1882) ?_
                      refine WK.takeY 7 (e := 71) rfl (by decide +kernel) (by decide +kernel) (by decide +kernel) (by decide +kernel) rfl rfl rfl rfl rfl (fun wq hq => R.fieldAddr (o := ad1880.off + (i1839).toNat * 2) (o' := ad1880.off + (i1839).toNat * 2) fa73_0 rfl rfl) ?_
                      have hr1952 := At.trT ((ht1931.trans ht1940).trans ht1948) hr1925
                      refine WK.takeY 8 (e := 71) rfl (by decide +kernel) (by decide +kernel) (by decide +kernel) (by decide +kernel) rfl rfl rfl rfl rfl (fun wq hq => R.loadL (v := Value.slice a1890 x1873.1.length c1891) lf28 rfl (At.sub (off := 0) (n := 1) (ds := [Value.slice a1890 x1873.1.length c1891]) (At.kK hq hr1952) rfl rfl)) ?_
                      refine WK.takeY 9 (e := 71) rfl (by decide +kernel) (by decide +kernel) (by decide +kernel) (by decide +kernel) rfl rfl rfl rfl rfl (fun wq hq => R.move (v := Value.slice a1 p1.length c1) (by exact s1866)) ?_
                      refine WK.takeY 10 (e := 71) rfl (by decide +kernel) (by decide +kernel) (by decide +kernel) (by decide +kernel) rfl rfl rfl rfl rfl (fun wq hq => R.move (v := Value.int .i64 i1839) (by exact s1870)) ?_
                      refine WK.takeY 11 (e := 71) rfl (by decide +kernel) (by decide +kernel) (by decide +kernel) (by decide +kernel) rfl rfl rfl rfl rfl (fun wq hq => R.indexS (n := 2) (m := (i1839).toNat) (a := a1) (ad := ad1880) (len := p1.length) (cap := c1) (z := i1839) un64 ag73.size rfl ha1881 rfl hm1879 hl1878 hp1882) ?_
                      refine WK.takeY 12 (e := 71) rfl (by decide +kernel) (by decide +kernel) (by decide +kernel) (by decide +kernel) rfl rfl rfl rfl rfl (fun wq hq => R.fieldAddr (o := ad1880.off + (i1839).toNat * 2) (o' := ad1880.off + (i1839).toNat * 2 + 1) fa73_1 rfl rfl) ?_
                      refine WK.takeY 13 (e := 71) rfl (by decide +kernel) (by decide +kernel) (by decide +kernel) (by decide +kernel) rfl rfl rfl rfl rfl (fun wq hq => R.loadL (v := Value.int .i64 x1873.2) lf2 rfl (At.sub (off := 1) (n := 1) (ds := [Value.int .i64 x1873.2]) (At.kK hq hr1952) rfl rfl)) ?_
                      refine WK.takeY 15 (e := 71) rfl (by decide +kernel) (by decide +kernel) (by decide +kernel) (by decide +kernel) rfl rfl rfl rfl rfl (fun wq hq => R.move (v := Value.pointer (some ⟨b1503, 0, none⟩)) (by exact s1869)) ?_
                      refine WK.takeY 16 (e := 71) rfl (by decide +kernel) (by decide +kernel) (by decide +kernel) (by decide +kernel) rfl rfl rfl rfl rfl (fun wq hq => R.move (v := Value.slice a1914 y1909.length c1915) rfl) ?_
                      refine WK.takeY 17 (e := 71) rfl (by decide +kernel) (by decide +kernel) (by decide +kernel) (by decide +kernel) rfl rfl rfl rfl rfl (fun wq hq => R.move (v := Value.slice a1 p1.length c1) (by exact s1866)) ?_
                      refine WK.takeY 18 (e := 71) rfl (by decide +kernel) (by decide +kernel) (by decide +kernel) (by decide +kernel) rfl rfl rfl rfl rfl (fun wq hq => R.move (v := Value.int .i64 i1839) (by exact s1870)) ?_
                      refine WK.takeY 19 (e := 71) rfl (by decide +kernel) (by decide +kernel) (by decide +kernel) (by decide +kernel) rfl rfl rfl rfl rfl (fun wq hq => R.indexS (n := 2) (m := (i1839).toNat) (a := a1) (ad := ad1880) (len := p1.length) (cap := c1) (z := i1839) un64 ag73.size rfl ha1881 rfl hm1879 hl1878 hp1882) ?_
                      refine WK.takeY 20 (e := 71) rfl (by decide +kernel) (by decide +kernel) (by decide +kernel) (by decide +kernel) rfl rfl rfl rfl rfl (fun wq hq => R.fieldAddr (o := ad1880.off + (i1839).toNat * 2) (o' := ad1880.off + (i1839).toNat * 2 + 1) fa73_1 rfl rfl) ?_
                      refine WK.takeY 21 (e := 71) rfl (by decide +kernel) (by decide +kernel) (by decide +kernel) (by decide +kernel) rfl rfl rfl rfl rfl (fun wq hq => R.loadL (v := Value.int .i64 x1873.2) lf2 rfl (At.sub (off := 1) (n := 1) (ds := [Value.int .i64 x1873.2]) (At.kK hq hr1952) rfl rfl)) ?_
                      obtain ⟨y1953, hx1954, h1955⟩ := ob (o := step17 ((i1840, i1841), i1842) x1873.1 x1873.2) h1951
                      have hr1956 := elT ((ht1931.trans ht1940).trans ht1948) hr1929
                      refine WK.callY 14 (e := 71) (by decide +kernel) rfl rfl rfl rfl rfl rfl (step17_ok _ _ ((i1840, i1841), i1842) x1873.1 x1873.2 _ _ hr1956 hl1892 b1087 (In.outM (M := [blk b1087 83 ([Value.int .i64 i1840, Value.int .i64 i1841] ++ ((Value.int .i64 i1842) :: []))]) (N := [blk b1503 227 [Value.int .i64 i1843, Value.slice a1845 l1844.length c1846], gsl 4 boolE (Value.slice a1845 l1844.length c1846) l1844]) ((List.Perm.refl _))) (show St [blk b1087 83 ([Value.int .i64 i1840, Value.int .i64 i1841] ++ ((Value.int .i64 i1842) :: []))] _ _ [blk b1087 83 ([Value.int .i64 i1840, Value.int .i64 i1841] ++ ((Value.int .i64 i1842) :: []))] from St.ofM (M := [blk b1087 83 ([Value.int .i64 i1840, Value.int .i64 i1841] ++ ((Value.int .i64 i1842) :: []))]) (N := [blk b1503 227 [Value.int .i64 i1843, Value.slice a1845 l1844.length c1846], gsl 4 boolE (Value.slice a1845 l1844.length c1846) l1844]) hs1949 ((List.Perm.refl _))) hx1954) (R.call (vs := [Value.pointer (some ⟨b1087, 0, none⟩), Value.slice a1890 x1873.1.length c1891, Value.int .i64 x1873.2]) (caps := []) bo47 rfl rfl) ?_
                      rintro v1959 w1960 ⟨rfl, ht1957⟩
                      have ht1958 := hs1949.call (N := [blk b1503 227 [Value.int .i64 i1843, Value.slice a1845 l1844.length c1846], gsl 4 boolE (Value.slice a1845 l1844.length c1846) l1844]) (M := [blk b1087 83 ([Value.int .i64 i1840, Value.int .i64 i1841] ++ ((Value.int .i64 i1842) :: []))]) ((List.Perm.refl _)) ht1957
                      have hs1961 := hs1949.trans ht1958
                      refine ⟨_, ht1958, ?_⟩
                      obtain ⟨y1962, hx1963, h1964⟩ := ob (o := rstep17 (i1843, l1844) y1909 x1873.2) h1955
                      have hr1965 := elT ((ht1940.trans ht1948).trans ht1958) hr1938
                      refine WK.callY 22 (e := 71) (by decide +kernel) rfl rfl rfl rfl rfl rfl (rstep17_ok _ _ (i1843, l1844) y1909 x1873.2 _ _ hr1965 hl1916 b1503 _ _ (In.outM (M := [blk b1503 227 [Value.int .i64 i1843, Value.slice a1845 l1844.length c1846], gsl 4 boolE (Value.slice a1845 l1844.length c1846) l1844]) (N := [blk b1087 83 ([Value.int .i64 y1953.2.1.1, Value.int .i64 y1953.2.1.2] ++ ((Value.int .i64 y1953.2.2) :: []))]) (((List.perm_middle (l₁ := [blk b1087 83 ([Value.int .i64 y1953.2.1.1, Value.int .i64 y1953.2.1.2] ++ ((Value.int .i64 y1953.2.2) :: []))]) (a := blk b1503 227 [Value.int .i64 i1843, Value.slice a1845 l1844.length c1846]) (l₂ := [gsl 4 boolE (Value.slice a1845 l1844.length c1846) l1844])).trans (List.Perm.cons _ ((List.perm_middle (l₁ := [blk b1087 83 ([Value.int .i64 y1953.2.1.1, Value.int .i64 y1953.2.1.2] ++ ((Value.int .i64 y1953.2.2) :: []))]) (a := gsl 4 boolE (Value.slice a1845 l1844.length c1846) l1844) (l₂ := [])).trans (List.Perm.cons _ (List.Perm.refl _))))))) (show St [blk b1503 227 [Value.int .i64 i1843, Value.slice a1845 l1844.length c1846], gsl 4 boolE (Value.slice a1845 l1844.length c1846) l1844] _ _ [blk b1503 227 [Value.int .i64 i1843, Value.slice a1845 l1844.length c1846], gsl 4 boolE (Value.slice a1845 l1844.length c1846) l1844] from St.ofM (M := [blk b1503 227 [Value.int .i64 i1843, Value.slice a1845 l1844.length c1846], gsl 4 boolE (Value.slice a1845 l1844.length c1846) l1844]) (N := [blk b1087 83 ([Value.int .i64 y1953.2.1.1, Value.int .i64 y1953.2.1.2] ++ ((Value.int .i64 y1953.2.2) :: []))]) hs1961 (((List.perm_middle (l₁ := [blk b1087 83 ([Value.int .i64 y1953.2.1.1, Value.int .i64 y1953.2.1.2] ++ ((Value.int .i64 y1953.2.2) :: []))]) (a := blk b1503 227 [Value.int .i64 i1843, Value.slice a1845 l1844.length c1846]) (l₂ := [gsl 4 boolE (Value.slice a1845 l1844.length c1846) l1844])).trans (List.Perm.cons _ ((List.perm_middle (l₁ := [blk b1087 83 ([Value.int .i64 y1953.2.1.1, Value.int .i64 y1953.2.1.2] ++ ((Value.int .i64 y1953.2.2) :: []))]) (a := gsl 4 boolE (Value.slice a1845 l1844.length c1846) l1844) (l₂ := [])).trans (List.Perm.cons _ (List.Perm.refl _))))))) hx1963) (R.call (vs := [Value.pointer (some ⟨b1503, 0, none⟩), Value.slice a1914 y1909.length c1915, Value.int .i64 x1873.2]) (caps := []) bo48 rfl rfl) ?_
                      rintro v1970 w1971 ⟨a1968, c1969, rfl, ht1966⟩
                      have ht1967 := hs1961.call (N := [blk b1087 83 ([Value.int .i64 y1953.2.1.1, Value.int .i64 y1953.2.1.2] ++ ((Value.int .i64 y1953.2.2) :: []))]) (M := [blk b1503 227 [Value.int .i64 i1843, Value.slice a1845 l1844.length c1846], gsl 4 boolE (Value.slice a1845 l1844.length c1846) l1844]) (((List.perm_middle (l₁ := [blk b1087 83 ([Value.int .i64 y1953.2.1.1, Value.int .i64 y1953.2.1.2] ++ ((Value.int .i64 y1953.2.2) :: []))]) (a := blk b1503 227 [Value.int .i64 i1843, Value.slice a1845 l1844.length c1846]) (l₂ := [gsl 4 boolE (Value.slice a1845 l1844.length c1846) l1844])).trans (List.Perm.cons _ ((List.perm_middle (l₁ := [blk b1087 83 ([Value.int .i64 y1953.2.1.1, Value.int .i64 y1953.2.1.2] ++ ((Value.int .i64 y1953.2.2) :: []))]) (a := gsl 4 boolE (Value.slice a1845 l1844.length c1846) l1844) (l₂ := [])).trans (List.Perm.cons _ (List.Perm.refl _)))))) ht1966
                      have hs1972 := hs1961.trans ht1967
                      refine ⟨_, ht1967, ?_⟩
                      by_cases hc1973 : y1953.1 = true
                      · have h1974 := ifT hc1973 h1964
                        by_cases hc1975 : y1962.1 = true
                        · have h1976 := ifT hc1975 h1974
                          refine WK.takeY 23 (e := 71) rfl (by decide +kernel) (by decide +kernel) (by decide +kernel) (by decide +kernel) rfl rfl rfl rfl rfl (fun wq hq => R.neB (a := true) (b := true) un4 (Eq.trans (show _ = Value.bool y1953.1 from rfl) (congrArg Value.bool hc1973)) (Eq.trans (show _ = Value.bool y1962.1 from rfl) (congrArg Value.bool hc1975))) ?_
                          refine WK.take 24 rfl (by decide +kernel) (by decide +kernel) (by decide +kernel) (by decide +kernel) rfl rfl (fun wq hq => R.pickT (v := Value.bool false) rfl rfl) ?_
                          refine WK.done (by decide +kernel) ?_
                          refine thenN ?_
                          refine WC.condF rfl rfl ?_
                          refine WC.skip ?_
                          refine blockN ?_
                          refine thenN ?_
                          refine WC.region ?_
                          refine WL.val (R.move (v := Value.int .i64 i1839) (by exact s1870)) rfl ?_
                          obtain ⟨hg1977, h1978⟩ := ckE (c := -9223372036854775808 ≤ i1839 + 1 ∧ i1839 + 1 ≤ 9223372036854775807) h1976
                          refine WL.val (R.add (a := i1839) (b := 1) (z := i1839 + 1) rfl rfl (w64e rfl hg1977.1 hg1977.2)) rfl ?_
                          refine WL.val (R.assign (v := Value.int .i64 (i1839 + 1)) rfl) rfl ?_
                          refine WL.nil ?_
                          have ht1979 := (hs1972.here).perm (L' := [blk b1087 83 ([Value.int .i64 y1953.2.1.1, Value.int .i64 y1953.2.1.2] ++ ((Value.int .i64 y1953.2.2) :: [])), blk b1503 227 [Value.int .i64 y1962.2.1, Value.slice a1968 y1962.2.2.length c1969], gsl 4 boolE (Value.slice a1968 y1962.2.2.length c1969) y1962.2.2]) (G := []) (((List.perm_middle (l₁ := [blk b1503 227 [Value.int .i64 y1962.2.1, Value.slice a1968 y1962.2.2.length c1969], gsl 4 boolE (Value.slice a1968 y1962.2.2.length c1969) y1962.2.2]) (a := blk b1087 83 ([Value.int .i64 y1953.2.1.1, Value.int .i64 y1953.2.1.2] ++ ((Value.int .i64 y1953.2.2) :: []))) (l₂ := [])).trans (List.Perm.cons _ (List.Perm.refl _))))
                          have hs1980 := hs1972.trans ht1979
                          have hr1981 := elT (((((((ht1913.trans ht1923).trans ht1931).trans ht1940).trans ht1948).trans ht1958).trans ht1967).trans ht1979) he1857
                          exact roundEnd (s := k1856) ⟨i1839 + 1, y1953.2.1.1, y1953.2.1.2, y1953.2.2, y1962.2.1, y1962.2.2, a1968, c1969, s1865, s1866, s1867, s1868, s1869, rfl, hr1981, h1978, hs1980⟩ (Nat.lt_succ_self _)
                        · have h1982 := ifF hc1975 h1974
                          refine WK.takeY 23 (e := 71) rfl (by decide +kernel) (by decide +kernel) (by decide +kernel) (by decide +kernel) rfl rfl rfl rfl rfl (fun wq hq => R.neB (a := true) (b := false) un4 (Eq.trans (show _ = Value.bool y1953.1 from rfl) (congrArg Value.bool hc1973)) (Eq.trans (show _ = Value.bool y1962.1 from rfl) (congrArg Value.bool (Bool.eq_false_iff.2 hc1975)))) ?_
                          refine WK.take 24 rfl (by decide +kernel) (by decide +kernel) (by decide +kernel) (by decide +kernel) rfl rfl (fun wq hq => R.pickT (v := Value.bool true) rfl rfl) ?_
                          refine WK.done (by decide +kernel) ?_
                          refine thenN ?_
                          refine WC.condT rfl rfl ?_
                          refine WC.seq ?_
                          refine WC.region ?_
                          refine WL.val (R.assign (v := Value.bool false) rfl) rfl ?_
                          refine WL.nil ?_
                          refine thenN ?_
                          refine WC.ret ?_
                          have ht1983 := (hs1972.here).perm (L' := []) (G := [blk b1503 227 [Value.int .i64 y1962.2.1, Value.slice a1968 y1962.2.2.length c1969], gsl 4 boolE (Value.slice a1968 y1962.2.2.length c1969) y1962.2.2, blk b1087 83 ([Value.int .i64 y1953.2.1.1, Value.int .i64 y1953.2.1.2] ++ ((Value.int .i64 y1953.2.2) :: []))]) ((List.Perm.refl _))
                          have hs1984 := hs1972.trans ht1983
                          obtain rfl := Option.some.inj (show some false = some r from h1982)
                          exact ret1 (P := Try.prog) (n := 102) (fn := Try.f5) (R := fun v w' => v = Value.bool false ∧ St [] w w' []) (t := 4) (v := Value.bool false) rfl rfl rfl ⟨rfl, hs1984⟩
                      · have h1985 := ifF hc1973 h1964
                        by_cases hc1986 : y1962.1 = true
                        · have h1987 := ifT hc1986 h1985
                          refine WK.takeY 23 (e := 71) rfl (by decide +kernel) (by decide +kernel) (by decide +kernel) (by decide +kernel) rfl rfl rfl rfl rfl (fun wq hq => R.neB (a := false) (b := true) un4 (Eq.trans (show _ = Value.bool y1953.1 from rfl) (congrArg Value.bool (Bool.eq_false_iff.2 hc1973))) (Eq.trans (show _ = Value.bool y1962.1 from rfl) (congrArg Value.bool hc1986))) ?_
                          refine WK.take 24 rfl (by decide +kernel) (by decide +kernel) (by decide +kernel) (by decide +kernel) rfl rfl (fun wq hq => R.pickT (v := Value.bool true) rfl rfl) ?_
                          refine WK.done (by decide +kernel) ?_
                          refine thenN ?_
                          refine WC.condT rfl rfl ?_
                          refine WC.seq ?_
                          refine WC.region ?_
                          refine WL.val (R.assign (v := Value.bool false) rfl) rfl ?_
                          refine WL.nil ?_
                          refine thenN ?_
                          refine WC.ret ?_
                          have ht1988 := (hs1972.here).perm (L' := []) (G := [blk b1503 227 [Value.int .i64 y1962.2.1, Value.slice a1968 y1962.2.2.length c1969], gsl 4 boolE (Value.slice a1968 y1962.2.2.length c1969) y1962.2.2, blk b1087 83 ([Value.int .i64 y1953.2.1.1, Value.int .i64 y1953.2.1.2] ++ ((Value.int .i64 y1953.2.2) :: []))]) ((List.Perm.refl _))
                          have hs1989 := hs1972.trans ht1988
                          obtain rfl := Option.some.inj (show some false = some r from h1987)
                          exact ret1 (P := Try.prog) (n := 102) (fn := Try.f5) (R := fun v w' => v = Value.bool false ∧ St [] w w' []) (t := 4) (v := Value.bool false) rfl rfl rfl ⟨rfl, hs1989⟩
                        · have h1990 := ifF hc1986 h1985
                          refine WK.takeY 23 (e := 71) rfl (by decide +kernel) (by decide +kernel) (by decide +kernel) (by decide +kernel) rfl rfl rfl rfl rfl (fun wq hq => R.neB (a := false) (b := false) un4 (Eq.trans (show _ = Value.bool y1953.1 from rfl) (congrArg Value.bool (Bool.eq_false_iff.2 hc1973))) (Eq.trans (show _ = Value.bool y1962.1 from rfl) (congrArg Value.bool (Bool.eq_false_iff.2 hc1986)))) ?_
                          refine WK.take 24 rfl (by decide +kernel) (by decide +kernel) (by decide +kernel) (by decide +kernel) rfl rfl (fun wq hq => R.pickT (v := Value.bool false) rfl rfl) ?_
                          refine WK.done (by decide +kernel) ?_
                          refine thenN ?_
                          refine WC.condF rfl rfl ?_
                          refine WC.skip ?_
                          refine blockN ?_
                          refine thenN ?_
                          refine WC.region ?_
                          refine WL.val (R.move (v := Value.int .i64 i1839) (by exact s1870)) rfl ?_
                          obtain ⟨hg1991, h1992⟩ := ckE (c := -9223372036854775808 ≤ i1839 + 1 ∧ i1839 + 1 ≤ 9223372036854775807) h1990
                          refine WL.val (R.add (a := i1839) (b := 1) (z := i1839 + 1) rfl rfl (w64e rfl hg1991.1 hg1991.2)) rfl ?_
                          refine WL.val (R.assign (v := Value.int .i64 (i1839 + 1)) rfl) rfl ?_
                          refine WL.nil ?_
                          have ht1993 := (hs1972.here).perm (L' := [blk b1087 83 ([Value.int .i64 y1953.2.1.1, Value.int .i64 y1953.2.1.2] ++ ((Value.int .i64 y1953.2.2) :: [])), blk b1503 227 [Value.int .i64 y1962.2.1, Value.slice a1968 y1962.2.2.length c1969], gsl 4 boolE (Value.slice a1968 y1962.2.2.length c1969) y1962.2.2]) (G := []) (((List.perm_middle (l₁ := [blk b1503 227 [Value.int .i64 y1962.2.1, Value.slice a1968 y1962.2.2.length c1969], gsl 4 boolE (Value.slice a1968 y1962.2.2.length c1969) y1962.2.2]) (a := blk b1087 83 ([Value.int .i64 y1953.2.1.1, Value.int .i64 y1953.2.1.2] ++ ((Value.int .i64 y1953.2.2) :: []))) (l₂ := [])).trans (List.Perm.cons _ (List.Perm.refl _))))
                          have hs1994 := hs1972.trans ht1993
                          have hr1995 := elT (((((((ht1913.trans ht1923).trans ht1931).trans ht1940).trans ht1948).trans ht1958).trans ht1967).trans ht1993) he1857
                          exact roundEnd (s := k1856) ⟨i1839 + 1, y1953.2.1.1, y1953.2.1.2, y1953.2.2, y1962.2.1, y1962.2.2, a1968, c1969, s1865, s1866, s1867, s1868, s1869, rfl, hr1995, h1992, hs1994⟩ (Nat.lt_succ_self _)
                    · have h1996 := ifF hc1950 h1947
                      refine WK.take 1 rfl (by decide +kernel) (by decide +kernel) (by decide +kernel) (by decide +kernel) rfl rfl (fun wq hq => R.eqlF (k := .i64) (a := y113.2) (b := 0) un66 rfl rfl hc1950) ?_
                      refine WK.take 2 rfl (by decide +kernel) (by decide +kernel) (by decide +kernel) (by decide +kernel) rfl rfl (fun wq hq => R.move (v := Value.bool false) rfl) ?_
                      refine WK.takeN 3 (e := 71) (v := .bool false) rfl (by decide +kernel) (by decide +kernel) (by decide +kernel) (by decide +kernel) rfl rfl rfl rfl rfl ?_
                      refine WK.takeN 4 (e := 71) (v := .bool false) rfl (by decide +kernel) (by decide +kernel) (by decide +kernel) (by decide +kernel) rfl rfl rfl rfl rfl ?_
                      refine WK.takeN 5 (e := 71) (v := .bool false) rfl (by decide +kernel) (by decide +kernel) (by decide +kernel) (by decide +kernel) rfl rfl rfl rfl rfl ?_
                      refine WK.takeN 6 (e := 71) (v := .bool false) rfl (by decide +kernel) (by decide +kernel) (by decide +kernel) (by decide +kernel) rfl rfl rfl rfl rfl ?_
                      refine WK.takeN 7 (e := 71) (v := .bool false) rfl (by decide +kernel) (by decide +kernel) (by decide +kernel) (by decide +kernel) rfl rfl rfl rfl rfl ?_
                      refine WK.takeN 8 (e := 71) (v := .bool false) rfl (by decide +kernel) (by decide +kernel) (by decide +kernel) (by decide +kernel) rfl rfl rfl rfl rfl ?_
                      refine WK.takeN 9 (e := 71) (v := .bool false) rfl (by decide +kernel) (by decide +kernel) (by decide +kernel) (by decide +kernel) rfl rfl rfl rfl rfl ?_
                      refine WK.takeN 10 (e := 71) (v := .bool false) rfl (by decide +kernel) (by decide +kernel) (by decide +kernel) (by decide +kernel) rfl rfl rfl rfl rfl ?_
                      refine WK.takeN 11 (e := 71) (v := .bool false) rfl (by decide +kernel) (by decide +kernel) (by decide +kernel) (by decide +kernel) rfl rfl rfl rfl rfl ?_
                      refine WK.takeN 12 (e := 71) (v := .bool false) rfl (by decide +kernel) (by decide +kernel) (by decide +kernel) (by decide +kernel) rfl rfl rfl rfl rfl ?_
                      refine WK.takeN 13 (e := 71) (v := .bool false) rfl (by decide +kernel) (by decide +kernel) (by decide +kernel) (by decide +kernel) rfl rfl rfl rfl rfl ?_
                      refine WK.takeN 14 (e := 71) (v := .bool false) rfl (by decide +kernel) (by decide +kernel) (by decide +kernel) (by decide +kernel) rfl rfl rfl rfl rfl ?_
                      refine WK.takeN 15 (e := 71) (v := .bool false) rfl (by decide +kernel) (by decide +kernel) (by decide +kernel) (by decide +kernel) rfl rfl rfl rfl rfl ?_
                      refine WK.takeN 16 (e := 71) (v := .bool false) rfl (by decide +kernel) (by decide +kernel) (by decide +kernel) (by decide +kernel) rfl rfl rfl rfl rfl ?_
                      refine WK.takeN 17 (e := 71) (v := .bool false) rfl (by decide +kernel) (by decide +kernel) (by decide +kernel) (by decide +kernel) rfl rfl rfl rfl rfl ?_
                      refine WK.takeN 18 (e := 71) (v := .bool false) rfl (by decide +kernel) (by decide +kernel) (by decide +kernel) (by decide +kernel) rfl rfl rfl rfl rfl ?_
                      refine WK.takeN 19 (e := 71) (v := .bool false) rfl (by decide +kernel) (by decide +kernel) (by decide +kernel) (by decide +kernel) rfl rfl rfl rfl rfl ?_
                      refine WK.takeN 20 (e := 71) (v := .bool false) rfl (by decide +kernel) (by decide +kernel) (by decide +kernel) (by decide +kernel) rfl rfl rfl rfl rfl ?_
                      refine WK.takeN 21 (e := 71) (v := .bool false) rfl (by decide +kernel) (by decide +kernel) (by decide +kernel) (by decide +kernel) rfl rfl rfl rfl rfl ?_
                      refine WK.takeN 22 (e := 71) (v := .bool false) rfl (by decide +kernel) (by decide +kernel) (by decide +kernel) (by decide +kernel) rfl rfl rfl rfl rfl ?_
                      refine WK.takeN 23 (e := 71) (v := .bool false) rfl (by decide +kernel) (by decide +kernel) (by decide +kernel) (by decide +kernel) rfl rfl rfl rfl rfl ?_
                      refine WK.take 24 rfl (by decide +kernel) (by decide +kernel) (by decide +kernel) (by decide +kernel) rfl rfl (fun wq hq => R.pickF (v := Value.bool false) rfl rfl) ?_
                      refine WK.done (by decide +kernel) ?_
                      refine thenN ?_
                      refine WC.condF rfl rfl ?_
                      refine WC.skip ?_
                      refine blockN ?_
                      refine thenN ?_
                      refine WC.region ?_
                      refine WL.val (R.move (v := Value.int .i64 i1839) (by exact s1870)) rfl ?_
                      obtain ⟨hg1997, h1998⟩ := ckE (c := -9223372036854775808 ≤ i1839 + 1 ∧ i1839 + 1 ≤ 9223372036854775807) h1996
                      refine WL.val (R.add (a := i1839) (b := 1) (z := i1839 + 1) rfl rfl (w64e rfl hg1997.1 hg1997.2)) rfl ?_
                      refine WL.val (R.assign (v := Value.int .i64 (i1839 + 1)) rfl) rfl ?_
                      refine WL.nil ?_
                      have hr1999 := elT ((((ht1913.trans ht1923).trans ht1931).trans ht1940).trans ht1948) he1857
                      exact roundEnd (s := k1856) ⟨i1839 + 1, i1840, i1841, i1842, i1843, l1844, a1845, c1846, s1865, s1866, s1867, s1868, s1869, rfl, hr1999, h1998, hs1949⟩ (Nat.lt_succ_self _)
                  · have h2000 := ifF hc1946 h1945
                    refine WK.take 20 rfl (by decide +kernel) (by decide +kernel) (by decide +kernel) (by decide +kernel) rfl rfl (fun wq hq => R.neB (a := true) (b := false) un4 (Eq.trans (show _ = Value.bool y1926 from rfl) (congrArg Value.bool hc1944)) (Eq.trans (show _ = Value.bool y1935 from rfl) (congrArg Value.bool (Bool.eq_false_iff.2 hc1946)))) ?_
                    refine WK.done (by decide +kernel) ?_
                    refine thenN ?_
                    refine WC.condT rfl rfl ?_
                    refine WC.seq ?_
                    refine WC.region ?_
                    refine WL.val (R.assign (v := Value.bool false) rfl) rfl ?_
                    refine WL.nil ?_
                    refine thenN ?_
                    refine WC.ret ?_
                    have ht2001 := (hs1943.here).perm (L' := []) (G := [blk b1087 83 ([Value.int .i64 i1840, Value.int .i64 i1841] ++ ((Value.int .i64 i1842) :: [])), blk b1503 227 [Value.int .i64 i1843, Value.slice a1845 l1844.length c1846], gsl 4 boolE (Value.slice a1845 l1844.length c1846) l1844]) ((List.Perm.refl _))
                    have hs2002 := hs1943.trans ht2001
                    obtain rfl := Option.some.inj (show some false = some r from h2000)
                    exact ret1 (P := Try.prog) (n := 102) (fn := Try.f5) (R := fun v w' => v = Value.bool false ∧ St [] w w' []) (t := 4) (v := Value.bool false) rfl rfl rfl ⟨rfl, hs2002⟩
                · have h2003 := ifF hc1944 h1937
                  by_cases hc2004 : y1935 = true
                  · have h2005 := ifT hc2004 h2003
                    refine WK.take 20 rfl (by decide +kernel) (by decide +kernel) (by decide +kernel) (by decide +kernel) rfl rfl (fun wq hq => R.neB (a := false) (b := true) un4 (Eq.trans (show _ = Value.bool y1926 from rfl) (congrArg Value.bool (Bool.eq_false_iff.2 hc1944))) (Eq.trans (show _ = Value.bool y1935 from rfl) (congrArg Value.bool hc2004))) ?_
                    refine WK.done (by decide +kernel) ?_
                    refine thenN ?_
                    refine WC.condT rfl rfl ?_
                    refine WC.seq ?_
                    refine WC.region ?_
                    refine WL.val (R.assign (v := Value.bool false) rfl) rfl ?_
                    refine WL.nil ?_
                    refine thenN ?_
                    refine WC.ret ?_
                    have ht2006 := (hs1943.here).perm (L' := []) (G := [blk b1087 83 ([Value.int .i64 i1840, Value.int .i64 i1841] ++ ((Value.int .i64 i1842) :: [])), blk b1503 227 [Value.int .i64 i1843, Value.slice a1845 l1844.length c1846], gsl 4 boolE (Value.slice a1845 l1844.length c1846) l1844]) ((List.Perm.refl _))
                    have hs2007 := hs1943.trans ht2006
                    obtain rfl := Option.some.inj (show some false = some r from h2005)
                    exact ret1 (P := Try.prog) (n := 102) (fn := Try.f5) (R := fun v w' => v = Value.bool false ∧ St [] w w' []) (t := 4) (v := Value.bool false) rfl rfl rfl ⟨rfl, hs2007⟩
                  · have h2008 := ifF hc2004 h2003
                    refine WK.take 20 rfl (by decide +kernel) (by decide +kernel) (by decide +kernel) (by decide +kernel) rfl rfl (fun wq hq => R.neB (a := false) (b := false) un4 (Eq.trans (show _ = Value.bool y1926 from rfl) (congrArg Value.bool (Bool.eq_false_iff.2 hc1944))) (Eq.trans (show _ = Value.bool y1935 from rfl) (congrArg Value.bool (Bool.eq_false_iff.2 hc2004)))) ?_
                    refine WK.done (by decide +kernel) ?_
                    refine thenN ?_
                    refine WC.condF rfl rfl ?_
                    refine WC.skip ?_
                    refine thenN ?_
                    refine WC.seq ?_
                    refine WC.drawK (L := [blk b1087 83 ([Value.int .i64 i1840, Value.int .i64 i1841] ++ ((Value.int .i64 i1842) :: [])), blk b1503 227 [Value.int .i64 i1843, Value.slice a1845 l1844.length c1846], gsl 4 boolE (Value.slice a1845 l1844.length c1846) l1844]) mixed (NP.then (NP.block (NP.then (NP.then (NP.block (NP.join (NP.then NP.rq))))))) ?_
                    have ht2009 := (hs1943.here).ext (Ext.drew _)
                    have hs2010 := hs1943.trans ht2009
                    refine WK.take 0 rfl (by decide +kernel) (by decide +kernel) (by decide +kernel) (by decide +kernel) rfl rfl (fun wq hq => R.move (v := Value.int .i64 y113.2) (by exact s1868)) ?_
                    by_cases hc2011 : y113.2 = 0
                    · have h2012 := ifT hc2011 h2008
                      refine WK.take 1 rfl (by decide +kernel) (by decide +kernel) (by decide +kernel) (by decide +kernel) rfl rfl (fun wq hq => R.eqlT (k := .i64) (a := y113.2) (b := 0) un66 rfl rfl hc2011) ?_
                      refine WK.take 2 rfl (by decide +kernel) (by decide +kernel) (by decide +kernel) (by decide +kernel) rfl rfl (fun wq hq => R.move (v := Value.bool true) rfl) ?_
                      refine WK.takeY 3 (e := 71) rfl (by decide +kernel) (by decide +kernel) (by decide +kernel) (by decide +kernel) rfl rfl rfl rfl rfl (fun wq hq => R.move (v := Value.pointer (some ⟨b1087, 0, none⟩)) (by exact s1867)) ?_
                      refine WK.takeY 4 (e := 71) rfl (by decide +kernel) (by decide +kernel) (by decide +kernel) (by decide +kernel) rfl rfl rfl rfl rfl (fun wq hq => R.move (v := Value.slice a1 p1.length c1) (by exact s1866)) ?_
                      refine WK.takeY 5 (e := 71) rfl (by decide +kernel) (by decide +kernel) (by decide +kernel) (by decide +kernel) rfl rfl rfl rfl rfl (fun wq hq => R.move (v := Value.int .i64 i1839) (by exact s1870)) ?_
                      refine WK.takeY 6 (e := 71) rfl (by decide +kernel) (by decide +kernel) (by decide +kernel) (by decide +kernel) rfl rfl rfl rfl rfl (fun wq hq => R.indexS (n := 2) (m := (i1839).toNat) (a := a1) (ad := ad1880) (len := p1.length) (cap := c1) (z := i1839) un64 ag73.size rfl ha1881 rfl hm1879 hl1878 hp1882) ?_
                      refine WK.takeY 7 (e := 71) rfl (by decide +kernel) (by decide +kernel) (by decide +kernel) (by decide +kernel) rfl rfl rfl rfl rfl (fun wq hq => R.fieldAddr (o := ad1880.off + (i1839).toNat * 2) (o' := ad1880.off + (i1839).toNat * 2) fa73_0 rfl rfl) ?_
                      have hr2013 := At.trT ((ht1931.trans ht1940).trans ht2009) hr1925
                      refine WK.takeY 8 (e := 71) rfl (by decide +kernel) (by decide +kernel) (by decide +kernel) (by decide +kernel) rfl rfl rfl rfl rfl (fun wq hq => R.loadL (v := Value.slice a1890 x1873.1.length c1891) lf28 rfl (At.sub (off := 0) (n := 1) (ds := [Value.slice a1890 x1873.1.length c1891]) (At.kK hq hr2013) rfl rfl)) ?_
                      refine WK.takeY 9 (e := 71) rfl (by decide +kernel) (by decide +kernel) (by decide +kernel) (by decide +kernel) rfl rfl rfl rfl rfl (fun wq hq => R.move (v := Value.slice a1 p1.length c1) (by exact s1866)) ?_
                      refine WK.takeY 10 (e := 71) rfl (by decide +kernel) (by decide +kernel) (by decide +kernel) (by decide +kernel) rfl rfl rfl rfl rfl (fun wq hq => R.move (v := Value.int .i64 i1839) (by exact s1870)) ?_
                      refine WK.takeY 11 (e := 71) rfl (by decide +kernel) (by decide +kernel) (by decide +kernel) (by decide +kernel) rfl rfl rfl rfl rfl (fun wq hq => R.indexS (n := 2) (m := (i1839).toNat) (a := a1) (ad := ad1880) (len := p1.length) (cap := c1) (z := i1839) un64 ag73.size rfl ha1881 rfl hm1879 hl1878 hp1882) ?_
                      refine WK.takeY 12 (e := 71) rfl (by decide +kernel) (by decide +kernel) (by decide +kernel) (by decide +kernel) rfl rfl rfl rfl rfl (fun wq hq => R.fieldAddr (o := ad1880.off + (i1839).toNat * 2) (o' := ad1880.off + (i1839).toNat * 2 + 1) fa73_1 rfl rfl) ?_
                      refine WK.takeY 13 (e := 71) rfl (by decide +kernel) (by decide +kernel) (by decide +kernel) (by decide +kernel) rfl rfl rfl rfl rfl (fun wq hq => R.loadL (v := Value.int .i64 x1873.2) lf2 rfl (At.sub (off := 1) (n := 1) (ds := [Value.int .i64 x1873.2]) (At.kK hq hr2013) rfl rfl)) ?_
                      refine WK.takeY 15 (e := 71) rfl (by decide +kernel) (by decide +kernel) (by decide +kernel) (by decide +kernel) rfl rfl rfl rfl rfl (fun wq hq => R.move (v := Value.pointer (some ⟨b1503, 0, none⟩)) (by exact s1869)) ?_
                      refine WK.takeY 16 (e := 71) rfl (by decide +kernel) (by decide +kernel) (by decide +kernel) (by decide +kernel) rfl rfl rfl rfl rfl (fun wq hq => R.move (v := Value.slice a1914 y1909.length c1915) rfl) ?_
                      refine WK.takeY 17 (e := 71) rfl (by decide +kernel) (by decide +kernel) (by decide +kernel) (by decide +kernel) rfl rfl rfl rfl rfl (fun wq hq => R.move (v := Value.slice a1 p1.length c1) (by exact s1866)) ?_
                      refine WK.takeY 18 (e := 71) rfl (by decide +kernel) (by decide +kernel) (by decide +kernel) (by decide +kernel) rfl rfl rfl rfl rfl (fun wq hq => R.move (v := Value.int .i64 i1839) (by exact s1870)) ?_
                      refine WK.takeY 19 (e := 71) rfl (by decide +kernel) (by decide +kernel) (by decide +kernel) (by decide +kernel) rfl rfl rfl rfl rfl (fun wq hq => R.indexS (n := 2) (m := (i1839).toNat) (a := a1) (ad := ad1880) (len := p1.length) (cap := c1) (z := i1839) un64 ag73.size rfl ha1881 rfl hm1879 hl1878 hp1882) ?_
                      refine WK.takeY 20 (e := 71) rfl (by decide +kernel) (by decide +kernel) (by decide +kernel) (by decide +kernel) rfl rfl rfl rfl rfl (fun wq hq => R.fieldAddr (o := ad1880.off + (i1839).toNat * 2) (o' := ad1880.off + (i1839).toNat * 2 + 1) fa73_1 rfl rfl) ?_
                      refine WK.takeY 21 (e := 71) rfl (by decide +kernel) (by decide +kernel) (by decide +kernel) (by decide +kernel) rfl rfl rfl rfl rfl (fun wq hq => R.loadL (v := Value.int .i64 x1873.2) lf2 rfl (At.sub (off := 1) (n := 1) (ds := [Value.int .i64 x1873.2]) (At.kK hq hr2013) rfl rfl)) ?_
                      obtain ⟨y2014, hx2015, h2016⟩ := ob (o := step17 ((i1840, i1841), i1842) x1873.1 x1873.2) h2012
                      have hr2017 := elT ((ht1931.trans ht1940).trans ht2009) hr1929
                      refine WK.callY 14 (e := 71) (by decide +kernel) rfl rfl rfl rfl rfl rfl (step17_ok _ _ ((i1840, i1841), i1842) x1873.1 x1873.2 _ _ hr2017 hl1892 b1087 (In.outM (M := [blk b1087 83 ([Value.int .i64 i1840, Value.int .i64 i1841] ++ ((Value.int .i64 i1842) :: []))]) (N := [blk b1503 227 [Value.int .i64 i1843, Value.slice a1845 l1844.length c1846], gsl 4 boolE (Value.slice a1845 l1844.length c1846) l1844]) ((List.Perm.refl _))) (show St [blk b1087 83 ([Value.int .i64 i1840, Value.int .i64 i1841] ++ ((Value.int .i64 i1842) :: []))] _ _ [blk b1087 83 ([Value.int .i64 i1840, Value.int .i64 i1841] ++ ((Value.int .i64 i1842) :: []))] from St.ofM (M := [blk b1087 83 ([Value.int .i64 i1840, Value.int .i64 i1841] ++ ((Value.int .i64 i1842) :: []))]) (N := [blk b1503 227 [Value.int .i64 i1843, Value.slice a1845 l1844.length c1846], gsl 4 boolE (Value.slice a1845 l1844.length c1846) l1844]) hs2010 ((List.Perm.refl _))) hx2015) (R.call (vs := [Value.pointer (some ⟨b1087, 0, none⟩), Value.slice a1890 x1873.1.length c1891, Value.int .i64 x1873.2]) (caps := []) bo47 rfl rfl) ?_
                      rintro v2020 w2021 ⟨rfl, ht2018⟩
                      have ht2019 := hs2010.call (N := [blk b1503 227 [Value.int .i64 i1843, Value.slice a1845 l1844.length c1846], gsl 4 boolE (Value.slice a1845 l1844.length c1846) l1844]) (M := [blk b1087 83 ([Value.int .i64 i1840, Value.int .i64 i1841] ++ ((Value.int .i64 i1842) :: []))]) ((List.Perm.refl _)) ht2018
                      have hs2022 := hs2010.trans ht2019
                      refine ⟨_, ht2019, ?_⟩
                      obtain ⟨y2023, hx2024, h2025⟩ := ob (o := rstep17 (i1843, l1844) y1909 x1873.2) h2016
                      have hr2026 := elT ((ht1940.trans ht2009).trans ht2019) hr1938
                      refine WK.callY 22 (e := 71) (by decide +kernel) rfl rfl rfl rfl rfl rfl (rstep17_ok _ _ (i1843, l1844) y1909 x1873.2 _ _ hr2026 hl1916 b1503 _ _ (In.outM (M := [blk b1503 227 [Value.int .i64 i1843, Value.slice a1845 l1844.length c1846], gsl 4 boolE (Value.slice a1845 l1844.length c1846) l1844]) (N := [blk b1087 83 ([Value.int .i64 y2014.2.1.1, Value.int .i64 y2014.2.1.2] ++ ((Value.int .i64 y2014.2.2) :: []))]) (((List.perm_middle (l₁ := [blk b1087 83 ([Value.int .i64 y2014.2.1.1, Value.int .i64 y2014.2.1.2] ++ ((Value.int .i64 y2014.2.2) :: []))]) (a := blk b1503 227 [Value.int .i64 i1843, Value.slice a1845 l1844.length c1846]) (l₂ := [gsl 4 boolE (Value.slice a1845 l1844.length c1846) l1844])).trans (List.Perm.cons _ ((List.perm_middle (l₁ := [blk b1087 83 ([Value.int .i64 y2014.2.1.1, Value.int .i64 y2014.2.1.2] ++ ((Value.int .i64 y2014.2.2) :: []))]) (a := gsl 4 boolE (Value.slice a1845 l1844.length c1846) l1844) (l₂ := [])).trans (List.Perm.cons _ (List.Perm.refl _))))))) (show St [blk b1503 227 [Value.int .i64 i1843, Value.slice a1845 l1844.length c1846], gsl 4 boolE (Value.slice a1845 l1844.length c1846) l1844] _ _ [blk b1503 227 [Value.int .i64 i1843, Value.slice a1845 l1844.length c1846], gsl 4 boolE (Value.slice a1845 l1844.length c1846) l1844] from St.ofM (M := [blk b1503 227 [Value.int .i64 i1843, Value.slice a1845 l1844.length c1846], gsl 4 boolE (Value.slice a1845 l1844.length c1846) l1844]) (N := [blk b1087 83 ([Value.int .i64 y2014.2.1.1, Value.int .i64 y2014.2.1.2] ++ ((Value.int .i64 y2014.2.2) :: []))]) hs2022 (((List.perm_middle (l₁ := [blk b1087 83 ([Value.int .i64 y2014.2.1.1, Value.int .i64 y2014.2.1.2] ++ ((Value.int .i64 y2014.2.2) :: []))]) (a := blk b1503 227 [Value.int .i64 i1843, Value.slice a1845 l1844.length c1846]) (l₂ := [gsl 4 boolE (Value.slice a1845 l1844.length c1846) l1844])).trans (List.Perm.cons _ ((List.perm_middle (l₁ := [blk b1087 83 ([Value.int .i64 y2014.2.1.1, Value.int .i64 y2014.2.1.2] ++ ((Value.int .i64 y2014.2.2) :: []))]) (a := gsl 4 boolE (Value.slice a1845 l1844.length c1846) l1844) (l₂ := [])).trans (List.Perm.cons _ (List.Perm.refl _))))))) hx2024) (R.call (vs := [Value.pointer (some ⟨b1503, 0, none⟩), Value.slice a1914 y1909.length c1915, Value.int .i64 x1873.2]) (caps := []) bo48 rfl rfl) ?_
                      rintro v2031 w2032 ⟨a2029, c2030, rfl, ht2027⟩
                      have ht2028 := hs2022.call (N := [blk b1087 83 ([Value.int .i64 y2014.2.1.1, Value.int .i64 y2014.2.1.2] ++ ((Value.int .i64 y2014.2.2) :: []))]) (M := [blk b1503 227 [Value.int .i64 i1843, Value.slice a1845 l1844.length c1846], gsl 4 boolE (Value.slice a1845 l1844.length c1846) l1844]) (((List.perm_middle (l₁ := [blk b1087 83 ([Value.int .i64 y2014.2.1.1, Value.int .i64 y2014.2.1.2] ++ ((Value.int .i64 y2014.2.2) :: []))]) (a := blk b1503 227 [Value.int .i64 i1843, Value.slice a1845 l1844.length c1846]) (l₂ := [gsl 4 boolE (Value.slice a1845 l1844.length c1846) l1844])).trans (List.Perm.cons _ ((List.perm_middle (l₁ := [blk b1087 83 ([Value.int .i64 y2014.2.1.1, Value.int .i64 y2014.2.1.2] ++ ((Value.int .i64 y2014.2.2) :: []))]) (a := gsl 4 boolE (Value.slice a1845 l1844.length c1846) l1844) (l₂ := [])).trans (List.Perm.cons _ (List.Perm.refl _)))))) ht2027
                      have hs2033 := hs2022.trans ht2028
                      refine ⟨_, ht2028, ?_⟩
                      by_cases hc2034 : y2014.1 = true
                      · have h2035 := ifT hc2034 h2025
                        by_cases hc2036 : y2023.1 = true
                        · have h2037 := ifT hc2036 h2035
                          refine WK.takeY 23 (e := 71) rfl (by decide +kernel) (by decide +kernel) (by decide +kernel) (by decide +kernel) rfl rfl rfl rfl rfl (fun wq hq => R.neB (a := true) (b := true) un4 (Eq.trans (show _ = Value.bool y2014.1 from rfl) (congrArg Value.bool hc2034)) (Eq.trans (show _ = Value.bool y2023.1 from rfl) (congrArg Value.bool hc2036))) ?_
                          refine WK.take 24 rfl (by decide +kernel) (by decide +kernel) (by decide +kernel) (by decide +kernel) rfl rfl (fun wq hq => R.pickT (v := Value.bool false) rfl rfl) ?_
                          refine WK.done (by decide +kernel) ?_
                          refine thenN ?_
                          refine WC.condF rfl rfl ?_
                          refine WC.skip ?_
                          refine blockN ?_
                          refine thenN ?_
                          refine WC.region ?_
                          refine WL.val (R.move (v := Value.int .i64 i1839) (by exact s1870)) rfl ?_
                          obtain ⟨hg2038, h2039⟩ := ckE (c := -9223372036854775808 ≤ i1839 + 1 ∧ i1839 + 1 ≤ 9223372036854775807) h2037
                          refine WL.val (R.add (a := i1839) (b := 1) (z := i1839 + 1) rfl rfl (w64e rfl hg2038.1 hg2038.2)) rfl ?_
                          refine WL.val (R.assign (v := Value.int .i64 (i1839 + 1)) rfl) rfl ?_
                          refine WL.nil ?_
                          have ht2040 := (hs2033.here).perm (L' := [blk b1087 83 ([Value.int .i64 y2014.2.1.1, Value.int .i64 y2014.2.1.2] ++ ((Value.int .i64 y2014.2.2) :: [])), blk b1503 227 [Value.int .i64 y2023.2.1, Value.slice a2029 y2023.2.2.length c2030], gsl 4 boolE (Value.slice a2029 y2023.2.2.length c2030) y2023.2.2]) (G := []) (((List.perm_middle (l₁ := [blk b1503 227 [Value.int .i64 y2023.2.1, Value.slice a2029 y2023.2.2.length c2030], gsl 4 boolE (Value.slice a2029 y2023.2.2.length c2030) y2023.2.2]) (a := blk b1087 83 ([Value.int .i64 y2014.2.1.1, Value.int .i64 y2014.2.1.2] ++ ((Value.int .i64 y2014.2.2) :: []))) (l₂ := [])).trans (List.Perm.cons _ (List.Perm.refl _))))
                          have hs2041 := hs2033.trans ht2040
                          have hr2042 := elT (((((((ht1913.trans ht1923).trans ht1931).trans ht1940).trans ht2009).trans ht2019).trans ht2028).trans ht2040) he1857
                          exact roundEnd (s := k1856) ⟨i1839 + 1, y2014.2.1.1, y2014.2.1.2, y2014.2.2, y2023.2.1, y2023.2.2, a2029, c2030, s1865, s1866, s1867, s1868, s1869, rfl, hr2042, h2039, hs2041⟩ (Nat.lt_succ_self _)
                        · have h2043 := ifF hc2036 h2035
                          refine WK.takeY 23 (e := 71) rfl (by decide +kernel) (by decide +kernel) (by decide +kernel) (by decide +kernel) rfl rfl rfl rfl rfl (fun wq hq => R.neB (a := true) (b := false) un4 (Eq.trans (show _ = Value.bool y2014.1 from rfl) (congrArg Value.bool hc2034)) (Eq.trans (show _ = Value.bool y2023.1 from rfl) (congrArg Value.bool (Bool.eq_false_iff.2 hc2036)))) ?_
                          refine WK.take 24 rfl (by decide +kernel) (by decide +kernel) (by decide +kernel) (by decide +kernel) rfl rfl (fun wq hq => R.pickT (v := Value.bool true) rfl rfl) ?_
                          refine WK.done (by decide +kernel) ?_
                          refine thenN ?_
                          refine WC.condT rfl rfl ?_
                          refine WC.seq ?_
                          refine WC.region ?_
                          refine WL.val (R.assign (v := Value.bool false) rfl) rfl ?_
                          refine WL.nil ?_
                          refine thenN ?_
                          refine WC.ret ?_
                          have ht2044 := (hs2033.here).perm (L' := []) (G := [blk b1503 227 [Value.int .i64 y2023.2.1, Value.slice a2029 y2023.2.2.length c2030], gsl 4 boolE (Value.slice a2029 y2023.2.2.length c2030) y2023.2.2, blk b1087 83 ([Value.int .i64 y2014.2.1.1, Value.int .i64 y2014.2.1.2] ++ ((Value.int .i64 y2014.2.2) :: []))]) ((List.Perm.refl _))
                          have hs2045 := hs2033.trans ht2044
                          obtain rfl := Option.some.inj (show some false = some r from h2043)
                          exact ret1 (P := Try.prog) (n := 102) (fn := Try.f5) (R := fun v w' => v = Value.bool false ∧ St [] w w' []) (t := 4) (v := Value.bool false) rfl rfl rfl ⟨rfl, hs2045⟩
                      · have h2046 := ifF hc2034 h2025
                        by_cases hc2047 : y2023.1 = true
                        · have h2048 := ifT hc2047 h2046
                          refine WK.takeY 23 (e := 71) rfl (by decide +kernel) (by decide +kernel) (by decide +kernel) (by decide +kernel) rfl rfl rfl rfl rfl (fun wq hq => R.neB (a := false) (b := true) un4 (Eq.trans (show _ = Value.bool y2014.1 from rfl) (congrArg Value.bool (Bool.eq_false_iff.2 hc2034))) (Eq.trans (show _ = Value.bool y2023.1 from rfl) (congrArg Value.bool hc2047))) ?_
                          refine WK.take 24 rfl (by decide +kernel) (by decide +kernel) (by decide +kernel) (by decide +kernel) rfl rfl (fun wq hq => R.pickT (v := Value.bool true) rfl rfl) ?_
                          refine WK.done (by decide +kernel) ?_
                          refine thenN ?_
                          refine WC.condT rfl rfl ?_
                          refine WC.seq ?_
                          refine WC.region ?_
                          refine WL.val (R.assign (v := Value.bool false) rfl) rfl ?_
                          refine WL.nil ?_
                          refine thenN ?_
                          refine WC.ret ?_
                          have ht2049 := (hs2033.here).perm (L' := []) (G := [blk b1503 227 [Value.int .i64 y2023.2.1, Value.slice a2029 y2023.2.2.length c2030], gsl 4 boolE (Value.slice a2029 y2023.2.2.length c2030) y2023.2.2, blk b1087 83 ([Value.int .i64 y2014.2.1.1, Value.int .i64 y2014.2.1.2] ++ ((Value.int .i64 y2014.2.2) :: []))]) ((List.Perm.refl _))
                          have hs2050 := hs2033.trans ht2049
                          obtain rfl := Option.some.inj (show some false = some r from h2048)
                          exact ret1 (P := Try.prog) (n := 102) (fn := Try.f5) (R := fun v w' => v = Value.bool false ∧ St [] w w' []) (t := 4) (v := Value.bool false) rfl rfl rfl ⟨rfl, hs2050⟩
                        · have h2051 := ifF hc2047 h2046
                          refine WK.takeY 23 (e := 71) rfl (by decide +kernel) (by decide +kernel) (by decide +kernel) (by decide +kernel) rfl rfl rfl rfl rfl (fun wq hq => R.neB (a := false) (b := false) un4 (Eq.trans (show _ = Value.bool y2014.1 from rfl) (congrArg Value.bool (Bool.eq_false_iff.2 hc2034))) (Eq.trans (show _ = Value.bool y2023.1 from rfl) (congrArg Value.bool (Bool.eq_false_iff.2 hc2047)))) ?_
                          refine WK.take 24 rfl (by decide +kernel) (by decide +kernel) (by decide +kernel) (by decide +kernel) rfl rfl (fun wq hq => R.pickT (v := Value.bool false) rfl rfl) ?_
                          refine WK.done (by decide +kernel) ?_
                          refine thenN ?_
                          refine WC.condF rfl rfl ?_
                          refine WC.skip ?_
                          refine blockN ?_
                          refine thenN ?_
                          refine WC.region ?_
                          refine WL.val (R.move (v := Value.int .i64 i1839) (by exact s1870)) rfl ?_
                          obtain ⟨hg2052, h2053⟩ := ckE (c := -9223372036854775808 ≤ i1839 + 1 ∧ i1839 + 1 ≤ 9223372036854775807) h2051
                          refine WL.val (R.add (a := i1839) (b := 1) (z := i1839 + 1) rfl rfl (w64e rfl hg2052.1 hg2052.2)) rfl ?_
                          refine WL.val (R.assign (v := Value.int .i64 (i1839 + 1)) rfl) rfl ?_
                          refine WL.nil ?_
                          have ht2054 := (hs2033.here).perm (L' := [blk b1087 83 ([Value.int .i64 y2014.2.1.1, Value.int .i64 y2014.2.1.2] ++ ((Value.int .i64 y2014.2.2) :: [])), blk b1503 227 [Value.int .i64 y2023.2.1, Value.slice a2029 y2023.2.2.length c2030], gsl 4 boolE (Value.slice a2029 y2023.2.2.length c2030) y2023.2.2]) (G := []) (((List.perm_middle (l₁ := [blk b1503 227 [Value.int .i64 y2023.2.1, Value.slice a2029 y2023.2.2.length c2030], gsl 4 boolE (Value.slice a2029 y2023.2.2.length c2030) y2023.2.2]) (a := blk b1087 83 ([Value.int .i64 y2014.2.1.1, Value.int .i64 y2014.2.1.2] ++ ((Value.int .i64 y2014.2.2) :: []))) (l₂ := [])).trans (List.Perm.cons _ (List.Perm.refl _))))
                          have hs2055 := hs2033.trans ht2054
                          have hr2056 := elT (((((((ht1913.trans ht1923).trans ht1931).trans ht1940).trans ht2009).trans ht2019).trans ht2028).trans ht2054) he1857
                          exact roundEnd (s := k1856) ⟨i1839 + 1, y2014.2.1.1, y2014.2.1.2, y2014.2.2, y2023.2.1, y2023.2.2, a2029, c2030, s1865, s1866, s1867, s1868, s1869, rfl, hr2056, h2053, hs2055⟩ (Nat.lt_succ_self _)
                    · have h2057 := ifF hc2011 h2008
                      refine WK.take 1 rfl (by decide +kernel) (by decide +kernel) (by decide +kernel) (by decide +kernel) rfl rfl (fun wq hq => R.eqlF (k := .i64) (a := y113.2) (b := 0) un66 rfl rfl hc2011) ?_
                      refine WK.take 2 rfl (by decide +kernel) (by decide +kernel) (by decide +kernel) (by decide +kernel) rfl rfl (fun wq hq => R.move (v := Value.bool false) rfl) ?_
                      refine WK.takeN 3 (e := 71) (v := .bool false) rfl (by decide +kernel) (by decide +kernel) (by decide +kernel) (by decide +kernel) rfl rfl rfl rfl rfl ?_
                      refine WK.takeN 4 (e := 71) (v := .bool false) rfl (by decide +kernel) (by decide +kernel) (by decide +kernel) (by decide +kernel) rfl rfl rfl rfl rfl ?_
                      refine WK.takeN 5 (e := 71) (v := .bool false) rfl (by decide +kernel) (by decide +kernel) (by decide +kernel) (by decide +kernel) rfl rfl rfl rfl rfl ?_
                      refine WK.takeN 6 (e := 71) (v := .bool false) rfl (by decide +kernel) (by decide +kernel) (by decide +kernel) (by decide +kernel) rfl rfl rfl rfl rfl ?_
                      refine WK.takeN 7 (e := 71) (v := .bool false) rfl (by decide +kernel) (by decide +kernel) (by decide +kernel) (by decide +kernel) rfl rfl rfl rfl rfl ?_
                      refine WK.takeN 8 (e := 71) (v := .bool false) rfl (by decide +kernel) (by decide +kernel) (by decide +kernel) (by decide +kernel) rfl rfl rfl rfl rfl ?_
                      refine WK.takeN 9 (e := 71) (v := .bool false) rfl (by decide +kernel) (by decide +kernel) (by decide +kernel) (by decide +kernel) rfl rfl rfl rfl rfl ?_
                      refine WK.takeN 10 (e := 71) (v := .bool false) rfl (by decide +kernel) (by decide +kernel) (by decide +kernel) (by decide +kernel) rfl rfl rfl rfl rfl ?_
                      refine WK.takeN 11 (e := 71) (v := .bool false) rfl (by decide +kernel) (by decide +kernel) (by decide +kernel) (by decide +kernel) rfl rfl rfl rfl rfl ?_
                      refine WK.takeN 12 (e := 71) (v := .bool false) rfl (by decide +kernel) (by decide +kernel) (by decide +kernel) (by decide +kernel) rfl rfl rfl rfl rfl ?_
                      refine WK.takeN 13 (e := 71) (v := .bool false) rfl (by decide +kernel) (by decide +kernel) (by decide +kernel) (by decide +kernel) rfl rfl rfl rfl rfl ?_
                      refine WK.takeN 14 (e := 71) (v := .bool false) rfl (by decide +kernel) (by decide +kernel) (by decide +kernel) (by decide +kernel) rfl rfl rfl rfl rfl ?_
                      refine WK.takeN 15 (e := 71) (v := .bool false) rfl (by decide +kernel) (by decide +kernel) (by decide +kernel) (by decide +kernel) rfl rfl rfl rfl rfl ?_
                      refine WK.takeN 16 (e := 71) (v := .bool false) rfl (by decide +kernel) (by decide +kernel) (by decide +kernel) (by decide +kernel) rfl rfl rfl rfl rfl ?_
                      refine WK.takeN 17 (e := 71) (v := .bool false) rfl (by decide +kernel) (by decide +kernel) (by decide +kernel) (by decide +kernel) rfl rfl rfl rfl rfl ?_
                      refine WK.takeN 18 (e := 71) (v := .bool false) rfl (by decide +kernel) (by decide +kernel) (by decide +kernel) (by decide +kernel) rfl rfl rfl rfl rfl ?_
                      refine WK.takeN 19 (e := 71) (v := .bool false) rfl (by decide +kernel) (by decide +kernel) (by decide +kernel) (by decide +kernel) rfl rfl rfl rfl rfl ?_
                      refine WK.takeN 20 (e := 71) (v := .bool false) rfl (by decide +kernel) (by decide +kernel) (by decide +kernel) (by decide +kernel) rfl rfl rfl rfl rfl ?_
                      refine WK.takeN 21 (e := 71) (v := .bool false) rfl (by decide +kernel) (by decide +kernel) (by decide +kernel) (by decide +kernel) rfl rfl rfl rfl rfl ?_
                      refine WK.takeN 22 (e := 71) (v := .bool false) rfl (by decide +kernel) (by decide +kernel) (by decide +kernel) (by decide +kernel) rfl rfl rfl rfl rfl ?_
                      refine WK.takeN 23 (e := 71) (v := .bool false) rfl (by decide +kernel) (by decide +kernel) (by decide +kernel) (by decide +kernel) rfl rfl rfl rfl rfl ?_
                      refine WK.take 24 rfl (by decide +kernel) (by decide +kernel) (by decide +kernel) (by decide +kernel) rfl rfl (fun wq hq => R.pickF (v := Value.bool false) rfl rfl) ?_
                      refine WK.done (by decide +kernel) ?_
                      refine thenN ?_
                      refine WC.condF rfl rfl ?_
                      refine WC.skip ?_
                      refine blockN ?_
                      refine thenN ?_
                      refine WC.region ?_
                      refine WL.val (R.move (v := Value.int .i64 i1839) (by exact s1870)) rfl ?_
                      obtain ⟨hg2058, h2059⟩ := ckE (c := -9223372036854775808 ≤ i1839 + 1 ∧ i1839 + 1 ≤ 9223372036854775807) h2057
                      refine WL.val (R.add (a := i1839) (b := 1) (z := i1839 + 1) rfl rfl (w64e rfl hg2058.1 hg2058.2)) rfl ?_
                      refine WL.val (R.assign (v := Value.int .i64 (i1839 + 1)) rfl) rfl ?_
                      refine WL.nil ?_
                      have hr2060 := elT ((((ht1913.trans ht1923).trans ht1931).trans ht1940).trans ht2009) he1857
                      exact roundEnd (s := k1856) ⟨i1839 + 1, i1840, i1841, i1842, i1843, l1844, a1845, c1846, s1865, s1866, s1867, s1868, s1869, rfl, hr2060, h2059, hs2010⟩ (Nat.lt_succ_self _)
            · have h2061 := ifF hc1871 h1864
              refine WL.val (R.lssF (k := .i64) (a := i1839) (b := ((p1.length : Nat) : Int)) un3 rfl rfl hc1871) rfl ?_
              refine WL.nil ?_
              refine thenN ?_
              refine WC.condF rfl rfl ?_
              refine WC.exit ?_
              refine thenE ?_
              refine thenE ?_
              refine blockHit ?_
              have ht2062 := (hs1855.here).perm (L' := [blk b1087 83 ([Value.int .i64 i1840, Value.int .i64 i1841] ++ ((Value.int .i64 i1842) :: []))]) (G := [blk b1503 227 [Value.int .i64 i1843, Value.slice a1845 l1844.length c1846], gsl 4 boolE (Value.slice a1845 l1844.length c1846) l1844]) ((List.Perm.refl _))
              have hs2063 := hs1855.trans ht2062
              exact joinI ⟨i1840, i1841, i1842, s1867, s1868, h2061, hs2063⟩
          · rintro σ1862 w1861 ⟨i1847, i1848, i1849, s2065, s2066, h2064, hs1863⟩
            subst hK1851
            refine thenN ?_
            refine WC.seq ?_
            refine WC.region ?_
            refine WL.val (R.move (v := Value.int .i64 y113.2) (by exact s2066)) rfl ?_
            by_cases hc2067 : y113.2 = 0
            · have h2068 := ifT hc2067 h2064
              refine WL.val (R.eqlT (k := .i64) (a := y113.2) (b := 0) un66 rfl rfl hc2067) rfl ?_
              refine WL.val (R.move (v := Value.pointer (some ⟨b1087, 0, none⟩)) (by exact s2065)) rfl ?_
              refine WL.val (R.ptrNilN (a := ⟨b1087, 0, none⟩) un65 rfl rfl) rfl ?_
              refine WL.val (R.eqB (a := true) (b := true) un4 rfl rfl) rfl ?_
              refine WL.val (R.move (v := Value.bool true) rfl) rfl ?_
              refine WL.guardY (e := 99) rfl rfl rfl ?_
              obtain ⟨y2069, hx2070, h2071⟩ := ob (o := lives17 ) h2068
              refine WL.call (lives17_ok _ (In ok w [] [blk b1087 83 ([Value.int .i64 i1847, Value.int .i64 i1848] ++ ((Value.int .i64 i1849) :: []))])   hx2070) (R.call (vs := []) (caps := []) bo41 rfl rfl) rfl ?_
              rintro v2074 w2075 ⟨rfl, ht2072⟩
              have ht2073 := hs1863.call (N := [blk b1087 83 ([Value.int .i64 i1847, Value.int .i64 i1848] ++ ((Value.int .i64 i1849) :: []))]) (M := []) (List.Perm.refl _) ht2072
              have hs2076 := hs1863.trans ht2073
              refine WL.val (R.pickT (v := Value.bool y2069) rfl rfl) rfl ?_
              refine WL.val (R.assign (v := Value.bool y2069) rfl) rfl ?_
              refine WL.nil ?_
              refine thenN ?_
              refine WC.ret ?_
              have ht2077 := (hs2076.here).perm (L' := []) (G := [blk b1087 83 ([Value.int .i64 i1847, Value.int .i64 i1848] ++ ((Value.int .i64 i1849) :: []))]) ((List.Perm.refl _))
              have hs2078 := hs2076.trans ht2077
              obtain rfl := Option.some.inj (show some y2069 = some r from h2071)
              exact ret1 (P := Try.prog) (n := 102) (fn := Try.f5) (R := fun v w' => v = Value.bool y2069 ∧ St [] w w' []) (t := 4) (v := Value.bool y2069) rfl rfl rfl ⟨rfl, hs2078⟩
            · have h2079 := ifF hc2067 h2064
              refine WL.val (R.eqlF (k := .i64) (a := y113.2) (b := 0) un66 rfl rfl hc2067) rfl ?_
              refine WL.val (R.move (v := Value.pointer (some ⟨b1087, 0, none⟩)) (by exact s2065)) rfl ?_
              refine WL.val (R.ptrNilN (a := ⟨b1087, 0, none⟩) un65 rfl rfl) rfl ?_
              refine WL.val (R.eqB (a := false) (b := true) un4 rfl rfl) rfl ?_
              refine WL.val (R.move (v := Value.bool false) rfl) rfl ?_
              refine WL.guardN (e := 99) (v := .bool false) rfl rfl rfl rfl ?_
              refine WL.val (R.pickF (v := Value.bool false) rfl rfl) rfl ?_
              refine WL.val (R.assign (v := Value.bool false) rfl) rfl ?_
              refine WL.nil ?_
              refine thenN ?_
              refine WC.ret ?_
              have ht2080 := (hs1863.here).perm (L' := []) (G := [blk b1087 83 ([Value.int .i64 i1847, Value.int .i64 i1848] ++ ((Value.int .i64 i1849) :: []))]) ((List.Perm.refl _))
              have hs2081 := hs1863.trans ht2080
              obtain rfl := Option.some.inj (show some false = some r from h2079)
              exact ret1 (P := Try.prog) (n := 102) (fn := Try.f5) (R := fun v w' => v = Value.bool false ∧ St [] w w' []) (t := 4) (v := Value.bool false) rfl rfl rfl ⟨rfl, hs2081⟩
        · have h2082 := ifF hc1509 h1100
          refine WL.val (R.neqT (k := .i64) (a := y113.2) (b := y1090.2) un66 rfl rfl hc1509) rfl ?_
          refine WL.nil ?_
          refine thenN ?_
          refine WC.condT rfl rfl ?_
          refine WC.seq ?_
          refine WC.region ?_
          refine WL.val (R.assign (v := Value.bool false) rfl) rfl ?_
          refine WL.nil ?_
          refine thenN ?_
          refine WC.ret ?_
          have ht2083 := (hs1508.here).perm (L' := []) (G := [blk b1503 227 [Value.int .i64 q1101.1, Value.slice a1504 q1101.2.length c1505], gsl 4 boolE (Value.slice a1504 q1101.2.length c1505) q1101.2, blk b1087 83 ([Value.int .i64 q124.1.1, Value.int .i64 q124.1.2] ++ ((Value.int .i64 q124.2) :: []))]) ((List.Perm.refl _))
          have hs2084 := hs1508.trans ht2083
          obtain rfl := Option.some.inj (show some false = some r from h2082)
          exact ret1 (P := Try.prog) (n := 102) (fn := Try.f5) (R := fun v w' => v = Value.bool false ∧ St [] w w' []) (t := 4) (v := Value.bool false) rfl rfl rfl ⟨rfl, hs2084⟩

end Go.Proofs.Ytckcldimnelklaa
