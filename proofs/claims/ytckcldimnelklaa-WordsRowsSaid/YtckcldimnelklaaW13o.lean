/- Plain, whose table is one's own: walks. -/
import Derived.Test.YtckcldimnelklaaW13ba
import Derived.Test.YtckcldimnelklaaD13o
namespace Go.Proofs.Ytckcldimnelklaa
open Go
set_option linter.unusedVariables false
set_option linter.unusedSimpArgs false
set_option maxRecDepth 100000
set_option maxHeartbeats 4000000

theorem filledHo13_ok (w : World) (ok : Nat → Prop) (p0 : Int) (p1 : List Hd) (a1 : Option Addr) (c1 : Nat) (he1 : elems heldW w ok a1 p1) (hc1 : p1.length ≤ c1) {r : (List Hd)} (h : filledHo13 p0 p1 = some r) :
    Ret Try.prog 114 [Value.int .i64 p0, Value.slice a1 p1.length c1, Value.func (.func 115) #[] (List.toArray [])] w (fun v w' => ∃ ra0, ∃ rc0, v = Value.slice ra0 r.length rc0 ∧ St [] w w' [gsl 60 heldE (Value.slice ra0 r.length rc0) r]) := by
  rw [filledHo13] at h
  have hs100 : St [] w w [] := St.start w
  have he1001 := el0 (L0 := []) (fun b _ => out_nil b) he1
  refine enter (n := 29) Try.func114 rfl rfl rfl ?_
  refine WC.seq ?_
  refine WC.region ?_
  refine WL.val (R.assign (v := Value.slice none 0 0) rfl) rfl ?_
  refine WL.nil ?_
  refine thenN ?_
  refine WC.seq ?_
  refine WC.region ?_
  refine WL.val (R.move (v := Value.int .i64 p0) rfl) rfl ?_
  obtain ⟨hg102, h103⟩ := ckE (c := 0 ≤ p0 ∧ p0 < 1000000) h
  refine WL.new (L' := fun b104 => [gsl 60 heldE (Value.slice (some ⟨b104, 0, none⟩) ((List.replicate (p0).toNat Hd.none).length) ((p0).toNat)) (List.replicate (p0).toNat Hd.none)]) (f := fun b104 => Value.slice (some ⟨b104, 0, none⟩) ((List.replicate (p0).toNat Hd.none).length) ((p0).toNat)) (X.makeSliceN (e := heldE) (z := Hd.none) (hs100.here) sl28 rfl rfl rfl hg102 (by decide) List.length_replicate (fun _ => rfl)) rfl ?_
  intro b104 w105 ht109 he106 hz107
  have hs110 := hs100.trans ht109
  refine WL.val (R.assign (v := Value.slice (some ⟨b104, 0, none⟩) ((List.replicate (p0).toNat Hd.none).length) ((p0).toNat)) rfl) rfl ?_
  refine WL.nil ?_
  refine thenN ?_
  refine WC.seq ?_
  refine WC.seq ?_
  refine WC.region ?_
  refine WL.val (R.move (v := Value.int .i64 p0) rfl) rfl ?_
  refine WL.val (R.move (v := Value.slice a1 p1.length c1) rfl) rfl ?_
  refine WL.val (R.len (a := a1) (n := p1.length) (c := c1) un28 rfl) rfl ?_
  refine WL.val (R.min (a := p0) (b := ((p1.length : Nat) : Int)) (z := min p0 ((p1.length : Nat) : Int)) rfl rfl rfl) rfl ?_
  refine WL.val (R.move (v := Value.int .i64 0) rfl) rfl ?_
  refine WL.nil ?_
  refine thenN ?_
  have hr218 := elT ht109 he1001
  obtain ⟨K210, hK211, h212⟩ := kE (G := fun K210 => filledHo13_l1 p0 p1 K210 1000000 0 (List.replicate (p0).toNat Hd.none)) h103
  refine WC.join (fun σ220 w219 => ∃ l207 : List Hd, ∃ a208, ∃ c209, σ220 7 = (Value.slice a208 l207.length c209) ∧ K210 l207 = some r ∧ St [] w w219 [gsl 60 heldE (Value.slice a208 l207.length c209) l207]) ?_ ?_
  · refine WC.block ?_
    refine WC.loop (T := Nat) (fun k216 σ214 w213 => ∃ i203 : Int, ∃ l204 : List Hd, ∃ a205, ∃ c206, σ214 1 = (Value.slice a1 p1.length c1) ∧ σ214 2 = (Value.func (.func 115) #[] (List.toArray [])) ∧ σ214 7 = (Value.slice a205 l204.length c206) ∧ σ214 14 = (Value.int .i64 (min p0 ((p1.length : Nat) : Int))) ∧ σ214 15 = (Value.int .i64 i203) ∧ elems heldW w213 (In ok w [] [gsl 60 heldE (Value.slice a205 l204.length c206) l204]) a1 p1 ∧ filledHo13_l1 p0 p1 K210 k216 i203 l204 = some r ∧ St [] w w213 [gsl 60 heldE (Value.slice a205 l204.length c206) l204]) (fun k216 => k216) 1000000 ⟨0, List.replicate (p0).toNat Hd.none, (some ⟨b104, 0, none⟩), (p0).toNat, rfl, rfl, rfl, rfl, rfl, hr218, h212, hs110⟩ ?_
    rintro k216 σ214 w213 ⟨i203, l204, a205, c206, s223, s224, s225, s226, s227, he217, h222, hs215⟩
    rcases k216 with _ | k216
    · rw [filledHo13_l1] at h222; cases h222
    rw [filledHo13_l1] at h222
    refine WC.seq ?_
    refine WC.region ?_
    by_cases hc228 : i203 < (min p0 ((p1.length : Nat) : Int))
    · have h229 := ifT hc228 h222
      refine WL.val (R.lssT (k := .i64) (a := i203) (b := min p0 ((p1.length : Nat) : Int)) un3 (by exact s227) (by exact s226) hc228) rfl ?_
      refine WL.nil ?_
      refine thenN ?_
      refine WC.seq ?_
      refine WC.condT rfl rfl ?_
      refine WC.skip ?_
      refine thenN ?_
      refine WC.seq ?_
      refine WC.block ?_
      refine WC.seq ?_
      refine WC.region ?_
      refine WL.val (R.move (v := Value.int .i64 i203) (by exact s227)) rfl ?_
      refine WL.val (R.assign (v := Value.int .i64 i203) rfl) rfl ?_
      refine WL.nil ?_
      refine thenN ?_
      refine WC.region ?_
      refine WL.val (R.move (v := Value.slice a205 l204.length c206) (by exact s225)) rfl ?_
      refine WL.val (R.move (v := Value.int .i64 i203) rfl) rfl ?_
      refine WL.val (R.move (v := Value.func (.func 115) #[] (List.toArray [])) (by exact s224)) rfl ?_
      refine WL.val (R.move (v := Value.slice a1 p1.length c1) (by exact s223)) rfl ?_
      refine WL.val (R.move (v := Value.int .i64 i203) rfl) rfl ?_
      obtain ⟨x230, hx231, h232⟩ := ob (o := rd p1 i203) h229
      obtain ⟨h0233, hx234, hl235, hm236⟩ := rdE hx231
      obtain ⟨ad237, e242, ha238, hp239, hat240, hrd241⟩ := he217 _ _ hx234
      obtain ⟨-, rfl⟩ := hrd241
      refine WL.val (R.indexS (n := 56) (m := (i203).toNat) (a := a1) (ad := ad237) (len := p1.length) (cap := c1) (z := i203) un28 ag60.size rfl ha238 rfl hm236 hl235 hp239) rfl ?_
      refine WL.val (R.loadA (cs := encH x230) (n := 56) ag60 rfl hat240 rfl) rfl ?_
      obtain ⟨y244, hx245, h246⟩ := ob (o := held13 x230) h232
      refine WL.call (held13_ok _ (In ok w [] [gsl 60 heldE (Value.slice a205 l204.length c206) l204]) x230  hx245) (R.call (vs := [Value.agg (List.toArray (encH x230))]) (caps := []) bo115 rfl rfl) rfl ?_
      rintro v249 w250 ⟨rfl, ht247⟩
      have ht248 := hs215.call (N := [gsl 60 heldE (Value.slice a205 l204.length c206) l204]) (M := []) (List.Perm.refl _) ht247
      have hs251 := hs215.trans ht248
      obtain ⟨x252, hx253, h254⟩ := ob (o := rd l204 i203) h246
      obtain ⟨h0255, hx256, hl257, hm258⟩ := rdE hx253
      obtain ⟨b259, c260, hv261, _⟩ := hs251.gslAt (i := 0) rfl hx256
      refine WL.val (R.indexS (n := 56) (m := (i203).toNat) (ad := ⟨b259, 0, none⟩) (len := (l204).length) (cap := c260) (z := i203) un28 ag60.size (Eq.trans (show _ = Value.slice a205 l204.length c206 from rfl) hv261) rfl rfl hm258 hl257 rfl) rfl ?_
      refine WL.sto (L' := [gsl 60 heldE (Value.slice a205 l204.length c206) ((l204).set (i203).toNat y244)]) (X.storeEl (i := 0) (j := (i203).toNat) (off := 0) (n := 56) (x := x252) (y := y244) (vs := encH y244) (u := Value.agg (List.toArray (encH y244))) (hs251.here) rfl hx256 hv261 ag60.size rfl rfl rfl rfl rfl rfl (by decide) (rfl) rfl) rfl rfl ?_
      intro w262 ht263
      have hs264 := hs251.trans ht263
      have hs265 : St [] w w262 [gsl 60 heldE (Value.slice a205 (((l204).set (i203).toNat y244).length) c206) ((l204).set (i203).toNat y244)] := by first | (simpa only [List.length_set] using hs264) | (simp only [List.length_set]; exact hs264)
      have ht266 : St [gsl 60 heldE (Value.slice a205 l204.length c206) l204] w250 w262 [gsl 60 heldE (Value.slice a205 (((l204).set (i203).toNat y244).length) c206) ((l204).set (i203).toNat y244)] := by first | (simpa only [List.length_set, List.nil_append, List.cons_append] using ht263) | (simp only [List.length_set]; exact ht263)
      refine WL.nil ?_
      refine blockN ?_
      refine thenN ?_
      refine WC.region ?_
      obtain ⟨hg267, h268⟩ := ckE (c := -9223372036854775808 ≤ i203 + 1 ∧ i203 + 1 ≤ 9223372036854775807) h254
      refine WL.val (R.add (a := i203) (b := 1) (z := i203 + 1) (by exact s227) rfl (w64e rfl hg267.1 hg267.2)) rfl ?_
      refine WL.val (R.move (v := Value.int .i64 (i203 + 1)) rfl) rfl ?_
      refine WL.nil ?_
      have hr269 := elT (ht248.trans ht266) he217
      exact roundEnd (s := k216) ⟨i203 + 1, (l204).set (i203).toNat y244, a205, c206, s223, s224, (Eq.trans (show _ = Value.slice a205 l204.length c206 from s225) (by simp only [List.length_set])), s226, rfl, hr269, h268, hs265⟩ (Nat.lt_succ_self _)
    · have h270 := ifF hc228 h222
      refine WL.val (R.lssF (k := .i64) (a := i203) (b := min p0 ((p1.length : Nat) : Int)) un3 (by exact s227) (by exact s226) hc228) rfl ?_
      refine WL.nil ?_
      refine thenN ?_
      refine WC.seq ?_
      refine WC.condF rfl rfl ?_
      refine WC.exit ?_
      refine thenE ?_
      refine thenE ?_
      refine blockHit ?_
      exact joinI ⟨l204, a205, c206, s225, h270, hs215⟩
  · rintro σ220 w219 ⟨l207, a208, c209, s272, h271, hs221⟩
    subst hK211
    refine thenN ?_
    refine WC.seq ?_
    refine WC.region ?_
    refine WL.val (R.move (v := Value.slice a208 l207.length c209) (by exact s272)) rfl ?_
    refine WL.val (R.assign (v := Value.slice a208 l207.length c209) rfl) rfl ?_
    refine WL.nil ?_
    refine thenN ?_
    refine WC.ret ?_
    obtain rfl := Option.some.inj (show some l207 = some r from h271)
    exact ret1 (P := Try.prog) (n := 29) (fn := Try.f114) (R := fun v w' => ∃ ra0, ∃ rc0, v = Value.slice ra0 l207.length rc0 ∧ St [] w w' [gsl 60 heldE (Value.slice ra0 l207.length rc0) l207]) (t := 6) (v := Value.slice a208 l207.length c209) rfl rfl rfl ⟨a208, c209, rfl, hs221⟩

theorem plaino13_ok (w : World) (ok : Nat → Prop) (p0 : Int) (p1 : Rw) (a1 : Option Addr) (c1 : Nat) (he1 : elems heldW w ok a1 p1.table) (hc1 : p1.table.length ≤ c1) {r : Rw} (h : plaino13 p0 p1 = some r) :
    Ret Try.prog 69 [Value.int .i64 p0, Value.agg (List.toArray (encR p1 (Value.slice a1 p1.table.length c1)))] w (fun v w' => ∃ ra0, ∃ rc0, v = Value.agg (List.toArray (encR r (Value.slice ra0 r.table.length rc0))) ∧ St [] w w' [gsl 60 heldE (Value.slice ra0 r.table.length rc0) r.table]) := by
  rw [plaino13] at h
  have hs100 : St [] w w [] := St.start w
  have he1001 := el0 (L0 := []) (fun b _ => out_nil b) he1
  refine enter (n := 22) Try.func69 rfl rfl rfl ?_
  refine WC.seq ?_
  refine WC.region ?_
  refine WL.new (L' := fun b102 => [blk b102 62 (encR p1 (Value.slice a1 p1.table.length c1))]) (f := fun b102 => Value.pointer (some ⟨b102, 0, none⟩)) (X.box (v := Value.agg (List.toArray (encR p1 (Value.slice a1 p1.table.length c1)))) (c := encR p1 (Value.slice a1 p1.table.length c1)) (hs100.here) rfl rfl (fun _ => rfl)) rfl ?_
  intro b102 w103 ht108 he105 hz106
  have hs109 := hs100.trans ht108
  refine WL.new (L' := fun b110 => [blk b102 62 (encR p1 (Value.slice a1 p1.table.length c1)), blk b110 62 (encR Rw.none (Value.slice none 0 0))]) (f := fun b110 => Value.pointer (some ⟨b110, 0, none⟩)) (X.alloc (c := encR Rw.none (Value.slice none 0 0)) (hs109.here) zr62 rfl (fun _ => rfl)) rfl ?_
  intro b110 w111 ht116 he113 hz114
  have hs117 := hs109.trans ht116
  refine WL.nil ?_
  refine thenN ?_
  refine WC.seq ?_
  refine WC.seq ?_
  refine WC.region ?_
  refine WL.val (R.fieldAddr (o := 0) (o' := 0) fa62_0 rfl rfl) rfl ?_
  refine WL.val (R.loadL (v := Value.bool p1.is) lf4 rfl (hs117.at (i := 0) (off := 0) (n := 1) (cs := [Value.bool p1.is]) rfl rfl rfl)) rfl ?_
  refine WL.val (R.not (b := p1.is) rfl) rfl ?_
  refine WL.val (R.move (v := Value.bool (!p1.is)) rfl) rfl ?_
  by_cases hc118 : p1.is = true
  · have h119 := ifT hc118 h
    have hk120 : (!p1.is) = false := by simp [hc118]
    refine WL.guardY (e := 8) (Eq.trans (show _ = Value.bool (!p1.is) from rfl) (congrArg Value.bool hk120)) rfl rfl ?_
    refine WL.val (R.move (v := Value.int .i64 p0) rfl) rfl ?_
    refine WL.guardY (e := 8) (Eq.trans (show _ = Value.bool (!p1.is) from rfl) (congrArg Value.bool hk120)) rfl rfl ?_
    obtain ⟨y121, hx122, h123⟩ := ob (o := may13 p0) h119
    refine WL.call (may13_ok _ (In ok w [] [blk b102 62 (encR p1 (Value.slice a1 p1.table.length c1)), blk b110 62 (encR Rw.none (Value.slice none 0 0))]) p0  hx122) (R.call (vs := [Value.int .i64 p0]) (caps := []) bo108 rfl rfl) rfl ?_
    rintro v126 w127 ⟨rfl, ht124⟩
    have ht125 := hs117.call (N := [blk b102 62 (encR p1 (Value.slice a1 p1.table.length c1)), blk b110 62 (encR Rw.none (Value.slice none 0 0))]) (M := []) (List.Perm.refl _) ht124
    have hs128 := hs117.trans ht125
    refine WL.guardY (e := 8) (Eq.trans (show _ = Value.bool (!p1.is) from rfl) (congrArg Value.bool hk120)) rfl rfl ?_
    refine WL.val (R.not (b := y121) rfl) rfl ?_
    refine WL.val (R.pickF (v := Value.bool (!y121)) (Eq.trans (show _ = Value.bool (!p1.is) from rfl) (congrArg Value.bool hk120)) rfl) rfl ?_
    refine WL.nil ?_
    refine thenN ?_
    by_cases hc129 : y121 = true
    · have h130 := ifT hc129 h123
      have hk131 : (!y121) = false := by simp [hc129]
      refine WC.condF (Eq.trans (show _ = Value.bool (!y121) from rfl) (congrArg Value.bool hk131)) rfl ?_
      refine WC.skip ?_
      refine thenN ?_
      refine WC.seq ?_
      refine WC.drawE mixed (NP.then NP.rq) ?_
      have ht132 := (hs128.here).ext (Ext.drew _)
      have hs133 := hs128.trans ht132
      refine WE.take 0 rfl (by decide +kernel) (by decide +kernel) (by decide +kernel) (by decide +kernel) rfl rfl (fun wq hq => R.fieldAddr (o := 0) (o' := 1) fa62_1 rfl rfl) ?_
      refine WE.take 1 rfl (by decide +kernel) (by decide +kernel) (by decide +kernel) (by decide +kernel) rfl rfl (fun wq hq => R.loadA (cs := encC p1.cell) (n := 55) ag58 rfl ((hs133.ext hq).at (i := 0) (off := 1) (n := 55) (cs := encC p1.cell) rfl rfl rfl) rfl) ?_
      refine WE.take 3 rfl (by decide +kernel) (by decide +kernel) (by decide +kernel) (by decide +kernel) rfl rfl (fun wq hq => R.move (v := Value.int .i64 p0) rfl) ?_
      refine WE.take 4 rfl (by decide +kernel) (by decide +kernel) (by decide +kernel) (by decide +kernel) rfl rfl (fun wq hq => R.fieldAddr (o := 0) (o' := 56) fa62_2 rfl rfl) ?_
      refine WE.take 5 rfl (by decide +kernel) (by decide +kernel) (by decide +kernel) (by decide +kernel) rfl rfl (fun wq hq => R.loadL (v := Value.slice a1 p1.table.length c1) lf28 rfl ((hs133.ext hq).at (i := 0) (off := 56) (n := 1) (cs := [Value.slice a1 p1.table.length c1]) rfl rfl rfl)) ?_
      obtain ⟨y134, hx135, h136⟩ := ob (o := cell13 p1.cell) h130
      refine WE.call 2 (by decide +kernel) rfl rfl rfl (cell13_ok _ (In ok w [] [blk b102 62 (encR p1 (Value.slice a1 p1.table.length c1)), blk b110 62 (encR Rw.none (Value.slice none 0 0))]) p1.cell  hx135) (R.call (vs := [Value.agg (List.toArray (encC p1.cell))]) (caps := []) bo73 rfl rfl) ?_
      rintro v139 w140 ⟨rfl, ht137⟩
      refine ⟨.inr (show Ext _ _ from ht137.kept), ?_⟩
      have ht138 := hs133.call (N := [blk b102 62 (encR p1 (Value.slice a1 p1.table.length c1)), blk b110 62 (encR Rw.none (Value.slice none 0 0))]) (M := []) (List.Perm.refl _) ht137
      have hs141 := hs133.trans ht138
      obtain ⟨y142, hx143, h144⟩ := ob (o := filledHo13 p0 p1.table) h136
      have hr145 := elT ((((ht108.trans ht116).trans ht125).trans ht132).trans ht138) he1001
      refine WE.call 6 (by decide +kernel) rfl rfl rfl (filledHo13_ok _ _ p0 p1.table _ _ hr145 hc1 hx143) (R.call (vs := [Value.int .i64 p0, Value.slice a1 p1.table.length c1, Value.func (.func 115) #[] (List.toArray [])]) (caps := []) bo114 rfl rfl) ?_
      rintro v150 w151 ⟨a148, c149, rfl, ht146⟩
      refine ⟨.inr (show Ext _ _ from ht146.kept), ?_⟩
      have ht147 := hs141.call (N := [blk b102 62 (encR p1 (Value.slice a1 p1.table.length c1)), blk b110 62 (encR Rw.none (Value.slice none 0 0))]) (M := []) (List.Perm.refl _) ht146
      have hs153 := hs141.trans ht147
      have hd154 : ∀ w, (Instr.build 62 #[(0, Value.bool true), (1, Value.agg (List.toArray (encC y134))), (2, Value.slice a148 y142.length c149)]).run Try.prog w = .ok (Value.agg (List.toArray ((Value.bool true) :: ((encC y134) ++ ((Value.slice a148 y142.length c149) :: []))))) w := fun _ => by kernel_rfl
      refine WE.take 7 rfl (by decide +kernel) (by decide +kernel) (by decide +kernel) (by decide +kernel) rfl rfl (fun wq hq => R.build (vs := [(0, Value.bool true), (1, Value.agg (List.toArray (encC y134))), (2, Value.slice a148 y142.length c149)]) rfl hd154) ?_
      refine WE.sto (L' := [gsl 60 heldE (Value.slice a148 y142.length c149) y142, blk b102 62 (encR p1 (Value.slice a1 p1.table.length c1)), blk b110 62 ((Value.bool true) :: ((encC y134) ++ ((Value.slice a148 y142.length c149) :: [])))]) 8 (by decide +kernel) (by decide +kernel) rfl rfl rfl rfl (X.store (i := 2) (n := 57) (b := b110) (off := 0) (c := encR Rw.none (Value.slice none 0 0)) (U := 62) (vs := (Value.bool true) :: ((encC y134) ++ ((Value.slice a148 y142.length c149) :: []))) (v := Value.agg (List.toArray ((Value.bool true) :: ((encC y134) ++ ((Value.slice a148 y142.length c149) :: []))))) (c' := (Value.bool true) :: ((encC y134) ++ ((Value.slice a148 y142.length c149) :: []))) (hs153.here) rfl ag62.size rfl rfl rfl rfl rfl rfl rfl rfl) ?_
      intro w155 ht156
      have hs157 := hs153.trans ht156
      refine WE.done (by decide +kernel) ?_
      refine thenN ?_
      refine WC.ret ?_
      have hl158 := run_loadA (P := Try.prog) (n := 57) ag62 (hs157.at (i := 2) (off := 0) (n := 57) (cs := (Value.bool true) :: ((encC y134) ++ ((Value.slice a148 y142.length c149) :: []))) rfl rfl rfl) rfl
      have ht159 := (hs157.here).perm (L' := [gsl 60 heldE (Value.slice a148 y142.length c149) y142]) (G := [blk b102 62 (encR p1 (Value.slice a1 p1.table.length c1)), blk b110 62 ((Value.bool true) :: ((encC y134) ++ ((Value.slice a148 y142.length c149) :: [])))]) ((List.Perm.refl _))
      have hs160 := hs157.trans ht159
      obtain rfl := Option.some.inj (show some (⟨true, y134, y142⟩ : Rw) = some r from h144)
      exact retCell (P := Try.prog) (n := 22) (fn := Try.f69) (R := fun v w' => ∃ ra0, ∃ rc0, v = Value.agg (List.toArray (encR (⟨true, y134, y142⟩ : Rw) (Value.slice ra0 (⟨true, y134, y142⟩ : Rw).table.length rc0))) ∧ St [] w w' [gsl 60 heldE (Value.slice ra0 (⟨true, y134, y142⟩ : Rw).table.length rc0) (⟨true, y134, y142⟩ : Rw).table]) (t := 4) (v := Value.agg (List.toArray ((Value.bool true) :: ((encC y134) ++ ((Value.slice a148 y142.length c149) :: []))))) rfl rfl rfl hl158 ⟨a148, c149, rfl, hs160⟩
    · have h161 := ifF hc129 h123
      have hk162 : (!y121) = true := by simp [hc129]
      refine WC.condT (Eq.trans (show _ = Value.bool (!y121) from rfl) (congrArg Value.bool hk162)) rfl ?_
      refine WC.seq ?_
      refine WC.region ?_
      have hd163 : ∀ w, (Instr.build 62 #[]).run Try.prog w = .ok (Value.agg (List.toArray (encR Rw.none (Value.slice none 0 0)))) w := fun _ => by kernel_rfl
      refine WL.val (R.build (vs := []) rfl hd163) rfl ?_
      refine WL.sto (L' := [blk b102 62 (encR p1 (Value.slice a1 p1.table.length c1)), blk b110 62 (encR Rw.none (Value.slice none 0 0))]) (X.store (i := 1) (n := 57) (b := b110) (off := 0) (c := encR Rw.none (Value.slice none 0 0)) (U := 62) (vs := encR Rw.none (Value.slice none 0 0)) (v := Value.agg (List.toArray (encR Rw.none (Value.slice none 0 0)))) (c' := encR Rw.none (Value.slice none 0 0)) (hs128.here) rfl ag62.size rfl rfl rfl rfl rfl rfl rfl rfl) rfl rfl ?_
      intro w164 ht165
      have hs166 := hs128.trans ht165
      refine WL.nil ?_
      refine thenN ?_
      refine WC.ret ?_
      have ht167 := (hs166.here).addNil 60 heldE rfl
      have hs169 := hs166.trans ht167
      have hl170 := run_loadA (P := Try.prog) (n := 57) ag62 (hs169.at (i := 1) (off := 0) (n := 57) (cs := (Value.bool Rw.none.is) :: ((encC Rw.none.cell) ++ ((Value.slice none (([] : List Hd).length) 0) :: []))) rfl rfl rfl) rfl
      have ht171 := (hs169.here).perm (L' := [gsl 60 heldE (Value.slice none 0 0) ([] : List Hd)]) (G := [blk b102 62 (encR p1 (Value.slice a1 p1.table.length c1)), blk b110 62 ((Value.bool Rw.none.is) :: ((encC Rw.none.cell) ++ ((Value.slice none (([] : List Hd).length) 0) :: [])))]) (((List.perm_middle (l₁ := [blk b102 62 (encR p1 (Value.slice a1 p1.table.length c1)), blk b110 62 ((Value.bool Rw.none.is) :: ((encC Rw.none.cell) ++ ((Value.slice none (([] : List Hd).length) 0) :: [])))]) (a := gsl 60 heldE (Value.slice none 0 0) ([] : List Hd)) (l₂ := [])).trans (List.Perm.cons _ (List.Perm.refl _))))
      have hs172 := hs169.trans ht171
      obtain rfl := Option.some.inj (show some (⟨Rw.none.is, Rw.none.cell, ([] : List Hd)⟩ : Rw) = some r from h161)
      exact retCell (P := Try.prog) (n := 22) (fn := Try.f69) (R := fun v w' => ∃ ra0, ∃ rc0, v = Value.agg (List.toArray (encR (⟨Rw.none.is, Rw.none.cell, ([] : List Hd)⟩ : Rw) (Value.slice ra0 (⟨Rw.none.is, Rw.none.cell, ([] : List Hd)⟩ : Rw).table.length rc0))) ∧ St [] w w' [gsl 60 heldE (Value.slice ra0 (⟨Rw.none.is, Rw.none.cell, ([] : List Hd)⟩ : Rw).table.length rc0) (⟨Rw.none.is, Rw.none.cell, ([] : List Hd)⟩ : Rw).table]) (t := 4) (v := Value.agg (List.toArray ((Value.bool Rw.none.is) :: ((encC Rw.none.cell) ++ ((Value.slice none (([] : List Hd).length) 0) :: []))))) rfl rfl rfl hl170 ⟨none, 0, rfl, hs172⟩
  · have h173 := ifF hc118 h
    have hk174 : (!p1.is) = true := by simp [hc118]
    refine WL.guardN (e := 8) (v := .bool true) (Eq.trans (show _ = Value.bool (!p1.is) from rfl) (congrArg Value.bool hk174)) rfl rfl rfl ?_
    refine WL.guardN (e := 8) (v := .bool true) (Eq.trans (show _ = Value.bool (!p1.is) from rfl) (congrArg Value.bool hk174)) rfl rfl rfl ?_
    refine WL.guardN (e := 8) (v := .bool true) (Eq.trans (show _ = Value.bool (!p1.is) from rfl) (congrArg Value.bool hk174)) rfl rfl rfl ?_
    refine WL.val (R.pickT (v := Value.bool true) (Eq.trans (show _ = Value.bool (!p1.is) from rfl) (congrArg Value.bool hk174)) rfl) rfl ?_
    refine WL.nil ?_
    refine thenN ?_
    refine WC.condT rfl rfl ?_
    refine WC.seq ?_
    refine WC.region ?_
    have hd175 : ∀ w, (Instr.build 62 #[]).run Try.prog w = .ok (Value.agg (List.toArray (encR Rw.none (Value.slice none 0 0)))) w := fun _ => by kernel_rfl
    refine WL.val (R.build (vs := []) rfl hd175) rfl ?_
    refine WL.sto (L' := [blk b102 62 (encR p1 (Value.slice a1 p1.table.length c1)), blk b110 62 (encR Rw.none (Value.slice none 0 0))]) (X.store (i := 1) (n := 57) (b := b110) (off := 0) (c := encR Rw.none (Value.slice none 0 0)) (U := 62) (vs := encR Rw.none (Value.slice none 0 0)) (v := Value.agg (List.toArray (encR Rw.none (Value.slice none 0 0)))) (c' := encR Rw.none (Value.slice none 0 0)) (hs117.here) rfl ag62.size rfl rfl rfl rfl rfl rfl rfl rfl) rfl rfl ?_
    intro w176 ht177
    have hs178 := hs117.trans ht177
    refine WL.nil ?_
    refine thenN ?_
    refine WC.ret ?_
    have ht179 := (hs178.here).addNil 60 heldE rfl
    have hs181 := hs178.trans ht179
    have hl182 := run_loadA (P := Try.prog) (n := 57) ag62 (hs181.at (i := 1) (off := 0) (n := 57) (cs := (Value.bool Rw.none.is) :: ((encC Rw.none.cell) ++ ((Value.slice none (([] : List Hd).length) 0) :: []))) rfl rfl rfl) rfl
    have ht183 := (hs181.here).perm (L' := [gsl 60 heldE (Value.slice none 0 0) ([] : List Hd)]) (G := [blk b102 62 (encR p1 (Value.slice a1 p1.table.length c1)), blk b110 62 ((Value.bool Rw.none.is) :: ((encC Rw.none.cell) ++ ((Value.slice none (([] : List Hd).length) 0) :: [])))]) (((List.perm_middle (l₁ := [blk b102 62 (encR p1 (Value.slice a1 p1.table.length c1)), blk b110 62 ((Value.bool Rw.none.is) :: ((encC Rw.none.cell) ++ ((Value.slice none (([] : List Hd).length) 0) :: [])))]) (a := gsl 60 heldE (Value.slice none 0 0) ([] : List Hd)) (l₂ := [])).trans (List.Perm.cons _ (List.Perm.refl _))))
    have hs184 := hs181.trans ht183
    obtain rfl := Option.some.inj (show some (⟨Rw.none.is, Rw.none.cell, ([] : List Hd)⟩ : Rw) = some r from h173)
    exact retCell (P := Try.prog) (n := 22) (fn := Try.f69) (R := fun v w' => ∃ ra0, ∃ rc0, v = Value.agg (List.toArray (encR (⟨Rw.none.is, Rw.none.cell, ([] : List Hd)⟩ : Rw) (Value.slice ra0 (⟨Rw.none.is, Rw.none.cell, ([] : List Hd)⟩ : Rw).table.length rc0))) ∧ St [] w w' [gsl 60 heldE (Value.slice ra0 (⟨Rw.none.is, Rw.none.cell, ([] : List Hd)⟩ : Rw).table.length rc0) (⟨Rw.none.is, Rw.none.cell, ([] : List Hd)⟩ : Rw).table]) (t := 4) (v := Value.agg (List.toArray ((Value.bool Rw.none.is) :: ((encC Rw.none.cell) ++ ((Value.slice none (([] : List Hd).length) 0) :: []))))) rfl rfl rfl hl182 ⟨none, 0, rfl, hs184⟩

end Go.Proofs.Ytckcldimnelklaa
