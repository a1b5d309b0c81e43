/- The functions come to what their twins answer: group 13d. -/
import Derived.Test.YtckcldimnelklaaW13ba
import Derived.Test.YtckcldimnelklaaD13d
namespace Go.Proofs.Ytckcldimnelklaa
open Go
set_option linter.unusedVariables false
set_option linter.unusedSimpArgs false
set_option maxRecDepth 100000
set_option maxHeartbeats 4000000

theorem idle13_ok (w : World) (ok : Nat → Prop) (p0 : Int) (p1 : (List Rw)) (a1 : Option Addr) (c1 : Nat) (he1 : elems rowW w ok a1 p1) (hc1 : p1.length ≤ c1) {r : Bool} (h : idle13 p0 p1 = some r) :
    Ret Try.prog 14 [Value.int .u8 p0, Value.agg (List.toArray [Value.slice a1 p1.length c1])] w (fun v w' => v = Value.bool r ∧ St [] w w' []) := by
  rw [idle13] at h
  have hs100 : St [] w w [] := St.start w
  have he1001 := el0 (L0 := []) (fun b _ => out_nil b) he1
  refine enter (n := 187) Try.func14 rfl rfl rfl ?_
  refine WC.seq ?_
  refine WC.region ?_
  refine WL.new (L' := fun b102 => [blk b102 25 [Value.slice a1 p1.length c1]]) (f := fun b102 => Value.pointer (some ⟨b102, 0, none⟩)) (X.box (v := Value.agg (List.toArray [Value.slice a1 p1.length c1])) (c := [Value.slice a1 p1.length c1]) (hs100.here) rfl rfl (fun _ => rfl)) rfl ?_
  intro b102 w103 ht108 he105 hz106
  have hs109 := hs100.trans ht108
  refine WL.val (R.assign (v := Value.bool false) rfl) rfl ?_
  refine WL.nil ?_
  refine thenN ?_
  refine WC.seq ?_
  refine WC.seq ?_
  refine WC.region ?_
  refine WL.val (R.loadA (cs := [Value.slice a1 p1.length c1]) (n := 1) ag25 rfl (hs109.at (i := 0) (off := 0) (n := 1) (cs := [Value.slice a1 p1.length c1]) rfl rfl rfl) rfl) rfl ?_
  obtain ⟨y110, hx111, h112⟩ := ob (o := great13 p1) h
  have hr113 := elT ht108 he1001
  refine WL.call (great13_ok _ _ p1 _ _ hr113 hc1 hx111) (R.call (vs := [Value.agg (List.toArray [Value.slice a1 p1.length c1])]) (caps := []) bo30 rfl rfl) rfl ?_
  rintro v116 w117 ⟨rfl, ht114⟩
  have ht115 := hs109.call (N := [blk b102 25 [Value.slice a1 p1.length c1]]) (M := []) (List.Perm.refl _) ht114
  have hs118 := hs109.trans ht115
  refine WL.nil ?_
  refine thenN ?_
  by_cases hc119 : y110 = true
  · have h120 := ifT hc119 h112
    refine WC.condT (Eq.trans (show _ = Value.bool y110 from rfl) (congrArg Value.bool hc119)) rfl ?_
    refine WC.seq ?_
    refine WC.region ?_
    obtain ⟨y121, hx122, h123⟩ := ob (o := lives13 ) h120
    refine WL.call (lives13_ok _ (In ok w [] [blk b102 25 [Value.slice a1 p1.length c1]])   hx122) (R.call (vs := []) (caps := []) bo60 rfl rfl) rfl ?_
    rintro v126 w127 ⟨rfl, ht124⟩
    have ht125 := hs118.call (N := [blk b102 25 [Value.slice a1 p1.length c1]]) (M := []) (List.Perm.refl _) ht124
    have hs128 := hs118.trans ht125
    refine WL.val (R.assign (v := Value.bool y121) rfl) rfl ?_
    refine WL.nil ?_
    refine thenN ?_
    refine WC.ret ?_
    have ht129 := (hs128.here).perm (L' := []) (G := [blk b102 25 [Value.slice a1 p1.length c1]]) ((List.Perm.refl _))
    have hs130 := hs128.trans ht129
    obtain rfl := Option.some.inj (show some y121 = some r from h123)
    exact ret1 (P := Try.prog) (n := 187) (fn := Try.f14) (R := fun v w' => v = Value.bool y121 ∧ St [] w w' []) (t := 4) (v := Value.bool y121) rfl rfl rfl ⟨rfl, hs130⟩
  · have h131 := ifF hc119 h112
    refine WC.condF (Eq.trans (show _ = Value.bool y110 from rfl) (congrArg Value.bool (Bool.eq_false_iff.2 hc119))) rfl ?_
    refine WC.skip ?_
    refine thenN ?_
    refine WC.seq ?_
    refine WC.region ?_
    refine WL.val (R.move (v := Value.int .u8 p0) rfl) rfl ?_
    obtain ⟨hg132, h133⟩ := ckE (c := -9223372036854775808 ≤ p0 ∧ p0 ≤ 9223372036854775807) h131
    refine WL.val (R.convII (n := p0) (z := p0) un5 un3 rfl (w64 hg132.1 hg132.2)) rfl ?_
    obtain ⟨hg134, h135⟩ := ckE (c := 0 ≤ p0 ∧ 0 < (17 : Int) ∧ (17 : Int) ≤ 9223372036854775807) h133
    refine WL.val (R.remG (a := p0) (b := 17) rfl rfl hg134 (by decide)) rfl ?_
    refine WL.val (R.assign (v := Value.int .i64 (p0 % 17)) rfl) rfl ?_
    refine WL.nil ?_
    refine thenN ?_
    refine WC.seq ?_
    refine WC.region ?_
    refine WL.val (R.move (v := Value.int .i64 (p0 % 17)) rfl) rfl ?_
    refine WL.val (R.loadA (cs := [Value.slice a1 p1.length c1]) (n := 1) ag25 rfl (hs118.at (i := 0) (off := 0) (n := 1) (cs := [Value.slice a1 p1.length c1]) rfl rfl rfl) rfl) rfl ?_
    obtain ⟨y136, hx137, h138⟩ := ob (o := norm13 (p0 % 17) p1) h135
    have hr139 := elT ht115 hr113
    refine WL.call (norm13_ok _ _ (p0 % 17) p1 _ _ hr139 hc1 hx137) (R.call (vs := [Value.int .i64 (p0 % 17), Value.agg (List.toArray [Value.slice a1 p1.length c1])]) (caps := []) bo61 rfl rfl) rfl ?_
    rintro v146 w147 ⟨a142, c143, rfl, hl144, he145, ht140⟩
    have ht141 := hs118.call (N := [blk b102 25 [Value.slice a1 p1.length c1]]) (M := []) (List.Perm.refl _) ht140
    have he148 := elC hs118 (M := []) (List.Perm.refl _) ht140 he145
    have hs149 := hs118.trans ht141
    refine WL.new (L' := fun b151 => [blk b102 25 [Value.slice a1 p1.length c1], blk b151 25 [Value.slice none 0 0]]) (f := fun b151 => Value.pointer (some ⟨b151, 0, none⟩)) (X.alloc (c := [Value.slice none 0 0]) (hs149.here) zr25 rfl (fun _ => rfl)) rfl ?_
    intro b151 w152 ht157 he154 hz155
    have hs158 := hs149.trans ht157
    refine WL.sto (L' := [blk b102 25 [Value.slice a1 p1.length c1], blk b151 25 [Value.slice a142 y136.length c143]]) (X.store (i := 1) (n := 1) (b := b151) (off := 0) (c := [Value.slice none 0 0]) (U := 25) (vs := [Value.slice a142 y136.length c143]) (v := Value.agg (List.toArray [Value.slice a142 y136.length c143])) (c' := [Value.slice a142 y136.length c143]) (hs158.here) rfl ag25.size rfl rfl rfl rfl rfl rfl rfl rfl) rfl rfl ?_
    intro w159 ht160
    have hs161 := hs158.trans ht160
    refine WL.nil ?_
    refine thenN ?_
    refine WC.seq ?_
    refine WC.region ?_
    refine WL.val (R.move (v := Value.int .i64 (p0 % 17)) rfl) rfl ?_
    refine WL.val (R.loadA (cs := [Value.slice a142 y136.length c143]) (n := 1) ag25 rfl (hs161.at (i := 1) (off := 0) (n := 1) (cs := [Value.slice a142 y136.length c143]) rfl rfl rfl) rfl) rfl ?_
    obtain ⟨y162, hx163, h164⟩ := ob (o := norm13 (p0 % 17) y136) h138
    have hr165 := elT (ht157.trans ht160) he148
    refine WL.call (norm13_ok _ _ (p0 % 17) y136 _ _ hr165 hl144 hx163) (R.call (vs := [Value.int .i64 (p0 % 17), Value.agg (List.toArray [Value.slice a142 y136.length c143])]) (caps := []) bo61 rfl rfl) rfl ?_
    rintro v172 w173 ⟨a168, c169, rfl, hl170, he171, ht166⟩
    have ht167 := hs161.call (N := [blk b102 25 [Value.slice a1 p1.length c1], blk b151 25 [Value.slice a142 y136.length c143]]) (M := []) (List.Perm.refl _) ht166
    have he174 := elC hs161 (M := []) (List.Perm.refl _) ht166 he171
    have hs175 := hs161.trans ht167
    refine WL.new (L' := fun b177 => [blk b102 25 [Value.slice a1 p1.length c1], blk b151 25 [Value.slice a142 y136.length c143], blk b177 25 [Value.slice none 0 0]]) (f := fun b177 => Value.pointer (some ⟨b177, 0, none⟩)) (X.alloc (c := [Value.slice none 0 0]) (hs175.here) zr25 rfl (fun _ => rfl)) rfl ?_
    intro b177 w178 ht183 he180 hz181
    have hs184 := hs175.trans ht183
    refine WL.sto (L' := [blk b102 25 [Value.slice a1 p1.length c1], blk b151 25 [Value.slice a142 y136.length c143], blk b177 25 [Value.slice a168 y162.length c169]]) (X.store (i := 2) (n := 1) (b := b177) (off := 0) (c := [Value.slice none 0 0]) (U := 25) (vs := [Value.slice a168 y162.length c169]) (v := Value.agg (List.toArray [Value.slice a168 y162.length c169])) (c' := [Value.slice a168 y162.length c169]) (hs184.here) rfl ag25.size rfl rfl rfl rfl rfl rfl rfl rfl) rfl rfl ?_
    intro w185 ht186
    have hs187 := hs184.trans ht186
    refine WL.nil ?_
    refine thenN ?_
    refine WC.seq ?_
    refine WC.seq ?_
    refine WC.region ?_
    refine WL.val (R.fieldAddr (o := 0) (o' := 0) fa25_0 rfl rfl) rfl ?_
    refine WL.val (R.loadL (v := Value.slice a142 y136.length c143) lf22 rfl (hs187.at (i := 1) (off := 0) (n := 1) (cs := [Value.slice a142 y136.length c143]) rfl rfl rfl)) rfl ?_
    refine WL.val (R.len (a := a142) (n := y136.length) (c := c143) un22 rfl) rfl ?_
    refine WL.val (R.move (v := Value.int .i64 (p0 % 17)) rfl) rfl ?_
    by_cases hc188 : ((y136.length : Nat) : Int) = (p0 % 17)
    · have h189 := ifT hc188 h164
      refine WL.val (R.neqF (k := .i64) (a := ((y136.length : Nat) : Int)) (b := p0 % 17) un3 rfl rfl (not_not_intro hc188)) rfl ?_
      refine WL.val (R.move (v := Value.bool false) rfl) rfl ?_
      refine WL.guardY (e := 30) rfl rfl rfl ?_
      refine WL.val (R.fieldAddr (o := 0) (o' := 0) fa25_0 rfl rfl) rfl ?_
      refine WL.guardY (e := 30) rfl rfl rfl ?_
      refine WL.val (R.loadL (v := Value.slice a168 y162.length c169) lf22 rfl (hs187.at (i := 2) (off := 0) (n := 1) (cs := [Value.slice a168 y162.length c169]) rfl rfl rfl)) rfl ?_
      refine WL.guardY (e := 30) rfl rfl rfl ?_
      refine WL.val (R.len (a := a168) (n := y162.length) (c := c169) un22 rfl) rfl ?_
      refine WL.guardY (e := 30) rfl rfl rfl ?_
      refine WL.val (R.move (v := Value.int .i64 (p0 % 17)) rfl) rfl ?_
      refine WL.guardY (e := 30) rfl rfl rfl ?_
      by_cases hc190 : ((y162.length : Nat) : Int) = (p0 % 17)
      · have h191 := ifT hc190 h189
        refine WL.val (R.neqF (k := .i64) (a := ((y162.length : Nat) : Int)) (b := p0 % 17) un3 rfl rfl (not_not_intro hc190)) rfl ?_
        refine WL.val (R.pickF (v := Value.bool false) rfl rfl) rfl ?_
        refine WL.nil ?_
        refine thenN ?_
        refine WC.condF rfl rfl ?_
        refine WC.skip ?_
        refine thenN ?_
        refine WC.seq ?_
        refine WC.seq ?_
        refine WC.region ?_
        refine WL.val (R.assign (v := Value.int .i64 0) rfl) rfl ?_
        refine WL.nil ?_
        refine thenN ?_
        have hr3238 := elT (((((ht141.trans ht157).trans ht160).trans ht167).trans ht183).trans ht186) hr139
        have hr3239 := elT ((ht167.trans ht183).trans ht186) hr165
        have hr3240 := elT (ht183.trans ht186) he174
        obtain ⟨K3228, hK3229, h3230⟩ := kE (G := fun K3228 => idle13_l1 p0 y136 y162 p1 K3228 1000000 0) h191
        refine WC.join (fun σ3242 w3241 => K3228 () = some r ∧ St [] w w3241 []) ?_ ?_
        · refine WC.block ?_
          refine WC.loop (T := Nat) (fun k3234 σ3232 w3231 => ∃ i3227 : Int, σ3232 3 = (Value.pointer (some ⟨b102, 0, none⟩)) ∧ σ3232 5 = (Value.int .i64 (p0 % 17)) ∧ σ3232 6 = (Value.pointer (some ⟨b151, 0, none⟩)) ∧ σ3232 7 = (Value.pointer (some ⟨b177, 0, none⟩)) ∧ σ3232 8 = (Value.int .i64 i3227) ∧ elems rowW w3231 (In ok w [] [blk b102 25 [Value.slice a1 p1.length c1], blk b151 25 [Value.slice a142 y136.length c143], blk b177 25 [Value.slice a168 y162.length c169]]) a1 p1 ∧ elems rowW w3231 (In ok w [] [blk b102 25 [Value.slice a1 p1.length c1], blk b151 25 [Value.slice a142 y136.length c143], blk b177 25 [Value.slice a168 y162.length c169]]) a142 y136 ∧ elems rowW w3231 (In ok w [] [blk b102 25 [Value.slice a1 p1.length c1], blk b151 25 [Value.slice a142 y136.length c143], blk b177 25 [Value.slice a168 y162.length c169]]) a168 y162 ∧ idle13_l1 p0 y136 y162 p1 K3228 k3234 i3227 = some r ∧ St [] w w3231 [blk b102 25 [Value.slice a1 p1.length c1], blk b151 25 [Value.slice a142 y136.length c143], blk b177 25 [Value.slice a168 y162.length c169]]) (fun k3234 => k3234) 1000000 ⟨0, rfl, rfl, rfl, rfl, rfl, hr3238, hr3239, hr3240, h3230, hs187⟩ ?_
          rintro k3234 σ3232 w3231 ⟨i3227, s3245, s3246, s3247, s3248, s3249, he3235, he3236, he3237, h3244, hs3233⟩
          rcases k3234 with _ | k3234
          · rw [idle13_l1] at h3244; cases h3244
          rw [idle13_l1] at h3244
          refine WC.seq ?_
          refine WC.seq ?_
          refine WC.region ?_
          refine WL.val (R.move (v := Value.int .i64 i3227) (by exact s3249)) rfl ?_
          refine WL.val (R.move (v := Value.int .i64 (p0 % 17)) (by exact s3246)) rfl ?_
          by_cases hc3250 : i3227 < (p0 % 17)
          · have h3251 := ifT hc3250 h3244
            refine WL.val (R.lssT (k := .i64) (a := i3227) (b := p0 % 17) un3 rfl rfl hc3250) rfl ?_
            refine WL.nil ?_
            refine thenN ?_
            refine WC.condT rfl rfl ?_
            refine WC.skip ?_
            refine thenN ?_
            refine WC.seq ?_
            refine WC.block ?_
            refine WC.seq ?_
            refine WC.region ?_
            refine WL.val (R.fieldAddr (o := 0) (o' := 0) fa25_0 (by exact s3247) rfl) rfl ?_
            refine WL.val (R.loadL (v := Value.slice a142 y136.length c143) lf22 rfl (hs3233.at (i := 1) (off := 0) (n := 1) (cs := [Value.slice a142 y136.length c143]) rfl rfl rfl)) rfl ?_
            refine WL.val (R.move (v := Value.int .i64 i3227) (by exact s3249)) rfl ?_
            obtain ⟨x3252, hx3253, h3254⟩ := ob (o := rd y136 i3227) h3251
            obtain ⟨h03255, hx3256, hl3257, hm3258⟩ := rdE hx3253
            obtain ⟨ad3259, e3264, ha3260, hp3261, hat3262, hrd3263⟩ := he3236 _ _ hx3256
            obtain ⟨t3265, rfl, a3267, c3268, he3271, hl3269, he3270⟩ := hrd3263
            cases he3271
            refine WL.val (R.indexS (n := 57) (m := (i3227).toNat) (a := a142) (ad := ad3259) (len := y136.length) (cap := c143) (z := i3227) un22 ag62.size rfl ha3260 rfl hm3258 hl3257 hp3261) rfl ?_
            refine WL.val (R.loadA (cs := encR x3252 (Value.slice a3267 x3252.table.length c3268)) (n := 57) ag62 rfl hat3262 rfl) rfl ?_
            refine WL.new (L' := fun b3274 => [blk b102 25 [Value.slice a1 p1.length c1], blk b151 25 [Value.slice a142 y136.length c143], blk b177 25 [Value.slice a168 y162.length c169], blk b3274 62 (encR Rw.none (Value.slice none 0 0))]) (f := fun b3274 => Value.pointer (some ⟨b3274, 0, none⟩)) (X.alloc (c := encR Rw.none (Value.slice none 0 0)) (hs3233.here) zr62 rfl (fun _ => rfl)) rfl ?_
            intro b3274 w3275 ht3280 he3277 hz3278
            have hs3281 := hs3233.trans ht3280
            refine WL.sto (L' := [blk b102 25 [Value.slice a1 p1.length c1], blk b151 25 [Value.slice a142 y136.length c143], blk b177 25 [Value.slice a168 y162.length c169], blk b3274 62 (encR x3252 (Value.slice a3267 x3252.table.length c3268))]) (X.store (i := 3) (n := 57) (b := b3274) (off := 0) (c := encR Rw.none (Value.slice none 0 0)) (U := 62) (vs := encR x3252 (Value.slice a3267 x3252.table.length c3268)) (v := Value.agg (List.toArray (encR x3252 (Value.slice a3267 x3252.table.length c3268)))) (c' := encR x3252 (Value.slice a3267 x3252.table.length c3268)) (hs3281.here) rfl ag62.size rfl rfl rfl rfl rfl rfl rfl rfl) rfl rfl ?_
            intro w3282 ht3283
            have hs3284 := hs3281.trans ht3283
            refine WL.nil ?_
            refine thenN ?_
            refine WC.seq ?_
            refine WC.seq ?_
            refine WC.drawE mixed (NP.then (NP.then (NP.block (NP.then (NP.then (NP.block (NP.join (NP.then NP.rq)))))))) ?_
            have ht3285 := (hs3284.here).ext (Ext.drew _)
            have hs3286 := hs3284.trans ht3285
            refine WE.take 0 rfl (by decide +kernel) (by decide +kernel) (by decide +kernel) (by decide +kernel) rfl rfl (fun wq hq => R.loadA (cs := encR x3252 (Value.slice a3267 x3252.table.length c3268)) (n := 57) ag62 rfl ((hs3286.ext hq).at (i := 3) (off := 0) (n := 57) (cs := encR x3252 (Value.slice a3267 x3252.table.length c3268)) rfl rfl rfl) rfl) ?_
            refine WE.take 1 rfl (by decide +kernel) (by decide +kernel) (by decide +kernel) (by decide +kernel) rfl rfl (fun wq hq => R.fieldAddr (o := 0) (o' := 0) fa25_0 (by exact s3248) rfl) ?_
            refine WE.take 2 rfl (by decide +kernel) (by decide +kernel) (by decide +kernel) (by decide +kernel) rfl rfl (fun wq hq => R.loadL (v := Value.slice a168 y162.length c169) lf22 rfl ((hs3286.ext hq).at (i := 2) (off := 0) (n := 1) (cs := [Value.slice a168 y162.length c169]) rfl rfl rfl)) ?_
            refine WE.take 3 rfl (by decide +kernel) (by decide +kernel) (by decide +kernel) (by decide +kernel) rfl rfl (fun wq hq => R.move (v := Value.int .i64 i3227) (by exact s3249)) ?_
            obtain ⟨x3287, hx3288, h3289⟩ := ob (o := rd y162 i3227) h3254
            obtain ⟨h03290, hx3291, hl3292, hm3293⟩ := rdE hx3288
            have hr3294 := elT ((ht3280.trans ht3283).trans ht3285) he3237
            obtain ⟨ad3295, e3300, ha3296, hp3297, hat3298, hrd3299⟩ := hr3294 _ _ hx3291
            obtain ⟨t3301, rfl, a3303, c3304, he3307, hl3305, he3306⟩ := hrd3299
            cases he3307
            refine WE.take 4 rfl (by decide +kernel) (by decide +kernel) (by decide +kernel) (by decide +kernel) rfl rfl (fun wq hq => R.indexS (n := 57) (m := (i3227).toNat) (a := a168) (ad := ad3295) (len := y162.length) (cap := c169) (z := i3227) un22 ag62.size rfl ha3296 rfl hm3293 hl3292 hp3297) ?_
            refine WE.take 5 rfl (by decide +kernel) (by decide +kernel) (by decide +kernel) (by decide +kernel) rfl rfl (fun wq hq => R.loadA (cs := encR x3287 (Value.slice a3303 x3287.table.length c3304)) (n := 57) ag62 rfl (At.exT hq hat3298) rfl) ?_
            obtain ⟨y3310, hx3311, h3312⟩ := ob (o := same13 x3252 x3287) h3289
            have hr3313 := elT ((ht3280.trans ht3283).trans ht3285) he3270
            refine WE.call 6 (by decide +kernel) rfl rfl rfl (same13_ok _ _ x3252 x3287 _ _ hr3313 hl3269 _ _ he3306 hl3305 hx3311) (R.call (vs := [Value.agg (List.toArray (encR x3252 (Value.slice a3267 x3252.table.length c3268))), Value.agg (List.toArray (encR x3287 (Value.slice a3303 x3287.table.length c3304)))]) (caps := []) bo65 rfl rfl) ?_
            rintro v3316 w3317 ⟨rfl, ht3314⟩
            refine ⟨.inr (show Ext _ _ from ht3314.kept), ?_⟩
            have ht3315 := hs3286.call (N := [blk b102 25 [Value.slice a1 p1.length c1], blk b151 25 [Value.slice a142 y136.length c143], blk b177 25 [Value.slice a168 y162.length c169], blk b3274 62 (encR x3252 (Value.slice a3267 x3252.table.length c3268))]) (M := []) (List.Perm.refl _) ht3314
            have hs3318 := hs3286.trans ht3315
            refine WE.take 7 rfl (by decide +kernel) (by decide +kernel) (by decide +kernel) (by decide +kernel) rfl rfl (fun wq hq => R.not (b := y3310) rfl) ?_
            refine WE.take 8 rfl (by decide +kernel) (by decide +kernel) (by decide +kernel) (by decide +kernel) rfl rfl (fun wq hq => R.move (v := Value.bool (!y3310)) rfl) ?_
            by_cases hc3319 : y3310 = true
            · have h3320 := ifT hc3319 h3312
              have hk3321 : (!y3310) = false := by simp [hc3319]
              refine WE.takeY 9 (e := 55) rfl (by decide +kernel) (by decide +kernel) (by decide +kernel) (by decide +kernel) rfl rfl rfl rfl (Eq.trans (show _ = Value.bool (!y3310) from rfl) (congrArg Value.bool hk3321)) (fun wq hq => R.fieldAddr (o := 0) (o' := 0) fa62_0 rfl rfl) ?_
              refine WE.takeY 10 (e := 55) rfl (by decide +kernel) (by decide +kernel) (by decide +kernel) (by decide +kernel) rfl rfl rfl rfl (Eq.trans (show _ = Value.bool (!y3310) from rfl) (congrArg Value.bool hk3321)) (fun wq hq => R.loadL (v := Value.bool x3252.is) lf4 rfl ((hs3318.ext hq).at (i := 3) (off := 0) (n := 1) (cs := [Value.bool x3252.is]) rfl rfl rfl)) ?_
              refine WE.takeY 11 (e := 55) rfl (by decide +kernel) (by decide +kernel) (by decide +kernel) (by decide +kernel) rfl rfl rfl rfl (Eq.trans (show _ = Value.bool (!y3310) from rfl) (congrArg Value.bool hk3321)) (fun wq hq => R.move (v := Value.int .i64 i3227) (by exact s3249)) ?_
              refine WE.takeY 12 (e := 55) rfl (by decide +kernel) (by decide +kernel) (by decide +kernel) (by decide +kernel) rfl rfl rfl rfl (Eq.trans (show _ = Value.bool (!y3310) from rfl) (congrArg Value.bool hk3321)) (fun wq hq => R.fieldAddr (o := 0) (o' := 0) fa25_0 (by exact s3245) rfl) ?_
              refine WE.takeY 13 (e := 55) rfl (by decide +kernel) (by decide +kernel) (by decide +kernel) (by decide +kernel) rfl rfl rfl rfl (Eq.trans (show _ = Value.bool (!y3310) from rfl) (congrArg Value.bool hk3321)) (fun wq hq => R.loadL (v := Value.slice a1 p1.length c1) lf22 rfl ((hs3318.ext hq).at (i := 0) (off := 0) (n := 1) (cs := [Value.slice a1 p1.length c1]) rfl rfl rfl)) ?_
              refine WE.takeY 14 (e := 55) rfl (by decide +kernel) (by decide +kernel) (by decide +kernel) (by decide +kernel) rfl rfl rfl rfl (Eq.trans (show _ = Value.bool (!y3310) from rfl) (congrArg Value.bool hk3321)) (fun wq hq => R.len (a := a1) (n := p1.length) (c := c1) un22 rfl) ?_
              by_cases hc3322 : i3227 < ((p1.length : Nat) : Int)
              · have h3323 := ifT hc3322 h3320
                refine WE.takeY 15 (e := 55) rfl (by decide +kernel) (by decide +kernel) (by decide +kernel) (by decide +kernel) rfl rfl rfl rfl (Eq.trans (show _ = Value.bool (!y3310) from rfl) (congrArg Value.bool hk3321)) (fun wq hq => R.lssT (k := .i64) (a := i3227) (b := ((p1.length : Nat) : Int)) un3 rfl rfl hc3322) ?_
                refine WE.takeY 16 (e := 55) rfl (by decide +kernel) (by decide +kernel) (by decide +kernel) (by decide +kernel) rfl rfl rfl rfl (Eq.trans (show _ = Value.bool (!y3310) from rfl) (congrArg Value.bool hk3321)) (fun wq hq => R.move (v := Value.bool true) rfl) ?_
                refine WE.takeY 17 (e := 63) rfl (by decide +kernel) (by decide +kernel) (by decide +kernel) (by decide +kernel) rfl rfl rfl rfl rfl (fun wq hq => R.fieldAddr (o := 0) (o' := 0) fa25_0 (by exact s3245) rfl) ?_
                refine WE.takeY 18 (e := 63) rfl (by decide +kernel) (by decide +kernel) (by decide +kernel) (by decide +kernel) rfl rfl rfl rfl rfl (fun wq hq => R.loadL (v := Value.slice a1 p1.length c1) lf22 rfl ((hs3318.ext hq).at (i := 0) (off := 0) (n := 1) (cs := [Value.slice a1 p1.length c1]) rfl rfl rfl)) ?_
                refine WE.takeY 19 (e := 63) rfl (by decide +kernel) (by decide +kernel) (by decide +kernel) (by decide +kernel) rfl rfl rfl rfl rfl (fun wq hq => R.move (v := Value.int .i64 i3227) (by exact s3249)) ?_
                obtain ⟨x3324, hx3325, h3326⟩ := ob (o := rd p1 i3227) h3323
                obtain ⟨h03327, hx3328, hl3329, hm3330⟩ := rdE hx3325
                have hr3331 := elT (((ht3280.trans ht3283).trans ht3285).trans ht3315) he3235
                obtain ⟨ad3332, e3337, ha3333, hp3334, hat3335, hrd3336⟩ := hr3331 _ _ hx3328
                obtain ⟨t3338, rfl, a3340, c3341, he3344, hl3342, he3343⟩ := hrd3336
                cases he3344
                refine WE.takeY 20 (e := 63) rfl (by decide +kernel) (by decide +kernel) (by decide +kernel) (by decide +kernel) rfl rfl rfl rfl rfl (fun wq hq => R.indexS (n := 57) (m := (i3227).toNat) (a := a1) (ad := ad3332) (len := p1.length) (cap := c1) (z := i3227) un22 ag62.size rfl ha3333 rfl hm3330 hl3329 hp3334) ?_
                refine WE.takeY 21 (e := 63) rfl (by decide +kernel) (by decide +kernel) (by decide +kernel) (by decide +kernel) rfl rfl rfl rfl rfl (fun wq hq => R.fieldAddr (o := ad3332.off + (i3227).toNat * 57) (o' := ad3332.off + (i3227).toNat * 57) fa62_0 rfl rfl) ?_
                refine WE.takeY 22 (e := 63) rfl (by decide +kernel) (by decide +kernel) (by decide +kernel) (by decide +kernel) rfl rfl rfl rfl rfl (fun wq hq => R.loadL (v := Value.bool x3324.is) lf4 rfl (At.sub (a := ⟨ad3332.block, ad3332.off + (i3227).toNat * 57, none⟩) (off := 0) (n := 1) (cs := encR x3324 (Value.slice a3340 x3324.table.length c3341)) (ds := [Value.bool x3324.is]) (At.exT hq hat3335) rfl rfl)) ?_
                refine WE.takeY 23 (e := 55) rfl (by decide +kernel) (by decide +kernel) (by decide +kernel) (by decide +kernel) rfl rfl rfl rfl (Eq.trans (show _ = Value.bool (!y3310) from rfl) (congrArg Value.bool hk3321)) (fun wq hq => R.pickT (v := Value.bool x3324.is) rfl rfl) ?_
                by_cases hc3347 : x3252.is = true
                · have h3348 := ifT hc3347 h3326
                  by_cases hc3349 : x3324.is = true
                  · have h3350 := ifT hc3349 h3348
                    refine WE.takeY 24 (e := 55) rfl (by decide +kernel) (by decide +kernel) (by decide +kernel) (by decide +kernel) rfl rfl rfl rfl (Eq.trans (show _ = Value.bool (!y3310) from rfl) (congrArg Value.bool hk3321)) (fun wq hq => R.neB (a := true) (b := true) un4 (Eq.trans (show _ = Value.bool x3252.is from rfl) (congrArg Value.bool hc3347)) (Eq.trans (show _ = Value.bool x3324.is from rfl) (congrArg Value.bool hc3349))) ?_
                    refine WE.take 25 rfl (by decide +kernel) (by decide +kernel) (by decide +kernel) (by decide +kernel) rfl rfl (fun wq hq => R.pickF (v := Value.bool false) (Eq.trans (show _ = Value.bool (!y3310) from rfl) (congrArg Value.bool hk3321)) rfl) ?_
                    refine WE.done (by decide +kernel) ?_
                    refine thenN ?_
                    refine WC.condF rfl rfl ?_
                    refine WC.skip ?_
                    refine thenN ?_
                    refine WC.seq ?_
                    refine WC.seq ?_
                    refine WC.region ?_
                    refine WL.val (R.fieldAddr (o := 0) (o' := 0) fa62_0 rfl rfl) rfl ?_
                    refine WL.val (R.loadL (v := Value.bool x3252.is) lf4 rfl (hs3318.at (i := 3) (off := 0) (n := 1) (cs := [Value.bool x3252.is]) rfl rfl rfl)) rfl ?_
                    refine WL.val (R.not (b := x3252.is) rfl) rfl ?_
                    refine WL.nil ?_
                    refine thenN ?_
                    have hk3351 : (!x3252.is) = false := by simp [hc3347]
                    refine WC.condF (Eq.trans (show _ = Value.bool (!x3252.is) from rfl) (congrArg Value.bool hk3351)) rfl ?_
                    refine WC.skip ?_
                    refine thenN ?_
                    refine WC.seq ?_
                    refine WC.seq ?_
                    refine WC.drawE mixed (NP.then (NP.then (NP.block (NP.then (NP.then (NP.block (NP.join (NP.then NP.rq)))))))) ?_
                    have ht3352 := (hs3318.here).ext (Ext.drew _)
                    have hs3353 := hs3318.trans ht3352
                    refine WE.take 0 rfl (by decide +kernel) (by decide +kernel) (by decide +kernel) (by decide +kernel) rfl rfl (fun wq hq => R.fieldAddr (o := 0) (o' := 56) fa62_2 rfl rfl) ?_
                    refine WE.take 1 rfl (by decide +kernel) (by decide +kernel) (by decide +kernel) (by decide +kernel) rfl rfl (fun wq hq => R.loadL (v := Value.slice a3267 x3252.table.length c3268) lf28 rfl ((hs3353.ext hq).at (i := 3) (off := 56) (n := 1) (cs := [Value.slice a3267 x3252.table.length c3268]) rfl rfl rfl)) ?_
                    refine WE.take 2 rfl (by decide +kernel) (by decide +kernel) (by decide +kernel) (by decide +kernel) rfl rfl (fun wq hq => R.len (a := a3267) (n := x3252.table.length) (c := c3268) un28 rfl) ?_
                    refine WE.take 3 rfl (by decide +kernel) (by decide +kernel) (by decide +kernel) (by decide +kernel) rfl rfl (fun wq hq => R.move (v := Value.int .i64 (p0 % 17)) (by exact s3246)) ?_
                    by_cases hc3354 : ((x3252.table.length : Nat) : Int) = (p0 % 17)
                    · have h3355 := ifT hc3354 h3350
                      refine WE.take 4 rfl (by decide +kernel) (by decide +kernel) (by decide +kernel) (by decide +kernel) rfl rfl (fun wq hq => R.neqF (k := .i64) (a := ((x3252.table.length : Nat) : Int)) (b := p0 % 17) un3 rfl rfl (not_not_intro hc3354)) ?_
                      refine WE.take 5 rfl (by decide +kernel) (by decide +kernel) (by decide +kernel) (by decide +kernel) rfl rfl (fun wq hq => R.move (v := Value.bool false) rfl) ?_
                      refine WE.takeY 6 (e := 91) rfl (by decide +kernel) (by decide +kernel) (by decide +kernel) (by decide +kernel) rfl rfl rfl rfl rfl (fun wq hq => R.fieldAddr (o := 0) (o' := 1) fa62_1 rfl rfl) ?_
                      refine WE.takeY 7 (e := 91) rfl (by decide +kernel) (by decide +kernel) (by decide +kernel) (by decide +kernel) rfl rfl rfl rfl rfl (fun wq hq => R.loadA (cs := encC x3252.cell) (n := 55) ag58 rfl ((hs3353.ext hq).at (i := 3) (off := 1) (n := 55) (cs := encC x3252.cell) rfl rfl rfl) rfl) ?_
                      obtain ⟨y3356, hx3357, h3358⟩ := ob (o := fine13 x3252.cell) h3355
                      refine WE.callY 8 (e := 91) (by decide +kernel) rfl rfl rfl rfl rfl rfl (fine13_ok _ (In ok w [] [blk b102 25 [Value.slice a1 p1.length c1], blk b151 25 [Value.slice a142 y136.length c143], blk b177 25 [Value.slice a168 y162.length c169], blk b3274 62 (encR x3252 (Value.slice a3267 x3252.table.length c3268))]) x3252.cell  hx3357) (R.call (vs := [Value.agg (List.toArray (encC x3252.cell))]) (caps := []) bo66 rfl rfl) ?_
                      rintro v3361 w3362 ⟨rfl, ht3359⟩
                      refine ⟨.inr (show Ext _ _ from ht3359.kept), ?_⟩
                      have ht3360 := hs3353.call (N := [blk b102 25 [Value.slice a1 p1.length c1], blk b151 25 [Value.slice a142 y136.length c143], blk b177 25 [Value.slice a168 y162.length c169], blk b3274 62 (encR x3252 (Value.slice a3267 x3252.table.length c3268))]) (M := []) (List.Perm.refl _) ht3359
                      have hs3363 := hs3353.trans ht3360
                      refine WE.takeY 9 (e := 91) rfl (by decide +kernel) (by decide +kernel) (by decide +kernel) (by decide +kernel) rfl rfl rfl rfl rfl (fun wq hq => R.not (b := y3356) rfl) ?_
                      refine WE.take 10 rfl (by decide +kernel) (by decide +kernel) (by decide +kernel) (by decide +kernel) rfl rfl (fun wq hq => R.pickF (v := Value.bool (!y3356)) rfl rfl) ?_
                      refine WE.take 11 rfl (by decide +kernel) (by decide +kernel) (by decide +kernel) (by decide +kernel) rfl rfl (fun wq hq => R.move (v := Value.bool (!y3356)) rfl) ?_
                      by_cases hc3364 : y3356 = true
                      · have h3365 := ifT hc3364 h3358
                        have hk3366 : (!y3356) = false := by simp [hc3364]
                        refine WE.takeY 12 (e := 97) rfl (by decide +kernel) (by decide +kernel) (by decide +kernel) (by decide +kernel) rfl rfl rfl rfl (Eq.trans (show _ = Value.bool (!y3356) from rfl) (congrArg Value.bool hk3366)) (fun wq hq => R.fieldAddr (o := 0) (o' := 0) fa25_0 (by exact s3245) rfl) ?_
                        refine WE.takeY 13 (e := 97) rfl (by decide +kernel) (by decide +kernel) (by decide +kernel) (by decide +kernel) rfl rfl rfl rfl (Eq.trans (show _ = Value.bool (!y3356) from rfl) (congrArg Value.bool hk3366)) (fun wq hq => R.loadL (v := Value.slice a1 p1.length c1) lf22 rfl ((hs3363.ext hq).at (i := 0) (off := 0) (n := 1) (cs := [Value.slice a1 p1.length c1]) rfl rfl rfl)) ?_
                        refine WE.takeY 14 (e := 97) rfl (by decide +kernel) (by decide +kernel) (by decide +kernel) (by decide +kernel) rfl rfl rfl rfl (Eq.trans (show _ = Value.bool (!y3356) from rfl) (congrArg Value.bool hk3366)) (fun wq hq => R.move (v := Value.int .i64 i3227) (by exact s3249)) ?_
                        refine WE.takeY 15 (e := 97) rfl (by decide +kernel) (by decide +kernel) (by decide +kernel) (by decide +kernel) rfl rfl rfl rfl (Eq.trans (show _ = Value.bool (!y3356) from rfl) (congrArg Value.bool hk3366)) (fun wq hq => R.indexS (n := 57) (m := (i3227).toNat) (a := a1) (ad := ad3332) (len := p1.length) (cap := c1) (z := i3227) un22 ag62.size rfl ha3333 rfl hm3330 hl3329 hp3334) ?_
                        refine WE.takeY 16 (e := 97) rfl (by decide +kernel) (by decide +kernel) (by decide +kernel) (by decide +kernel) rfl rfl rfl rfl (Eq.trans (show _ = Value.bool (!y3356) from rfl) (congrArg Value.bool hk3366)) (fun wq hq => R.fieldAddr (o := ad3332.off + (i3227).toNat * 57) (o' := ad3332.off + (i3227).toNat * 57 + 1) fa62_1 rfl rfl) ?_
                        have hr3367 := At.trT (ht3352.trans ht3360) hat3335
                        refine WE.takeY 17 (e := 97) rfl (by decide +kernel) (by decide +kernel) (by decide +kernel) (by decide +kernel) rfl rfl rfl rfl (Eq.trans (show _ = Value.bool (!y3356) from rfl) (congrArg Value.bool hk3366)) (fun wq hq => R.loadA (cs := encC x3324.cell) (n := 55) ag58 rfl (At.sub (a := ⟨ad3332.block, ad3332.off + (i3227).toNat * 57, none⟩) (off := 1) (n := 55) (cs := encR x3324 (Value.slice a3340 x3324.table.length c3341)) (ds := encC x3324.cell) (At.exT hq hr3367) rfl rfl) rfl) ?_
                        obtain ⟨y3368, hx3369, h3370⟩ := ob (o := fine13 x3324.cell) h3365
                        refine WE.callY 18 (e := 97) (by decide +kernel) rfl rfl rfl rfl rfl (Eq.trans (show _ = Value.bool (!y3356) from rfl) (congrArg Value.bool hk3366)) (fine13_ok _ (In ok w [] [blk b102 25 [Value.slice a1 p1.length c1], blk b151 25 [Value.slice a142 y136.length c143], blk b177 25 [Value.slice a168 y162.length c169], blk b3274 62 (encR x3252 (Value.slice a3267 x3252.table.length c3268))]) x3324.cell  hx3369) (R.call (vs := [Value.agg (List.toArray (encC x3324.cell))]) (caps := []) bo66 rfl rfl) ?_
                        rintro v3373 w3374 ⟨rfl, ht3371⟩
                        refine ⟨.inr (show Ext _ _ from ht3371.kept), ?_⟩
                        have ht3372 := hs3363.call (N := [blk b102 25 [Value.slice a1 p1.length c1], blk b151 25 [Value.slice a142 y136.length c143], blk b177 25 [Value.slice a168 y162.length c169], blk b3274 62 (encR x3252 (Value.slice a3267 x3252.table.length c3268))]) (M := []) (List.Perm.refl _) ht3371
                        have hs3375 := hs3363.trans ht3372
                        refine WE.takeY 19 (e := 97) rfl (by decide +kernel) (by decide +kernel) (by decide +kernel) (by decide +kernel) rfl rfl rfl rfl (Eq.trans (show _ = Value.bool (!y3356) from rfl) (congrArg Value.bool hk3366)) (fun wq hq => R.move (v := Value.bool y3368) rfl) ?_
                        by_cases hc3376 : y3368 = true
                        · have h3377 := ifT hc3376 h3370
                          refine WE.takeY 20 (e := 105) rfl (by decide +kernel) (by decide +kernel) (by decide +kernel) (by decide +kernel) rfl rfl rfl rfl (Eq.trans (show _ = Value.bool y3368 from rfl) (congrArg Value.bool hc3376)) (fun wq hq => R.fieldAddr (o := 0) (o' := 1) fa62_1 rfl rfl) ?_
                          refine WE.takeY 21 (e := 105) rfl (by decide +kernel) (by decide +kernel) (by decide +kernel) (by decide +kernel) rfl rfl rfl rfl (Eq.trans (show _ = Value.bool y3368 from rfl) (congrArg Value.bool hc3376)) (fun wq hq => R.loadA (cs := encC x3252.cell) (n := 55) ag58 rfl ((hs3375.ext hq).at (i := 3) (off := 1) (n := 55) (cs := encC x3252.cell) rfl rfl rfl) rfl) ?_
                          refine WE.takeY 22 (e := 105) rfl (by decide +kernel) (by decide +kernel) (by decide +kernel) (by decide +kernel) rfl rfl rfl rfl (Eq.trans (show _ = Value.bool y3368 from rfl) (congrArg Value.bool hc3376)) (fun wq hq => R.fieldAddr (o := 0) (o' := 0) fa25_0 (by exact s3245) rfl) ?_
                          refine WE.takeY 23 (e := 105) rfl (by decide +kernel) (by decide +kernel) (by decide +kernel) (by decide +kernel) rfl rfl rfl rfl (Eq.trans (show _ = Value.bool y3368 from rfl) (congrArg Value.bool hc3376)) (fun wq hq => R.loadL (v := Value.slice a1 p1.length c1) lf22 rfl ((hs3375.ext hq).at (i := 0) (off := 0) (n := 1) (cs := [Value.slice a1 p1.length c1]) rfl rfl rfl)) ?_
                          refine WE.takeY 24 (e := 105) rfl (by decide +kernel) (by decide +kernel) (by decide +kernel) (by decide +kernel) rfl rfl rfl rfl (Eq.trans (show _ = Value.bool y3368 from rfl) (congrArg Value.bool hc3376)) (fun wq hq => R.move (v := Value.int .i64 i3227) (by exact s3249)) ?_
                          refine WE.takeY 25 (e := 105) rfl (by decide +kernel) (by decide +kernel) (by decide +kernel) (by decide +kernel) rfl rfl rfl rfl (Eq.trans (show _ = Value.bool y3368 from rfl) (congrArg Value.bool hc3376)) (fun wq hq => R.indexS (n := 57) (m := (i3227).toNat) (a := a1) (ad := ad3332) (len := p1.length) (cap := c1) (z := i3227) un22 ag62.size rfl ha3333 rfl hm3330 hl3329 hp3334) ?_
                          refine WE.takeY 26 (e := 105) rfl (by decide +kernel) (by decide +kernel) (by decide +kernel) (by decide +kernel) rfl rfl rfl rfl (Eq.trans (show _ = Value.bool y3368 from rfl) (congrArg Value.bool hc3376)) (fun wq hq => R.fieldAddr (o := ad3332.off + (i3227).toNat * 57) (o' := ad3332.off + (i3227).toNat * 57 + 1) fa62_1 rfl rfl) ?_
                          have hr3378 := At.trT ht3372 hr3367
                          refine WE.takeY 27 (e := 105) rfl (by decide +kernel) (by decide +kernel) (by decide +kernel) (by decide +kernel) rfl rfl rfl rfl (Eq.trans (show _ = Value.bool y3368 from rfl) (congrArg Value.bool hc3376)) (fun wq hq => R.loadA (cs := encC x3324.cell) (n := 55) ag58 rfl (At.sub (a := ⟨ad3332.block, ad3332.off + (i3227).toNat * 57, none⟩) (off := 1) (n := 55) (cs := encR x3324 (Value.slice a3340 x3324.table.length c3341)) (ds := encC x3324.cell) (At.exT hq hr3378) rfl rfl) rfl) ?_
                          refine WE.takeY 28 (e := 105) rfl (by decide +kernel) (by decide +kernel) (by decide +kernel) (by decide +kernel) rfl rfl rfl rfl (Eq.trans (show _ = Value.bool y3368 from rfl) (congrArg Value.bool hc3376)) (fun wq hq => R.neCell (a := x3252.cell) (b := x3324.cell) rfl rfl) ?_
                          refine WE.takeY 29 (e := 97) rfl (by decide +kernel) (by decide +kernel) (by decide +kernel) (by decide +kernel) rfl rfl rfl rfl (Eq.trans (show _ = Value.bool (!y3356) from rfl) (congrArg Value.bool hk3366)) (fun wq hq => R.pickT (v := Value.bool (decide (¬ (x3252.cell = x3324.cell)))) (Eq.trans (show _ = Value.bool y3368 from rfl) (congrArg Value.bool hc3376)) rfl) ?_
                          refine WE.take 30 rfl (by decide +kernel) (by decide +kernel) (by decide +kernel) (by decide +kernel) rfl rfl (fun wq hq => R.pickF (v := Value.bool (decide (¬ (x3252.cell = x3324.cell)))) (Eq.trans (show _ = Value.bool (!y3356) from rfl) (congrArg Value.bool hk3366)) rfl) ?_
                          refine WE.done (by decide +kernel) ?_
                          refine thenN ?_
                          by_cases hc3379 : ¬ (x3252.cell = x3324.cell)
                          · have h3380 := ifT hc3379 h3377
                            refine WC.condT (Eq.trans (show _ = Value.bool (decide (¬ (x3252.cell = x3324.cell))) from rfl) (congrArg Value.bool (decide_eq_true hc3379))) rfl ?_
                            refine WC.seq ?_
                            refine WC.region ?_
                            refine WL.val (R.assign (v := Value.bool false) rfl) rfl ?_
                            refine WL.nil ?_
                            refine thenN ?_
                            refine WC.ret ?_
                            have ht3381 := (hs3375.here).perm (L' := []) (G := [blk b102 25 [Value.slice a1 p1.length c1], blk b151 25 [Value.slice a142 y136.length c143], blk b177 25 [Value.slice a168 y162.length c169], blk b3274 62 (encR x3252 (Value.slice a3267 x3252.table.length c3268))]) ((List.Perm.refl _))
                            have hs3382 := hs3375.trans ht3381
                            obtain rfl := Option.some.inj (show some false = some r from h3380)
                            exact ret1 (P := Try.prog) (n := 187) (fn := Try.f14) (R := fun v w' => v = Value.bool false ∧ St [] w w' []) (t := 4) (v := Value.bool false) rfl rfl rfl ⟨rfl, hs3382⟩
                          · have h3383 := ifF hc3379 h3377
                            refine WC.condF (Eq.trans (show _ = Value.bool (decide (¬ (x3252.cell = x3324.cell))) from rfl) (congrArg Value.bool (decide_eq_false hc3379))) rfl ?_
                            refine WC.skip ?_
                            refine thenN ?_
                            refine WC.seq ?_
                            refine WC.region ?_
                            refine WL.val (R.assign (v := Value.int .i64 0) rfl) rfl ?_
                            refine WL.nil ?_
                            refine thenN ?_
                            have hr3807 := elT ((ht3352.trans ht3360).trans ht3372) hr3331
                            have hr3808 := elT ((((((ht3280.trans ht3283).trans ht3285).trans ht3315).trans ht3352).trans ht3360).trans ht3372) he3236
                            have hr3809 := elT (((ht3315.trans ht3352).trans ht3360).trans ht3372) hr3294
                            have hr3810 := elT (((ht3315.trans ht3352).trans ht3360).trans ht3372) hr3313
                            obtain ⟨K3796, hK3797, h3798⟩ := kE (G := fun K3796 => idle13_l2 p0 x3252 p1 i3227 K3796 1000000 0) h3383
                            refine WC.join (fun σ3812 w3811 => σ3812 3 = (Value.pointer (some ⟨b102, 0, none⟩)) ∧ σ3812 5 = (Value.int .i64 (p0 % 17)) ∧ σ3812 6 = (Value.pointer (some ⟨b151, 0, none⟩)) ∧ σ3812 7 = (Value.pointer (some ⟨b177, 0, none⟩)) ∧ σ3812 8 = (Value.int .i64 i3227) ∧ elems rowW w3811 (In ok w [] [blk b102 25 [Value.slice a1 p1.length c1], blk b151 25 [Value.slice a142 y136.length c143], blk b177 25 [Value.slice a168 y162.length c169]]) a1 p1 ∧ elems rowW w3811 (In ok w [] [blk b102 25 [Value.slice a1 p1.length c1], blk b151 25 [Value.slice a142 y136.length c143], blk b177 25 [Value.slice a168 y162.length c169]]) a142 y136 ∧ elems rowW w3811 (In ok w [] [blk b102 25 [Value.slice a1 p1.length c1], blk b151 25 [Value.slice a142 y136.length c143], blk b177 25 [Value.slice a168 y162.length c169]]) a168 y162 ∧ K3796 () = some r ∧ St [] w w3811 [blk b102 25 [Value.slice a1 p1.length c1], blk b151 25 [Value.slice a142 y136.length c143], blk b177 25 [Value.slice a168 y162.length c169]]) ?_ ?_
                            · refine WC.block ?_
                              refine WC.loop (T := Nat) (fun k3802 σ3800 w3799 => ∃ i3795 : Int, σ3800 3 = (Value.pointer (some ⟨b102, 0, none⟩)) ∧ σ3800 5 = (Value.int .i64 (p0 % 17)) ∧ σ3800 6 = (Value.pointer (some ⟨b151, 0, none⟩)) ∧ σ3800 7 = (Value.pointer (some ⟨b177, 0, none⟩)) ∧ σ3800 8 = (Value.int .i64 i3227) ∧ σ3800 9 = (Value.pointer (some ⟨b3274, 0, none⟩)) ∧ σ3800 10 = (Value.int .i64 i3795) ∧ elems rowW w3799 (In ok w [] [blk b102 25 [Value.slice a1 p1.length c1], blk b151 25 [Value.slice a142 y136.length c143], blk b177 25 [Value.slice a168 y162.length c169], blk b3274 62 (encR x3252 (Value.slice a3267 x3252.table.length c3268))]) a1 p1 ∧ elems rowW w3799 (In ok w [] [blk b102 25 [Value.slice a1 p1.length c1], blk b151 25 [Value.slice a142 y136.length c143], blk b177 25 [Value.slice a168 y162.length c169], blk b3274 62 (encR x3252 (Value.slice a3267 x3252.table.length c3268))]) a142 y136 ∧ elems rowW w3799 (In ok w [] [blk b102 25 [Value.slice a1 p1.length c1], blk b151 25 [Value.slice a142 y136.length c143], blk b177 25 [Value.slice a168 y162.length c169], blk b3274 62 (encR x3252 (Value.slice a3267 x3252.table.length c3268))]) a168 y162 ∧ elems heldW w3799 (In ok w [] [blk b102 25 [Value.slice a1 p1.length c1], blk b151 25 [Value.slice a142 y136.length c143], blk b177 25 [Value.slice a168 y162.length c169], blk b3274 62 (encR x3252 (Value.slice a3267 x3252.table.length c3268))]) a3267 x3252.table ∧ idle13_l2 p0 x3252 p1 i3227 K3796 k3802 i3795 = some r ∧ St [] w w3799 [blk b102 25 [Value.slice a1 p1.length c1], blk b151 25 [Value.slice a142 y136.length c143], blk b177 25 [Value.slice a168 y162.length c169], blk b3274 62 (encR x3252 (Value.slice a3267 x3252.table.length c3268))]) (fun k3802 => k3802) 1000000 ⟨0, s3245, s3246, s3247, s3248, s3249, rfl, rfl, hr3807, hr3808, hr3809, hr3810, h3798, hs3375⟩ ?_
                              rintro k3802 σ3800 w3799 ⟨i3795, s3818, s3819, s3820, s3821, s3822, s3823, s3824, he3803, he3804, he3805, he3806, h3817, hs3801⟩
                              rcases k3802 with _ | k3802
                              · rw [idle13_l2] at h3817; cases h3817
                              rw [idle13_l2] at h3817
                              refine WC.seq ?_
                              refine WC.seq ?_
                              refine WC.region ?_
                              refine WL.val (R.move (v := Value.int .i64 i3795) (by exact s3824)) rfl ?_
                              refine WL.val (R.move (v := Value.int .i64 (p0 % 17)) (by exact s3819)) rfl ?_
                              by_cases hc3825 : i3795 < (p0 % 17)
                              · have h3826 := ifT hc3825 h3817
                                refine WL.val (R.lssT (k := .i64) (a := i3795) (b := p0 % 17) un3 rfl rfl hc3825) rfl ?_
                                refine WL.nil ?_
                                refine thenN ?_
                                refine WC.condT rfl rfl ?_
                                refine WC.skip ?_
                                refine thenN ?_
                                refine WC.seq ?_
                                refine WC.block ?_
                                refine WC.seq ?_
                                refine WC.region ?_
                                refine WL.val (R.fieldAddr (o := 0) (o' := 56) fa62_2 (by exact s3823) rfl) rfl ?_
                                refine WL.val (R.loadL (v := Value.slice a3267 x3252.table.length c3268) lf28 rfl (hs3801.at (i := 3) (off := 56) (n := 1) (cs := [Value.slice a3267 x3252.table.length c3268]) rfl rfl rfl)) rfl ?_
                                refine WL.val (R.move (v := Value.int .i64 i3795) (by exact s3824)) rfl ?_
                                obtain ⟨x3827, hx3828, h3829⟩ := ob (o := rd x3252.table i3795) h3826
                                obtain ⟨h03830, hx3831, hl3832, hm3833⟩ := rdE hx3828
                                obtain ⟨ad3834, e3839, ha3835, hp3836, hat3837, hrd3838⟩ := he3806 _ _ hx3831
                                obtain ⟨-, rfl⟩ := hrd3838
                                refine WL.val (R.indexS (n := 56) (m := (i3795).toNat) (a := a3267) (ad := ad3834) (len := x3252.table.length) (cap := c3268) (z := i3795) un28 ag60.size rfl ha3835 rfl hm3833 hl3832 hp3836) rfl ?_
                                refine WL.val (R.loadA (cs := encH x3827) (n := 56) ag60 rfl hat3837 rfl) rfl ?_
                                refine WL.new (L' := fun b3841 => [blk b102 25 [Value.slice a1 p1.length c1], blk b151 25 [Value.slice a142 y136.length c143], blk b177 25 [Value.slice a168 y162.length c169], blk b3274 62 (encR x3252 (Value.slice a3267 x3252.table.length c3268)), blk b3841 60 (encH Hd.none)]) (f := fun b3841 => Value.pointer (some ⟨b3841, 0, none⟩)) (X.alloc (c := encH Hd.none) (hs3801.here) zr60 rfl (fun _ => rfl)) rfl ?_
                                intro b3841 w3842 ht3847 he3844 hz3845
                                have hs3848 := hs3801.trans ht3847
                                refine WL.sto (L' := [blk b102 25 [Value.slice a1 p1.length c1], blk b151 25 [Value.slice a142 y136.length c143], blk b177 25 [Value.slice a168 y162.length c169], blk b3274 62 (encR x3252 (Value.slice a3267 x3252.table.length c3268)), blk b3841 60 (encH x3827)]) (X.store (i := 4) (n := 56) (b := b3841) (off := 0) (c := encH Hd.none) (U := 60) (vs := encH x3827) (v := Value.agg (List.toArray (encH x3827))) (c' := encH x3827) (hs3848.here) rfl ag60.size rfl rfl rfl rfl rfl rfl rfl rfl) rfl rfl ?_
                                intro w3849 ht3850
                                have hs3851 := hs3848.trans ht3850
                                refine WL.nil ?_
                                refine thenN ?_
                                refine WC.seq ?_
                                refine WC.region ?_
                                have hd3852 : ∀ w, (Instr.build 60 #[]).run Try.prog w = .ok (Value.agg (List.toArray (encH Hd.none))) w := fun _ => by kernel_rfl
                                refine WL.val (R.build (vs := []) rfl hd3852) rfl ?_
                                refine WL.new (L' := fun b3853 => [blk b102 25 [Value.slice a1 p1.length c1], blk b151 25 [Value.slice a142 y136.length c143], blk b177 25 [Value.slice a168 y162.length c169], blk b3274 62 (encR x3252 (Value.slice a3267 x3252.table.length c3268)), blk b3841 60 (encH x3827), blk b3853 60 (encH Hd.none)]) (f := fun b3853 => Value.pointer (some ⟨b3853, 0, none⟩)) (X.alloc (c := encH Hd.none) (hs3851.here) zr60 rfl (fun _ => rfl)) rfl ?_
                                intro b3853 w3854 ht3859 he3856 hz3857
                                have hs3860 := hs3851.trans ht3859
                                refine WL.sto (L' := [blk b102 25 [Value.slice a1 p1.length c1], blk b151 25 [Value.slice a142 y136.length c143], blk b177 25 [Value.slice a168 y162.length c169], blk b3274 62 (encR x3252 (Value.slice a3267 x3252.table.length c3268)), blk b3841 60 (encH x3827), blk b3853 60 (encH Hd.none)]) (X.store (i := 5) (n := 56) (b := b3853) (off := 0) (c := encH Hd.none) (U := 60) (vs := encH Hd.none) (v := Value.agg (List.toArray (encH Hd.none))) (c' := encH Hd.none) (hs3860.here) rfl ag60.size rfl rfl rfl rfl rfl rfl rfl rfl) rfl rfl ?_
                                intro w3861 ht3862
                                have hs3863 := hs3860.trans ht3862
                                refine WL.nil ?_
                                refine thenN ?_
                                obtain ⟨J3908, hJ3909, h3910⟩ := jnE h3829
                                refine WC.seq ?_
                                refine WC.join (fun σ3912 w3911 => ∃ d3907 : Hd, σ3912 3 = (Value.pointer (some ⟨b102, 0, none⟩)) ∧ σ3912 5 = (Value.int .i64 (p0 % 17)) ∧ σ3912 6 = (Value.pointer (some ⟨b151, 0, none⟩)) ∧ σ3912 7 = (Value.pointer (some ⟨b177, 0, none⟩)) ∧ σ3912 8 = (Value.int .i64 i3227) ∧ σ3912 9 = (Value.pointer (some ⟨b3274, 0, none⟩)) ∧ σ3912 10 = (Value.int .i64 i3795) ∧ σ3912 11 = (Value.pointer (some ⟨b3841, 0, none⟩)) ∧ σ3912 12 = (Value.pointer (some ⟨b3853, 0, none⟩)) ∧ elems rowW w3911 (In ok w [] [blk b102 25 [Value.slice a1 p1.length c1], blk b151 25 [Value.slice a142 y136.length c143], blk b177 25 [Value.slice a168 y162.length c169], blk b3274 62 (encR x3252 (Value.slice a3267 x3252.table.length c3268)), blk b3841 60 (encH x3827), blk b3853 60 (encH d3907)]) a1 p1 ∧ elems rowW w3911 (In ok w [] [blk b102 25 [Value.slice a1 p1.length c1], blk b151 25 [Value.slice a142 y136.length c143], blk b177 25 [Value.slice a168 y162.length c169], blk b3274 62 (encR x3252 (Value.slice a3267 x3252.table.length c3268)), blk b3841 60 (encH x3827), blk b3853 60 (encH d3907)]) a142 y136 ∧ elems rowW w3911 (In ok w [] [blk b102 25 [Value.slice a1 p1.length c1], blk b151 25 [Value.slice a142 y136.length c143], blk b177 25 [Value.slice a168 y162.length c169], blk b3274 62 (encR x3252 (Value.slice a3267 x3252.table.length c3268)), blk b3841 60 (encH x3827), blk b3853 60 (encH d3907)]) a168 y162 ∧ elems heldW w3911 (In ok w [] [blk b102 25 [Value.slice a1 p1.length c1], blk b151 25 [Value.slice a142 y136.length c143], blk b177 25 [Value.slice a168 y162.length c169], blk b3274 62 (encR x3252 (Value.slice a3267 x3252.table.length c3268)), blk b3841 60 (encH x3827), blk b3853 60 (encH d3907)]) a3267 x3252.table ∧ J3908 d3907 = some r ∧ St [] w w3911 [blk b102 25 [Value.slice a1 p1.length c1], blk b151 25 [Value.slice a142 y136.length c143], blk b177 25 [Value.slice a168 y162.length c169], blk b3274 62 (encR x3252 (Value.slice a3267 x3252.table.length c3268)), blk b3841 60 (encH x3827), blk b3853 60 (encH d3907)]) ?_ ?_
                                · refine WC.seq ?_
                                  refine WC.region ?_
                                  refine WL.val (R.move (v := Value.int .i64 i3795) (by exact s3824)) rfl ?_
                                  refine WL.val (R.fieldAddr (o := 0) (o' := 0) fa25_0 (by exact s3818) rfl) rfl ?_
                                  refine WL.val (R.loadL (v := Value.slice a1 p1.length c1) lf22 rfl (hs3863.at (i := 0) (off := 0) (n := 1) (cs := [Value.slice a1 p1.length c1]) rfl rfl rfl)) rfl ?_
                                  refine WL.val (R.move (v := Value.int .i64 i3227) (by exact s3822)) rfl ?_
                                  obtain ⟨x3918, hx3919, h3920⟩ := ob (o := rd p1 i3227) h3910
                                  obtain ⟨h03921, hx3922, hl3923, hm3924⟩ := rdE hx3919
                                  have hr3925 := elT (((ht3847.trans ht3850).trans ht3859).trans ht3862) he3803
                                  obtain ⟨ad3926, e3931, ha3927, hp3928, hat3929, hrd3930⟩ := hr3925 _ _ hx3922
                                  obtain ⟨t3932, rfl, a3934, c3935, he3938, hl3936, he3937⟩ := hrd3930
                                  cases he3938
                                  refine WL.val (R.indexS (n := 57) (m := (i3227).toNat) (a := a1) (ad := ad3926) (len := p1.length) (cap := c1) (z := i3227) un22 ag62.size rfl ha3927 rfl hm3924 hl3923 hp3928) rfl ?_
                                  refine WL.val (R.fieldAddr (o := ad3926.off + (i3227).toNat * 57) (o' := ad3926.off + (i3227).toNat * 57 + 56) fa62_2 rfl rfl) rfl ?_
                                  refine WL.val (R.loadL (v := Value.slice a3934 x3918.table.length c3935) lf28 rfl (At.sub (a := ⟨ad3926.block, ad3926.off + (i3227).toNat * 57, none⟩) (off := 56) (n := 1) (cs := encR x3918 (Value.slice a3934 x3918.table.length c3935)) (ds := [Value.slice a3934 x3918.table.length c3935]) hat3929 rfl rfl)) rfl ?_
                                  refine WL.val (R.len (a := a3934) (n := x3918.table.length) (c := c3935) un28 rfl) rfl ?_
                                  by_cases hc3941 : i3795 < ((x3918.table.length : Nat) : Int)
                                  · have h3942 := ifT hc3941 h3920
                                    refine WL.val (R.lssT (k := .i64) (a := i3795) (b := ((x3918.table.length : Nat) : Int)) un3 rfl rfl hc3941) rfl ?_
                                    refine WL.nil ?_
                                    refine thenN ?_
                                    refine WC.condT rfl rfl ?_
                                    refine WC.region ?_
                                    refine WL.val (R.fieldAddr (o := 0) (o' := 0) fa25_0 (by exact s3818) rfl) rfl ?_
                                    refine WL.val (R.loadL (v := Value.slice a1 p1.length c1) lf22 rfl (hs3863.at (i := 0) (off := 0) (n := 1) (cs := [Value.slice a1 p1.length c1]) rfl rfl rfl)) rfl ?_
                                    refine WL.val (R.move (v := Value.int .i64 i3227) (by exact s3822)) rfl ?_
                                    refine WL.val (R.indexS (n := 57) (m := (i3227).toNat) (a := a1) (ad := ad3926) (len := p1.length) (cap := c1) (z := i3227) un22 ag62.size rfl ha3927 rfl hm3924 hl3923 hp3928) rfl ?_
                                    refine WL.val (R.fieldAddr (o := ad3926.off + (i3227).toNat * 57) (o' := ad3926.off + (i3227).toNat * 57 + 56) fa62_2 rfl rfl) rfl ?_
                                    refine WL.val (R.loadL (v := Value.slice a3934 x3918.table.length c3935) lf28 rfl (At.sub (a := ⟨ad3926.block, ad3926.off + (i3227).toNat * 57, none⟩) (off := 56) (n := 1) (cs := encR x3918 (Value.slice a3934 x3918.table.length c3935)) (ds := [Value.slice a3934 x3918.table.length c3935]) hat3929 rfl rfl)) rfl ?_
                                    refine WL.val (R.move (v := Value.int .i64 i3795) (by exact s3824)) rfl ?_
                                    obtain ⟨x3943, hx3944, h3945⟩ := ob (o := rd x3918.table i3795) h3942
                                    obtain ⟨h03946, hx3947, hl3948, hm3949⟩ := rdE hx3944
                                    obtain ⟨ad3950, e3955, ha3951, hp3952, hat3953, hrd3954⟩ := he3937 _ _ hx3947
                                    obtain ⟨-, rfl⟩ := hrd3954
                                    refine WL.val (R.indexS (n := 56) (m := (i3795).toNat) (a := a3934) (ad := ad3950) (len := x3918.table.length) (cap := c3935) (z := i3795) un28 ag60.size rfl ha3951 rfl hm3949 hl3948 hp3952) rfl ?_
                                    refine WL.val (R.loadA (cs := encH x3943) (n := 56) ag60 rfl hat3953 rfl) rfl ?_
                                    refine WL.sto (L' := [blk b102 25 [Value.slice a1 p1.length c1], blk b151 25 [Value.slice a142 y136.length c143], blk b177 25 [Value.slice a168 y162.length c169], blk b3274 62 (encR x3252 (Value.slice a3267 x3252.table.length c3268)), blk b3841 60 (encH x3827), blk b3853 60 (encH x3943)]) (X.store (i := 5) (n := 56) (b := b3853) (off := 0) (c := encH Hd.none) (U := 60) (vs := encH x3943) (v := Value.agg (List.toArray (encH x3943))) (c' := encH x3943) (hs3863.here) rfl ag60.size rfl rfl rfl rfl rfl rfl rfl rfl) rfl rfl ?_
                                    intro w3957 ht3958
                                    have hs3959 := hs3863.trans ht3958
                                    refine WL.nil ?_
                                    have hr3960 := elT ht3958 hr3925
                                    have hr3961 := elT ((((ht3847.trans ht3850).trans ht3859).trans ht3862).trans ht3958) he3804
                                    have hr3962 := elT ((((ht3847.trans ht3850).trans ht3859).trans ht3862).trans ht3958) he3805
                                    have hr3963 := elT ((((ht3847.trans ht3850).trans ht3859).trans ht3862).trans ht3958) he3806
                                    exact joinI ⟨x3943, s3818, s3819, s3820, s3821, s3822, s3823, s3824, rfl, rfl, hr3960, hr3961, hr3962, hr3963, h3945, hs3959⟩
                                  · have h3964 := ifF hc3941 h3920
                                    refine WL.val (R.lssF (k := .i64) (a := i3795) (b := ((x3918.table.length : Nat) : Int)) un3 rfl rfl hc3941) rfl ?_
                                    refine WL.nil ?_
                                    refine thenN ?_
                                    refine WC.condF rfl rfl ?_
                                    refine WC.skip ?_
                                    have hr3965 := elT (((ht3847.trans ht3850).trans ht3859).trans ht3862) he3804
                                    have hr3966 := elT (((ht3847.trans ht3850).trans ht3859).trans ht3862) he3805
                                    have hr3967 := elT (((ht3847.trans ht3850).trans ht3859).trans ht3862) he3806
                                    exact joinI ⟨Hd.none, s3818, s3819, s3820, s3821, s3822, s3823, s3824, rfl, rfl, hr3925, hr3965, hr3966, hr3967, h3964, hs3863⟩
                                · rintro σ3912 w3911 ⟨d3907, s3969, s3970, s3971, s3972, s3973, s3974, s3975, s3976, s3977, he3914, he3915, he3916, he3917, h3968, hs3913⟩
                                  subst hJ3909
                                  refine thenN ?_
                                  refine WC.seq ?_
                                  refine WC.region ?_
                                  refine WL.val (R.fieldAddr (o := 0) (o' := 0) fa60_0 (by exact s3976) rfl) rfl ?_
                                  refine WL.val (R.loadL (v := Value.bool x3827.is) lf4 rfl (hs3913.at (i := 4) (off := 0) (n := 1) (cs := [Value.bool x3827.is]) rfl rfl rfl)) rfl ?_
                                  refine WL.val (R.fieldAddr (o := 0) (o' := 0) fa60_0 (by exact s3977) rfl) rfl ?_
                                  refine WL.val (R.loadL (v := Value.bool d3907.is) lf4 rfl (hs3913.at (i := 5) (off := 0) (n := 1) (cs := [Value.bool d3907.is]) rfl rfl rfl)) rfl ?_
                                  by_cases hc3978 : x3827.is = true
                                  · have h3979 := ifT hc3978 h3968
                                    by_cases hc3980 : d3907.is = true
                                    · have h3981 := ifT hc3980 h3979
                                      refine WL.val (R.neB (a := true) (b := true) un4 (Eq.trans (show _ = Value.bool x3827.is from rfl) (congrArg Value.bool hc3978)) (Eq.trans (show _ = Value.bool d3907.is from rfl) (congrArg Value.bool hc3980))) rfl ?_
                                      refine WL.val (R.move (v := Value.bool false) rfl) rfl ?_
                                      refine WL.guardY (e := 151) rfl rfl rfl ?_
                                      refine WL.val (R.fieldAddr (o := 0) (o' := 0) fa60_0 (by exact s3976) rfl) rfl ?_
                                      refine WL.guardY (e := 151) rfl rfl rfl ?_
                                      refine WL.val (R.loadL (v := Value.bool x3827.is) lf4 rfl (hs3913.at (i := 4) (off := 0) (n := 1) (cs := [Value.bool x3827.is]) rfl rfl rfl)) rfl ?_
                                      refine WL.guardY (e := 151) rfl rfl rfl ?_
                                      refine WL.val (R.move (v := Value.bool x3827.is) rfl) rfl ?_
                                      refine WL.guardY (e := 154) (Eq.trans (show _ = Value.bool x3827.is from rfl) (congrArg Value.bool hc3978)) rfl rfl ?_
                                      refine WL.val (R.fieldAddr (o := 0) (o' := 1) fa60_1 (by exact s3976) rfl) rfl ?_
                                      refine WL.guardY (e := 154) (Eq.trans (show _ = Value.bool x3827.is from rfl) (congrArg Value.bool hc3978)) rfl rfl ?_
                                      refine WL.val (R.loadA (cs := encC x3827.cell) (n := 55) ag58 rfl (hs3913.at (i := 4) (off := 1) (n := 55) (cs := encC x3827.cell) rfl rfl rfl) rfl) rfl ?_
                                      refine WL.guardY (e := 154) (Eq.trans (show _ = Value.bool x3827.is from rfl) (congrArg Value.bool hc3978)) rfl rfl ?_
                                      obtain ⟨y3982, hx3983, h3984⟩ := ob (o := fine13 x3827.cell) h3981
                                      refine WL.call (fine13_ok _ (In ok w [] [blk b102 25 [Value.slice a1 p1.length c1], blk b151 25 [Value.slice a142 y136.length c143], blk b177 25 [Value.slice a168 y162.length c169], blk b3274 62 (encR x3252 (Value.slice a3267 x3252.table.length c3268)), blk b3841 60 (encH x3827), blk b3853 60 (encH d3907)]) x3827.cell  hx3983) (R.call (vs := [Value.agg (List.toArray (encC x3827.cell))]) (caps := []) bo66 rfl rfl) rfl ?_
                                      rintro v3987 w3988 ⟨rfl, ht3985⟩
                                      have ht3986 := hs3913.call (N := [blk b102 25 [Value.slice a1 p1.length c1], blk b151 25 [Value.slice a142 y136.length c143], blk b177 25 [Value.slice a168 y162.length c169], blk b3274 62 (encR x3252 (Value.slice a3267 x3252.table.length c3268)), blk b3841 60 (encH x3827), blk b3853 60 (encH d3907)]) (M := []) (List.Perm.refl _) ht3985
                                      have hs3989 := hs3913.trans ht3986
                                      refine WL.guardY (e := 154) (Eq.trans (show _ = Value.bool x3827.is from rfl) (congrArg Value.bool hc3978)) rfl rfl ?_
                                      refine WL.val (R.not (b := y3982) rfl) rfl ?_
                                      refine WL.guardY (e := 151) rfl rfl rfl ?_
                                      refine WL.val (R.pickT (v := Value.bool (!y3982)) (Eq.trans (show _ = Value.bool x3827.is from rfl) (congrArg Value.bool hc3978)) rfl) rfl ?_
                                      refine WL.val (R.pickF (v := Value.bool (!y3982)) rfl rfl) rfl ?_
                                      refine WL.val (R.move (v := Value.bool (!y3982)) rfl) rfl ?_
                                      by_cases hc3990 : y3982 = true
                                      · have h3991 := ifT hc3990 h3984
                                        have hk3992 : (!y3982) = false := by simp [hc3990]
                                        refine WL.guardY (e := 161) (Eq.trans (show _ = Value.bool (!y3982) from rfl) (congrArg Value.bool hk3992)) rfl rfl ?_
                                        refine WL.val (R.fieldAddr (o := 0) (o' := 0) fa60_0 (by exact s3976) rfl) rfl ?_
                                        refine WL.guardY (e := 161) (Eq.trans (show _ = Value.bool (!y3982) from rfl) (congrArg Value.bool hk3992)) rfl rfl ?_
                                        refine WL.val (R.loadL (v := Value.bool x3827.is) lf4 rfl (hs3989.at (i := 4) (off := 0) (n := 1) (cs := [Value.bool x3827.is]) rfl rfl rfl)) rfl ?_
                                        refine WL.guardY (e := 161) (Eq.trans (show _ = Value.bool (!y3982) from rfl) (congrArg Value.bool hk3992)) rfl rfl ?_
                                        refine WL.val (R.not (b := x3827.is) rfl) rfl ?_
                                        refine WL.guardY (e := 161) (Eq.trans (show _ = Value.bool (!y3982) from rfl) (congrArg Value.bool hk3992)) rfl rfl ?_
                                        refine WL.val (R.move (v := Value.bool (!x3827.is)) rfl) rfl ?_
                                        have hk3993 : (!x3827.is) = false := by simp [hc3978]
                                        refine WL.guardN (e := 165) (v := .bool false) (Eq.trans (show _ = Value.bool (!x3827.is) from rfl) (congrArg Value.bool hk3993)) rfl rfl rfl ?_
                                        refine WL.guardN (e := 165) (v := .bool false) (Eq.trans (show _ = Value.bool (!x3827.is) from rfl) (congrArg Value.bool hk3993)) rfl rfl rfl ?_
                                        refine WL.guardN (e := 165) (v := .bool false) (Eq.trans (show _ = Value.bool (!x3827.is) from rfl) (congrArg Value.bool hk3993)) rfl rfl rfl ?_
                                        refine WL.guardN (e := 165) (v := .bool false) (Eq.trans (show _ = Value.bool (!x3827.is) from rfl) (congrArg Value.bool hk3993)) rfl rfl rfl ?_
                                        refine WL.guardY (e := 161) (Eq.trans (show _ = Value.bool (!y3982) from rfl) (congrArg Value.bool hk3992)) rfl rfl ?_
                                        refine WL.val (R.pickF (v := Value.bool false) (Eq.trans (show _ = Value.bool (!x3827.is) from rfl) (congrArg Value.bool hk3993)) rfl) rfl ?_
                                        refine WL.val (R.pickF (v := Value.bool false) (Eq.trans (show _ = Value.bool (!y3982) from rfl) (congrArg Value.bool hk3992)) rfl) rfl ?_
                                        refine WL.val (R.move (v := Value.bool false) rfl) rfl ?_
                                        refine WL.guardY (e := 172) rfl rfl rfl ?_
                                        refine WL.val (R.fieldAddr (o := 0) (o' := 0) fa60_0 (by exact s3976) rfl) rfl ?_
                                        refine WL.guardY (e := 172) rfl rfl rfl ?_
                                        refine WL.val (R.loadL (v := Value.bool x3827.is) lf4 rfl (hs3989.at (i := 4) (off := 0) (n := 1) (cs := [Value.bool x3827.is]) rfl rfl rfl)) rfl ?_
                                        refine WL.guardY (e := 172) rfl rfl rfl ?_
                                        refine WL.val (R.move (v := Value.bool x3827.is) rfl) rfl ?_
                                        refine WL.guardY (e := 175) (Eq.trans (show _ = Value.bool x3827.is from rfl) (congrArg Value.bool hc3978)) rfl rfl ?_
                                        refine WL.val (R.fieldAddr (o := 0) (o' := 1) fa60_1 (by exact s3977) rfl) rfl ?_
                                        refine WL.guardY (e := 175) (Eq.trans (show _ = Value.bool x3827.is from rfl) (congrArg Value.bool hc3978)) rfl rfl ?_
                                        refine WL.val (R.loadA (cs := encC d3907.cell) (n := 55) ag58 rfl (hs3989.at (i := 5) (off := 1) (n := 55) (cs := encC d3907.cell) rfl rfl rfl) rfl) rfl ?_
                                        refine WL.guardY (e := 175) (Eq.trans (show _ = Value.bool x3827.is from rfl) (congrArg Value.bool hc3978)) rfl rfl ?_
                                        obtain ⟨y3994, hx3995, h3996⟩ := ob (o := fine13 d3907.cell) h3991
                                        refine WL.call (fine13_ok _ (In ok w [] [blk b102 25 [Value.slice a1 p1.length c1], blk b151 25 [Value.slice a142 y136.length c143], blk b177 25 [Value.slice a168 y162.length c169], blk b3274 62 (encR x3252 (Value.slice a3267 x3252.table.length c3268)), blk b3841 60 (encH x3827), blk b3853 60 (encH d3907)]) d3907.cell  hx3995) (R.call (vs := [Value.agg (List.toArray (encC d3907.cell))]) (caps := []) bo66 rfl rfl) rfl ?_
                                        rintro v3999 w4000 ⟨rfl, ht3997⟩
                                        have ht3998 := hs3989.call (N := [blk b102 25 [Value.slice a1 p1.length c1], blk b151 25 [Value.slice a142 y136.length c143], blk b177 25 [Value.slice a168 y162.length c169], blk b3274 62 (encR x3252 (Value.slice a3267 x3252.table.length c3268)), blk b3841 60 (encH x3827), blk b3853 60 (encH d3907)]) (M := []) (List.Perm.refl _) ht3997
                                        have hs4001 := hs3989.trans ht3998
                                        refine WL.guardY (e := 172) rfl rfl rfl ?_
                                        refine WL.val (R.pickT (v := Value.bool y3994) (Eq.trans (show _ = Value.bool x3827.is from rfl) (congrArg Value.bool hc3978)) rfl) rfl ?_
                                        refine WL.guardY (e := 172) rfl rfl rfl ?_
                                        refine WL.val (R.move (v := Value.bool y3994) rfl) rfl ?_
                                        by_cases hc4002 : y3994 = true
                                        · have h4003 := ifT hc4002 h3996
                                          refine WL.guardY (e := 180) (Eq.trans (show _ = Value.bool y3994 from rfl) (congrArg Value.bool hc4002)) rfl rfl ?_
                                          refine WL.val (R.loadA (cs := encH x3827) (n := 56) ag60 (by exact s3976) (hs4001.at (i := 4) (off := 0) (n := 56) (cs := encH x3827) rfl rfl rfl) rfl) rfl ?_
                                          refine WL.guardY (e := 180) (Eq.trans (show _ = Value.bool y3994 from rfl) (congrArg Value.bool hc4002)) rfl rfl ?_
                                          refine WL.val (R.loadA (cs := encH d3907) (n := 56) ag60 (by exact s3977) (hs4001.at (i := 5) (off := 0) (n := 56) (cs := encH d3907) rfl rfl rfl) rfl) rfl ?_
                                          refine WL.guardY (e := 180) (Eq.trans (show _ = Value.bool y3994 from rfl) (congrArg Value.bool hc4002)) rfl rfl ?_
                                          refine WL.val (R.neHeld (a := x3827) (b := d3907) rfl rfl) rfl ?_
                                          refine WL.guardY (e := 172) rfl rfl rfl ?_
                                          refine WL.val (R.pickT (v := Value.bool (decide (¬ (x3827 = d3907)))) (Eq.trans (show _ = Value.bool y3994 from rfl) (congrArg Value.bool hc4002)) rfl) rfl ?_
                                          refine WL.val (R.pickF (v := Value.bool (decide (¬ (x3827 = d3907)))) rfl rfl) rfl ?_
                                          refine WL.nil ?_
                                          refine thenN ?_
                                          by_cases hc4004 : ¬ (x3827 = d3907)
                                          · have h4005 := ifT hc4004 h4003
                                            refine WC.condT (Eq.trans (show _ = Value.bool (decide (¬ (x3827 = d3907))) from rfl) (congrArg Value.bool (decide_eq_true hc4004))) rfl ?_
                                            refine WC.seq ?_
                                            refine WC.region ?_
                                            refine WL.val (R.assign (v := Value.bool false) rfl) rfl ?_
                                            refine WL.nil ?_
                                            refine thenN ?_
                                            refine WC.ret ?_
                                            have ht4006 := (hs4001.here).perm (L' := []) (G := [blk b102 25 [Value.slice a1 p1.length c1], blk b151 25 [Value.slice a142 y136.length c143], blk b177 25 [Value.slice a168 y162.length c169], blk b3274 62 (encR x3252 (Value.slice a3267 x3252.table.length c3268)), blk b3841 60 (encH x3827), blk b3853 60 (encH d3907)]) ((List.Perm.refl _))
                                            have hs4007 := hs4001.trans ht4006
                                            obtain rfl := Option.some.inj (show some false = some r from h4005)
                                            exact ret1 (P := Try.prog) (n := 187) (fn := Try.f14) (R := fun v w' => v = Value.bool false ∧ St [] w w' []) (t := 4) (v := Value.bool false) rfl rfl rfl ⟨rfl, hs4007⟩
                                          · have h4008 := ifF hc4004 h4003
                                            refine WC.condF (Eq.trans (show _ = Value.bool (decide (¬ (x3827 = d3907))) from rfl) (congrArg Value.bool (decide_eq_false hc4004))) rfl ?_
                                            refine WC.skip ?_
                                            refine blockN ?_
                                            refine thenN ?_
                                            refine WC.region ?_
                                            refine WL.val (R.move (v := Value.int .i64 i3795) (by exact s3975)) rfl ?_
                                            obtain ⟨hg4009, h4010⟩ := ckE (c := -9223372036854775808 ≤ i3795 + 1 ∧ i3795 + 1 ≤ 9223372036854775807) h4008
                                            refine WL.val (R.add (a := i3795) (b := 1) (z := i3795 + 1) rfl rfl (w64e rfl hg4009.1 hg4009.2)) rfl ?_
                                            refine WL.val (R.assign (v := Value.int .i64 (i3795 + 1)) rfl) rfl ?_
                                            refine WL.nil ?_
                                            have ht4011 := (hs4001.here).perm (L' := [blk b102 25 [Value.slice a1 p1.length c1], blk b151 25 [Value.slice a142 y136.length c143], blk b177 25 [Value.slice a168 y162.length c169], blk b3274 62 (encR x3252 (Value.slice a3267 x3252.table.length c3268))]) (G := [blk b3841 60 (encH x3827), blk b3853 60 (encH d3907)]) ((List.Perm.refl _))
                                            have hs4012 := hs4001.trans ht4011
                                            have hr4013 := elT ((ht3986.trans ht3998).trans ht4011) he3914
                                            have hr4014 := elT ((ht3986.trans ht3998).trans ht4011) he3915
                                            have hr4015 := elT ((ht3986.trans ht3998).trans ht4011) he3916
                                            have hr4016 := elT ((ht3986.trans ht3998).trans ht4011) he3917
                                            exact roundEnd (s := k3802) ⟨i3795 + 1, s3969, s3970, s3971, s3972, s3973, s3974, rfl, hr4013, hr4014, hr4015, hr4016, h4010, hs4012⟩ (Nat.lt_succ_self _)
                                        · have h4017 := ifF hc4002 h3996
                                          refine WL.guardN (e := 180) (v := .bool false) (Eq.trans (show _ = Value.bool y3994 from rfl) (congrArg Value.bool (Bool.eq_false_iff.2 hc4002))) rfl rfl rfl ?_
                                          refine WL.guardN (e := 180) (v := .bool false) (Eq.trans (show _ = Value.bool y3994 from rfl) (congrArg Value.bool (Bool.eq_false_iff.2 hc4002))) rfl rfl rfl ?_
                                          refine WL.guardN (e := 180) (v := .bool false) (Eq.trans (show _ = Value.bool y3994 from rfl) (congrArg Value.bool (Bool.eq_false_iff.2 hc4002))) rfl rfl rfl ?_
                                          refine WL.guardY (e := 172) rfl rfl rfl ?_
                                          refine WL.val (R.pickF (v := Value.bool false) (Eq.trans (show _ = Value.bool y3994 from rfl) (congrArg Value.bool (Bool.eq_false_iff.2 hc4002))) rfl) rfl ?_
                                          refine WL.val (R.pickF (v := Value.bool false) rfl rfl) rfl ?_
                                          refine WL.nil ?_
                                          refine thenN ?_
                                          refine WC.condF rfl rfl ?_
                                          refine WC.skip ?_
                                          refine blockN ?_
                                          refine thenN ?_
                                          refine WC.region ?_
                                          refine WL.val (R.move (v := Value.int .i64 i3795) (by exact s3975)) rfl ?_
                                          obtain ⟨hg4018, h4019⟩ := ckE (c := -9223372036854775808 ≤ i3795 + 1 ∧ i3795 + 1 ≤ 9223372036854775807) h4017
                                          refine WL.val (R.add (a := i3795) (b := 1) (z := i3795 + 1) rfl rfl (w64e rfl hg4018.1 hg4018.2)) rfl ?_
                                          refine WL.val (R.assign (v := Value.int .i64 (i3795 + 1)) rfl) rfl ?_
                                          refine WL.nil ?_
                                          have ht4020 := (hs4001.here).perm (L' := [blk b102 25 [Value.slice a1 p1.length c1], blk b151 25 [Value.slice a142 y136.length c143], blk b177 25 [Value.slice a168 y162.length c169], blk b3274 62 (encR x3252 (Value.slice a3267 x3252.table.length c3268))]) (G := [blk b3841 60 (encH x3827), blk b3853 60 (encH d3907)]) ((List.Perm.refl _))
                                          have hs4021 := hs4001.trans ht4020
                                          have hr4022 := elT ((ht3986.trans ht3998).trans ht4020) he3914
                                          have hr4023 := elT ((ht3986.trans ht3998).trans ht4020) he3915
                                          have hr4024 := elT ((ht3986.trans ht3998).trans ht4020) he3916
                                          have hr4025 := elT ((ht3986.trans ht3998).trans ht4020) he3917
                                          exact roundEnd (s := k3802) ⟨i3795 + 1, s3969, s3970, s3971, s3972, s3973, s3974, rfl, hr4022, hr4023, hr4024, hr4025, h4019, hs4021⟩ (Nat.lt_succ_self _)
                                      · have h4026 := ifF hc3990 h3984
                                        have hk4027 : (!y3982) = true := by simp [hc3990]
                                        refine WL.guardN (e := 161) (v := .bool true) (Eq.trans (show _ = Value.bool (!y3982) from rfl) (congrArg Value.bool hk4027)) rfl rfl rfl ?_
                                        refine WL.guardN (e := 161) (v := .bool true) (Eq.trans (show _ = Value.bool (!y3982) from rfl) (congrArg Value.bool hk4027)) rfl rfl rfl ?_
                                        refine WL.guardN (e := 161) (v := .bool true) (Eq.trans (show _ = Value.bool (!y3982) from rfl) (congrArg Value.bool hk4027)) rfl rfl rfl ?_
                                        refine WL.guardN (e := 161) (v := .bool true) (Eq.trans (show _ = Value.bool (!y3982) from rfl) (congrArg Value.bool hk4027)) rfl rfl rfl ?_
                                        refine WL.guardN (e := 165) (v := undef) rfl rfl rfl rfl ?_
                                        refine WL.guardN (e := 165) (v := undef) rfl rfl rfl rfl ?_
                                        refine WL.guardN (e := 165) (v := undef) rfl rfl rfl rfl ?_
                                        refine WL.guardN (e := 165) (v := undef) rfl rfl rfl rfl ?_
                                        refine WL.guardN (e := 161) (v := .bool true) (Eq.trans (show _ = Value.bool (!y3982) from rfl) (congrArg Value.bool hk4027)) rfl rfl rfl ?_
                                        refine WL.val (R.pickT (v := Value.bool true) (Eq.trans (show _ = Value.bool (!y3982) from rfl) (congrArg Value.bool hk4027)) rfl) rfl ?_
                                        refine WL.val (R.move (v := Value.bool true) rfl) rfl ?_
                                        refine WL.guardN (e := 172) (v := .bool true) rfl rfl rfl rfl ?_
                                        refine WL.guardN (e := 172) (v := .bool true) rfl rfl rfl rfl ?_
                                        refine WL.guardN (e := 172) (v := .bool true) rfl rfl rfl rfl ?_
                                        refine WL.guardN (e := 175) (v := undef) rfl rfl rfl rfl ?_
                                        refine WL.guardN (e := 175) (v := undef) rfl rfl rfl rfl ?_
                                        refine WL.guardN (e := 175) (v := undef) rfl rfl rfl rfl ?_
                                        refine WL.guardN (e := 172) (v := .bool true) rfl rfl rfl rfl ?_
                                        refine WL.guardN (e := 172) (v := .bool true) rfl rfl rfl rfl ?_
                                        refine WL.guardN (e := 180) (v := undef) rfl rfl rfl rfl ?_
                                        refine WL.guardN (e := 180) (v := undef) rfl rfl rfl rfl ?_
                                        refine WL.guardN (e := 180) (v := undef) rfl rfl rfl rfl ?_
                                        refine WL.guardN (e := 172) (v := .bool true) rfl rfl rfl rfl ?_
                                        refine WL.val (R.pickT (v := Value.bool true) rfl rfl) rfl ?_
                                        refine WL.nil ?_
                                        refine thenN ?_
                                        refine WC.condT rfl rfl ?_
                                        refine WC.seq ?_
                                        refine WC.region ?_
                                        refine WL.val (R.assign (v := Value.bool false) rfl) rfl ?_
                                        refine WL.nil ?_
                                        refine thenN ?_
                                        refine WC.ret ?_
                                        have ht4028 := (hs3989.here).perm (L' := []) (G := [blk b102 25 [Value.slice a1 p1.length c1], blk b151 25 [Value.slice a142 y136.length c143], blk b177 25 [Value.slice a168 y162.length c169], blk b3274 62 (encR x3252 (Value.slice a3267 x3252.table.length c3268)), blk b3841 60 (encH x3827), blk b3853 60 (encH d3907)]) ((List.Perm.refl _))
                                        have hs4029 := hs3989.trans ht4028
                                        obtain rfl := Option.some.inj (show some false = some r from h4026)
                                        exact ret1 (P := Try.prog) (n := 187) (fn := Try.f14) (R := fun v w' => v = Value.bool false ∧ St [] w w' []) (t := 4) (v := Value.bool false) rfl rfl rfl ⟨rfl, hs4029⟩
                                    · have h4030 := ifF hc3980 h3979
                                      refine WL.val (R.neB (a := true) (b := false) un4 (Eq.trans (show _ = Value.bool x3827.is from rfl) (congrArg Value.bool hc3978)) (Eq.trans (show _ = Value.bool d3907.is from rfl) (congrArg Value.bool (Bool.eq_false_iff.2 hc3980)))) rfl ?_
                                      refine WL.val (R.move (v := Value.bool true) rfl) rfl ?_
                                      refine WL.guardN (e := 151) (v := .bool true) rfl rfl rfl rfl ?_
                                      refine WL.guardN (e := 151) (v := .bool true) rfl rfl rfl rfl ?_
                                      refine WL.guardN (e := 151) (v := .bool true) rfl rfl rfl rfl ?_
                                      refine WL.guardN (e := 154) (v := undef) rfl rfl rfl rfl ?_
                                      refine WL.guardN (e := 154) (v := undef) rfl rfl rfl rfl ?_
                                      refine WL.guardN (e := 154) (v := undef) rfl rfl rfl rfl ?_
                                      refine WL.guardN (e := 154) (v := undef) rfl rfl rfl rfl ?_
                                      refine WL.guardN (e := 151) (v := .bool true) rfl rfl rfl rfl ?_
                                      refine WL.val (R.pickT (v := Value.bool true) rfl rfl) rfl ?_
                                      refine WL.val (R.move (v := Value.bool true) rfl) rfl ?_
                                      refine WL.guardN (e := 161) (v := .bool true) rfl rfl rfl rfl ?_
                                      refine WL.guardN (e := 161) (v := .bool true) rfl rfl rfl rfl ?_
                                      refine WL.guardN (e := 161) (v := .bool true) rfl rfl rfl rfl ?_
                                      refine WL.guardN (e := 161) (v := .bool true) rfl rfl rfl rfl ?_
                                      refine WL.guardN (e := 165) (v := undef) rfl rfl rfl rfl ?_
                                      refine WL.guardN (e := 165) (v := undef) rfl rfl rfl rfl ?_
                                      refine WL.guardN (e := 165) (v := undef) rfl rfl rfl rfl ?_
                                      refine WL.guardN (e := 165) (v := undef) rfl rfl rfl rfl ?_
                                      refine WL.guardN (e := 161) (v := .bool true) rfl rfl rfl rfl ?_
                                      refine WL.val (R.pickT (v := Value.bool true) rfl rfl) rfl ?_
                                      refine WL.val (R.move (v := Value.bool true) rfl) rfl ?_
                                      refine WL.guardN (e := 172) (v := .bool true) rfl rfl rfl rfl ?_
                                      refine WL.guardN (e := 172) (v := .bool true) rfl rfl rfl rfl ?_
                                      refine WL.guardN (e := 172) (v := .bool true) rfl rfl rfl rfl ?_
                                      refine WL.guardN (e := 175) (v := undef) rfl rfl rfl rfl ?_
                                      refine WL.guardN (e := 175) (v := undef) rfl rfl rfl rfl ?_
                                      refine WL.guardN (e := 175) (v := undef) rfl rfl rfl rfl ?_
                                      refine WL.guardN (e := 172) (v := .bool true) rfl rfl rfl rfl ?_
                                      refine WL.guardN (e := 172) (v := .bool true) rfl rfl rfl rfl ?_
                                      refine WL.guardN (e := 180) (v := undef) rfl rfl rfl rfl ?_
                                      refine WL.guardN (e := 180) (v := undef) rfl rfl rfl rfl ?_
                                      refine WL.guardN (e := 180) (v := undef) rfl rfl rfl rfl ?_
                                      refine WL.guardN (e := 172) (v := .bool true) rfl rfl rfl rfl ?_
                                      refine WL.val (R.pickT (v := Value.bool true) rfl rfl) rfl ?_
                                      refine WL.nil ?_
                                      refine thenN ?_
                                      refine WC.condT rfl rfl ?_
                                      refine WC.seq ?_
                                      refine WC.region ?_
                                      refine WL.val (R.assign (v := Value.bool false) rfl) rfl ?_
                                      refine WL.nil ?_
                                      refine thenN ?_
                                      refine WC.ret ?_
                                      have ht4031 := (hs3913.here).perm (L' := []) (G := [blk b102 25 [Value.slice a1 p1.length c1], blk b151 25 [Value.slice a142 y136.length c143], blk b177 25 [Value.slice a168 y162.length c169], blk b3274 62 (encR x3252 (Value.slice a3267 x3252.table.length c3268)), blk b3841 60 (encH x3827), blk b3853 60 (encH d3907)]) ((List.Perm.refl _))
                                      have hs4032 := hs3913.trans ht4031
                                      obtain rfl := Option.some.inj (show some false = some r from h4030)
                                      exact ret1 (P := Try.prog) (n := 187) (fn := Try.f14) (R := fun v w' => v = Value.bool false ∧ St [] w w' []) (t := 4) (v := Value.bool false) rfl rfl rfl ⟨rfl, hs4032⟩
                                  · have h4033 := ifF hc3978 h3968
                                    by_cases hc4034 : d3907.is = true
                                    · have h4035 := ifT hc4034 h4033
                                      refine WL.val (R.neB (a := false) (b := true) un4 (Eq.trans (show _ = Value.bool x3827.is from rfl) (congrArg Value.bool (Bool.eq_false_iff.2 hc3978))) (Eq.trans (show _ = Value.bool d3907.is from rfl) (congrArg Value.bool hc4034))) rfl ?_
                                      refine WL.val (R.move (v := Value.bool true) rfl) rfl ?_
                                      refine WL.guardN (e := 151) (v := .bool true) rfl rfl rfl rfl ?_
                                      refine WL.guardN (e := 151) (v := .bool true) rfl rfl rfl rfl ?_
                                      refine WL.guardN (e := 151) (v := .bool true) rfl rfl rfl rfl ?_
                                      refine WL.guardN (e := 154) (v := undef) rfl rfl rfl rfl ?_
                                      refine WL.guardN (e := 154) (v := undef) rfl rfl rfl rfl ?_
                                      refine WL.guardN (e := 154) (v := undef) rfl rfl rfl rfl ?_
                                      refine WL.guardN (e := 154) (v := undef) rfl rfl rfl rfl ?_
                                      refine WL.guardN (e := 151) (v := .bool true) rfl rfl rfl rfl ?_
                                      refine WL.val (R.pickT (v := Value.bool true) rfl rfl) rfl ?_
                                      refine WL.val (R.move (v := Value.bool true) rfl) rfl ?_
                                      refine WL.guardN (e := 161) (v := .bool true) rfl rfl rfl rfl ?_
                                      refine WL.guardN (e := 161) (v := .bool true) rfl rfl rfl rfl ?_
                                      refine WL.guardN (e := 161) (v := .bool true) rfl rfl rfl rfl ?_
                                      refine WL.guardN (e := 161) (v := .bool true) rfl rfl rfl rfl ?_
                                      refine WL.guardN (e := 165) (v := undef) rfl rfl rfl rfl ?_
                                      refine WL.guardN (e := 165) (v := undef) rfl rfl rfl rfl ?_
                                      refine WL.guardN (e := 165) (v := undef) rfl rfl rfl rfl ?_
                                      refine WL.guardN (e := 165) (v := undef) rfl rfl rfl rfl ?_
                                      refine WL.guardN (e := 161) (v := .bool true) rfl rfl rfl rfl ?_
                                      refine WL.val (R.pickT (v := Value.bool true) rfl rfl) rfl ?_
                                      refine WL.val (R.move (v := Value.bool true) rfl) rfl ?_
                                      refine WL.guardN (e := 172) (v := .bool true) rfl rfl rfl rfl ?_
                                      refine WL.guardN (e := 172) (v := .bool true) rfl rfl rfl rfl ?_
                                      refine WL.guardN (e := 172) (v := .bool true) rfl rfl rfl rfl ?_
                                      refine WL.guardN (e := 175) (v := undef) rfl rfl rfl rfl ?_
                                      refine WL.guardN (e := 175) (v := undef) rfl rfl rfl rfl ?_
                                      refine WL.guardN (e := 175) (v := undef) rfl rfl rfl rfl ?_
                                      refine WL.guardN (e := 172) (v := .bool true) rfl rfl rfl rfl ?_
                                      refine WL.guardN (e := 172) (v := .bool true) rfl rfl rfl rfl ?_
                                      refine WL.guardN (e := 180) (v := undef) rfl rfl rfl rfl ?_
                                      refine WL.guardN (e := 180) (v := undef) rfl rfl rfl rfl ?_
                                      refine WL.guardN (e := 180) (v := undef) rfl rfl rfl rfl ?_
                                      refine WL.guardN (e := 172) (v := .bool true) rfl rfl rfl rfl ?_
                                      refine WL.val (R.pickT (v := Value.bool true) rfl rfl) rfl ?_
                                      refine WL.nil ?_
                                      refine thenN ?_
                                      refine WC.condT rfl rfl ?_
                                      refine WC.seq ?_
                                      refine WC.region ?_
                                      refine WL.val (R.assign (v := Value.bool false) rfl) rfl ?_
                                      refine WL.nil ?_
                                      refine thenN ?_
                                      refine WC.ret ?_
                                      have ht4036 := (hs3913.here).perm (L' := []) (G := [blk b102 25 [Value.slice a1 p1.length c1], blk b151 25 [Value.slice a142 y136.length c143], blk b177 25 [Value.slice a168 y162.length c169], blk b3274 62 (encR x3252 (Value.slice a3267 x3252.table.length c3268)), blk b3841 60 (encH x3827), blk b3853 60 (encH d3907)]) ((List.Perm.refl _))
                                      have hs4037 := hs3913.trans ht4036
                                      obtain rfl := Option.some.inj (show some false = some r from h4035)
                                      exact ret1 (P := Try.prog) (n := 187) (fn := Try.f14) (R := fun v w' => v = Value.bool false ∧ St [] w w' []) (t := 4) (v := Value.bool false) rfl rfl rfl ⟨rfl, hs4037⟩
                                    · have h4038 := ifF hc4034 h4033
                                      refine WL.val (R.neB (a := false) (b := false) un4 (Eq.trans (show _ = Value.bool x3827.is from rfl) (congrArg Value.bool (Bool.eq_false_iff.2 hc3978))) (Eq.trans (show _ = Value.bool d3907.is from rfl) (congrArg Value.bool (Bool.eq_false_iff.2 hc4034)))) rfl ?_
                                      refine WL.val (R.move (v := Value.bool false) rfl) rfl ?_
                                      refine WL.guardY (e := 151) rfl rfl rfl ?_
                                      refine WL.val (R.fieldAddr (o := 0) (o' := 0) fa60_0 (by exact s3976) rfl) rfl ?_
                                      refine WL.guardY (e := 151) rfl rfl rfl ?_
                                      refine WL.val (R.loadL (v := Value.bool x3827.is) lf4 rfl (hs3913.at (i := 4) (off := 0) (n := 1) (cs := [Value.bool x3827.is]) rfl rfl rfl)) rfl ?_
                                      refine WL.guardY (e := 151) rfl rfl rfl ?_
                                      refine WL.val (R.move (v := Value.bool x3827.is) rfl) rfl ?_
                                      refine WL.guardN (e := 154) (v := .bool false) (Eq.trans (show _ = Value.bool x3827.is from rfl) (congrArg Value.bool (Bool.eq_false_iff.2 hc3978))) rfl rfl rfl ?_
                                      refine WL.guardN (e := 154) (v := .bool false) (Eq.trans (show _ = Value.bool x3827.is from rfl) (congrArg Value.bool (Bool.eq_false_iff.2 hc3978))) rfl rfl rfl ?_
                                      refine WL.guardN (e := 154) (v := .bool false) (Eq.trans (show _ = Value.bool x3827.is from rfl) (congrArg Value.bool (Bool.eq_false_iff.2 hc3978))) rfl rfl rfl ?_
                                      refine WL.guardN (e := 154) (v := .bool false) (Eq.trans (show _ = Value.bool x3827.is from rfl) (congrArg Value.bool (Bool.eq_false_iff.2 hc3978))) rfl rfl rfl ?_
                                      refine WL.guardY (e := 151) rfl rfl rfl ?_
                                      refine WL.val (R.pickF (v := Value.bool false) (Eq.trans (show _ = Value.bool x3827.is from rfl) (congrArg Value.bool (Bool.eq_false_iff.2 hc3978))) rfl) rfl ?_
                                      refine WL.val (R.pickF (v := Value.bool false) rfl rfl) rfl ?_
                                      refine WL.val (R.move (v := Value.bool false) rfl) rfl ?_
                                      refine WL.guardY (e := 161) rfl rfl rfl ?_
                                      refine WL.val (R.fieldAddr (o := 0) (o' := 0) fa60_0 (by exact s3976) rfl) rfl ?_
                                      refine WL.guardY (e := 161) rfl rfl rfl ?_
                                      refine WL.val (R.loadL (v := Value.bool x3827.is) lf4 rfl (hs3913.at (i := 4) (off := 0) (n := 1) (cs := [Value.bool x3827.is]) rfl rfl rfl)) rfl ?_
                                      refine WL.guardY (e := 161) rfl rfl rfl ?_
                                      refine WL.val (R.not (b := x3827.is) rfl) rfl ?_
                                      refine WL.guardY (e := 161) rfl rfl rfl ?_
                                      refine WL.val (R.move (v := Value.bool (!x3827.is)) rfl) rfl ?_
                                      have hk4039 : (!x3827.is) = true := by simp [hc3978]
                                      refine WL.guardY (e := 165) (Eq.trans (show _ = Value.bool (!x3827.is) from rfl) (congrArg Value.bool hk4039)) rfl rfl ?_
                                      refine WL.val (R.fieldAddr (o := 0) (o' := 1) fa60_1 (by exact s3976) rfl) rfl ?_
                                      refine WL.guardY (e := 165) (Eq.trans (show _ = Value.bool (!x3827.is) from rfl) (congrArg Value.bool hk4039)) rfl rfl ?_
                                      refine WL.val (R.loadA (cs := encC x3827.cell) (n := 55) ag58 rfl (hs3913.at (i := 4) (off := 1) (n := 55) (cs := encC x3827.cell) rfl rfl rfl) rfl) rfl ?_
                                      refine WL.guardY (e := 165) (Eq.trans (show _ = Value.bool (!x3827.is) from rfl) (congrArg Value.bool hk4039)) rfl rfl ?_
                                      have hd4040 : ∀ w, (Instr.build 58 #[]).run Try.prog w = .ok (Value.agg (List.toArray (encC Cl.zero))) w := fun _ => by kernel_rfl
                                      refine WL.val (R.build (vs := []) rfl hd4040) rfl ?_
                                      refine WL.guardY (e := 165) (Eq.trans (show _ = Value.bool (!x3827.is) from rfl) (congrArg Value.bool hk4039)) rfl rfl ?_
                                      refine WL.val (R.neCell (a := x3827.cell) (b := Cl.zero) rfl rfl) rfl ?_
                                      refine WL.guardY (e := 161) rfl rfl rfl ?_
                                      refine WL.val (R.pickT (v := Value.bool (decide (¬ (x3827.cell = Cl.zero)))) (Eq.trans (show _ = Value.bool (!x3827.is) from rfl) (congrArg Value.bool hk4039)) rfl) rfl ?_
                                      refine WL.val (R.pickF (v := Value.bool (decide (¬ (x3827.cell = Cl.zero)))) rfl rfl) rfl ?_
                                      refine WL.val (R.move (v := Value.bool (decide (¬ (x3827.cell = Cl.zero)))) rfl) rfl ?_
                                      by_cases hc4041 : ¬ (x3827.cell = Cl.zero)
                                      · have h4042 := ifT hc4041 h4038
                                        refine WL.guardN (e := 172) (v := .bool true) (Eq.trans (show _ = Value.bool (decide (¬ (x3827.cell = Cl.zero))) from rfl) (congrArg Value.bool (decide_eq_true hc4041))) rfl rfl rfl ?_
                                        refine WL.guardN (e := 172) (v := .bool true) (Eq.trans (show _ = Value.bool (decide (¬ (x3827.cell = Cl.zero))) from rfl) (congrArg Value.bool (decide_eq_true hc4041))) rfl rfl rfl ?_
                                        refine WL.guardN (e := 172) (v := .bool true) (Eq.trans (show _ = Value.bool (decide (¬ (x3827.cell = Cl.zero))) from rfl) (congrArg Value.bool (decide_eq_true hc4041))) rfl rfl rfl ?_
                                        refine WL.guardN (e := 175) (v := undef) rfl rfl rfl rfl ?_
                                        refine WL.guardN (e := 175) (v := undef) rfl rfl rfl rfl ?_
                                        refine WL.guardN (e := 175) (v := undef) rfl rfl rfl rfl ?_
                                        refine WL.guardN (e := 172) (v := .bool true) (Eq.trans (show _ = Value.bool (decide (¬ (x3827.cell = Cl.zero))) from rfl) (congrArg Value.bool (decide_eq_true hc4041))) rfl rfl rfl ?_
                                        refine WL.guardN (e := 172) (v := .bool true) (Eq.trans (show _ = Value.bool (decide (¬ (x3827.cell = Cl.zero))) from rfl) (congrArg Value.bool (decide_eq_true hc4041))) rfl rfl rfl ?_
                                        refine WL.guardN (e := 180) (v := undef) rfl rfl rfl rfl ?_
                                        refine WL.guardN (e := 180) (v := undef) rfl rfl rfl rfl ?_
                                        refine WL.guardN (e := 180) (v := undef) rfl rfl rfl rfl ?_
                                        refine WL.guardN (e := 172) (v := .bool true) (Eq.trans (show _ = Value.bool (decide (¬ (x3827.cell = Cl.zero))) from rfl) (congrArg Value.bool (decide_eq_true hc4041))) rfl rfl rfl ?_
                                        refine WL.val (R.pickT (v := Value.bool true) (Eq.trans (show _ = Value.bool (decide (¬ (x3827.cell = Cl.zero))) from rfl) (congrArg Value.bool (decide_eq_true hc4041))) rfl) rfl ?_
                                        refine WL.nil ?_
                                        refine thenN ?_
                                        refine WC.condT rfl rfl ?_
                                        refine WC.seq ?_
                                        refine WC.region ?_
                                        refine WL.val (R.assign (v := Value.bool false) rfl) rfl ?_
                                        refine WL.nil ?_
                                        refine thenN ?_
                                        refine WC.ret ?_
                                        have ht4043 := (hs3913.here).perm (L' := []) (G := [blk b102 25 [Value.slice a1 p1.length c1], blk b151 25 [Value.slice a142 y136.length c143], blk b177 25 [Value.slice a168 y162.length c169], blk b3274 62 (encR x3252 (Value.slice a3267 x3252.table.length c3268)), blk b3841 60 (encH x3827), blk b3853 60 (encH d3907)]) ((List.Perm.refl _))
                                        have hs4044 := hs3913.trans ht4043
                                        obtain rfl := Option.some.inj (show some false = some r from h4042)
                                        exact ret1 (P := Try.prog) (n := 187) (fn := Try.f14) (R := fun v w' => v = Value.bool false ∧ St [] w w' []) (t := 4) (v := Value.bool false) rfl rfl rfl ⟨rfl, hs4044⟩
                                      · have h4045 := ifF hc4041 h4038
                                        refine WL.guardY (e := 172) (Eq.trans (show _ = Value.bool (decide (¬ (x3827.cell = Cl.zero))) from rfl) (congrArg Value.bool (decide_eq_false hc4041))) rfl rfl ?_
                                        refine WL.val (R.fieldAddr (o := 0) (o' := 0) fa60_0 (by exact s3976) rfl) rfl ?_
                                        refine WL.guardY (e := 172) (Eq.trans (show _ = Value.bool (decide (¬ (x3827.cell = Cl.zero))) from rfl) (congrArg Value.bool (decide_eq_false hc4041))) rfl rfl ?_
                                        refine WL.val (R.loadL (v := Value.bool x3827.is) lf4 rfl (hs3913.at (i := 4) (off := 0) (n := 1) (cs := [Value.bool x3827.is]) rfl rfl rfl)) rfl ?_
                                        refine WL.guardY (e := 172) (Eq.trans (show _ = Value.bool (decide (¬ (x3827.cell = Cl.zero))) from rfl) (congrArg Value.bool (decide_eq_false hc4041))) rfl rfl ?_
                                        refine WL.val (R.move (v := Value.bool x3827.is) rfl) rfl ?_
                                        refine WL.guardN (e := 175) (v := .bool false) (Eq.trans (show _ = Value.bool x3827.is from rfl) (congrArg Value.bool (Bool.eq_false_iff.2 hc3978))) rfl rfl rfl ?_
                                        refine WL.guardN (e := 175) (v := .bool false) (Eq.trans (show _ = Value.bool x3827.is from rfl) (congrArg Value.bool (Bool.eq_false_iff.2 hc3978))) rfl rfl rfl ?_
                                        refine WL.guardN (e := 175) (v := .bool false) (Eq.trans (show _ = Value.bool x3827.is from rfl) (congrArg Value.bool (Bool.eq_false_iff.2 hc3978))) rfl rfl rfl ?_
                                        refine WL.guardY (e := 172) (Eq.trans (show _ = Value.bool (decide (¬ (x3827.cell = Cl.zero))) from rfl) (congrArg Value.bool (decide_eq_false hc4041))) rfl rfl ?_
                                        refine WL.val (R.pickF (v := Value.bool false) (Eq.trans (show _ = Value.bool x3827.is from rfl) (congrArg Value.bool (Bool.eq_false_iff.2 hc3978))) rfl) rfl ?_
                                        refine WL.guardY (e := 172) (Eq.trans (show _ = Value.bool (decide (¬ (x3827.cell = Cl.zero))) from rfl) (congrArg Value.bool (decide_eq_false hc4041))) rfl rfl ?_
                                        refine WL.val (R.move (v := Value.bool false) rfl) rfl ?_
                                        refine WL.guardN (e := 180) (v := .bool false) rfl rfl rfl rfl ?_
                                        refine WL.guardN (e := 180) (v := .bool false) rfl rfl rfl rfl ?_
                                        refine WL.guardN (e := 180) (v := .bool false) rfl rfl rfl rfl ?_
                                        refine WL.guardY (e := 172) (Eq.trans (show _ = Value.bool (decide (¬ (x3827.cell = Cl.zero))) from rfl) (congrArg Value.bool (decide_eq_false hc4041))) rfl rfl ?_
                                        refine WL.val (R.pickF (v := Value.bool false) rfl rfl) rfl ?_
                                        refine WL.val (R.pickF (v := Value.bool false) (Eq.trans (show _ = Value.bool (decide (¬ (x3827.cell = Cl.zero))) from rfl) (congrArg Value.bool (decide_eq_false hc4041))) rfl) rfl ?_
                                        refine WL.nil ?_
                                        refine thenN ?_
                                        refine WC.condF rfl rfl ?_
                                        refine WC.skip ?_
                                        refine blockN ?_
                                        refine thenN ?_
                                        refine WC.region ?_
                                        refine WL.val (R.move (v := Value.int .i64 i3795) (by exact s3975)) rfl ?_
                                        obtain ⟨hg4046, h4047⟩ := ckE (c := -9223372036854775808 ≤ i3795 + 1 ∧ i3795 + 1 ≤ 9223372036854775807) h4045
                                        refine WL.val (R.add (a := i3795) (b := 1) (z := i3795 + 1) rfl rfl (w64e rfl hg4046.1 hg4046.2)) rfl ?_
                                        refine WL.val (R.assign (v := Value.int .i64 (i3795 + 1)) rfl) rfl ?_
                                        refine WL.nil ?_
                                        have ht4048 := (hs3913.here).perm (L' := [blk b102 25 [Value.slice a1 p1.length c1], blk b151 25 [Value.slice a142 y136.length c143], blk b177 25 [Value.slice a168 y162.length c169], blk b3274 62 (encR x3252 (Value.slice a3267 x3252.table.length c3268))]) (G := [blk b3841 60 (encH x3827), blk b3853 60 (encH d3907)]) ((List.Perm.refl _))
                                        have hs4049 := hs3913.trans ht4048
                                        have hr4050 := elT ht4048 he3914
                                        have hr4051 := elT ht4048 he3915
                                        have hr4052 := elT ht4048 he3916
                                        have hr4053 := elT ht4048 he3917
                                        exact roundEnd (s := k3802) ⟨i3795 + 1, s3969, s3970, s3971, s3972, s3973, s3974, rfl, hr4050, hr4051, hr4052, hr4053, h4047, hs4049⟩ (Nat.lt_succ_self _)
                              · have h4054 := ifF hc3825 h3817
                                refine WL.val (R.lssF (k := .i64) (a := i3795) (b := p0 % 17) un3 rfl rfl hc3825) rfl ?_
                                refine WL.nil ?_
                                refine thenN ?_
                                refine WC.condF rfl rfl ?_
                                refine WC.exit ?_
                                refine thenE ?_
                                refine thenE ?_
                                refine blockHit ?_
                                have ht4055 := (hs3801.here).perm (L' := [blk b102 25 [Value.slice a1 p1.length c1], blk b151 25 [Value.slice a142 y136.length c143], blk b177 25 [Value.slice a168 y162.length c169]]) (G := [blk b3274 62 (encR x3252 (Value.slice a3267 x3252.table.length c3268))]) ((List.Perm.refl _))
                                have hs4056 := hs3801.trans ht4055
                                have hr4057 := elT ht4055 he3803
                                have hr4058 := elT ht4055 he3804
                                have hr4059 := elT ht4055 he3805
                                exact joinI ⟨s3818, s3819, s3820, s3821, s3822, hr4057, hr4058, hr4059, h4054, hs4056⟩
                            · rintro σ3812 w3811 ⟨s4061, s4062, s4063, s4064, s4065, he3814, he3815, he3816, h4060, hs3813⟩
                              subst hK3797
                              refine blockN ?_
                              refine thenN ?_
                              refine WC.region ?_
                              refine WL.val (R.move (v := Value.int .i64 i3227) (by exact s4065)) rfl ?_
                              obtain ⟨hg4066, h4067⟩ := ckE (c := -9223372036854775808 ≤ i3227 + 1 ∧ i3227 + 1 ≤ 9223372036854775807) h4060
                              refine WL.val (R.add (a := i3227) (b := 1) (z := i3227 + 1) rfl rfl (w64e rfl hg4066.1 hg4066.2)) rfl ?_
                              refine WL.val (R.assign (v := Value.int .i64 (i3227 + 1)) rfl) rfl ?_
                              refine WL.nil ?_
                              exact roundEnd (s := k3234) ⟨i3227 + 1, s4061, s4062, s4063, s4064, rfl, he3814, he3815, he3816, h4067, hs3813⟩ (Nat.lt_succ_self _)
                        · have h4068 := ifF hc3376 h3370
                          refine WE.takeN 20 (e := 105) (v := .bool false) rfl (by decide +kernel) (by decide +kernel) (by decide +kernel) (by decide +kernel) rfl rfl rfl (Eq.trans (show _ = Value.bool y3368 from rfl) (congrArg Value.bool (Bool.eq_false_iff.2 hc3376))) rfl ?_
                          refine WE.takeN 21 (e := 105) (v := .bool false) rfl (by decide +kernel) (by decide +kernel) (by decide +kernel) (by decide +kernel) rfl rfl rfl (Eq.trans (show _ = Value.bool y3368 from rfl) (congrArg Value.bool (Bool.eq_false_iff.2 hc3376))) rfl ?_
                          refine WE.takeN 22 (e := 105) (v := .bool false) rfl (by decide +kernel) (by decide +kernel) (by decide +kernel) (by decide +kernel) rfl rfl rfl (Eq.trans (show _ = Value.bool y3368 from rfl) (congrArg Value.bool (Bool.eq_false_iff.2 hc3376))) rfl ?_
                          refine WE.takeN 23 (e := 105) (v := .bool false) rfl (by decide +kernel) (by decide +kernel) (by decide +kernel) (by decide +kernel) rfl rfl rfl (Eq.trans (show _ = Value.bool y3368 from rfl) (congrArg Value.bool (Bool.eq_false_iff.2 hc3376))) rfl ?_
                          refine WE.takeN 24 (e := 105) (v := .bool false) rfl (by decide +kernel) (by decide +kernel) (by decide +kernel) (by decide +kernel) rfl rfl rfl (Eq.trans (show _ = Value.bool y3368 from rfl) (congrArg Value.bool (Bool.eq_false_iff.2 hc3376))) rfl ?_
                          refine WE.takeN 25 (e := 105) (v := .bool false) rfl (by decide +kernel) (by decide +kernel) (by decide +kernel) (by decide +kernel) rfl rfl rfl (Eq.trans (show _ = Value.bool y3368 from rfl) (congrArg Value.bool (Bool.eq_false_iff.2 hc3376))) rfl ?_
                          refine WE.takeN 26 (e := 105) (v := .bool false) rfl (by decide +kernel) (by decide +kernel) (by decide +kernel) (by decide +kernel) rfl rfl rfl (Eq.trans (show _ = Value.bool y3368 from rfl) (congrArg Value.bool (Bool.eq_false_iff.2 hc3376))) rfl ?_
                          refine WE.takeN 27 (e := 105) (v := .bool false) rfl (by decide +kernel) (by decide +kernel) (by decide +kernel) (by decide +kernel) rfl rfl rfl (Eq.trans (show _ = Value.bool y3368 from rfl) (congrArg Value.bool (Bool.eq_false_iff.2 hc3376))) rfl ?_
                          refine WE.takeN 28 (e := 105) (v := .bool false) rfl (by decide +kernel) (by decide +kernel) (by decide +kernel) (by decide +kernel) rfl rfl rfl (Eq.trans (show _ = Value.bool y3368 from rfl) (congrArg Value.bool (Bool.eq_false_iff.2 hc3376))) rfl ?_
                          refine WE.takeY 29 (e := 97) rfl (by decide +kernel) (by decide +kernel) (by decide +kernel) (by decide +kernel) rfl rfl rfl rfl (Eq.trans (show _ = Value.bool (!y3356) from rfl) (congrArg Value.bool hk3366)) (fun wq hq => R.pickF (v := Value.bool false) (Eq.trans (show _ = Value.bool y3368 from rfl) (congrArg Value.bool (Bool.eq_false_iff.2 hc3376))) rfl) ?_
                          refine WE.take 30 rfl (by decide +kernel) (by decide +kernel) (by decide +kernel) (by decide +kernel) rfl rfl (fun wq hq => R.pickF (v := Value.bool false) (Eq.trans (show _ = Value.bool (!y3356) from rfl) (congrArg Value.bool hk3366)) rfl) ?_
                          refine WE.done (by decide +kernel) ?_
                          refine thenN ?_
                          refine WC.condF rfl rfl ?_
                          refine WC.skip ?_
                          refine thenN ?_
                          refine WC.seq ?_
                          refine WC.region ?_
                          refine WL.val (R.assign (v := Value.int .i64 0) rfl) rfl ?_
                          refine WL.nil ?_
                          refine thenN ?_
                          have hr4492 := elT ((ht3352.trans ht3360).trans ht3372) hr3331
                          have hr4493 := elT ((((((ht3280.trans ht3283).trans ht3285).trans ht3315).trans ht3352).trans ht3360).trans ht3372) he3236
                          have hr4494 := elT (((ht3315.trans ht3352).trans ht3360).trans ht3372) hr3294
                          have hr4495 := elT (((ht3315.trans ht3352).trans ht3360).trans ht3372) hr3313
                          obtain ⟨K4481, hK4482, h4483⟩ := kE (G := fun K4481 => idle13_l3 p0 x3252 p1 i3227 K4481 1000000 0) h4068
                          refine WC.join (fun σ4497 w4496 => σ4497 3 = (Value.pointer (some ⟨b102, 0, none⟩)) ∧ σ4497 5 = (Value.int .i64 (p0 % 17)) ∧ σ4497 6 = (Value.pointer (some ⟨b151, 0, none⟩)) ∧ σ4497 7 = (Value.pointer (some ⟨b177, 0, none⟩)) ∧ σ4497 8 = (Value.int .i64 i3227) ∧ elems rowW w4496 (In ok w [] [blk b102 25 [Value.slice a1 p1.length c1], blk b151 25 [Value.slice a142 y136.length c143], blk b177 25 [Value.slice a168 y162.length c169]]) a1 p1 ∧ elems rowW w4496 (In ok w [] [blk b102 25 [Value.slice a1 p1.length c1], blk b151 25 [Value.slice a142 y136.length c143], blk b177 25 [Value.slice a168 y162.length c169]]) a142 y136 ∧ elems rowW w4496 (In ok w [] [blk b102 25 [Value.slice a1 p1.length c1], blk b151 25 [Value.slice a142 y136.length c143], blk b177 25 [Value.slice a168 y162.length c169]]) a168 y162 ∧ K4481 () = some r ∧ St [] w w4496 [blk b102 25 [Value.slice a1 p1.length c1], blk b151 25 [Value.slice a142 y136.length c143], blk b177 25 [Value.slice a168 y162.length c169]]) ?_ ?_
                          · refine WC.block ?_
                            refine WC.loop (T := Nat) (fun k4487 σ4485 w4484 => ∃ i4480 : Int, σ4485 3 = (Value.pointer (some ⟨b102, 0, none⟩)) ∧ σ4485 5 = (Value.int .i64 (p0 % 17)) ∧ σ4485 6 = (Value.pointer (some ⟨b151, 0, none⟩)) ∧ σ4485 7 = (Value.pointer (some ⟨b177, 0, none⟩)) ∧ σ4485 8 = (Value.int .i64 i3227) ∧ σ4485 9 = (Value.pointer (some ⟨b3274, 0, none⟩)) ∧ σ4485 10 = (Value.int .i64 i4480) ∧ elems rowW w4484 (In ok w [] [blk b102 25 [Value.slice a1 p1.length c1], blk b151 25 [Value.slice a142 y136.length c143], blk b177 25 [Value.slice a168 y162.length c169], blk b3274 62 (encR x3252 (Value.slice a3267 x3252.table.length c3268))]) a1 p1 ∧ elems rowW w4484 (In ok w [] [blk b102 25 [Value.slice a1 p1.length c1], blk b151 25 [Value.slice a142 y136.length c143], blk b177 25 [Value.slice a168 y162.length c169], blk b3274 62 (encR x3252 (Value.slice a3267 x3252.table.length c3268))]) a142 y136 ∧ elems rowW w4484 (In ok w [] [blk b102 25 [Value.slice a1 p1.length c1], blk b151 25 [Value.slice a142 y136.length c143], blk b177 25 [Value.slice a168 y162.length c169], blk b3274 62 (encR x3252 (Value.slice a3267 x3252.table.length c3268))]) a168 y162 ∧ elems heldW w4484 (In ok w [] [blk b102 25 [Value.slice a1 p1.length c1], blk b151 25 [Value.slice a142 y136.length c143], blk b177 25 [Value.slice a168 y162.length c169], blk b3274 62 (encR x3252 (Value.slice a3267 x3252.table.length c3268))]) a3267 x3252.table ∧ idle13_l3 p0 x3252 p1 i3227 K4481 k4487 i4480 = some r ∧ St [] w w4484 [blk b102 25 [Value.slice a1 p1.length c1], blk b151 25 [Value.slice a142 y136.length c143], blk b177 25 [Value.slice a168 y162.length c169], blk b3274 62 (encR x3252 (Value.slice a3267 x3252.table.length c3268))]) (fun k4487 => k4487) 1000000 ⟨0, s3245, s3246, s3247, s3248, s3249, rfl, rfl, hr4492, hr4493, hr4494, hr4495, h4483, hs3375⟩ ?_
                            rintro k4487 σ4485 w4484 ⟨i4480, s4503, s4504, s4505, s4506, s4507, s4508, s4509, he4488, he4489, he4490, he4491, h4502, hs4486⟩
                            rcases k4487 with _ | k4487
                            · rw [idle13_l3] at h4502; cases h4502
                            rw [idle13_l3] at h4502
                            refine WC.seq ?_
                            refine WC.seq ?_
                            refine WC.region ?_
                            refine WL.val (R.move (v := Value.int .i64 i4480) (by exact s4509)) rfl ?_
                            refine WL.val (R.move (v := Value.int .i64 (p0 % 17)) (by exact s4504)) rfl ?_
                            by_cases hc4510 : i4480 < (p0 % 17)
                            · have h4511 := ifT hc4510 h4502
                              refine WL.val (R.lssT (k := .i64) (a := i4480) (b := p0 % 17) un3 rfl rfl hc4510) rfl ?_
                              refine WL.nil ?_
                              refine thenN ?_
                              refine WC.condT rfl rfl ?_
                              refine WC.skip ?_
                              refine thenN ?_
                              refine WC.seq ?_
                              refine WC.block ?_
                              refine WC.seq ?_
                              refine WC.region ?_
                              refine WL.val (R.fieldAddr (o := 0) (o' := 56) fa62_2 (by exact s4508) rfl) rfl ?_
                              refine WL.val (R.loadL (v := Value.slice a3267 x3252.table.length c3268) lf28 rfl (hs4486.at (i := 3) (off := 56) (n := 1) (cs := [Value.slice a3267 x3252.table.length c3268]) rfl rfl rfl)) rfl ?_
                              refine WL.val (R.move (v := Value.int .i64 i4480) (by exact s4509)) rfl ?_
                              obtain ⟨x4512, hx4513, h4514⟩ := ob (o := rd x3252.table i4480) h4511
                              obtain ⟨h04515, hx4516, hl4517, hm4518⟩ := rdE hx4513
                              obtain ⟨ad4519, e4524, ha4520, hp4521, hat4522, hrd4523⟩ := he4491 _ _ hx4516
                              obtain ⟨-, rfl⟩ := hrd4523
                              refine WL.val (R.indexS (n := 56) (m := (i4480).toNat) (a := a3267) (ad := ad4519) (len := x3252.table.length) (cap := c3268) (z := i4480) un28 ag60.size rfl ha4520 rfl hm4518 hl4517 hp4521) rfl ?_
                              refine WL.val (R.loadA (cs := encH x4512) (n := 56) ag60 rfl hat4522 rfl) rfl ?_
                              refine WL.new (L' := fun b4526 => [blk b102 25 [Value.slice a1 p1.length c1], blk b151 25 [Value.slice a142 y136.length c143], blk b177 25 [Value.slice a168 y162.length c169], blk b3274 62 (encR x3252 (Value.slice a3267 x3252.table.length c3268)), blk b4526 60 (encH Hd.none)]) (f := fun b4526 => Value.pointer (some ⟨b4526, 0, none⟩)) (X.alloc (c := encH Hd.none) (hs4486.here) zr60 rfl (fun _ => rfl)) rfl ?_
                              intro b4526 w4527 ht4532 he4529 hz4530
                              have hs4533 := hs4486.trans ht4532
                              refine WL.sto (L' := [blk b102 25 [Value.slice a1 p1.length c1], blk b151 25 [Value.slice a142 y136.length c143], blk b177 25 [Value.slice a168 y162.length c169], blk b3274 62 (encR x3252 (Value.slice a3267 x3252.table.length c3268)), blk b4526 60 (encH x4512)]) (X.store (i := 4) (n := 56) (b := b4526) (off := 0) (c := encH Hd.none) (U := 60) (vs := encH x4512) (v := Value.agg (List.toArray (encH x4512))) (c' := encH x4512) (hs4533.here) rfl ag60.size rfl rfl rfl rfl rfl rfl rfl rfl) rfl rfl ?_
                              intro w4534 ht4535
                              have hs4536 := hs4533.trans ht4535
                              refine WL.nil ?_
                              refine thenN ?_
                              refine WC.seq ?_
                              refine WC.region ?_
                              have hd4537 : ∀ w, (Instr.build 60 #[]).run Try.prog w = .ok (Value.agg (List.toArray (encH Hd.none))) w := fun _ => by kernel_rfl
                              refine WL.val (R.build (vs := []) rfl hd4537) rfl ?_
                              refine WL.new (L' := fun b4538 => [blk b102 25 [Value.slice a1 p1.length c1], blk b151 25 [Value.slice a142 y136.length c143], blk b177 25 [Value.slice a168 y162.length c169], blk b3274 62 (encR x3252 (Value.slice a3267 x3252.table.length c3268)), blk b4526 60 (encH x4512), blk b4538 60 (encH Hd.none)]) (f := fun b4538 => Value.pointer (some ⟨b4538, 0, none⟩)) (X.alloc (c := encH Hd.none) (hs4536.here) zr60 rfl (fun _ => rfl)) rfl ?_
                              intro b4538 w4539 ht4544 he4541 hz4542
                              have hs4545 := hs4536.trans ht4544
                              refine WL.sto (L' := [blk b102 25 [Value.slice a1 p1.length c1], blk b151 25 [Value.slice a142 y136.length c143], blk b177 25 [Value.slice a168 y162.length c169], blk b3274 62 (encR x3252 (Value.slice a3267 x3252.table.length c3268)), blk b4526 60 (encH x4512), blk b4538 60 (encH Hd.none)]) (X.store (i := 5) (n := 56) (b := b4538) (off := 0) (c := encH Hd.none) (U := 60) (vs := encH Hd.none) (v := Value.agg (List.toArray (encH Hd.none))) (c' := encH Hd.none) (hs4545.here) rfl ag60.size rfl rfl rfl rfl rfl rfl rfl rfl) rfl rfl ?_
                              intro w4546 ht4547
                              have hs4548 := hs4545.trans ht4547
                              refine WL.nil ?_
                              refine thenN ?_
                              obtain ⟨J4593, hJ4594, h4595⟩ := jnE h4514
                              refine WC.seq ?_
                              refine WC.join (fun σ4597 w4596 => ∃ d4592 : Hd, σ4597 3 = (Value.pointer (some ⟨b102, 0, none⟩)) ∧ σ4597 5 = (Value.int .i64 (p0 % 17)) ∧ σ4597 6 = (Value.pointer (some ⟨b151, 0, none⟩)) ∧ σ4597 7 = (Value.pointer (some ⟨b177, 0, none⟩)) ∧ σ4597 8 = (Value.int .i64 i3227) ∧ σ4597 9 = (Value.pointer (some ⟨b3274, 0, none⟩)) ∧ σ4597 10 = (Value.int .i64 i4480) ∧ σ4597 11 = (Value.pointer (some ⟨b4526, 0, none⟩)) ∧ σ4597 12 = (Value.pointer (some ⟨b4538, 0, none⟩)) ∧ elems rowW w4596 (In ok w [] [blk b102 25 [Value.slice a1 p1.length c1], blk b151 25 [Value.slice a142 y136.length c143], blk b177 25 [Value.slice a168 y162.length c169], blk b3274 62 (encR x3252 (Value.slice a3267 x3252.table.length c3268)), blk b4526 60 (encH x4512), blk b4538 60 (encH d4592)]) a1 p1 ∧ elems rowW w4596 (In ok w [] [blk b102 25 [Value.slice a1 p1.length c1], blk b151 25 [Value.slice a142 y136.length c143], blk b177 25 [Value.slice a168 y162.length c169], blk b3274 62 (encR x3252 (Value.slice a3267 x3252.table.length c3268)), blk b4526 60 (encH x4512), blk b4538 60 (encH d4592)]) a142 y136 ∧ elems rowW w4596 (In ok w [] [blk b102 25 [Value.slice a1 p1.length c1], blk b151 25 [Value.slice a142 y136.length c143], blk b177 25 [Value.slice a168 y162.length c169], blk b3274 62 (encR x3252 (Value.slice a3267 x3252.table.length c3268)), blk b4526 60 (encH x4512), blk b4538 60 (encH d4592)]) a168 y162 ∧ elems heldW w4596 (In ok w [] [blk b102 25 [Value.slice a1 p1.length c1], blk b151 25 [Value.slice a142 y136.length c143], blk b177 25 [Value.slice a168 y162.length c169], blk b3274 62 (encR x3252 (Value.slice a3267 x3252.table.length c3268)), blk b4526 60 (encH x4512), blk b4538 60 (encH d4592)]) a3267 x3252.table ∧ J4593 d4592 = some r ∧ St [] w w4596 [blk b102 25 [Value.slice a1 p1.length c1], blk b151 25 [Value.slice a142 y136.length c143], blk b177 25 [Value.slice a168 y162.length c169], blk b3274 62 (encR x3252 (Value.slice a3267 x3252.table.length c3268)), blk b4526 60 (encH x4512), blk b4538 60 (encH d4592)]) ?_ ?_
                              · refine WC.seq ?_
                                refine WC.region ?_
                                refine WL.val (R.move (v := Value.int .i64 i4480) (by exact s4509)) rfl ?_
                                refine WL.val (R.fieldAddr (o := 0) (o' := 0) fa25_0 (by exact s4503) rfl) rfl ?_
                                refine WL.val (R.loadL (v := Value.slice a1 p1.length c1) lf22 rfl (hs4548.at (i := 0) (off := 0) (n := 1) (cs := [Value.slice a1 p1.length c1]) rfl rfl rfl)) rfl ?_
                                refine WL.val (R.move (v := Value.int .i64 i3227) (by exact s4507)) rfl ?_
                                obtain ⟨x4603, hx4604, h4605⟩ := ob (o := rd p1 i3227) h4595
                                obtain ⟨h04606, hx4607, hl4608, hm4609⟩ := rdE hx4604
                                have hr4610 := elT (((ht4532.trans ht4535).trans ht4544).trans ht4547) he4488
                                obtain ⟨ad4611, e4616, ha4612, hp4613, hat4614, hrd4615⟩ := hr4610 _ _ hx4607
                                obtain ⟨t4617, rfl, a4619, c4620, he4623, hl4621, he4622⟩ := hrd4615
                                cases he4623
                                refine WL.val (R.indexS (n := 57) (m := (i3227).toNat) (a := a1) (ad := ad4611) (len := p1.length) (cap := c1) (z := i3227) un22 ag62.size rfl ha4612 rfl hm4609 hl4608 hp4613) rfl ?_
                                refine WL.val (R.fieldAddr (o := ad4611.off + (i3227).toNat * 57) (o' := ad4611.off + (i3227).toNat * 57 + 56) fa62_2 rfl rfl) rfl ?_
                                refine WL.val (R.loadL (v := Value.slice a4619 x4603.table.length c4620) lf28 rfl (At.sub (a := ⟨ad4611.block, ad4611.off + (i3227).toNat * 57, none⟩) (off := 56) (n := 1) (cs := encR x4603 (Value.slice a4619 x4603.table.length c4620)) (ds := [Value.slice a4619 x4603.table.length c4620]) hat4614 rfl rfl)) rfl ?_
                                refine WL.val (R.len (a := a4619) (n := x4603.table.length) (c := c4620) un28 rfl) rfl ?_
                                by_cases hc4626 : i4480 < ((x4603.table.length : Nat) : Int)
                                · have h4627 := ifT hc4626 h4605
                                  refine WL.val (R.lssT (k := .i64) (a := i4480) (b := ((x4603.table.length : Nat) : Int)) un3 rfl rfl hc4626) rfl ?_
                                  refine WL.nil ?_
                                  refine thenN ?_
                                  refine WC.condT rfl rfl ?_
                                  refine WC.region ?_
                                  refine WL.val (R.fieldAddr (o := 0) (o' := 0) fa25_0 (by exact s4503) rfl) rfl ?_
                                  refine WL.val (R.loadL (v := Value.slice a1 p1.length c1) lf22 rfl (hs4548.at (i := 0) (off := 0) (n := 1) (cs := [Value.slice a1 p1.length c1]) rfl rfl rfl)) rfl ?_
                                  refine WL.val (R.move (v := Value.int .i64 i3227) (by exact s4507)) rfl ?_
                                  refine WL.val (R.indexS (n := 57) (m := (i3227).toNat) (a := a1) (ad := ad4611) (len := p1.length) (cap := c1) (z := i3227) un22 ag62.size rfl ha4612 rfl hm4609 hl4608 hp4613) rfl ?_
                                  refine WL.val (R.fieldAddr (o := ad4611.off + (i3227).toNat * 57) (o' := ad4611.off + (i3227).toNat * 57 + 56) fa62_2 rfl rfl) rfl ?_
                                  refine WL.val (R.loadL (v := Value.slice a4619 x4603.table.length c4620) lf28 rfl (At.sub (a := ⟨ad4611.block, ad4611.off + (i3227).toNat * 57, none⟩) (off := 56) (n := 1) (cs := encR x4603 (Value.slice a4619 x4603.table.length c4620)) (ds := [Value.slice a4619 x4603.table.length c4620]) hat4614 rfl rfl)) rfl ?_
                                  refine WL.val (R.move (v := Value.int .i64 i4480) (by exact s4509)) rfl ?_
                                  obtain ⟨x4628, hx4629, h4630⟩ := ob (o := rd x4603.table i4480) h4627
                                  obtain ⟨h04631, hx4632, hl4633, hm4634⟩ := rdE hx4629
                                  obtain ⟨ad4635, e4640, ha4636, hp4637, hat4638, hrd4639⟩ := he4622 _ _ hx4632
                                  obtain ⟨-, rfl⟩ := hrd4639
                                  refine WL.val (R.indexS (n := 56) (m := (i4480).toNat) (a := a4619) (ad := ad4635) (len := x4603.table.length) (cap := c4620) (z := i4480) un28 ag60.size rfl ha4636 rfl hm4634 hl4633 hp4637) rfl ?_
                                  refine WL.val (R.loadA (cs := encH x4628) (n := 56) ag60 rfl hat4638 rfl) rfl ?_
                                  refine WL.sto (L' := [blk b102 25 [Value.slice a1 p1.length c1], blk b151 25 [Value.slice a142 y136.length c143], blk b177 25 [Value.slice a168 y162.length c169], blk b3274 62 (encR x3252 (Value.slice a3267 x3252.table.length c3268)), blk b4526 60 (encH x4512), blk b4538 60 (encH x4628)]) (X.store (i := 5) (n := 56) (b := b4538) (off := 0) (c := encH Hd.none) (U := 60) (vs := encH x4628) (v := Value.agg (List.toArray (encH x4628))) (c' := encH x4628) (hs4548.here) rfl ag60.size rfl rfl rfl rfl rfl rfl rfl rfl) rfl rfl ?_
                                  intro w4642 ht4643
                                  have hs4644 := hs4548.trans ht4643
                                  refine WL.nil ?_
                                  have hr4645 := elT ht4643 hr4610
                                  have hr4646 := elT ((((ht4532.trans ht4535).trans ht4544).trans ht4547).trans ht4643) he4489
                                  have hr4647 := elT ((((ht4532.trans ht4535).trans ht4544).trans ht4547).trans ht4643) he4490
                                  have hr4648 := elT ((((ht4532.trans ht4535).trans ht4544).trans ht4547).trans ht4643) he4491
                                  exact joinI ⟨x4628, s4503, s4504, s4505, s4506, s4507, s4508, s4509, rfl, rfl, hr4645, hr4646, hr4647, hr4648, h4630, hs4644⟩
                                · have h4649 := ifF hc4626 h4605
                                  refine WL.val (R.lssF (k := .i64) (a := i4480) (b := ((x4603.table.length : Nat) : Int)) un3 rfl rfl hc4626) rfl ?_
                                  refine WL.nil ?_
                                  refine thenN ?_
                                  refine WC.condF rfl rfl ?_
                                  refine WC.skip ?_
                                  have hr4650 := elT (((ht4532.trans ht4535).trans ht4544).trans ht4547) he4489
                                  have hr4651 := elT (((ht4532.trans ht4535).trans ht4544).trans ht4547) he4490
                                  have hr4652 := elT (((ht4532.trans ht4535).trans ht4544).trans ht4547) he4491
                                  exact joinI ⟨Hd.none, s4503, s4504, s4505, s4506, s4507, s4508, s4509, rfl, rfl, hr4610, hr4650, hr4651, hr4652, h4649, hs4548⟩
                              · rintro σ4597 w4596 ⟨d4592, s4654, s4655, s4656, s4657, s4658, s4659, s4660, s4661, s4662, he4599, he4600, he4601, he4602, h4653, hs4598⟩
                                subst hJ4594
                                refine thenN ?_
                                refine WC.seq ?_
                                refine WC.region ?_
                                refine WL.val (R.fieldAddr (o := 0) (o' := 0) fa60_0 (by exact s4661) rfl) rfl ?_
                                refine WL.val (R.loadL (v := Value.bool x4512.is) lf4 rfl (hs4598.at (i := 4) (off := 0) (n := 1) (cs := [Value.bool x4512.is]) rfl rfl rfl)) rfl ?_
                                refine WL.val (R.fieldAddr (o := 0) (o' := 0) fa60_0 (by exact s4662) rfl) rfl ?_
                                refine WL.val (R.loadL (v := Value.bool d4592.is) lf4 rfl (hs4598.at (i := 5) (off := 0) (n := 1) (cs := [Value.bool d4592.is]) rfl rfl rfl)) rfl ?_
                                by_cases hc4663 : x4512.is = true
                                · have h4664 := ifT hc4663 h4653
                                  by_cases hc4665 : d4592.is = true
                                  · have h4666 := ifT hc4665 h4664
                                    refine WL.val (R.neB (a := true) (b := true) un4 (Eq.trans (show _ = Value.bool x4512.is from rfl) (congrArg Value.bool hc4663)) (Eq.trans (show _ = Value.bool d4592.is from rfl) (congrArg Value.bool hc4665))) rfl ?_
                                    refine WL.val (R.move (v := Value.bool false) rfl) rfl ?_
                                    refine WL.guardY (e := 151) rfl rfl rfl ?_
                                    refine WL.val (R.fieldAddr (o := 0) (o' := 0) fa60_0 (by exact s4661) rfl) rfl ?_
                                    refine WL.guardY (e := 151) rfl rfl rfl ?_
                                    refine WL.val (R.loadL (v := Value.bool x4512.is) lf4 rfl (hs4598.at (i := 4) (off := 0) (n := 1) (cs := [Value.bool x4512.is]) rfl rfl rfl)) rfl ?_
                                    refine WL.guardY (e := 151) rfl rfl rfl ?_
                                    refine WL.val (R.move (v := Value.bool x4512.is) rfl) rfl ?_
                                    refine WL.guardY (e := 154) (Eq.trans (show _ = Value.bool x4512.is from rfl) (congrArg Value.bool hc4663)) rfl rfl ?_
                                    refine WL.val (R.fieldAddr (o := 0) (o' := 1) fa60_1 (by exact s4661) rfl) rfl ?_
                                    refine WL.guardY (e := 154) (Eq.trans (show _ = Value.bool x4512.is from rfl) (congrArg Value.bool hc4663)) rfl rfl ?_
                                    refine WL.val (R.loadA (cs := encC x4512.cell) (n := 55) ag58 rfl (hs4598.at (i := 4) (off := 1) (n := 55) (cs := encC x4512.cell) rfl rfl rfl) rfl) rfl ?_
                                    refine WL.guardY (e := 154) (Eq.trans (show _ = Value.bool x4512.is from rfl) (congrArg Value.bool hc4663)) rfl rfl ?_
                                    obtain ⟨y4667, hx4668, h4669⟩ := ob (o := fine13 x4512.cell) h4666
                                    refine WL.call (fine13_ok _ (In ok w [] [blk b102 25 [Value.slice a1 p1.length c1], blk b151 25 [Value.slice a142 y136.length c143], blk b177 25 [Value.slice a168 y162.length c169], blk b3274 62 (encR x3252 (Value.slice a3267 x3252.table.length c3268)), blk b4526 60 (encH x4512), blk b4538 60 (encH d4592)]) x4512.cell  hx4668) (R.call (vs := [Value.agg (List.toArray (encC x4512.cell))]) (caps := []) bo66 rfl rfl) rfl ?_
                                    rintro v4672 w4673 ⟨rfl, ht4670⟩
                                    have ht4671 := hs4598.call (N := [blk b102 25 [Value.slice a1 p1.length c1], blk b151 25 [Value.slice a142 y136.length c143], blk b177 25 [Value.slice a168 y162.length c169], blk b3274 62 (encR x3252 (Value.slice a3267 x3252.table.length c3268)), blk b4526 60 (encH x4512), blk b4538 60 (encH d4592)]) (M := []) (List.Perm.refl _) ht4670
                                    have hs4674 := hs4598.trans ht4671
                                    refine WL.guardY (e := 154) (Eq.trans (show _ = Value.bool x4512.is from rfl) (congrArg Value.bool hc4663)) rfl rfl ?_
                                    refine WL.val (R.not (b := y4667) rfl) rfl ?_
                                    refine WL.guardY (e := 151) rfl rfl rfl ?_
                                    refine WL.val (R.pickT (v := Value.bool (!y4667)) (Eq.trans (show _ = Value.bool x4512.is from rfl) (congrArg Value.bool hc4663)) rfl) rfl ?_
                                    refine WL.val (R.pickF (v := Value.bool (!y4667)) rfl rfl) rfl ?_
                                    refine WL.val (R.move (v := Value.bool (!y4667)) rfl) rfl ?_
                                    by_cases hc4675 : y4667 = true
                                    · have h4676 := ifT hc4675 h4669
                                      have hk4677 : (!y4667) = false := by simp [hc4675]
                                      refine WL.guardY (e := 161) (Eq.trans (show _ = Value.bool (!y4667) from rfl) (congrArg Value.bool hk4677)) rfl rfl ?_
                                      refine WL.val (R.fieldAddr (o := 0) (o' := 0) fa60_0 (by exact s4661) rfl) rfl ?_
                                      refine WL.guardY (e := 161) (Eq.trans (show _ = Value.bool (!y4667) from rfl) (congrArg Value.bool hk4677)) rfl rfl ?_
                                      refine WL.val (R.loadL (v := Value.bool x4512.is) lf4 rfl (hs4674.at (i := 4) (off := 0) (n := 1) (cs := [Value.bool x4512.is]) rfl rfl rfl)) rfl ?_
                                      refine WL.guardY (e := 161) (Eq.trans (show _ = Value.bool (!y4667) from rfl) (congrArg Value.bool hk4677)) rfl rfl ?_
                                      refine WL.val (R.not (b := x4512.is) rfl) rfl ?_
                                      refine WL.guardY (e := 161) (Eq.trans (show _ = Value.bool (!y4667) from rfl) (congrArg Value.bool hk4677)) rfl rfl ?_
                                      refine WL.val (R.move (v := Value.bool (!x4512.is)) rfl) rfl ?_
                                      have hk4678 : (!x4512.is) = false := by simp [hc4663]
                                      refine WL.guardN (e := 165) (v := .bool false) (Eq.trans (show _ = Value.bool (!x4512.is) from rfl) (congrArg Value.bool hk4678)) rfl rfl rfl ?_
                                      refine WL.guardN (e := 165) (v := .bool false) (Eq.trans (show _ = Value.bool (!x4512.is) from rfl) (congrArg Value.bool hk4678)) rfl rfl rfl ?_
                                      refine WL.guardN (e := 165) (v := .bool false) (Eq.trans (show _ = Value.bool (!x4512.is) from rfl) (congrArg Value.bool hk4678)) rfl rfl rfl ?_
                                      refine WL.guardN (e := 165) (v := .bool false) (Eq.trans (show _ = Value.bool (!x4512.is) from rfl) (congrArg Value.bool hk4678)) rfl rfl rfl ?_
                                      refine WL.guardY (e := 161) (Eq.trans (show _ = Value.bool (!y4667) from rfl) (congrArg Value.bool hk4677)) rfl rfl ?_
                                      refine WL.val (R.pickF (v := Value.bool false) (Eq.trans (show _ = Value.bool (!x4512.is) from rfl) (congrArg Value.bool hk4678)) rfl) rfl ?_
                                      refine WL.val (R.pickF (v := Value.bool false) (Eq.trans (show _ = Value.bool (!y4667) from rfl) (congrArg Value.bool hk4677)) rfl) rfl ?_
                                      refine WL.val (R.move (v := Value.bool false) rfl) rfl ?_
                                      refine WL.guardY (e := 172) rfl rfl rfl ?_
                                      refine WL.val (R.fieldAddr (o := 0) (o' := 0) fa60_0 (by exact s4661) rfl) rfl ?_
                                      refine WL.guardY (e := 172) rfl rfl rfl ?_
                                      refine WL.val (R.loadL (v := Value.bool x4512.is) lf4 rfl (hs4674.at (i := 4) (off := 0) (n := 1) (cs := [Value.bool x4512.is]) rfl rfl rfl)) rfl ?_
                                      refine WL.guardY (e := 172) rfl rfl rfl ?_
                                      refine WL.val (R.move (v := Value.bool x4512.is) rfl) rfl ?_
                                      refine WL.guardY (e := 175) (Eq.trans (show _ = Value.bool x4512.is from rfl) (congrArg Value.bool hc4663)) rfl rfl ?_
                                      refine WL.val (R.fieldAddr (o := 0) (o' := 1) fa60_1 (by exact s4662) rfl) rfl ?_
                                      refine WL.guardY (e := 175) (Eq.trans (show _ = Value.bool x4512.is from rfl) (congrArg Value.bool hc4663)) rfl rfl ?_
                                      refine WL.val (R.loadA (cs := encC d4592.cell) (n := 55) ag58 rfl (hs4674.at (i := 5) (off := 1) (n := 55) (cs := encC d4592.cell) rfl rfl rfl) rfl) rfl ?_
                                      refine WL.guardY (e := 175) (Eq.trans (show _ = Value.bool x4512.is from rfl) (congrArg Value.bool hc4663)) rfl rfl ?_
                                      obtain ⟨y4679, hx4680, h4681⟩ := ob (o := fine13 d4592.cell) h4676
                                      refine WL.call (fine13_ok _ (In ok w [] [blk b102 25 [Value.slice a1 p1.length c1], blk b151 25 [Value.slice a142 y136.length c143], blk b177 25 [Value.slice a168 y162.length c169], blk b3274 62 (encR x3252 (Value.slice a3267 x3252.table.length c3268)), blk b4526 60 (encH x4512), blk b4538 60 (encH d4592)]) d4592.cell  hx4680) (R.call (vs := [Value.agg (List.toArray (encC d4592.cell))]) (caps := []) bo66 rfl rfl) rfl ?_
                                      rintro v4684 w4685 ⟨rfl, ht4682⟩
                                      have ht4683 := hs4674.call (N := [blk b102 25 [Value.slice a1 p1.length c1], blk b151 25 [Value.slice a142 y136.length c143], blk b177 25 [Value.slice a168 y162.length c169], blk b3274 62 (encR x3252 (Value.slice a3267 x3252.table.length c3268)), blk b4526 60 (encH x4512), blk b4538 60 (encH d4592)]) (M := []) (List.Perm.refl _) ht4682
                                      have hs4686 := hs4674.trans ht4683
                                      refine WL.guardY (e := 172) rfl rfl rfl ?_
                                      refine WL.val (R.pickT (v := Value.bool y4679) (Eq.trans (show _ = Value.bool x4512.is from rfl) (congrArg Value.bool hc4663)) rfl) rfl ?_
                                      refine WL.guardY (e := 172) rfl rfl rfl ?_
                                      refine WL.val (R.move (v := Value.bool y4679) rfl) rfl ?_
                                      by_cases hc4687 : y4679 = true
                                      · have h4688 := ifT hc4687 h4681
                                        refine WL.guardY (e := 180) (Eq.trans (show _ = Value.bool y4679 from rfl) (congrArg Value.bool hc4687)) rfl rfl ?_
                                        refine WL.val (R.loadA (cs := encH x4512) (n := 56) ag60 (by exact s4661) (hs4686.at (i := 4) (off := 0) (n := 56) (cs := encH x4512) rfl rfl rfl) rfl) rfl ?_
                                        refine WL.guardY (e := 180) (Eq.trans (show _ = Value.bool y4679 from rfl) (congrArg Value.bool hc4687)) rfl rfl ?_
                                        refine WL.val (R.loadA (cs := encH d4592) (n := 56) ag60 (by exact s4662) (hs4686.at (i := 5) (off := 0) (n := 56) (cs := encH d4592) rfl rfl rfl) rfl) rfl ?_
                                        refine WL.guardY (e := 180) (Eq.trans (show _ = Value.bool y4679 from rfl) (congrArg Value.bool hc4687)) rfl rfl ?_
                                        refine WL.val (R.neHeld (a := x4512) (b := d4592) rfl rfl) rfl ?_
                                        refine WL.guardY (e := 172) rfl rfl rfl ?_
                                        refine WL.val (R.pickT (v := Value.bool (decide (¬ (x4512 = d4592)))) (Eq.trans (show _ = Value.bool y4679 from rfl) (congrArg Value.bool hc4687)) rfl) rfl ?_
                                        refine WL.val (R.pickF (v := Value.bool (decide (¬ (x4512 = d4592)))) rfl rfl) rfl ?_
                                        refine WL.nil ?_
                                        refine thenN ?_
                                        by_cases hc4689 : ¬ (x4512 = d4592)
                                        · have h4690 := ifT hc4689 h4688
                                          refine WC.condT (Eq.trans (show _ = Value.bool (decide (¬ (x4512 = d4592))) from rfl) (congrArg Value.bool (decide_eq_true hc4689))) rfl ?_
                                          refine WC.seq ?_
                                          refine WC.region ?_
                                          refine WL.val (R.assign (v := Value.bool false) rfl) rfl ?_
                                          refine WL.nil ?_
                                          refine thenN ?_
                                          refine WC.ret ?_
                                          have ht4691 := (hs4686.here).perm (L' := []) (G := [blk b102 25 [Value.slice a1 p1.length c1], blk b151 25 [Value.slice a142 y136.length c143], blk b177 25 [Value.slice a168 y162.length c169], blk b3274 62 (encR x3252 (Value.slice a3267 x3252.table.length c3268)), blk b4526 60 (encH x4512), blk b4538 60 (encH d4592)]) ((List.Perm.refl _))
                                          have hs4692 := hs4686.trans ht4691
                                          obtain rfl := Option.some.inj (show some false = some r from h4690)
                                          exact ret1 (P := Try.prog) (n := 187) (fn := Try.f14) (R := fun v w' => v = Value.bool false ∧ St [] w w' []) (t := 4) (v := Value.bool false) rfl rfl rfl ⟨rfl, hs4692⟩
                                        · have h4693 := ifF hc4689 h4688
                                          refine WC.condF (Eq.trans (show _ = Value.bool (decide (¬ (x4512 = d4592))) from rfl) (congrArg Value.bool (decide_eq_false hc4689))) rfl ?_
                                          refine WC.skip ?_
                                          refine blockN ?_
                                          refine thenN ?_
                                          refine WC.region ?_
                                          refine WL.val (R.move (v := Value.int .i64 i4480) (by exact s4660)) rfl ?_
                                          obtain ⟨hg4694, h4695⟩ := ckE (c := -9223372036854775808 ≤ i4480 + 1 ∧ i4480 + 1 ≤ 9223372036854775807) h4693
                                          refine WL.val (R.add (a := i4480) (b := 1) (z := i4480 + 1) rfl rfl (w64e rfl hg4694.1 hg4694.2)) rfl ?_
                                          refine WL.val (R.assign (v := Value.int .i64 (i4480 + 1)) rfl) rfl ?_
                                          refine WL.nil ?_
                                          have ht4696 := (hs4686.here).perm (L' := [blk b102 25 [Value.slice a1 p1.length c1], blk b151 25 [Value.slice a142 y136.length c143], blk b177 25 [Value.slice a168 y162.length c169], blk b3274 62 (encR x3252 (Value.slice a3267 x3252.table.length c3268))]) (G := [blk b4526 60 (encH x4512), blk b4538 60 (encH d4592)]) ((List.Perm.refl _))
                                          have hs4697 := hs4686.trans ht4696
                                          have hr4698 := elT ((ht4671.trans ht4683).trans ht4696) he4599
                                          have hr4699 := elT ((ht4671.trans ht4683).trans ht4696) he4600
                                          have hr4700 := elT ((ht4671.trans ht4683).trans ht4696) he4601
                                          have hr4701 := elT ((ht4671.trans ht4683).trans ht4696) he4602
                                          exact roundEnd (s := k4487) ⟨i4480 + 1, s4654, s4655, s4656, s4657, s4658, s4659, rfl, hr4698, hr4699, hr4700, hr4701, h4695, hs4697⟩ (Nat.lt_succ_self _)
                                      · have h4702 := ifF hc4687 h4681
                                        refine WL.guardN (e := 180) (v := .bool false) (Eq.trans (show _ = Value.bool y4679 from rfl) (congrArg Value.bool (Bool.eq_false_iff.2 hc4687))) rfl rfl rfl ?_
                                        refine WL.guardN (e := 180) (v := .bool false) (Eq.trans (show _ = Value.bool y4679 from rfl) (congrArg Value.bool (Bool.eq_false_iff.2 hc4687))) rfl rfl rfl ?_
                                        refine WL.guardN (e := 180) (v := .bool false) (Eq.trans (show _ = Value.bool y4679 from rfl) (congrArg Value.bool (Bool.eq_false_iff.2 hc4687))) rfl rfl rfl ?_
                                        refine WL.guardY (e := 172) rfl rfl rfl ?_
                                        refine WL.val (R.pickF (v := Value.bool false) (Eq.trans (show _ = Value.bool y4679 from rfl) (congrArg Value.bool (Bool.eq_false_iff.2 hc4687))) rfl) rfl ?_
                                        refine WL.val (R.pickF (v := Value.bool false) rfl rfl) rfl ?_
                                        refine WL.nil ?_
                                        refine thenN ?_
                                        refine WC.condF rfl rfl ?_
                                        refine WC.skip ?_
                                        refine blockN ?_
                                        refine thenN ?_
                                        refine WC.region ?_
                                        refine WL.val (R.move (v := Value.int .i64 i4480) (by exact s4660)) rfl ?_
                                        obtain ⟨hg4703, h4704⟩ := ckE (c := -9223372036854775808 ≤ i4480 + 1 ∧ i4480 + 1 ≤ 9223372036854775807) h4702
                                        refine WL.val (R.add (a := i4480) (b := 1) (z := i4480 + 1) rfl rfl (w64e rfl hg4703.1 hg4703.2)) rfl ?_
                                        refine WL.val (R.assign (v := Value.int .i64 (i4480 + 1)) rfl) rfl ?_
                                        refine WL.nil ?_
                                        have ht4705 := (hs4686.here).perm (L' := [blk b102 25 [Value.slice a1 p1.length c1], blk b151 25 [Value.slice a142 y136.length c143], blk b177 25 [Value.slice a168 y162.length c169], blk b3274 62 (encR x3252 (Value.slice a3267 x3252.table.length c3268))]) (G := [blk b4526 60 (encH x4512), blk b4538 60 (encH d4592)]) ((List.Perm.refl _))
                                        have hs4706 := hs4686.trans ht4705
                                        have hr4707 := elT ((ht4671.trans ht4683).trans ht4705) he4599
                                        have hr4708 := elT ((ht4671.trans ht4683).trans ht4705) he4600
                                        have hr4709 := elT ((ht4671.trans ht4683).trans ht4705) he4601
                                        have hr4710 := elT ((ht4671.trans ht4683).trans ht4705) he4602
                                        exact roundEnd (s := k4487) ⟨i4480 + 1, s4654, s4655, s4656, s4657, s4658, s4659, rfl, hr4707, hr4708, hr4709, hr4710, h4704, hs4706⟩ (Nat.lt_succ_self _)
                                    · have h4711 := ifF hc4675 h4669
                                      have hk4712 : (!y4667) = true := by simp [hc4675]
                                      refine WL.guardN (e := 161) (v := .bool true) (Eq.trans (show _ = Value.bool (!y4667) from rfl) (congrArg Value.bool hk4712)) rfl rfl rfl ?_
                                      refine WL.guardN (e := 161) (v := .bool true) (Eq.trans (show _ = Value.bool (!y4667) from rfl) (congrArg Value.bool hk4712)) rfl rfl rfl ?_
                                      refine WL.guardN (e := 161) (v := .bool true) (Eq.trans (show _ = Value.bool (!y4667) from rfl) (congrArg Value.bool hk4712)) rfl rfl rfl ?_
                                      refine WL.guardN (e := 161) (v := .bool true) (Eq.trans (show _ = Value.bool (!y4667) from rfl) (congrArg Value.bool hk4712)) rfl rfl rfl ?_
                                      refine WL.guardN (e := 165) (v := undef) rfl rfl rfl rfl ?_
                                      refine WL.guardN (e := 165) (v := undef) rfl rfl rfl rfl ?_
                                      refine WL.guardN (e := 165) (v := undef) rfl rfl rfl rfl ?_
                                      refine WL.guardN (e := 165) (v := undef) rfl rfl rfl rfl ?_
                                      refine WL.guardN (e := 161) (v := .bool true) (Eq.trans (show _ = Value.bool (!y4667) from rfl) (congrArg Value.bool hk4712)) rfl rfl rfl ?_
                                      refine WL.val (R.pickT (v := Value.bool true) (Eq.trans (show _ = Value.bool (!y4667) from rfl) (congrArg Value.bool hk4712)) rfl) rfl ?_
                                      refine WL.val (R.move (v := Value.bool true) rfl) rfl ?_
                                      refine WL.guardN (e := 172) (v := .bool true) rfl rfl rfl rfl ?_
                                      refine WL.guardN (e := 172) (v := .bool true) rfl rfl rfl rfl ?_
                                      refine WL.guardN (e := 172) (v := .bool true) rfl rfl rfl rfl ?_
                                      refine WL.guardN (e := 175) (v := undef) rfl rfl rfl rfl ?_
                                      refine WL.guardN (e := 175) (v := undef) rfl rfl rfl rfl ?_
                                      refine WL.guardN (e := 175) (v := undef) rfl rfl rfl rfl ?_
                                      refine WL.guardN (e := 172) (v := .bool true) rfl rfl rfl rfl ?_
                                      refine WL.guardN (e := 172) (v := .bool true) rfl rfl rfl rfl ?_
                                      refine WL.guardN (e := 180) (v := undef) rfl rfl rfl rfl ?_
                                      refine WL.guardN (e := 180) (v := undef) rfl rfl rfl rfl ?_
                                      refine WL.guardN (e := 180) (v := undef) rfl rfl rfl rfl ?_
                                      refine WL.guardN (e := 172) (v := .bool true) rfl rfl rfl rfl ?_
                                      refine WL.val (R.pickT (v := Value.bool true) rfl rfl) rfl ?_
                                      refine WL.nil ?_
                                      refine thenN ?_
                                      refine WC.condT rfl rfl ?_
                                      refine WC.seq ?_
                                      refine WC.region ?_
                                      refine WL.val (R.assign (v := Value.bool false) rfl) rfl ?_
                                      refine WL.nil ?_
                                      refine thenN ?_
                                      refine WC.ret ?_
                                      have ht4713 := (hs4674.here).perm (L' := []) (G := [blk b102 25 [Value.slice a1 p1.length c1], blk b151 25 [Value.slice a142 y136.length c143], blk b177 25 [Value.slice a168 y162.length c169], blk b3274 62 (encR x3252 (Value.slice a3267 x3252.table.length c3268)), blk b4526 60 (encH x4512), blk b4538 60 (encH d4592)]) ((List.Perm.refl _))
                                      have hs4714 := hs4674.trans ht4713
                                      obtain rfl := Option.some.inj (show some false = some r from h4711)
                                      exact ret1 (P := Try.prog) (n := 187) (fn := Try.f14) (R := fun v w' => v = Value.bool false ∧ St [] w w' []) (t := 4) (v := Value.bool false) rfl rfl rfl ⟨rfl, hs4714⟩
                                  · have h4715 := ifF hc4665 h4664
                                    refine WL.val (R.neB (a := true) (b := false) un4 (Eq.trans (show _ = Value.bool x4512.is from rfl) (congrArg Value.bool hc4663)) (Eq.trans (show _ = Value.bool d4592.is from rfl) (congrArg Value.bool (Bool.eq_false_iff.2 hc4665)))) rfl ?_
                                    refine WL.val (R.move (v := Value.bool true) rfl) rfl ?_
                                    refine WL.guardN (e := 151) (v := .bool true) rfl rfl rfl rfl ?_
                                    refine WL.guardN (e := 151) (v := .bool true) rfl rfl rfl rfl ?_
                                    refine WL.guardN (e := 151) (v := .bool true) rfl rfl rfl rfl ?_
                                    refine WL.guardN (e := 154) (v := undef) rfl rfl rfl rfl ?_
                                    refine WL.guardN (e := 154) (v := undef) rfl rfl rfl rfl ?_
                                    refine WL.guardN (e := 154) (v := undef) rfl rfl rfl rfl ?_
                                    refine WL.guardN (e := 154) (v := undef) rfl rfl rfl rfl ?_
                                    refine WL.guardN (e := 151) (v := .bool true) rfl rfl rfl rfl ?_
                                    refine WL.val (R.pickT (v := Value.bool true) rfl rfl) rfl ?_
                                    refine WL.val (R.move (v := Value.bool true) rfl) rfl ?_
                                    refine WL.guardN (e := 161) (v := .bool true) rfl rfl rfl rfl ?_
                                    refine WL.guardN (e := 161) (v := .bool true) rfl rfl rfl rfl ?_
                                    refine WL.guardN (e := 161) (v := .bool true) rfl rfl rfl rfl ?_
                                    refine WL.guardN (e := 161) (v := .bool true) rfl rfl rfl rfl ?_
                                    refine WL.guardN (e := 165) (v := undef) rfl rfl rfl rfl ?_
                                    refine WL.guardN (e := 165) (v := undef) rfl rfl rfl rfl ?_
                                    refine WL.guardN (e := 165) (v := undef) rfl rfl rfl rfl ?_
                                    refine WL.guardN (e := 165) (v := undef) rfl rfl rfl rfl ?_
                                    refine WL.guardN (e := 161) (v := .bool true) rfl rfl rfl rfl ?_
                                    refine WL.val (R.pickT (v := Value.bool true) rfl rfl) rfl ?_
                                    refine WL.val (R.move (v := Value.bool true) rfl) rfl ?_
                                    refine WL.guardN (e := 172) (v := .bool true) rfl rfl rfl rfl ?_
                                    refine WL.guardN (e := 172) (v := .bool true) rfl rfl rfl rfl ?_
                                    refine WL.guardN (e := 172) (v := .bool true) rfl rfl rfl rfl ?_
                                    refine WL.guardN (e := 175) (v := undef) rfl rfl rfl rfl ?_
                                    refine WL.guardN (e := 175) (v := undef) rfl rfl rfl rfl ?_
                                    refine WL.guardN (e := 175) (v := undef) rfl rfl rfl rfl ?_
                                    refine WL.guardN (e := 172) (v := .bool true) rfl rfl rfl rfl ?_
                                    refine WL.guardN (e := 172) (v := .bool true) rfl rfl rfl rfl ?_
                                    refine WL.guardN (e := 180) (v := undef) rfl rfl rfl rfl ?_
                                    refine WL.guardN (e := 180) (v := undef) rfl rfl rfl rfl ?_
                                    refine WL.guardN (e := 180) (v := undef) rfl rfl rfl rfl ?_
                                    refine WL.guardN (e := 172) (v := .bool true) rfl rfl rfl rfl ?_
                                    refine WL.val (R.pickT (v := Value.bool true) rfl rfl) rfl ?_
                                    refine WL.nil ?_
                                    refine thenN ?_
                                    refine WC.condT rfl rfl ?_
                                    refine WC.seq ?_
                                    refine WC.region ?_
                                    refine WL.val (R.assign (v := Value.bool false) rfl) rfl ?_
                                    refine WL.nil ?_
                                    refine thenN ?_
                                    refine WC.ret ?_
                                    have ht4716 := (hs4598.here).perm (L' := []) (G := [blk b102 25 [Value.slice a1 p1.length c1], blk b151 25 [Value.slice a142 y136.length c143], blk b177 25 [Value.slice a168 y162.length c169], blk b3274 62 (encR x3252 (Value.slice a3267 x3252.table.length c3268)), blk b4526 60 (encH x4512), blk b4538 60 (encH d4592)]) ((List.Perm.refl _))
                                    have hs4717 := hs4598.trans ht4716
                                    obtain rfl := Option.some.inj (show some false = some r from h4715)
                                    exact ret1 (P := Try.prog) (n := 187) (fn := Try.f14) (R := fun v w' => v = Value.bool false ∧ St [] w w' []) (t := 4) (v := Value.bool false) rfl rfl rfl ⟨rfl, hs4717⟩
                                · have h4718 := ifF hc4663 h4653
                                  by_cases hc4719 : d4592.is = true
                                  · have h4720 := ifT hc4719 h4718
                                    refine WL.val (R.neB (a := false) (b := true) un4 (Eq.trans (show _ = Value.bool x4512.is from rfl) (congrArg Value.bool (Bool.eq_false_iff.2 hc4663))) (Eq.trans (show _ = Value.bool d4592.is from rfl) (congrArg Value.bool hc4719))) rfl ?_
                                    refine WL.val (R.move (v := Value.bool true) rfl) rfl ?_
                                    refine WL.guardN (e := 151) (v := .bool true) rfl rfl rfl rfl ?_
                                    refine WL.guardN (e := 151) (v := .bool true) rfl rfl rfl rfl ?_
                                    refine WL.guardN (e := 151) (v := .bool true) rfl rfl rfl rfl ?_
                                    refine WL.guardN (e := 154) (v := undef) rfl rfl rfl rfl ?_
                                    refine WL.guardN (e := 154) (v := undef) rfl rfl rfl rfl ?_
                                    refine WL.guardN (e := 154) (v := undef) rfl rfl rfl rfl ?_
                                    refine WL.guardN (e := 154) (v := undef) rfl rfl rfl rfl ?_
                                    refine WL.guardN (e := 151) (v := .bool true) rfl rfl rfl rfl ?_
                                    refine WL.val (R.pickT (v := Value.bool true) rfl rfl) rfl ?_
                                    refine WL.val (R.move (v := Value.bool true) rfl) rfl ?_
                                    refine WL.guardN (e := 161) (v := .bool true) rfl rfl rfl rfl ?_
                                    refine WL.guardN (e := 161) (v := .bool true) rfl rfl rfl rfl ?_
                                    refine WL.guardN (e := 161) (v := .bool true) rfl rfl rfl rfl ?_
                                    refine WL.guardN (e := 161) (v := .bool true) rfl rfl rfl rfl ?_
                                    refine WL.guardN (e := 165) (v := undef) rfl rfl rfl rfl ?_
                                    refine WL.guardN (e := 165) (v := undef) rfl rfl rfl rfl ?_
                                    refine WL.guardN (e := 165) (v := undef) rfl rfl rfl rfl ?_
                                    refine WL.guardN (e := 165) (v := undef) rfl rfl rfl rfl ?_
                                    refine WL.guardN (e := 161) (v := .bool true) rfl rfl rfl rfl ?_
                                    refine WL.val (R.pickT (v := Value.bool true) rfl rfl) rfl ?_
                                    refine WL.val (R.move (v := Value.bool true) rfl) rfl ?_
                                    refine WL.guardN (e := 172) (v := .bool true) rfl rfl rfl rfl ?_
                                    refine WL.guardN (e := 172) (v := .bool true) rfl rfl rfl rfl ?_
                                    refine WL.guardN (e := 172) (v := .bool true) rfl rfl rfl rfl ?_
                                    refine WL.guardN (e := 175) (v := undef) rfl rfl rfl rfl ?_
                                    refine WL.guardN (e := 175) (v := undef) rfl rfl rfl rfl ?_
                                    refine WL.guardN (e := 175) (v := undef) rfl rfl rfl rfl ?_
                                    refine WL.guardN (e := 172) (v := .bool true) rfl rfl rfl rfl ?_
                                    refine WL.guardN (e := 172) (v := .bool true) rfl rfl rfl rfl ?_
                                    refine WL.guardN (e := 180) (v := undef) rfl rfl rfl rfl ?_
                                    refine WL.guardN (e := 180) (v := undef) rfl rfl rfl rfl ?_
                                    refine WL.guardN (e := 180) (v := undef) rfl rfl rfl rfl ?_
                                    refine WL.guardN (e := 172) (v := .bool true) rfl rfl rfl rfl ?_
                                    refine WL.val (R.pickT (v := Value.bool true) rfl rfl) rfl ?_
                                    refine WL.nil ?_
                                    refine thenN ?_
                                    refine WC.condT rfl rfl ?_
                                    refine WC.seq ?_
                                    refine WC.region ?_
                                    refine WL.val (R.assign (v := Value.bool false) rfl) rfl ?_
                                    refine WL.nil ?_
                                    refine thenN ?_
                                    refine WC.ret ?_
                                    have ht4721 := (hs4598.here).perm (L' := []) (G := [blk b102 25 [Value.slice a1 p1.length c1], blk b151 25 [Value.slice a142 y136.length c143], blk b177 25 [Value.slice a168 y162.length c169], blk b3274 62 (encR x3252 (Value.slice a3267 x3252.table.length c3268)), blk b4526 60 (encH x4512), blk b4538 60 (encH d4592)]) ((List.Perm.refl _))
                                    have hs4722 := hs4598.trans ht4721
                                    obtain rfl := Option.some.inj (show some false = some r from h4720)
                                    exact ret1 (P := Try.prog) (n := 187) (fn := Try.f14) (R := fun v w' => v = Value.bool false ∧ St [] w w' []) (t := 4) (v := Value.bool false) rfl rfl rfl ⟨rfl, hs4722⟩
                                  · have h4723 := ifF hc4719 h4718
                                    refine WL.val (R.neB (a := false) (b := false) un4 (Eq.trans (show _ = Value.bool x4512.is from rfl) (congrArg Value.bool (Bool.eq_false_iff.2 hc4663))) (Eq.trans (show _ = Value.bool d4592.is from rfl) (congrArg Value.bool (Bool.eq_false_iff.2 hc4719)))) rfl ?_
                                    refine WL.val (R.move (v := Value.bool false) rfl) rfl ?_
                                    refine WL.guardY (e := 151) rfl rfl rfl ?_
                                    refine WL.val (R.fieldAddr (o := 0) (o' := 0) fa60_0 (by exact s4661) rfl) rfl ?_
                                    refine WL.guardY (e := 151) rfl rfl rfl ?_
                                    refine WL.val (R.loadL (v := Value.bool x4512.is) lf4 rfl (hs4598.at (i := 4) (off := 0) (n := 1) (cs := [Value.bool x4512.is]) rfl rfl rfl)) rfl ?_
                                    refine WL.guardY (e := 151) rfl rfl rfl ?_
                                    refine WL.val (R.move (v := Value.bool x4512.is) rfl) rfl ?_
                                    refine WL.guardN (e := 154) (v := .bool false) (Eq.trans (show _ = Value.bool x4512.is from rfl) (congrArg Value.bool (Bool.eq_false_iff.2 hc4663))) rfl rfl rfl ?_
                                    refine WL.guardN (e := 154) (v := .bool false) (Eq.trans (show _ = Value.bool x4512.is from rfl) (congrArg Value.bool (Bool.eq_false_iff.2 hc4663))) rfl rfl rfl ?_
                                    refine WL.guardN (e := 154) (v := .bool false) (Eq.trans (show _ = Value.bool x4512.is from rfl) (congrArg Value.bool (Bool.eq_false_iff.2 hc4663))) rfl rfl rfl ?_
                                    refine WL.guardN (e := 154) (v := .bool false) (Eq.trans (show _ = Value.bool x4512.is from rfl) (congrArg Value.bool (Bool.eq_false_iff.2 hc4663))) rfl rfl rfl ?_
                                    refine WL.guardY (e := 151) rfl rfl rfl ?_
                                    refine WL.val (R.pickF (v := Value.bool false) (Eq.trans (show _ = Value.bool x4512.is from rfl) (congrArg Value.bool (Bool.eq_false_iff.2 hc4663))) rfl) rfl ?_
                                    refine WL.val (R.pickF (v := Value.bool false) rfl rfl) rfl ?_
                                    refine WL.val (R.move (v := Value.bool false) rfl) rfl ?_
                                    refine WL.guardY (e := 161) rfl rfl rfl ?_
                                    refine WL.val (R.fieldAddr (o := 0) (o' := 0) fa60_0 (by exact s4661) rfl) rfl ?_
                                    refine WL.guardY (e := 161) rfl rfl rfl ?_
                                    refine WL.val (R.loadL (v := Value.bool x4512.is) lf4 rfl (hs4598.at (i := 4) (off := 0) (n := 1) (cs := [Value.bool x4512.is]) rfl rfl rfl)) rfl ?_
                                    refine WL.guardY (e := 161) rfl rfl rfl ?_
                                    refine WL.val (R.not (b := x4512.is) rfl) rfl ?_
                                    refine WL.guardY (e := 161) rfl rfl rfl ?_
                                    refine WL.val (R.move (v := Value.bool (!x4512.is)) rfl) rfl ?_
                                    have hk4724 : (!x4512.is) = true := by simp [hc4663]
                                    refine WL.guardY (e := 165) (Eq.trans (show _ = Value.bool (!x4512.is) from rfl) (congrArg Value.bool hk4724)) rfl rfl ?_
                                    refine WL.val (R.fieldAddr (o := 0) (o' := 1) fa60_1 (by exact s4661) rfl) rfl ?_
                                    refine WL.guardY (e := 165) (Eq.trans (show _ = Value.bool (!x4512.is) from rfl) (congrArg Value.bool hk4724)) rfl rfl ?_
                                    refine WL.val (R.loadA (cs := encC x4512.cell) (n := 55) ag58 rfl (hs4598.at (i := 4) (off := 1) (n := 55) (cs := encC x4512.cell) rfl rfl rfl) rfl) rfl ?_
                                    refine WL.guardY (e := 165) (Eq.trans (show _ = Value.bool (!x4512.is) from rfl) (congrArg Value.bool hk4724)) rfl rfl ?_
                                    have hd4725 : ∀ w, (Instr.build 58 #[]).run Try.prog w = .ok (Value.agg (List.toArray (encC Cl.zero))) w := fun _ => by kernel_rfl
                                    refine WL.val (R.build (vs := []) rfl hd4725) rfl ?_
                                    refine WL.guardY (e := 165) (Eq.trans (show _ = Value.bool (!x4512.is) from rfl) (congrArg Value.bool hk4724)) rfl rfl ?_
                                    refine WL.val (R.neCell (a := x4512.cell) (b := Cl.zero) rfl rfl) rfl ?_
                                    refine WL.guardY (e := 161) rfl rfl rfl ?_
                                    refine WL.val (R.pickT (v := Value.bool (decide (¬ (x4512.cell = Cl.zero)))) (Eq.trans (show _ = Value.bool (!x4512.is) from rfl) (congrArg Value.bool hk4724)) rfl) rfl ?_
                                    refine WL.val (R.pickF (v := Value.bool (decide (¬ (x4512.cell = Cl.zero)))) rfl rfl) rfl ?_
                                    refine WL.val (R.move (v := Value.bool (decide (¬ (x4512.cell = Cl.zero)))) rfl) rfl ?_
                                    by_cases hc4726 : ¬ (x4512.cell = Cl.zero)
                                    · have h4727 := ifT hc4726 h4723
                                      refine WL.guardN (e := 172) (v := .bool true) (Eq.trans (show _ = Value.bool (decide (¬ (x4512.cell = Cl.zero))) from rfl) (congrArg Value.bool (decide_eq_true hc4726))) rfl rfl rfl ?_
                                      refine WL.guardN (e := 172) (v := .bool true) (Eq.trans (show _ = Value.bool (decide (¬ (x4512.cell = Cl.zero))) from rfl) (congrArg Value.bool (decide_eq_true hc4726))) rfl rfl rfl ?_
                                      refine WL.guardN (e := 172) (v := .bool true) (Eq.trans (show _ = Value.bool (decide (¬ (x4512.cell = Cl.zero))) from rfl) (congrArg Value.bool (decide_eq_true hc4726))) rfl rfl rfl ?_
                                      refine WL.guardN (e := 175) (v := undef) rfl rfl rfl rfl ?_
                                      refine WL.guardN (e := 175) (v := undef) rfl rfl rfl rfl ?_
                                      refine WL.guardN (e := 175) (v := undef) rfl rfl rfl rfl ?_
                                      refine WL.guardN (e := 172) (v := .bool true) (Eq.trans (show _ = Value.bool (decide (¬ (x4512.cell = Cl.zero))) from rfl) (congrArg Value.bool (decide_eq_true hc4726))) rfl rfl rfl ?_
                                      refine WL.guardN (e := 172) (v := .bool true) (Eq.trans (show _ = Value.bool (decide (¬ (x4512.cell = Cl.zero))) from rfl) (congrArg Value.bool (decide_eq_true hc4726))) rfl rfl rfl ?_
                                      refine WL.guardN (e := 180) (v := undef) rfl rfl rfl rfl ?_
                                      refine WL.guardN (e := 180) (v := undef) rfl rfl rfl rfl ?_
                                      refine WL.guardN (e := 180) (v := undef) rfl rfl rfl rfl ?_
                                      refine WL.guardN (e := 172) (v := .bool true) (Eq.trans (show _ = Value.bool (decide (¬ (x4512.cell = Cl.zero))) from rfl) (congrArg Value.bool (decide_eq_true hc4726))) rfl rfl rfl ?_
                                      refine WL.val (R.pickT (v := Value.bool true) (Eq.trans (show _ = Value.bool (decide (¬ (x4512.cell = Cl.zero))) from rfl) (congrArg Value.bool (decide_eq_true hc4726))) rfl) rfl ?_
                                      refine WL.nil ?_
                                      refine thenN ?_
                                      refine WC.condT rfl rfl ?_
                                      refine WC.seq ?_
                                      refine WC.region ?_
                                      refine WL.val (R.assign (v := Value.bool false) rfl) rfl ?_
                                      refine WL.nil ?_
                                      refine thenN ?_
                                      refine WC.ret ?_
                                      have ht4728 := (hs4598.here).perm (L' := []) (G := [blk b102 25 [Value.slice a1 p1.length c1], blk b151 25 [Value.slice a142 y136.length c143], blk b177 25 [Value.slice a168 y162.length c169], blk b3274 62 (encR x3252 (Value.slice a3267 x3252.table.length c3268)), blk b4526 60 (encH x4512), blk b4538 60 (encH d4592)]) ((List.Perm.refl _))
                                      have hs4729 := hs4598.trans ht4728
                                      obtain rfl := Option.some.inj (show some false = some r from h4727)
                                      exact ret1 (P := Try.prog) (n := 187) (fn := Try.f14) (R := fun v w' => v = Value.bool false ∧ St [] w w' []) (t := 4) (v := Value.bool false) rfl rfl rfl ⟨rfl, hs4729⟩
                                    · have h4730 := ifF hc4726 h4723
                                      refine WL.guardY (e := 172) (Eq.trans (show _ = Value.bool (decide (¬ (x4512.cell = Cl.zero))) from rfl) (congrArg Value.bool (decide_eq_false hc4726))) rfl rfl ?_
                                      refine WL.val (R.fieldAddr (o := 0) (o' := 0) fa60_0 (by exact s4661) rfl) rfl ?_
                                      refine WL.guardY (e := 172) (Eq.trans (show _ = Value.bool (decide (¬ (x4512.cell = Cl.zero))) from rfl) (congrArg Value.bool (decide_eq_false hc4726))) rfl rfl ?_
                                      refine WL.val (R.loadL (v := Value.bool x4512.is) lf4 rfl (hs4598.at (i := 4) (off := 0) (n := 1) (cs := [Value.bool x4512.is]) rfl rfl rfl)) rfl ?_
                                      refine WL.guardY (e := 172) (Eq.trans (show _ = Value.bool (decide (¬ (x4512.cell = Cl.zero))) from rfl) (congrArg Value.bool (decide_eq_false hc4726))) rfl rfl ?_
                                      refine WL.val (R.move (v := Value.bool x4512.is) rfl) rfl ?_
                                      refine WL.guardN (e := 175) (v := .bool false) (Eq.trans (show _ = Value.bool x4512.is from rfl) (congrArg Value.bool (Bool.eq_false_iff.2 hc4663))) rfl rfl rfl ?_
                                      refine WL.guardN (e := 175) (v := .bool false) (Eq.trans (show _ = Value.bool x4512.is from rfl) (congrArg Value.bool (Bool.eq_false_iff.2 hc4663))) rfl rfl rfl ?_
                                      refine WL.guardN (e := 175) (v := .bool false) (Eq.trans (show _ = Value.bool x4512.is from rfl) (congrArg Value.bool (Bool.eq_false_iff.2 hc4663))) rfl rfl rfl ?_
                                      refine WL.guardY (e := 172) (Eq.trans (show _ = Value.bool (decide (¬ (x4512.cell = Cl.zero))) from rfl) (congrArg Value.bool (decide_eq_false hc4726))) rfl rfl ?_
                                      refine WL.val (R.pickF (v := Value.bool false) (Eq.trans (show _ = Value.bool x4512.is from rfl) (congrArg Value.bool (Bool.eq_false_iff.2 hc4663))) rfl) rfl ?_
                                      refine WL.guardY (e := 172) (Eq.trans (show _ = Value.bool (decide (¬ (x4512.cell = Cl.zero))) from rfl) (congrArg Value.bool (decide_eq_false hc4726))) rfl rfl ?_
                                      refine WL.val (R.move (v := Value.bool false) rfl) rfl ?_
                                      refine WL.guardN (e := 180) (v := .bool false) rfl rfl rfl rfl ?_
                                      refine WL.guardN (e := 180) (v := .bool false) rfl rfl rfl rfl ?_
                                      refine WL.guardN (e := 180) (v := .bool false) rfl rfl rfl rfl ?_
                                      refine WL.guardY (e := 172) (Eq.trans (show _ = Value.bool (decide (¬ (x4512.cell = Cl.zero))) from rfl) (congrArg Value.bool (decide_eq_false hc4726))) rfl rfl ?_
                                      refine WL.val (R.pickF (v := Value.bool false) rfl rfl) rfl ?_
                                      refine WL.val (R.pickF (v := Value.bool false) (Eq.trans (show _ = Value.bool (decide (¬ (x4512.cell = Cl.zero))) from rfl) (congrArg Value.bool (decide_eq_false hc4726))) rfl) rfl ?_
                                      refine WL.nil ?_
                                      refine thenN ?_
                                      refine WC.condF rfl rfl ?_
                                      refine WC.skip ?_
                                      refine blockN ?_
                                      refine thenN ?_
                                      refine WC.region ?_
                                      refine WL.val (R.move (v := Value.int .i64 i4480) (by exact s4660)) rfl ?_
                                      obtain ⟨hg4731, h4732⟩ := ckE (c := -9223372036854775808 ≤ i4480 + 1 ∧ i4480 + 1 ≤ 9223372036854775807) h4730
                                      refine WL.val (R.add (a := i4480) (b := 1) (z := i4480 + 1) rfl rfl (w64e rfl hg4731.1 hg4731.2)) rfl ?_
                                      refine WL.val (R.assign (v := Value.int .i64 (i4480 + 1)) rfl) rfl ?_
                                      refine WL.nil ?_
                                      have ht4733 := (hs4598.here).perm (L' := [blk b102 25 [Value.slice a1 p1.length c1], blk b151 25 [Value.slice a142 y136.length c143], blk b177 25 [Value.slice a168 y162.length c169], blk b3274 62 (encR x3252 (Value.slice a3267 x3252.table.length c3268))]) (G := [blk b4526 60 (encH x4512), blk b4538 60 (encH d4592)]) ((List.Perm.refl _))
                                      have hs4734 := hs4598.trans ht4733
                                      have hr4735 := elT ht4733 he4599
                                      have hr4736 := elT ht4733 he4600
                                      have hr4737 := elT ht4733 he4601
                                      have hr4738 := elT ht4733 he4602
                                      exact roundEnd (s := k4487) ⟨i4480 + 1, s4654, s4655, s4656, s4657, s4658, s4659, rfl, hr4735, hr4736, hr4737, hr4738, h4732, hs4734⟩ (Nat.lt_succ_self _)
                            · have h4739 := ifF hc4510 h4502
                              refine WL.val (R.lssF (k := .i64) (a := i4480) (b := p0 % 17) un3 rfl rfl hc4510) rfl ?_
                              refine WL.nil ?_
                              refine thenN ?_
                              refine WC.condF rfl rfl ?_
                              refine WC.exit ?_
                              refine thenE ?_
                              refine thenE ?_
                              refine blockHit ?_
                              have ht4740 := (hs4486.here).perm (L' := [blk b102 25 [Value.slice a1 p1.length c1], blk b151 25 [Value.slice a142 y136.length c143], blk b177 25 [Value.slice a168 y162.length c169]]) (G := [blk b3274 62 (encR x3252 (Value.slice a3267 x3252.table.length c3268))]) ((List.Perm.refl _))
                              have hs4741 := hs4486.trans ht4740
                              have hr4742 := elT ht4740 he4488
                              have hr4743 := elT ht4740 he4489
                              have hr4744 := elT ht4740 he4490
                              exact joinI ⟨s4503, s4504, s4505, s4506, s4507, hr4742, hr4743, hr4744, h4739, hs4741⟩
                          · rintro σ4497 w4496 ⟨s4746, s4747, s4748, s4749, s4750, he4499, he4500, he4501, h4745, hs4498⟩
                            subst hK4482
                            refine blockN ?_
                            refine thenN ?_
                            refine WC.region ?_
                            refine WL.val (R.move (v := Value.int .i64 i3227) (by exact s4750)) rfl ?_
                            obtain ⟨hg4751, h4752⟩ := ckE (c := -9223372036854775808 ≤ i3227 + 1 ∧ i3227 + 1 ≤ 9223372036854775807) h4745
                            refine WL.val (R.add (a := i3227) (b := 1) (z := i3227 + 1) rfl rfl (w64e rfl hg4751.1 hg4751.2)) rfl ?_
                            refine WL.val (R.assign (v := Value.int .i64 (i3227 + 1)) rfl) rfl ?_
                            refine WL.nil ?_
                            exact roundEnd (s := k3234) ⟨i3227 + 1, s4746, s4747, s4748, s4749, rfl, he4499, he4500, he4501, h4752, hs4498⟩ (Nat.lt_succ_self _)
                      · have h4753 := ifF hc3364 h3358
                        have hk4754 : (!y3356) = true := by simp [hc3364]
                        refine WE.takeN 12 (e := 97) (v := .bool true) rfl (by decide +kernel) (by decide +kernel) (by decide +kernel) (by decide +kernel) rfl rfl rfl (Eq.trans (show _ = Value.bool (!y3356) from rfl) (congrArg Value.bool hk4754)) rfl ?_
                        refine WE.takeN 13 (e := 97) (v := .bool true) rfl (by decide +kernel) (by decide +kernel) (by decide +kernel) (by decide +kernel) rfl rfl rfl (Eq.trans (show _ = Value.bool (!y3356) from rfl) (congrArg Value.bool hk4754)) rfl ?_
                        refine WE.takeN 14 (e := 97) (v := .bool true) rfl (by decide +kernel) (by decide +kernel) (by decide +kernel) (by decide +kernel) rfl rfl rfl (Eq.trans (show _ = Value.bool (!y3356) from rfl) (congrArg Value.bool hk4754)) rfl ?_
                        refine WE.takeN 15 (e := 97) (v := .bool true) rfl (by decide +kernel) (by decide +kernel) (by decide +kernel) (by decide +kernel) rfl rfl rfl (Eq.trans (show _ = Value.bool (!y3356) from rfl) (congrArg Value.bool hk4754)) rfl ?_
                        refine WE.takeN 16 (e := 97) (v := .bool true) rfl (by decide +kernel) (by decide +kernel) (by decide +kernel) (by decide +kernel) rfl rfl rfl (Eq.trans (show _ = Value.bool (!y3356) from rfl) (congrArg Value.bool hk4754)) rfl ?_
                        refine WE.takeN 17 (e := 97) (v := .bool true) rfl (by decide +kernel) (by decide +kernel) (by decide +kernel) (by decide +kernel) rfl rfl rfl (Eq.trans (show _ = Value.bool (!y3356) from rfl) (congrArg Value.bool hk4754)) rfl ?_
                        refine WE.takeN 18 (e := 97) (v := .bool true) rfl (by decide +kernel) (by decide +kernel) (by decide +kernel) (by decide +kernel) rfl rfl rfl (Eq.trans (show _ = Value.bool (!y3356) from rfl) (congrArg Value.bool hk4754)) rfl ?_
                        refine WE.takeN 19 (e := 97) (v := .bool true) rfl (by decide +kernel) (by decide +kernel) (by decide +kernel) (by decide +kernel) rfl rfl rfl (Eq.trans (show _ = Value.bool (!y3356) from rfl) (congrArg Value.bool hk4754)) rfl ?_
                        refine WE.takeN 20 (e := 105) (v := undef) rfl (by decide +kernel) (by decide +kernel) (by decide +kernel) (by decide +kernel) rfl rfl rfl rfl rfl ?_
                        refine WE.takeN 21 (e := 105) (v := undef) rfl (by decide +kernel) (by decide +kernel) (by decide +kernel) (by decide +kernel) rfl rfl rfl rfl rfl ?_
                        refine WE.takeN 22 (e := 105) (v := undef) rfl (by decide +kernel) (by decide +kernel) (by decide +kernel) (by decide +kernel) rfl rfl rfl rfl rfl ?_
                        refine WE.takeN 23 (e := 105) (v := undef) rfl (by decide +kernel) (by decide +kernel) (by decide +kernel) (by decide +kernel) rfl rfl rfl rfl rfl ?_
                        refine WE.takeN 24 (e := 105) (v := undef) rfl (by decide +kernel) (by decide +kernel) (by decide +kernel) (by decide +kernel) rfl rfl rfl rfl rfl ?_
                        refine WE.takeN 25 (e := 105) (v := undef) rfl (by decide +kernel) (by decide +kernel) (by decide +kernel) (by decide +kernel) rfl rfl rfl rfl rfl ?_
                        refine WE.takeN 26 (e := 105) (v := undef) rfl (by decide +kernel) (by decide +kernel) (by decide +kernel) (by decide +kernel) rfl rfl rfl rfl rfl ?_
                        refine WE.takeN 27 (e := 105) (v := undef) rfl (by decide +kernel) (by decide +kernel) (by decide +kernel) (by decide +kernel) rfl rfl rfl rfl rfl ?_
                        refine WE.takeN 28 (e := 105) (v := undef) rfl (by decide +kernel) (by decide +kernel) (by decide +kernel) (by decide +kernel) rfl rfl rfl rfl rfl ?_
                        refine WE.takeN 29 (e := 97) (v := .bool true) rfl (by decide +kernel) (by decide +kernel) (by decide +kernel) (by decide +kernel) rfl rfl rfl (Eq.trans (show _ = Value.bool (!y3356) from rfl) (congrArg Value.bool hk4754)) rfl ?_
                        refine WE.take 30 rfl (by decide +kernel) (by decide +kernel) (by decide +kernel) (by decide +kernel) rfl rfl (fun wq hq => R.pickT (v := Value.bool true) (Eq.trans (show _ = Value.bool (!y3356) from rfl) (congrArg Value.bool hk4754)) rfl) ?_
                        refine WE.done (by decide +kernel) ?_
                        refine thenN ?_
                        refine WC.condT rfl rfl ?_
                        refine WC.seq ?_
                        refine WC.region ?_
                        refine WL.val (R.assign (v := Value.bool false) rfl) rfl ?_
                        refine WL.nil ?_
                        refine thenN ?_
                        refine WC.ret ?_
                        have ht4755 := (hs3363.here).perm (L' := []) (G := [blk b102 25 [Value.slice a1 p1.length c1], blk b151 25 [Value.slice a142 y136.length c143], blk b177 25 [Value.slice a168 y162.length c169], blk b3274 62 (encR x3252 (Value.slice a3267 x3252.table.length c3268))]) ((List.Perm.refl _))
                        have hs4756 := hs3363.trans ht4755
                        obtain rfl := Option.some.inj (show some false = some r from h4753)
                        exact ret1 (P := Try.prog) (n := 187) (fn := Try.f14) (R := fun v w' => v = Value.bool false ∧ St [] w w' []) (t := 4) (v := Value.bool false) rfl rfl rfl ⟨rfl, hs4756⟩
                    · have h4757 := ifF hc3354 h3350
                      refine WE.take 4 rfl (by decide +kernel) (by decide +kernel) (by decide +kernel) (by decide +kernel) rfl rfl (fun wq hq => R.neqT (k := .i64) (a := ((x3252.table.length : Nat) : Int)) (b := p0 % 17) un3 rfl rfl hc3354) ?_
                      refine WE.take 5 rfl (by decide +kernel) (by decide +kernel) (by decide +kernel) (by decide +kernel) rfl rfl (fun wq hq => R.move (v := Value.bool true) rfl) ?_
                      refine WE.takeN 6 (e := 91) (v := .bool true) rfl (by decide +kernel) (by decide +kernel) (by decide +kernel) (by decide +kernel) rfl rfl rfl rfl rfl ?_
                      refine WE.takeN 7 (e := 91) (v := .bool true) rfl (by decide +kernel) (by decide +kernel) (by decide +kernel) (by decide +kernel) rfl rfl rfl rfl rfl ?_
                      refine WE.takeN 8 (e := 91) (v := .bool true) rfl (by decide +kernel) (by decide +kernel) (by decide +kernel) (by decide +kernel) rfl rfl rfl rfl rfl ?_
                      refine WE.takeN 9 (e := 91) (v := .bool true) rfl (by decide +kernel) (by decide +kernel) (by decide +kernel) (by decide +kernel) rfl rfl rfl rfl rfl ?_
                      refine WE.take 10 rfl (by decide +kernel) (by decide +kernel) (by decide +kernel) (by decide +kernel) rfl rfl (fun wq hq => R.pickT (v := Value.bool true) rfl rfl) ?_
                      refine WE.take 11 rfl (by decide +kernel) (by decide +kernel) (by decide +kernel) (by decide +kernel) rfl rfl (fun wq hq => R.move (v := Value.bool true) rfl) ?_
                      refine WE.takeN 12 (e := 97) (v := .bool true) rfl (by decide +kernel) (by decide +kernel) (by decide +kernel) (by decide +kernel) rfl rfl rfl rfl rfl ?_
                      refine WE.takeN 13 (e := 97) (v := .bool true) rfl (by decide +kernel) (by decide +kernel) (by decide +kernel) (by decide +kernel) rfl rfl rfl rfl rfl ?_
                      refine WE.takeN 14 (e := 97) (v := .bool true) rfl (by decide +kernel) (by decide +kernel) (by decide +kernel) (by decide +kernel) rfl rfl rfl rfl rfl ?_
                      refine WE.takeN 15 (e := 97) (v := .bool true) rfl (by decide +kernel) (by decide +kernel) (by decide +kernel) (by decide +kernel) rfl rfl rfl rfl rfl ?_
                      refine WE.takeN 16 (e := 97) (v := .bool true) rfl (by decide +kernel) (by decide +kernel) (by decide +kernel) (by decide +kernel) rfl rfl rfl rfl rfl ?_
                      refine WE.takeN 17 (e := 97) (v := .bool true) rfl (by decide +kernel) (by decide +kernel) (by decide +kernel) (by decide +kernel) rfl rfl rfl rfl rfl ?_
                      refine WE.takeN 18 (e := 97) (v := .bool true) rfl (by decide +kernel) (by decide +kernel) (by decide +kernel) (by decide +kernel) rfl rfl rfl rfl rfl ?_
                      refine WE.takeN 19 (e := 97) (v := .bool true) rfl (by decide +kernel) (by decide +kernel) (by decide +kernel) (by decide +kernel) rfl rfl rfl rfl rfl ?_
                      refine WE.takeN 20 (e := 105) (v := undef) rfl (by decide +kernel) (by decide +kernel) (by decide +kernel) (by decide +kernel) rfl rfl rfl rfl rfl ?_
                      refine WE.takeN 21 (e := 105) (v := undef) rfl (by decide +kernel) (by decide +kernel) (by decide +kernel) (by decide +kernel) rfl rfl rfl rfl rfl ?_
                      refine WE.takeN 22 (e := 105) (v := undef) rfl (by decide +kernel) (by decide +kernel) (by decide +kernel) (by decide +kernel) rfl rfl rfl rfl rfl ?_
                      refine WE.takeN 23 (e := 105) (v := undef) rfl (by decide +kernel) (by decide +kernel) (by decide +kernel) (by decide +kernel) rfl rfl rfl rfl rfl ?_
                      refine WE.takeN 24 (e := 105) (v := undef) rfl (by decide +kernel) (by decide +kernel) (by decide +kernel) (by decide +kernel) rfl rfl rfl rfl rfl ?_
                      refine WE.takeN 25 (e := 105) (v := undef) rfl (by decide +kernel) (by decide +kernel) (by decide +kernel) (by decide +kernel) rfl rfl rfl rfl rfl ?_
                      refine WE.takeN 26 (e := 105) (v := undef) rfl (by decide +kernel) (by decide +kernel) (by decide +kernel) (by decide +kernel) rfl rfl rfl rfl rfl ?_
                      refine WE.takeN 27 (e := 105) (v := undef) rfl (by decide +kernel) (by decide +kernel) (by decide +kernel) (by decide +kernel) rfl rfl rfl rfl rfl ?_
                      refine WE.takeN 28 (e := 105) (v := undef) rfl (by decide +kernel) (by decide +kernel) (by decide +kernel) (by decide +kernel) rfl rfl rfl rfl rfl ?_
                      refine WE.takeN 29 (e := 97) (v := .bool true) rfl (by decide +kernel) (by decide +kernel) (by decide +kernel) (by decide +kernel) rfl rfl rfl rfl rfl ?_
                      refine WE.take 30 rfl (by decide +kernel) (by decide +kernel) (by decide +kernel) (by decide +kernel) rfl rfl (fun wq hq => R.pickT (v := Value.bool true) rfl rfl) ?_
                      refine WE.done (by decide +kernel) ?_
                      refine thenN ?_
                      refine WC.condT rfl rfl ?_
                      refine WC.seq ?_
                      refine WC.region ?_
                      refine WL.val (R.assign (v := Value.bool false) rfl) rfl ?_
                      refine WL.nil ?_
                      refine thenN ?_
                      refine WC.ret ?_
                      have ht4758 := (hs3353.here).perm (L' := []) (G := [blk b102 25 [Value.slice a1 p1.length c1], blk b151 25 [Value.slice a142 y136.length c143], blk b177 25 [Value.slice a168 y162.length c169], blk b3274 62 (encR x3252 (Value.slice a3267 x3252.table.length c3268))]) ((List.Perm.refl _))
                      have hs4759 := hs3353.trans ht4758
                      obtain rfl := Option.some.inj (show some false = some r from h4757)
                      exact ret1 (P := Try.prog) (n := 187) (fn := Try.f14) (R := fun v w' => v = Value.bool false ∧ St [] w w' []) (t := 4) (v := Value.bool false) rfl rfl rfl ⟨rfl, hs4759⟩
                  · have h4760 := ifF hc3349 h3348
                    refine WE.takeY 24 (e := 55) rfl (by decide +kernel) (by decide +kernel) (by decide +kernel) (by decide +kernel) rfl rfl rfl rfl (Eq.trans (show _ = Value.bool (!y3310) from rfl) (congrArg Value.bool hk3321)) (fun wq hq => R.neB (a := true) (b := false) un4 (Eq.trans (show _ = Value.bool x3252.is from rfl) (congrArg Value.bool hc3347)) (Eq.trans (show _ = Value.bool x3324.is from rfl) (congrArg Value.bool (Bool.eq_false_iff.2 hc3349)))) ?_
                    refine WE.take 25 rfl (by decide +kernel) (by decide +kernel) (by decide +kernel) (by decide +kernel) rfl rfl (fun wq hq => R.pickF (v := Value.bool true) (Eq.trans (show _ = Value.bool (!y3310) from rfl) (congrArg Value.bool hk3321)) rfl) ?_
                    refine WE.done (by decide +kernel) ?_
                    refine thenN ?_
                    refine WC.condT rfl rfl ?_
                    refine WC.seq ?_
                    refine WC.region ?_
                    refine WL.val (R.assign (v := Value.bool false) rfl) rfl ?_
                    refine WL.nil ?_
                    refine thenN ?_
                    refine WC.ret ?_
                    have ht4761 := (hs3318.here).perm (L' := []) (G := [blk b102 25 [Value.slice a1 p1.length c1], blk b151 25 [Value.slice a142 y136.length c143], blk b177 25 [Value.slice a168 y162.length c169], blk b3274 62 (encR x3252 (Value.slice a3267 x3252.table.length c3268))]) ((List.Perm.refl _))
                    have hs4762 := hs3318.trans ht4761
                    obtain rfl := Option.some.inj (show some false = some r from h4760)
                    exact ret1 (P := Try.prog) (n := 187) (fn := Try.f14) (R := fun v w' => v = Value.bool false ∧ St [] w w' []) (t := 4) (v := Value.bool false) rfl rfl rfl ⟨rfl, hs4762⟩
                · have h4763 := ifF hc3347 h3326
                  by_cases hc4764 : x3324.is = true
                  · have h4765 := ifT hc4764 h4763
                    refine WE.takeY 24 (e := 55) rfl (by decide +kernel) (by decide +kernel) (by decide +kernel) (by decide +kernel) rfl rfl rfl rfl (Eq.trans (show _ = Value.bool (!y3310) from rfl) (congrArg Value.bool hk3321)) (fun wq hq => R.neB (a := false) (b := true) un4 (Eq.trans (show _ = Value.bool x3252.is from rfl) (congrArg Value.bool (Bool.eq_false_iff.2 hc3347))) (Eq.trans (show _ = Value.bool x3324.is from rfl) (congrArg Value.bool hc4764))) ?_
                    refine WE.take 25 rfl (by decide +kernel) (by decide +kernel) (by decide +kernel) (by decide +kernel) rfl rfl (fun wq hq => R.pickF (v := Value.bool true) (Eq.trans (show _ = Value.bool (!y3310) from rfl) (congrArg Value.bool hk3321)) rfl) ?_
                    refine WE.done (by decide +kernel) ?_
                    refine thenN ?_
                    refine WC.condT rfl rfl ?_
                    refine WC.seq ?_
                    refine WC.region ?_
                    refine WL.val (R.assign (v := Value.bool false) rfl) rfl ?_
                    refine WL.nil ?_
                    refine thenN ?_
                    refine WC.ret ?_
                    have ht4766 := (hs3318.here).perm (L' := []) (G := [blk b102 25 [Value.slice a1 p1.length c1], blk b151 25 [Value.slice a142 y136.length c143], blk b177 25 [Value.slice a168 y162.length c169], blk b3274 62 (encR x3252 (Value.slice a3267 x3252.table.length c3268))]) ((List.Perm.refl _))
                    have hs4767 := hs3318.trans ht4766
                    obtain rfl := Option.some.inj (show some false = some r from h4765)
                    exact ret1 (P := Try.prog) (n := 187) (fn := Try.f14) (R := fun v w' => v = Value.bool false ∧ St [] w w' []) (t := 4) (v := Value.bool false) rfl rfl rfl ⟨rfl, hs4767⟩
                  · have h4768 := ifF hc4764 h4763
                    refine WE.takeY 24 (e := 55) rfl (by decide +kernel) (by decide +kernel) (by decide +kernel) (by decide +kernel) rfl rfl rfl rfl (Eq.trans (show _ = Value.bool (!y3310) from rfl) (congrArg Value.bool hk3321)) (fun wq hq => R.neB (a := false) (b := false) un4 (Eq.trans (show _ = Value.bool x3252.is from rfl) (congrArg Value.bool (Bool.eq_false_iff.2 hc3347))) (Eq.trans (show _ = Value.bool x3324.is from rfl) (congrArg Value.bool (Bool.eq_false_iff.2 hc4764)))) ?_
                    refine WE.take 25 rfl (by decide +kernel) (by decide +kernel) (by decide +kernel) (by decide +kernel) rfl rfl (fun wq hq => R.pickF (v := Value.bool false) (Eq.trans (show _ = Value.bool (!y3310) from rfl) (congrArg Value.bool hk3321)) rfl) ?_
                    refine WE.done (by decide +kernel) ?_
                    refine thenN ?_
                    refine WC.condF rfl rfl ?_
                    refine WC.skip ?_
                    refine thenN ?_
                    refine WC.seq ?_
                    refine WC.seq ?_
                    refine WC.region ?_
                    refine WL.val (R.fieldAddr (o := 0) (o' := 0) fa62_0 rfl rfl) rfl ?_
                    refine WL.val (R.loadL (v := Value.bool x3252.is) lf4 rfl (hs3318.at (i := 3) (off := 0) (n := 1) (cs := [Value.bool x3252.is]) rfl rfl rfl)) rfl ?_
                    refine WL.val (R.not (b := x3252.is) rfl) rfl ?_
                    refine WL.nil ?_
                    refine thenN ?_
                    have hk4769 : (!x3252.is) = true := by simp [hc3347]
                    refine WC.condT (Eq.trans (show _ = Value.bool (!x3252.is) from rfl) (congrArg Value.bool hk4769)) rfl ?_
                    refine WC.seq ?_
                    refine WC.seq ?_
                    refine WC.region ?_
                    refine WL.val (R.fieldAddr (o := 0) (o' := 56) fa62_2 rfl rfl) rfl ?_
                    refine WL.val (R.loadL (v := Value.slice a3267 x3252.table.length c3268) lf28 rfl (hs3318.at (i := 3) (off := 56) (n := 1) (cs := [Value.slice a3267 x3252.table.length c3268]) rfl rfl rfl)) rfl ?_
                    refine WL.val (R.len (a := a3267) (n := x3252.table.length) (c := c3268) un28 rfl) rfl ?_
                    by_cases hc4770 : ((x3252.table.length : Nat) : Int) = 0
                    · have h4771 := ifT hc4770 h4768
                      refine WL.val (R.neqF (k := .i64) (a := ((x3252.table.length : Nat) : Int)) (b := 0) un3 rfl rfl (not_not_intro hc4770)) rfl ?_
                      refine WL.val (R.move (v := Value.bool false) rfl) rfl ?_
                      refine WL.guardY (e := 80) rfl rfl rfl ?_
                      refine WL.val (R.fieldAddr (o := 0) (o' := 1) fa62_1 rfl rfl) rfl ?_
                      refine WL.guardY (e := 80) rfl rfl rfl ?_
                      refine WL.val (R.loadA (cs := encC x3252.cell) (n := 55) ag58 rfl (hs3318.at (i := 3) (off := 1) (n := 55) (cs := encC x3252.cell) rfl rfl rfl) rfl) rfl ?_
                      refine WL.guardY (e := 80) rfl rfl rfl ?_
                      have hd4772 : ∀ w, (Instr.build 58 #[]).run Try.prog w = .ok (Value.agg (List.toArray (encC Cl.zero))) w := fun _ => by kernel_rfl
                      refine WL.val (R.build (vs := []) rfl hd4772) rfl ?_
                      refine WL.guardY (e := 80) rfl rfl rfl ?_
                      refine WL.val (R.neCell (a := x3252.cell) (b := Cl.zero) rfl rfl) rfl ?_
                      refine WL.val (R.pickF (v := Value.bool (decide (¬ (x3252.cell = Cl.zero)))) rfl rfl) rfl ?_
                      refine WL.nil ?_
                      refine thenN ?_
                      by_cases hc4773 : ¬ (x3252.cell = Cl.zero)
                      · have h4774 := ifT hc4773 h4771
                        refine WC.condT (Eq.trans (show _ = Value.bool (decide (¬ (x3252.cell = Cl.zero))) from rfl) (congrArg Value.bool (decide_eq_true hc4773))) rfl ?_
                        refine WC.seq ?_
                        refine WC.region ?_
                        refine WL.val (R.assign (v := Value.bool false) rfl) rfl ?_
                        refine WL.nil ?_
                        refine thenN ?_
                        refine WC.ret ?_
                        have ht4775 := (hs3318.here).perm (L' := []) (G := [blk b102 25 [Value.slice a1 p1.length c1], blk b151 25 [Value.slice a142 y136.length c143], blk b177 25 [Value.slice a168 y162.length c169], blk b3274 62 (encR x3252 (Value.slice a3267 x3252.table.length c3268))]) ((List.Perm.refl _))
                        have hs4776 := hs3318.trans ht4775
                        obtain rfl := Option.some.inj (show some false = some r from h4774)
                        exact ret1 (P := Try.prog) (n := 187) (fn := Try.f14) (R := fun v w' => v = Value.bool false ∧ St [] w w' []) (t := 4) (v := Value.bool false) rfl rfl rfl ⟨rfl, hs4776⟩
                      · have h4777 := ifF hc4773 h4771
                        refine WC.condF (Eq.trans (show _ = Value.bool (decide (¬ (x3252.cell = Cl.zero))) from rfl) (congrArg Value.bool (decide_eq_false hc4773))) rfl ?_
                        refine WC.skip ?_
                        refine thenN ?_
                        refine WC.exit ?_
                        refine thenE ?_
                        refine blockHit ?_
                        refine thenN ?_
                        refine WC.region ?_
                        refine WL.val (R.move (v := Value.int .i64 i3227) (by exact s3249)) rfl ?_
                        obtain ⟨hg4778, h4779⟩ := ckE (c := -9223372036854775808 ≤ i3227 + 1 ∧ i3227 + 1 ≤ 9223372036854775807) h4777
                        refine WL.val (R.add (a := i3227) (b := 1) (z := i3227 + 1) rfl rfl (w64e rfl hg4778.1 hg4778.2)) rfl ?_
                        refine WL.val (R.assign (v := Value.int .i64 (i3227 + 1)) rfl) rfl ?_
                        refine WL.nil ?_
                        have ht4780 := (hs3318.here).perm (L' := [blk b102 25 [Value.slice a1 p1.length c1], blk b151 25 [Value.slice a142 y136.length c143], blk b177 25 [Value.slice a168 y162.length c169]]) (G := [blk b3274 62 (encR x3252 (Value.slice a3267 x3252.table.length c3268))]) ((List.Perm.refl _))
                        have hs4781 := hs3318.trans ht4780
                        have hr4782 := elT ht4780 hr3331
                        have hr4783 := elT ((((ht3280.trans ht3283).trans ht3285).trans ht3315).trans ht4780) he3236
                        have hr4784 := elT (ht3315.trans ht4780) hr3294
                        exact roundEnd (s := k3234) ⟨i3227 + 1, s3245, s3246, s3247, s3248, rfl, hr4782, hr4783, hr4784, h4779, hs4781⟩ (Nat.lt_succ_self _)
                    · have h4785 := ifF hc4770 h4768
                      refine WL.val (R.neqT (k := .i64) (a := ((x3252.table.length : Nat) : Int)) (b := 0) un3 rfl rfl hc4770) rfl ?_
                      refine WL.val (R.move (v := Value.bool true) rfl) rfl ?_
                      refine WL.guardN (e := 80) (v := .bool true) rfl rfl rfl rfl ?_
                      refine WL.guardN (e := 80) (v := .bool true) rfl rfl rfl rfl ?_
                      refine WL.guardN (e := 80) (v := .bool true) rfl rfl rfl rfl ?_
                      refine WL.guardN (e := 80) (v := .bool true) rfl rfl rfl rfl ?_
                      refine WL.val (R.pickT (v := Value.bool true) rfl rfl) rfl ?_
                      refine WL.nil ?_
                      refine thenN ?_
                      refine WC.condT rfl rfl ?_
                      refine WC.seq ?_
                      refine WC.region ?_
                      refine WL.val (R.assign (v := Value.bool false) rfl) rfl ?_
                      refine WL.nil ?_
                      refine thenN ?_
                      refine WC.ret ?_
                      have ht4786 := (hs3318.here).perm (L' := []) (G := [blk b102 25 [Value.slice a1 p1.length c1], blk b151 25 [Value.slice a142 y136.length c143], blk b177 25 [Value.slice a168 y162.length c169], blk b3274 62 (encR x3252 (Value.slice a3267 x3252.table.length c3268))]) ((List.Perm.refl _))
                      have hs4787 := hs3318.trans ht4786
                      obtain rfl := Option.some.inj (show some false = some r from h4785)
                      exact ret1 (P := Try.prog) (n := 187) (fn := Try.f14) (R := fun v w' => v = Value.bool false ∧ St [] w w' []) (t := 4) (v := Value.bool false) rfl rfl rfl ⟨rfl, hs4787⟩
              · have h4788 := ifF hc3322 h3320
                refine WE.takeY 15 (e := 55) rfl (by decide +kernel) (by decide +kernel) (by decide +kernel) (by decide +kernel) rfl rfl rfl rfl (Eq.trans (show _ = Value.bool (!y3310) from rfl) (congrArg Value.bool hk3321)) (fun wq hq => R.lssF (k := .i64) (a := i3227) (b := ((p1.length : Nat) : Int)) un3 rfl rfl hc3322) ?_
                refine WE.takeY 16 (e := 55) rfl (by decide +kernel) (by decide +kernel) (by decide +kernel) (by decide +kernel) rfl rfl rfl rfl (Eq.trans (show _ = Value.bool (!y3310) from rfl) (congrArg Value.bool hk3321)) (fun wq hq => R.move (v := Value.bool false) rfl) ?_
                refine WE.takeN 17 (e := 63) (v := .bool false) rfl (by decide +kernel) (by decide +kernel) (by decide +kernel) (by decide +kernel) rfl rfl rfl rfl rfl ?_
                refine WE.takeN 18 (e := 63) (v := .bool false) rfl (by decide +kernel) (by decide +kernel) (by decide +kernel) (by decide +kernel) rfl rfl rfl rfl rfl ?_
                refine WE.takeN 19 (e := 63) (v := .bool false) rfl (by decide +kernel) (by decide +kernel) (by decide +kernel) (by decide +kernel) rfl rfl rfl rfl rfl ?_
                refine WE.takeN 20 (e := 63) (v := .bool false) rfl (by decide +kernel) (by decide +kernel) (by decide +kernel) (by decide +kernel) rfl rfl rfl rfl rfl ?_
                refine WE.takeN 21 (e := 63) (v := .bool false) rfl (by decide +kernel) (by decide +kernel) (by decide +kernel) (by decide +kernel) rfl rfl rfl rfl rfl ?_
                refine WE.takeN 22 (e := 63) (v := .bool false) rfl (by decide +kernel) (by decide +kernel) (by decide +kernel) (by decide +kernel) rfl rfl rfl rfl rfl ?_
                refine WE.takeY 23 (e := 55) rfl (by decide +kernel) (by decide +kernel) (by decide +kernel) (by decide +kernel) rfl rfl rfl rfl (Eq.trans (show _ = Value.bool (!y3310) from rfl) (congrArg Value.bool hk3321)) (fun wq hq => R.pickF (v := Value.bool false) rfl rfl) ?_
                by_cases hc4789 : x3252.is = true
                · have h4790 := ifT hc4789 h4788
                  refine WE.takeY 24 (e := 55) rfl (by decide +kernel) (by decide +kernel) (by decide +kernel) (by decide +kernel) rfl rfl rfl rfl (Eq.trans (show _ = Value.bool (!y3310) from rfl) (congrArg Value.bool hk3321)) (fun wq hq => R.neB (a := true) (b := false) un4 (Eq.trans (show _ = Value.bool x3252.is from rfl) (congrArg Value.bool hc4789)) rfl) ?_
                  refine WE.take 25 rfl (by decide +kernel) (by decide +kernel) (by decide +kernel) (by decide +kernel) rfl rfl (fun wq hq => R.pickF (v := Value.bool true) (Eq.trans (show _ = Value.bool (!y3310) from rfl) (congrArg Value.bool hk3321)) rfl) ?_
                  refine WE.done (by decide +kernel) ?_
                  refine thenN ?_
                  refine WC.condT rfl rfl ?_
                  refine WC.seq ?_
                  refine WC.region ?_
                  refine WL.val (R.assign (v := Value.bool false) rfl) rfl ?_
                  refine WL.nil ?_
                  refine thenN ?_
                  refine WC.ret ?_
                  have ht4791 := (hs3318.here).perm (L' := []) (G := [blk b102 25 [Value.slice a1 p1.length c1], blk b151 25 [Value.slice a142 y136.length c143], blk b177 25 [Value.slice a168 y162.length c169], blk b3274 62 (encR x3252 (Value.slice a3267 x3252.table.length c3268))]) ((List.Perm.refl _))
                  have hs4792 := hs3318.trans ht4791
                  obtain rfl := Option.some.inj (show some false = some r from h4790)
                  exact ret1 (P := Try.prog) (n := 187) (fn := Try.f14) (R := fun v w' => v = Value.bool false ∧ St [] w w' []) (t := 4) (v := Value.bool false) rfl rfl rfl ⟨rfl, hs4792⟩
                · have h4793 := ifF hc4789 h4788
                  refine WE.takeY 24 (e := 55) rfl (by decide +kernel) (by decide +kernel) (by decide +kernel) (by decide +kernel) rfl rfl rfl rfl (Eq.trans (show _ = Value.bool (!y3310) from rfl) (congrArg Value.bool hk3321)) (fun wq hq => R.neB (a := false) (b := false) un4 (Eq.trans (show _ = Value.bool x3252.is from rfl) (congrArg Value.bool (Bool.eq_false_iff.2 hc4789))) rfl) ?_
                  refine WE.take 25 rfl (by decide +kernel) (by decide +kernel) (by decide +kernel) (by decide +kernel) rfl rfl (fun wq hq => R.pickF (v := Value.bool false) (Eq.trans (show _ = Value.bool (!y3310) from rfl) (congrArg Value.bool hk3321)) rfl) ?_
                  refine WE.done (by decide +kernel) ?_
                  refine thenN ?_
                  refine WC.condF rfl rfl ?_
                  refine WC.skip ?_
                  refine thenN ?_
                  refine WC.seq ?_
                  refine WC.seq ?_
                  refine WC.region ?_
                  refine WL.val (R.fieldAddr (o := 0) (o' := 0) fa62_0 rfl rfl) rfl ?_
                  refine WL.val (R.loadL (v := Value.bool x3252.is) lf4 rfl (hs3318.at (i := 3) (off := 0) (n := 1) (cs := [Value.bool x3252.is]) rfl rfl rfl)) rfl ?_
                  refine WL.val (R.not (b := x3252.is) rfl) rfl ?_
                  refine WL.nil ?_
                  refine thenN ?_
                  have hk4794 : (!x3252.is) = true := by simp [hc4789]
                  refine WC.condT (Eq.trans (show _ = Value.bool (!x3252.is) from rfl) (congrArg Value.bool hk4794)) rfl ?_
                  refine WC.seq ?_
                  refine WC.seq ?_
                  refine WC.region ?_
                  refine WL.val (R.fieldAddr (o := 0) (o' := 56) fa62_2 rfl rfl) rfl ?_
                  refine WL.val (R.loadL (v := Value.slice a3267 x3252.table.length c3268) lf28 rfl (hs3318.at (i := 3) (off := 56) (n := 1) (cs := [Value.slice a3267 x3252.table.length c3268]) rfl rfl rfl)) rfl ?_
                  refine WL.val (R.len (a := a3267) (n := x3252.table.length) (c := c3268) un28 rfl) rfl ?_
                  by_cases hc4795 : ((x3252.table.length : Nat) : Int) = 0
                  · have h4796 := ifT hc4795 h4793
                    refine WL.val (R.neqF (k := .i64) (a := ((x3252.table.length : Nat) : Int)) (b := 0) un3 rfl rfl (not_not_intro hc4795)) rfl ?_
                    refine WL.val (R.move (v := Value.bool false) rfl) rfl ?_
                    refine WL.guardY (e := 80) rfl rfl rfl ?_
                    refine WL.val (R.fieldAddr (o := 0) (o' := 1) fa62_1 rfl rfl) rfl ?_
                    refine WL.guardY (e := 80) rfl rfl rfl ?_
                    refine WL.val (R.loadA (cs := encC x3252.cell) (n := 55) ag58 rfl (hs3318.at (i := 3) (off := 1) (n := 55) (cs := encC x3252.cell) rfl rfl rfl) rfl) rfl ?_
                    refine WL.guardY (e := 80) rfl rfl rfl ?_
                    have hd4797 : ∀ w, (Instr.build 58 #[]).run Try.prog w = .ok (Value.agg (List.toArray (encC Cl.zero))) w := fun _ => by kernel_rfl
                    refine WL.val (R.build (vs := []) rfl hd4797) rfl ?_
                    refine WL.guardY (e := 80) rfl rfl rfl ?_
                    refine WL.val (R.neCell (a := x3252.cell) (b := Cl.zero) rfl rfl) rfl ?_
                    refine WL.val (R.pickF (v := Value.bool (decide (¬ (x3252.cell = Cl.zero)))) rfl rfl) rfl ?_
                    refine WL.nil ?_
                    refine thenN ?_
                    by_cases hc4798 : ¬ (x3252.cell = Cl.zero)
                    · have h4799 := ifT hc4798 h4796
                      refine WC.condT (Eq.trans (show _ = Value.bool (decide (¬ (x3252.cell = Cl.zero))) from rfl) (congrArg Value.bool (decide_eq_true hc4798))) rfl ?_
                      refine WC.seq ?_
                      refine WC.region ?_
                      refine WL.val (R.assign (v := Value.bool false) rfl) rfl ?_
                      refine WL.nil ?_
                      refine thenN ?_
                      refine WC.ret ?_
                      have ht4800 := (hs3318.here).perm (L' := []) (G := [blk b102 25 [Value.slice a1 p1.length c1], blk b151 25 [Value.slice a142 y136.length c143], blk b177 25 [Value.slice a168 y162.length c169], blk b3274 62 (encR x3252 (Value.slice a3267 x3252.table.length c3268))]) ((List.Perm.refl _))
                      have hs4801 := hs3318.trans ht4800
                      obtain rfl := Option.some.inj (show some false = some r from h4799)
                      exact ret1 (P := Try.prog) (n := 187) (fn := Try.f14) (R := fun v w' => v = Value.bool false ∧ St [] w w' []) (t := 4) (v := Value.bool false) rfl rfl rfl ⟨rfl, hs4801⟩
                    · have h4802 := ifF hc4798 h4796
                      refine WC.condF (Eq.trans (show _ = Value.bool (decide (¬ (x3252.cell = Cl.zero))) from rfl) (congrArg Value.bool (decide_eq_false hc4798))) rfl ?_
                      refine WC.skip ?_
                      refine thenN ?_
                      refine WC.exit ?_
                      refine thenE ?_
                      refine blockHit ?_
                      refine thenN ?_
                      refine WC.region ?_
                      refine WL.val (R.move (v := Value.int .i64 i3227) (by exact s3249)) rfl ?_
                      obtain ⟨hg4803, h4804⟩ := ckE (c := -9223372036854775808 ≤ i3227 + 1 ∧ i3227 + 1 ≤ 9223372036854775807) h4802
                      refine WL.val (R.add (a := i3227) (b := 1) (z := i3227 + 1) rfl rfl (w64e rfl hg4803.1 hg4803.2)) rfl ?_
                      refine WL.val (R.assign (v := Value.int .i64 (i3227 + 1)) rfl) rfl ?_
                      refine WL.nil ?_
                      have ht4805 := (hs3318.here).perm (L' := [blk b102 25 [Value.slice a1 p1.length c1], blk b151 25 [Value.slice a142 y136.length c143], blk b177 25 [Value.slice a168 y162.length c169]]) (G := [blk b3274 62 (encR x3252 (Value.slice a3267 x3252.table.length c3268))]) ((List.Perm.refl _))
                      have hs4806 := hs3318.trans ht4805
                      have hr4807 := elT ((((ht3280.trans ht3283).trans ht3285).trans ht3315).trans ht4805) he3235
                      have hr4808 := elT ((((ht3280.trans ht3283).trans ht3285).trans ht3315).trans ht4805) he3236
                      have hr4809 := elT (ht3315.trans ht4805) hr3294
                      exact roundEnd (s := k3234) ⟨i3227 + 1, s3245, s3246, s3247, s3248, rfl, hr4807, hr4808, hr4809, h4804, hs4806⟩ (Nat.lt_succ_self _)
                  · have h4810 := ifF hc4795 h4793
                    refine WL.val (R.neqT (k := .i64) (a := ((x3252.table.length : Nat) : Int)) (b := 0) un3 rfl rfl hc4795) rfl ?_
                    refine WL.val (R.move (v := Value.bool true) rfl) rfl ?_
                    refine WL.guardN (e := 80) (v := .bool true) rfl rfl rfl rfl ?_
                    refine WL.guardN (e := 80) (v := .bool true) rfl rfl rfl rfl ?_
                    refine WL.guardN (e := 80) (v := .bool true) rfl rfl rfl rfl ?_
                    refine WL.guardN (e := 80) (v := .bool true) rfl rfl rfl rfl ?_
                    refine WL.val (R.pickT (v := Value.bool true) rfl rfl) rfl ?_
                    refine WL.nil ?_
                    refine thenN ?_
                    refine WC.condT rfl rfl ?_
                    refine WC.seq ?_
                    refine WC.region ?_
                    refine WL.val (R.assign (v := Value.bool false) rfl) rfl ?_
                    refine WL.nil ?_
                    refine thenN ?_
                    refine WC.ret ?_
                    have ht4811 := (hs3318.here).perm (L' := []) (G := [blk b102 25 [Value.slice a1 p1.length c1], blk b151 25 [Value.slice a142 y136.length c143], blk b177 25 [Value.slice a168 y162.length c169], blk b3274 62 (encR x3252 (Value.slice a3267 x3252.table.length c3268))]) ((List.Perm.refl _))
                    have hs4812 := hs3318.trans ht4811
                    obtain rfl := Option.some.inj (show some false = some r from h4810)
                    exact ret1 (P := Try.prog) (n := 187) (fn := Try.f14) (R := fun v w' => v = Value.bool false ∧ St [] w w' []) (t := 4) (v := Value.bool false) rfl rfl rfl ⟨rfl, hs4812⟩
            · have h4813 := ifF hc3319 h3312
              have hk4814 : (!y3310) = true := by simp [hc3319]
              refine WE.takeN 9 (e := 55) (v := .bool true) rfl (by decide +kernel) (by decide +kernel) (by decide +kernel) (by decide +kernel) rfl rfl rfl (Eq.trans (show _ = Value.bool (!y3310) from rfl) (congrArg Value.bool hk4814)) rfl ?_
              refine WE.takeN 10 (e := 55) (v := .bool true) rfl (by decide +kernel) (by decide +kernel) (by decide +kernel) (by decide +kernel) rfl rfl rfl (Eq.trans (show _ = Value.bool (!y3310) from rfl) (congrArg Value.bool hk4814)) rfl ?_
              refine WE.takeN 11 (e := 55) (v := .bool true) rfl (by decide +kernel) (by decide +kernel) (by decide +kernel) (by decide +kernel) rfl rfl rfl (Eq.trans (show _ = Value.bool (!y3310) from rfl) (congrArg Value.bool hk4814)) rfl ?_
              refine WE.takeN 12 (e := 55) (v := .bool true) rfl (by decide +kernel) (by decide +kernel) (by decide +kernel) (by decide +kernel) rfl rfl rfl (Eq.trans (show _ = Value.bool (!y3310) from rfl) (congrArg Value.bool hk4814)) rfl ?_
              refine WE.takeN 13 (e := 55) (v := .bool true) rfl (by decide +kernel) (by decide +kernel) (by decide +kernel) (by decide +kernel) rfl rfl rfl (Eq.trans (show _ = Value.bool (!y3310) from rfl) (congrArg Value.bool hk4814)) rfl ?_
              refine WE.takeN 14 (e := 55) (v := .bool true) rfl (by decide +kernel) (by decide +kernel) (by decide +kernel) (by decide +kernel) rfl rfl rfl (Eq.trans (show _ = Value.bool (!y3310) from rfl) (congrArg Value.bool hk4814)) rfl ?_
              refine WE.takeN 15 (e := 55) (v := .bool true) rfl (by decide +kernel) (by decide +kernel) (by decide +kernel) (by decide +kernel) rfl rfl rfl (Eq.trans (show _ = Value.bool (!y3310) from rfl) (congrArg Value.bool hk4814)) rfl ?_
              refine WE.takeN 16 (e := 55) (v := .bool true) rfl (by decide +kernel) (by decide +kernel) (by decide +kernel) (by decide +kernel) rfl rfl rfl (Eq.trans (show _ = Value.bool (!y3310) from rfl) (congrArg Value.bool hk4814)) rfl ?_
              refine WE.takeN 17 (e := 63) (v := undef) rfl (by decide +kernel) (by decide +kernel) (by decide +kernel) (by decide +kernel) rfl rfl rfl rfl rfl ?_
              refine WE.takeN 18 (e := 63) (v := undef) rfl (by decide +kernel) (by decide +kernel) (by decide +kernel) (by decide +kernel) rfl rfl rfl rfl rfl ?_
              refine WE.takeN 19 (e := 63) (v := undef) rfl (by decide +kernel) (by decide +kernel) (by decide +kernel) (by decide +kernel) rfl rfl rfl rfl rfl ?_
              refine WE.takeN 20 (e := 63) (v := undef) rfl (by decide +kernel) (by decide +kernel) (by decide +kernel) (by decide +kernel) rfl rfl rfl rfl rfl ?_
              refine WE.takeN 21 (e := 63) (v := undef) rfl (by decide +kernel) (by decide +kernel) (by decide +kernel) (by decide +kernel) rfl rfl rfl rfl rfl ?_
              refine WE.takeN 22 (e := 63) (v := undef) rfl (by decide +kernel) (by decide +kernel) (by decide +kernel) (by decide +kernel) rfl rfl rfl rfl rfl ?_
              refine WE.takeN 23 (e := 55) (v := .bool true) rfl (by decide +kernel) (by decide +kernel) (by decide +kernel) (by decide +kernel) rfl rfl rfl (Eq.trans (show _ = Value.bool (!y3310) from rfl) (congrArg Value.bool hk4814)) rfl ?_
              refine WE.takeN 24 (e := 55) (v := .bool true) rfl (by decide +kernel) (by decide +kernel) (by decide +kernel) (by decide +kernel) rfl rfl rfl (Eq.trans (show _ = Value.bool (!y3310) from rfl) (congrArg Value.bool hk4814)) rfl ?_
              refine WE.take 25 rfl (by decide +kernel) (by decide +kernel) (by decide +kernel) (by decide +kernel) rfl rfl (fun wq hq => R.pickT (v := Value.bool true) (Eq.trans (show _ = Value.bool (!y3310) from rfl) (congrArg Value.bool hk4814)) rfl) ?_
              refine WE.done (by decide +kernel) ?_
              refine thenN ?_
              refine WC.condT rfl rfl ?_
              refine WC.seq ?_
              refine WC.region ?_
              refine WL.val (R.assign (v := Value.bool false) rfl) rfl ?_
              refine WL.nil ?_
              refine thenN ?_
              refine WC.ret ?_
              have ht4815 := (hs3318.here).perm (L' := []) (G := [blk b102 25 [Value.slice a1 p1.length c1], blk b151 25 [Value.slice a142 y136.length c143], blk b177 25 [Value.slice a168 y162.length c169], blk b3274 62 (encR x3252 (Value.slice a3267 x3252.table.length c3268))]) ((List.Perm.refl _))
              have hs4816 := hs3318.trans ht4815
              obtain rfl := Option.some.inj (show some false = some r from h4813)
              exact ret1 (P := Try.prog) (n := 187) (fn := Try.f14) (R := fun v w' => v = Value.bool false ∧ St [] w w' []) (t := 4) (v := Value.bool false) rfl rfl rfl ⟨rfl, hs4816⟩
          · have h4817 := ifF hc3250 h3244
            refine WL.val (R.lssF (k := .i64) (a := i3227) (b := p0 % 17) un3 rfl rfl hc3250) rfl ?_
            refine WL.nil ?_
            refine thenN ?_
            refine WC.condF rfl rfl ?_
            refine WC.exit ?_
            refine thenE ?_
            refine thenE ?_
            refine blockHit ?_
            have ht4818 := (hs3233.here).perm (L' := []) (G := [blk b102 25 [Value.slice a1 p1.length c1], blk b151 25 [Value.slice a142 y136.length c143], blk b177 25 [Value.slice a168 y162.length c169]]) ((List.Perm.refl _))
            have hs4819 := hs3233.trans ht4818
            exact joinI ⟨h4817, hs4819⟩
        · rintro σ3242 w3241 ⟨h4820, hs3243⟩
          subst hK3229
          refine thenN ?_
          refine WC.seq ?_
          refine WC.region ?_
          obtain ⟨y4821, hx4822, h4823⟩ := ob (o := lives13 ) h4820
          refine WL.call (lives13_ok _ (In ok w [] [])   hx4822) (R.call (vs := []) (caps := []) bo60 rfl rfl) rfl ?_
          rintro v4826 w4827 ⟨rfl, ht4824⟩
          have ht4825 := hs3243.call (N := []) (M := []) (List.Perm.refl _) ht4824
          have hs4828 := hs3243.trans ht4825
          refine WL.val (R.assign (v := Value.bool y4821) rfl) rfl ?_
          refine WL.nil ?_
          refine thenN ?_
          refine WC.ret ?_
          obtain rfl := Option.some.inj (show some y4821 = some r from h4823)
          exact ret1 (P := Try.prog) (n := 187) (fn := Try.f14) (R := fun v w' => v = Value.bool y4821 ∧ St [] w w' []) (t := 4) (v := Value.bool y4821) rfl rfl rfl ⟨rfl, hs4828⟩
      · have h4829 := ifF hc190 h189
        refine WL.val (R.neqT (k := .i64) (a := ((y162.length : Nat) : Int)) (b := p0 % 17) un3 rfl rfl hc190) rfl ?_
        refine WL.val (R.pickF (v := Value.bool true) rfl rfl) rfl ?_
        refine WL.nil ?_
        refine thenN ?_
        refine WC.condT rfl rfl ?_
        refine WC.seq ?_
        refine WC.region ?_
        refine WL.val (R.assign (v := Value.bool false) rfl) rfl ?_
        refine WL.nil ?_
        refine thenN ?_
        refine WC.ret ?_
        have ht4830 := (hs187.here).perm (L' := []) (G := [blk b102 25 [Value.slice a1 p1.length c1], blk b151 25 [Value.slice a142 y136.length c143], blk b177 25 [Value.slice a168 y162.length c169]]) ((List.Perm.refl _))
        have hs4831 := hs187.trans ht4830
        obtain rfl := Option.some.inj (show some false = some r from h4829)
        exact ret1 (P := Try.prog) (n := 187) (fn := Try.f14) (R := fun v w' => v = Value.bool false ∧ St [] w w' []) (t := 4) (v := Value.bool false) rfl rfl rfl ⟨rfl, hs4831⟩
    · have h4832 := ifF hc188 h164
      refine WL.val (R.neqT (k := .i64) (a := ((y136.length : Nat) : Int)) (b := p0 % 17) un3 rfl rfl hc188) rfl ?_
      refine WL.val (R.move (v := Value.bool true) rfl) rfl ?_
      refine WL.guardN (e := 30) (v := .bool true) rfl rfl rfl rfl ?_
      refine WL.guardN (e := 30) (v := .bool true) rfl rfl rfl rfl ?_
      refine WL.guardN (e := 30) (v := .bool true) rfl rfl rfl rfl ?_
      refine WL.guardN (e := 30) (v := .bool true) rfl rfl rfl rfl ?_
      refine WL.guardN (e := 30) (v := .bool true) rfl rfl rfl rfl ?_
      refine WL.val (R.pickT (v := Value.bool true) rfl rfl) rfl ?_
      refine WL.nil ?_
      refine thenN ?_
      refine WC.condT rfl rfl ?_
      refine WC.seq ?_
      refine WC.region ?_
      refine WL.val (R.assign (v := Value.bool false) rfl) rfl ?_
      refine WL.nil ?_
      refine thenN ?_
      refine WC.ret ?_
      have ht4833 := (hs187.here).perm (L' := []) (G := [blk b102 25 [Value.slice a1 p1.length c1], blk b151 25 [Value.slice a142 y136.length c143], blk b177 25 [Value.slice a168 y162.length c169]]) ((List.Perm.refl _))
      have hs4834 := hs187.trans ht4833
      obtain rfl := Option.some.inj (show some false = some r from h4832)
      exact ret1 (P := Try.prog) (n := 187) (fn := Try.f14) (R := fun v w' => v = Value.bool false ∧ St [] w w' []) (t := 4) (v := Value.bool false) rfl rfl rfl ⟨rfl, hs4834⟩

end Go.Proofs.Ytckcldimnelklaa
