/- The functions come to what their twins answer: group 15. -/
import Derived.Test.YtckcldimnelklaaTU
import Derived.Test.YtckcldimnelklaaLG
import Derived.Test.YtckcldimnelklaaTP
import Derived.Test.YtckcldimnelklaaTN
import Derived.Test.YtckcldimnelklaaD15
namespace Go.Proofs.Ytckcldimnelklaa
open Go
set_option linter.unusedVariables false
set_option linter.unusedSimpArgs false
set_option maxRecDepth 100000
set_option maxHeartbeats 4000000

theorem table15_ok (w : World) (ok : Nat → Prop) (p0 : List Rw) (a0 : Option Addr) (c0 : Nat) (he0 : elems rowW w ok a0 p0) (hc0 : p0.length ≤ c0) {r : (List Hd)} (h : table15 p0 = some r) :
    Ret Try.prog 33 [Value.slice a0 p0.length c0] w (fun v w' => ∃ ra0, ∃ rc0, v = Value.slice ra0 r.length rc0 ∧ r.length ≤ rc0 ∧ elems heldW w' (In ok w [] []) ra0 r ∧ St [] w w' []) := by
  rw [table15] at h
  have hs100 : St [] w w [] := St.start w
  have he1000 := el0 (L0 := []) (fun b _ => out_nil b) he0
  refine enter (n := 26) Try.func33 rfl rfl rfl ?_
  refine WC.seq ?_
  refine WC.region ?_
  refine WL.val (R.assign (v := Value.slice none 0 0) rfl) rfl ?_
  refine WL.nil ?_
  refine thenN ?_
  refine WC.seq ?_
  refine WC.region ?_
  refine WL.val (R.move (v := Value.slice a0 p0.length c0) rfl) rfl ?_
  refine WL.val (R.len (a := a0) (n := p0.length) (c := c0) un22 rfl) rfl ?_
  obtain ⟨hg102, h103⟩ := ckE (c := p0.length < 1000000) h
  refine WL.new (L' := fun b104 => [gsl 60 heldE (Value.slice (some ⟨b104, 0, none⟩) ((List.replicate (((p0.length : Nat) : Int)).toNat Hd.none).length) ((((p0.length : Nat) : Int)).toNat)) (List.replicate (((p0.length : Nat) : Int)).toNat Hd.none)]) (f := fun b104 => Value.slice (some ⟨b104, 0, none⟩) ((List.replicate (((p0.length : Nat) : Int)).toNat Hd.none).length) ((((p0.length : Nat) : Int)).toNat)) (X.makeSliceN (e := heldE) (z := Hd.none) (hs100.here) sl28 rfl rfl rfl (by have := hg102; omega) (by decide) List.length_replicate (fun _ => rfl)) rfl ?_
  intro b104 w105 ht109 he106 hz107
  have hs110 := hs100.trans ht109
  refine WL.val (R.assign (v := Value.slice (some ⟨b104, 0, none⟩) ((List.replicate (((p0.length : Nat) : Int)).toNat Hd.none).length) ((((p0.length : Nat) : Int)).toNat)) rfl) rfl ?_
  refine WL.nil ?_
  refine thenN ?_
  refine WC.seq ?_
  refine WC.seq ?_
  refine WC.region ?_
  refine WL.val (R.move (v := Value.slice a0 p0.length c0) rfl) rfl ?_
  refine WL.val (R.len (a := a0) (n := p0.length) (c := c0) un22 rfl) rfl ?_
  refine WL.val (R.move (v := Value.int .i64 0) rfl) rfl ?_
  refine WL.nil ?_
  refine thenN ?_
  have hr242 := elT ht109 he1000
  obtain ⟨K234, hK235, h236⟩ := kE (G := fun K234 => table15_l1 p0 K234 1000000 0 (List.replicate (((p0.length : Nat) : Int)).toNat Hd.none)) h103
  refine WC.join (fun σ244 w243 => ∃ l231 : List Hd, ∃ a232, ∃ c233, σ244 3 = (Value.slice a232 l231.length c233) ∧ K234 l231 = some r ∧ St [] w w243 [gsl 60 heldE (Value.slice a232 l231.length c233) l231]) ?_ ?_
  · refine WC.block ?_
    refine WC.loop (T := Nat) (fun k240 σ238 w237 => ∃ i227 : Int, ∃ l228 : List Hd, ∃ a229, ∃ c230, σ238 3 = (Value.slice a229 l228.length c230) ∧ σ238 9 = (Value.slice a0 p0.length c0) ∧ σ238 10 = (Value.int .i64 ((p0.length : Nat) : Int)) ∧ σ238 11 = (Value.int .i64 i227) ∧ elems rowW w237 (In ok w [] [gsl 60 heldE (Value.slice a229 l228.length c230) l228]) a0 p0 ∧ table15_l1 p0 K234 k240 i227 l228 = some r ∧ St [] w w237 [gsl 60 heldE (Value.slice a229 l228.length c230) l228]) (fun k240 => k240) 1000000 ⟨0, List.replicate (((p0.length : Nat) : Int)).toNat Hd.none, (some ⟨b104, 0, none⟩), (((p0.length : Nat) : Int)).toNat, rfl, rfl, rfl, rfl, hr242, h236, hs110⟩ ?_
    rintro k240 σ238 w237 ⟨i227, l228, a229, c230, s247, s248, s249, s250, he241, h246, hs239⟩
    rcases k240 with _ | k240
    · rw [table15_l1] at h246; cases h246
    rw [table15_l1] at h246
    refine WC.seq ?_
    refine WC.region ?_
    by_cases hc251 : i227 < ((p0.length : Nat) : Int)
    · have h252 := ifT hc251 h246
      refine WL.val (R.lssT (k := .i64) (a := i227) (b := ((p0.length : Nat) : Int)) un3 (by exact s250) (by exact s249) hc251) rfl ?_
      refine WL.nil ?_
      refine thenN ?_
      refine WC.seq ?_
      refine WC.condT rfl rfl ?_
      refine WC.skip ?_
      refine thenN ?_
      refine WC.seq ?_
      refine WC.block ?_
      refine WC.seq ?_
      refine WC.region ?_
      refine WL.val (R.move (v := Value.int .i64 i227) (by exact s250)) rfl ?_
      obtain ⟨x253, hx254, h255⟩ := ob (o := rd p0 i227) h252
      obtain ⟨h0256, hx257, hl258, hm259⟩ := rdE hx254
      obtain ⟨ad260, e265, ha261, hp262, hat263, hrd264⟩ := he241 _ _ hx257
      obtain ⟨t266, rfl, a268, c269, he272, hl270, he271⟩ := hrd264
      cases he272
      refine WL.val (R.indexS (n := 57) (m := (i227).toNat) (a := a0) (ad := ad260) (len := p0.length) (cap := c0) (z := i227) un22 ag62.size (by exact s248) ha261 (by exact s250) hm259 hl258 hp262) rfl ?_
      refine WL.val (R.loadA (cs := encR x253 (Value.slice a268 x253.table.length c269)) (n := 57) ag62 rfl hat263 rfl) rfl ?_
      refine WL.new (L' := fun b275 => [gsl 60 heldE (Value.slice a229 l228.length c230) l228, blk b275 62 (encR Rw.none (Value.slice none 0 0))]) (f := fun b275 => Value.pointer (some ⟨b275, 0, none⟩)) (X.alloc (c := encR Rw.none (Value.slice none 0 0)) (hs239.here) zr62 rfl (fun _ => rfl)) rfl ?_
      intro b275 w276 ht281 he278 hz279
      have hs282 := hs239.trans ht281
      refine WL.val (R.assign (v := Value.int .i64 i227) rfl) rfl ?_
      refine WL.sto (L' := [gsl 60 heldE (Value.slice a229 l228.length c230) l228, blk b275 62 (encR x253 (Value.slice a268 x253.table.length c269))]) (X.store (i := 1) (n := 57) (b := b275) (off := 0) (c := encR Rw.none (Value.slice none 0 0)) (U := 62) (vs := encR x253 (Value.slice a268 x253.table.length c269)) (v := Value.agg (List.toArray (encR x253 (Value.slice a268 x253.table.length c269)))) (c' := encR x253 (Value.slice a268 x253.table.length c269)) (hs282.here) rfl ag62.size rfl rfl rfl rfl rfl rfl rfl rfl) rfl rfl ?_
      intro w283 ht284
      have hs285 := hs282.trans ht284
      refine WL.nil ?_
      refine thenN ?_
      refine WC.region ?_
      refine WL.val (R.move (v := Value.slice a229 l228.length c230) (by exact s247)) rfl ?_
      refine WL.val (R.move (v := Value.int .i64 i227) rfl) rfl ?_
      refine WL.val (R.fieldAddr (o := 0) (o' := 0) fa62_0 rfl rfl) rfl ?_
      refine WL.val (R.loadL (v := Value.bool x253.is) lf4 rfl (hs285.at (i := 1) (off := 0) (n := 1) (cs := [Value.bool x253.is]) rfl rfl rfl)) rfl ?_
      refine WL.val (R.fieldAddr (o := 0) (o' := 1) fa62_1 rfl rfl) rfl ?_
      refine WL.val (R.loadA (cs := encC x253.cell) (n := 55) ag58 rfl (hs285.at (i := 1) (off := 1) (n := 55) (cs := encC x253.cell) rfl rfl rfl) rfl) rfl ?_
      have hd286 : ∀ w, (Instr.build 60 #[(0, Value.bool x253.is), (1, Value.agg (List.toArray (encC x253.cell)))]).run Try.prog w = .ok (Value.agg (List.toArray (encH (⟨x253.is, x253.cell⟩ : Hd)))) w := fun _ => by kernel_rfl
      refine WL.val (R.build (vs := [(0, Value.bool x253.is), (1, Value.agg (List.toArray (encC x253.cell)))]) rfl hd286) rfl ?_
      obtain ⟨x287, hx288, h289⟩ := ob (o := rd l228 i227) h255
      obtain ⟨h0290, hx291, hl292, hm293⟩ := rdE hx288
      obtain ⟨b294, c295, hv296, _⟩ := hs285.gslAt (i := 0) rfl hx291
      refine WL.val (R.indexS (n := 56) (m := (i227).toNat) (ad := ⟨b294, 0, none⟩) (len := (l228).length) (cap := c295) (z := i227) un28 ag60.size (Eq.trans (show _ = Value.slice a229 l228.length c230 from rfl) hv296) rfl rfl hm293 hl292 rfl) rfl ?_
      refine WL.sto (L' := [gsl 60 heldE (Value.slice a229 l228.length c230) ((l228).set (i227).toNat (⟨x253.is, x253.cell⟩ : Hd)), blk b275 62 (encR x253 (Value.slice a268 x253.table.length c269))]) (X.storeEl (i := 0) (j := (i227).toNat) (off := 0) (n := 56) (x := x287) (y := (⟨x253.is, x253.cell⟩ : Hd)) (vs := encH (⟨x253.is, x253.cell⟩ : Hd)) (u := Value.agg (List.toArray (encH (⟨x253.is, x253.cell⟩ : Hd)))) (hs285.here) rfl hx291 hv296 ag60.size rfl rfl rfl rfl rfl rfl (by decide) (rfl) rfl) rfl rfl ?_
      intro w297 ht298
      have hs299 := hs285.trans ht298
      have hs300 : St [] w w297 [gsl 60 heldE (Value.slice a229 (((l228).set (i227).toNat (⟨x253.is, x253.cell⟩ : Hd)).length) c230) ((l228).set (i227).toNat (⟨x253.is, x253.cell⟩ : Hd)), blk b275 62 (encR x253 (Value.slice a268 x253.table.length c269))] := by first | (simpa only [List.length_set] using hs299) | (simp only [List.length_set]; exact hs299)
      have ht301 : St [gsl 60 heldE (Value.slice a229 l228.length c230) l228, blk b275 62 (encR x253 (Value.slice a268 x253.table.length c269))] w283 w297 [gsl 60 heldE (Value.slice a229 (((l228).set (i227).toNat (⟨x253.is, x253.cell⟩ : Hd)).length) c230) ((l228).set (i227).toNat (⟨x253.is, x253.cell⟩ : Hd)), blk b275 62 (encR x253 (Value.slice a268 x253.table.length c269))] := by first | (simpa only [List.length_set, List.nil_append, List.cons_append] using ht298) | (simp only [List.length_set]; exact ht298)
      refine WL.nil ?_
      refine blockN ?_
      refine thenN ?_
      refine WC.region ?_
      obtain ⟨hg302, h303⟩ := ckE (c := -9223372036854775808 ≤ i227 + 1 ∧ i227 + 1 ≤ 9223372036854775807) h289
      refine WL.val (R.add (a := i227) (b := 1) (z := i227 + 1) (by exact s250) rfl (w64e rfl hg302.1 hg302.2)) rfl ?_
      refine WL.val (R.move (v := Value.int .i64 (i227 + 1)) rfl) rfl ?_
      refine WL.nil ?_
      have ht304 := (hs300.here).perm (L' := [gsl 60 heldE (Value.slice a229 (((l228).set (i227).toNat (⟨x253.is, x253.cell⟩ : Hd)).length) c230) ((l228).set (i227).toNat (⟨x253.is, x253.cell⟩ : Hd))]) (G := [blk b275 62 (encR x253 (Value.slice a268 x253.table.length c269))]) ((List.Perm.refl _))
      have hs305 := hs300.trans ht304
      have hr306 := elT (((ht281.trans ht284).trans ht301).trans ht304) he241
      exact roundEnd (s := k240) ⟨i227 + 1, (l228).set (i227).toNat (⟨x253.is, x253.cell⟩ : Hd), a229, c230, (Eq.trans (show _ = Value.slice a229 l228.length c230 from s247) (by simp only [List.length_set])), s248, s249, rfl, hr306, h303, hs305⟩ (Nat.lt_succ_self _)
    · have h307 := ifF hc251 h246
      refine WL.val (R.lssF (k := .i64) (a := i227) (b := ((p0.length : Nat) : Int)) un3 (by exact s250) (by exact s249) hc251) rfl ?_
      refine WL.nil ?_
      refine thenN ?_
      refine WC.seq ?_
      refine WC.condF rfl rfl ?_
      refine WC.exit ?_
      refine thenE ?_
      refine thenE ?_
      refine blockHit ?_
      exact joinI ⟨l228, a229, c230, s247, h307, hs239⟩
  · rintro σ244 w243 ⟨l231, a232, c233, s309, h308, hs245⟩
    subst hK235
    refine thenN ?_
    refine WC.seq ?_
    refine WC.region ?_
    refine WL.val (R.move (v := Value.slice a232 l231.length c233) (by exact s309)) rfl ?_
    refine WL.val (R.assign (v := Value.slice a232 l231.length c233) rfl) rfl ?_
    refine WL.nil ?_
    refine thenN ?_
    refine WC.ret ?_
    obtain ⟨a310, c311, hv312, hl313, he314⟩ := el_freeze (k := heldW) (ok := fun _ => False) hs245 (List.Perm.refl _) rfl (fun _ _ _ => ⟨trivial, rfl⟩)
    obtain ⟨rfl, rfl⟩ : a232 = a310 ∧ c233 = c311 := ⟨(Value.slice.inj hv312).1, (Value.slice.inj hv312).2.2⟩
    have ht315 := (hs245.here).perm (L' := []) (G := [gsl 60 heldE (Value.slice a232 l231.length c233) l231]) ((List.Perm.refl _))
    have hs316 := hs245.trans ht315
    obtain rfl := Option.some.inj (show some l231 = some r from h308)
    exact ret1 (P := Try.prog) (n := 26) (fn := Try.f33) (R := fun v w' => ∃ ra0, ∃ rc0, v = Value.slice ra0 l231.length rc0 ∧ l231.length ≤ rc0 ∧ elems heldW w' (In ok w [] []) ra0 l231 ∧ St [] w w' []) (t := 2) (v := Value.slice a232 l231.length c233) rfl rfl rfl ⟨a232, c233, rfl, hl313, (elN (ok' := ok) he314), hs316⟩

theorem most15_ok (w : World) (ok : Nat → Prop) (p0 : Int) (p1 : Int) (p2 : List Rw) (a2 : Option Addr) (c2 : Nat) (he2 : elems rowW w ok a2 p2) (hc2 : p2.length ≤ c2) {r : Hd} (h : most15 p0 p1 p2 = some r) :
    Ret Try.prog 102 [Value.int .i64 p0, Value.int .i64 p1, Value.slice a2 p2.length c2] w (fun v w' => v = Value.agg (List.toArray (encH r)) ∧ St [] w w' []) := by
  rw [most15] at h
  have hs100 : St [] w w [] := St.start w
  have he1002 := el0 (L0 := []) (fun b _ => out_nil b) he2
  refine enter (n := 71) Try.func102 rfl rfl rfl ?_
  refine WC.seq ?_
  refine WC.region ?_
  refine WL.new (L' := fun b102 => [blk b102 60 (encH Hd.none)]) (f := fun b102 => Value.pointer (some ⟨b102, 0, none⟩)) (X.alloc (c := encH Hd.none) (hs100.here) zr60 rfl (fun _ => rfl)) rfl ?_
  intro b102 w103 ht108 he105 hz106
  have hs109 := hs100.trans ht108
  refine WL.nil ?_
  refine thenN ?_
  refine WC.seq ?_
  refine WC.region ?_
  refine WL.new (L' := fun b110 => [blk b102 60 (encH Hd.none), mapE b110 []]) (f := fun b110 => Value.map (some b110)) (X.makeMap (hs109.here) (fun _ => rfl)) rfl ?_
  intro b110 w111 ht115 he112 hz113
  have hs116 := hs109.trans ht115
  refine WL.val (R.assign (v := Value.map (some b110)) rfl) rfl ?_
  refine WL.nil ?_
  refine thenN ?_
  refine WC.seq ?_
  refine WC.seq ?_
  refine WC.region ?_
  refine WL.val (R.move (v := Value.slice a2 p2.length c2) rfl) rfl ?_
  refine WL.val (R.move (v := Value.int .i64 p0) rfl) rfl ?_
  refine WL.val (R.move (v := Value.slice a2 p2.length c2) rfl) rfl ?_
  refine WL.val (R.len (a := a2) (n := p2.length) (c := c2) un22 rfl) rfl ?_
  refine WL.val (R.min (a := p0) (b := ((p2.length : Nat) : Int)) (z := min p0 ((p2.length : Nat) : Int)) rfl rfl rfl) rfl ?_
  obtain ⟨hg117, h118⟩ := ckE (c := 0 ≤ min p0 ((p2.length : Nat) : Int) ∧ min p0 ((p2.length : Nat) : Int) ≤ ((p2.length : Nat) : Int)) h
  have hr119 := elT (ht108.trans ht115) he1002
  have hn122 : (p2.take (min p0 ((p2.length : Nat) : Int)).toNat).length = (min p0 ((p2.length : Nat) : Int)).toNat := take_len hg117
  have he120 := elems_take (min p0 ((p2.length : Nat) : Int)).toNat hr119
  have hl121 : (p2.take (min p0 ((p2.length : Nat) : Int)).toNat).length ≤ c2 := by rw [hn122]; exact toCap hg117 hc2
  refine WL.val (R.sliceToN (n := 57) (z := min p0 ((p2.length : Nat) : Int)) (N := (p2.take (min p0 ((p2.length : Nat) : Int)).toNat).length) un22 ag62.size rfl rfl hg117 hn122 hc2) rfl ?_
  refine WL.val (R.len (a := a2) (n := ((p2.take (min p0 ((p2.length : Nat) : Int)).toNat).length)) (c := c2) un22 rfl) rfl ?_
  refine WL.val (R.move (v := Value.int .i64 0) rfl) rfl ?_
  refine WL.nil ?_
  refine thenN ?_
  obtain ⟨K346, hK347, h348⟩ := kE (G := fun K346 => most15_l1 p2 p0 p1 K346 1000000 0 []) h118
  refine WC.join (fun σ355 w354 => σ355 6 = (Value.pointer (some ⟨b102, 0, none⟩)) ∧ K346 () = some r ∧ St [] w w354 [blk b102 60 (encH Hd.none)]) ?_ ?_
  · refine WC.block ?_
    refine WC.loop (T := Nat) (fun k352 σ350 w349 => ∃ i344 : Int, ∃ m345 : List (Cl × Int), σ350 0 = (Value.int .i64 p0) ∧ σ350 1 = (Value.int .i64 p1) ∧ σ350 6 = (Value.pointer (some ⟨b102, 0, none⟩)) ∧ σ350 7 = (Value.map (some b110)) ∧ σ350 17 = (Value.slice a2 ((p2.take (min p0 ((p2.length : Nat) : Int)).toNat).length) c2) ∧ σ350 18 = (Value.int .i64 (((p2.take (min p0 ((p2.length : Nat) : Int)).toNat).length : Nat) : Int)) ∧ σ350 19 = (Value.int .i64 i344) ∧ elems rowW w349 (In ok w [] [blk b102 60 (encH Hd.none), mapE b110 m345]) a2 (p2.take (min p0 ((p2.length : Nat) : Int)).toNat) ∧ most15_l1 p2 p0 p1 K346 k352 i344 m345 = some r ∧ St [] w w349 [blk b102 60 (encH Hd.none), mapE b110 m345]) (fun k352 => k352) 1000000 ⟨0, [], rfl, rfl, rfl, rfl, rfl, rfl, rfl, he120, h348, hs116⟩ ?_
    rintro k352 σ350 w349 ⟨i344, m345, s358, s359, s360, s361, s362, s363, s364, he353, h357, hs351⟩
    rcases k352 with _ | k352
    · rw [most15_l1] at h357; cases h357
    rw [most15_l1] at h357
    refine WC.seq ?_
    refine WC.region ?_
    by_cases hc365 : i344 < (((p2.take (min p0 ((p2.length : Nat) : Int)).toNat).length : Nat) : Int)
    · have h366 := ifT hc365 h357
      refine WL.val (R.lssT (k := .i64) (a := i344) (b := (((p2.take (min p0 ((p2.length : Nat) : Int)).toNat).length : Nat) : Int)) un3 (by exact s364) (by exact s363) hc365) rfl ?_
      refine WL.nil ?_
      refine thenN ?_
      refine WC.seq ?_
      refine WC.condT rfl rfl ?_
      refine WC.skip ?_
      refine thenN ?_
      refine WC.seq ?_
      refine WC.block ?_
      refine WC.seq ?_
      refine WC.region ?_
      refine WL.val (R.move (v := Value.int .i64 i344) (by exact s364)) rfl ?_
      obtain ⟨x367, hx368, h369⟩ := ob (o := rd (p2.take (min p0 ((p2.length : Nat) : Int)).toNat) i344) h366
      obtain ⟨h0370, hx371, hl372, hm373⟩ := rdE hx368
      obtain ⟨ad374, e379, ha375, hp376, hat377, hrd378⟩ := he353 _ _ hx371
      obtain ⟨t380, rfl, a382, c383, he386, hl384, he385⟩ := hrd378
      cases he386
      refine WL.val (R.indexS (n := 57) (m := (i344).toNat) (a := a2) (ad := ad374) (len := ((p2.take (min p0 ((p2.length : Nat) : Int)).toNat).length)) (cap := c2) (z := i344) un22 ag62.size (by exact s362) ha375 (by exact s364) hm373 hl372 hp376) rfl ?_
      refine WL.val (R.loadA (cs := encR x367 (Value.slice a382 x367.table.length c383)) (n := 57) ag62 rfl hat377 rfl) rfl ?_
      refine WL.new (L' := fun b389 => [blk b102 60 (encH Hd.none), mapE b110 m345, blk b389 62 (encR Rw.none (Value.slice none 0 0))]) (f := fun b389 => Value.pointer (some ⟨b389, 0, none⟩)) (X.alloc (c := encR Rw.none (Value.slice none 0 0)) (hs351.here) zr62 rfl (fun _ => rfl)) rfl ?_
      intro b389 w390 ht395 he392 hz393
      have hs396 := hs351.trans ht395
      refine WL.val (R.assign (v := Value.int .i64 i344) rfl) rfl ?_
      refine WL.sto (L' := [blk b102 60 (encH Hd.none), mapE b110 m345, blk b389 62 (encR x367 (Value.slice a382 x367.table.length c383))]) (X.store (i := 2) (n := 57) (b := b389) (off := 0) (c := encR Rw.none (Value.slice none 0 0)) (U := 62) (vs := encR x367 (Value.slice a382 x367.table.length c383)) (v := Value.agg (List.toArray (encR x367 (Value.slice a382 x367.table.length c383)))) (c' := encR x367 (Value.slice a382 x367.table.length c383)) (hs396.here) rfl ag62.size rfl rfl rfl rfl rfl rfl rfl rfl) rfl rfl ?_
      intro w397 ht398
      have hs399 := hs396.trans ht398
      refine WL.nil ?_
      refine thenN ?_
      refine WC.seq ?_
      refine WC.seq ?_
      refine WC.region ?_
      refine WL.val (R.move (v := Value.int .i64 i344) rfl) rfl ?_
      refine WL.val (R.move (v := Value.int .i64 p1) (by exact s359)) rfl ?_
      by_cases hc400 : i344 = p1
      · have h401 := ifT hc400 h369
        refine WL.val (R.eqlT (k := .i64) (a := i344) (b := p1) un3 rfl rfl hc400) rfl ?_
        refine WL.val (R.move (v := Value.bool true) rfl) rfl ?_
        refine WL.guardN (e := 27) (v := .bool true) rfl rfl rfl rfl ?_
        refine WL.guardN (e := 27) (v := .bool true) rfl rfl rfl rfl ?_
        refine WL.guardN (e := 27) (v := .bool true) rfl rfl rfl rfl ?_
        refine WL.val (R.pickT (v := Value.bool true) rfl rfl) rfl ?_
        refine WL.val (R.move (v := Value.bool true) rfl) rfl ?_
        refine WL.guardN (e := 32) (v := .bool true) rfl rfl rfl rfl ?_
        refine WL.guardN (e := 32) (v := .bool true) rfl rfl rfl rfl ?_
        refine WL.guardN (e := 32) (v := .bool true) rfl rfl rfl rfl ?_
        refine WL.guardN (e := 32) (v := .bool true) rfl rfl rfl rfl ?_
        refine WL.guardN (e := 32) (v := .bool true) rfl rfl rfl rfl ?_
        refine WL.val (R.pickT (v := Value.bool true) rfl rfl) rfl ?_
        refine WL.val (R.move (v := Value.bool true) rfl) rfl ?_
        refine WL.guardN (e := 39) (v := .bool true) rfl rfl rfl rfl ?_
        refine WL.guardN (e := 39) (v := .bool true) rfl rfl rfl rfl ?_
        refine WL.guardN (e := 39) (v := .bool true) rfl rfl rfl rfl ?_
        refine WL.guardN (e := 39) (v := .bool true) rfl rfl rfl rfl ?_
        refine WL.guardN (e := 39) (v := .bool true) rfl rfl rfl rfl ?_
        refine WL.guardN (e := 39) (v := .bool true) rfl rfl rfl rfl ?_
        refine WL.guardN (e := 39) (v := .bool true) rfl rfl rfl rfl ?_
        refine WL.val (R.pickT (v := Value.bool true) rfl rfl) rfl ?_
        refine WL.nil ?_
        refine thenN ?_
        refine WC.condT rfl rfl ?_
        refine WC.exit ?_
        refine thenE ?_
        refine blockHit ?_
        refine thenN ?_
        refine WC.region ?_
        obtain ⟨hg402, h403⟩ := ckE (c := -9223372036854775808 ≤ i344 + 1 ∧ i344 + 1 ≤ 9223372036854775807) h401
        refine WL.val (R.add (a := i344) (b := 1) (z := i344 + 1) (by exact s364) rfl (w64e rfl hg402.1 hg402.2)) rfl ?_
        refine WL.val (R.move (v := Value.int .i64 (i344 + 1)) rfl) rfl ?_
        refine WL.nil ?_
        have ht404 := (hs399.here).perm (L' := [blk b102 60 (encH Hd.none), mapE b110 m345]) (G := [blk b389 62 (encR x367 (Value.slice a382 x367.table.length c383))]) ((List.Perm.refl _))
        have hs405 := hs399.trans ht404
        have hr406 := elT ((ht395.trans ht398).trans ht404) he353
        exact roundEnd (s := k352) ⟨i344 + 1, m345, s358, s359, s360, s361, s362, s363, rfl, hr406, h403, hs405⟩ (Nat.lt_succ_self _)
      · have h407 := ifF hc400 h369
        refine WL.val (R.eqlF (k := .i64) (a := i344) (b := p1) un3 rfl rfl hc400) rfl ?_
        refine WL.val (R.move (v := Value.bool false) rfl) rfl ?_
        refine WL.guardY (e := 27) rfl rfl rfl ?_
        refine WL.val (R.fieldAddr (o := 0) (o' := 0) fa62_0 rfl rfl) rfl ?_
        refine WL.guardY (e := 27) rfl rfl rfl ?_
        refine WL.val (R.loadL (v := Value.bool x367.is) lf4 rfl (hs399.at (i := 2) (off := 0) (n := 1) (cs := [Value.bool x367.is]) rfl rfl rfl)) rfl ?_
        refine WL.guardY (e := 27) rfl rfl rfl ?_
        refine WL.val (R.not (b := x367.is) rfl) rfl ?_
        refine WL.val (R.pickF (v := Value.bool (!x367.is)) rfl rfl) rfl ?_
        refine WL.val (R.move (v := Value.bool (!x367.is)) rfl) rfl ?_
        by_cases hc408 : x367.is = true
        · have h409 := ifT hc408 h407
          have hk410 : (!x367.is) = false := by simp [hc408]
          refine WL.guardY (e := 32) (Eq.trans (show _ = Value.bool (!x367.is) from rfl) (congrArg Value.bool hk410)) rfl rfl ?_
          refine WL.val (R.move (v := Value.int .i64 p1) (by exact s359)) rfl ?_
          refine WL.guardY (e := 32) (Eq.trans (show _ = Value.bool (!x367.is) from rfl) (congrArg Value.bool hk410)) rfl rfl ?_
          refine WL.val (R.fieldAddr (o := 0) (o' := 56) fa62_2 rfl rfl) rfl ?_
          refine WL.guardY (e := 32) (Eq.trans (show _ = Value.bool (!x367.is) from rfl) (congrArg Value.bool hk410)) rfl rfl ?_
          refine WL.val (R.loadL (v := Value.slice a382 x367.table.length c383) lf28 rfl (hs399.at (i := 2) (off := 56) (n := 1) (cs := [Value.slice a382 x367.table.length c383]) rfl rfl rfl)) rfl ?_
          refine WL.guardY (e := 32) (Eq.trans (show _ = Value.bool (!x367.is) from rfl) (congrArg Value.bool hk410)) rfl rfl ?_
          refine WL.val (R.len (a := a382) (n := x367.table.length) (c := c383) un28 rfl) rfl ?_
          refine WL.guardY (e := 32) (Eq.trans (show _ = Value.bool (!x367.is) from rfl) (congrArg Value.bool hk410)) rfl rfl ?_
          by_cases hc411 : ((x367.table.length : Nat) : Int) ≤ p1
          · have h412 := ifT hc411 h409
            refine WL.val (R.geqT (k := .i64) (a := p1) (b := ((x367.table.length : Nat) : Int)) un3 rfl rfl hc411) rfl ?_
            refine WL.val (R.pickF (v := Value.bool true) (Eq.trans (show _ = Value.bool (!x367.is) from rfl) (congrArg Value.bool hk410)) rfl) rfl ?_
            refine WL.val (R.move (v := Value.bool true) rfl) rfl ?_
            refine WL.guardN (e := 39) (v := .bool true) rfl rfl rfl rfl ?_
            refine WL.guardN (e := 39) (v := .bool true) rfl rfl rfl rfl ?_
            refine WL.guardN (e := 39) (v := .bool true) rfl rfl rfl rfl ?_
            refine WL.guardN (e := 39) (v := .bool true) rfl rfl rfl rfl ?_
            refine WL.guardN (e := 39) (v := .bool true) rfl rfl rfl rfl ?_
            refine WL.guardN (e := 39) (v := .bool true) rfl rfl rfl rfl ?_
            refine WL.guardN (e := 39) (v := .bool true) rfl rfl rfl rfl ?_
            refine WL.val (R.pickT (v := Value.bool true) rfl rfl) rfl ?_
            refine WL.nil ?_
            refine thenN ?_
            refine WC.condT rfl rfl ?_
            refine WC.exit ?_
            refine thenE ?_
            refine blockHit ?_
            refine thenN ?_
            refine WC.region ?_
            obtain ⟨hg413, h414⟩ := ckE (c := -9223372036854775808 ≤ i344 + 1 ∧ i344 + 1 ≤ 9223372036854775807) h412
            refine WL.val (R.add (a := i344) (b := 1) (z := i344 + 1) (by exact s364) rfl (w64e rfl hg413.1 hg413.2)) rfl ?_
            refine WL.val (R.move (v := Value.int .i64 (i344 + 1)) rfl) rfl ?_
            refine WL.nil ?_
            have ht415 := (hs399.here).perm (L' := [blk b102 60 (encH Hd.none), mapE b110 m345]) (G := [blk b389 62 (encR x367 (Value.slice a382 x367.table.length c383))]) ((List.Perm.refl _))
            have hs416 := hs399.trans ht415
            have hr417 := elT ((ht395.trans ht398).trans ht415) he353
            exact roundEnd (s := k352) ⟨i344 + 1, m345, s358, s359, s360, s361, s362, s363, rfl, hr417, h414, hs416⟩ (Nat.lt_succ_self _)
          · have h418 := ifF hc411 h409
            refine WL.val (R.geqF (k := .i64) (a := p1) (b := ((x367.table.length : Nat) : Int)) un3 rfl rfl hc411) rfl ?_
            refine WL.val (R.pickF (v := Value.bool false) (Eq.trans (show _ = Value.bool (!x367.is) from rfl) (congrArg Value.bool hk410)) rfl) rfl ?_
            refine WL.val (R.move (v := Value.bool false) rfl) rfl ?_
            refine WL.guardY (e := 39) rfl rfl rfl ?_
            refine WL.val (R.fieldAddr (o := 0) (o' := 56) fa62_2 rfl rfl) rfl ?_
            refine WL.guardY (e := 39) rfl rfl rfl ?_
            refine WL.val (R.loadL (v := Value.slice a382 x367.table.length c383) lf28 rfl (hs399.at (i := 2) (off := 56) (n := 1) (cs := [Value.slice a382 x367.table.length c383]) rfl rfl rfl)) rfl ?_
            refine WL.guardY (e := 39) rfl rfl rfl ?_
            refine WL.val (R.move (v := Value.int .i64 p1) (by exact s359)) rfl ?_
            refine WL.guardY (e := 39) rfl rfl rfl ?_
            obtain ⟨x419, hx420, h421⟩ := ob (o := rd x367.table p1) h418
            obtain ⟨h0422, hx423, hl424, hm425⟩ := rdE hx420
            have hr426 := elT (ht395.trans ht398) he385
            obtain ⟨ad427, e432, ha428, hp429, hat430, hrd431⟩ := hr426 _ _ hx423
            obtain ⟨-, rfl⟩ := hrd431
            refine WL.val (R.indexS (n := 56) (m := (p1).toNat) (a := a382) (ad := ad427) (len := x367.table.length) (cap := c383) (z := p1) un28 ag60.size rfl ha428 rfl hm425 hl424 hp429) rfl ?_
            refine WL.guardY (e := 39) rfl rfl rfl ?_
            refine WL.val (R.fieldAddr (o := ad427.off + (p1).toNat * 56) (o' := ad427.off + (p1).toNat * 56) fa60_0 rfl rfl) rfl ?_
            refine WL.guardY (e := 39) rfl rfl rfl ?_
            refine WL.val (R.loadL (v := Value.bool x419.is) lf4 rfl (At.sub (a := ⟨ad427.block, ad427.off + (p1).toNat * 56, none⟩) (off := 0) (n := 1) (cs := encH x419) (ds := [Value.bool x419.is]) hat430 rfl rfl)) rfl ?_
            refine WL.guardY (e := 39) rfl rfl rfl ?_
            refine WL.val (R.not (b := x419.is) rfl) rfl ?_
            refine WL.val (R.pickF (v := Value.bool (!x419.is)) rfl rfl) rfl ?_
            refine WL.nil ?_
            refine thenN ?_
            by_cases hc434 : x419.is = true
            · have h435 := ifT hc434 h421
              have hk436 : (!x419.is) = false := by simp [hc434]
              refine WC.condF (Eq.trans (show _ = Value.bool (!x419.is) from rfl) (congrArg Value.bool hk436)) rfl ?_
              refine WC.skip ?_
              refine thenN ?_
              refine WC.seq ?_
              refine WC.region ?_
              refine WL.val (R.fieldAddr (o := 0) (o' := 56) fa62_2 rfl rfl) rfl ?_
              refine WL.val (R.loadL (v := Value.slice a382 x367.table.length c383) lf28 rfl (hs399.at (i := 2) (off := 56) (n := 1) (cs := [Value.slice a382 x367.table.length c383]) rfl rfl rfl)) rfl ?_
              refine WL.val (R.move (v := Value.int .i64 p1) (by exact s359)) rfl ?_
              refine WL.val (R.indexS (n := 56) (m := (p1).toNat) (a := a382) (ad := ad427) (len := x367.table.length) (cap := c383) (z := p1) un28 ag60.size rfl ha428 rfl hm425 hl424 hp429) rfl ?_
              refine WL.val (R.fieldAddr (o := ad427.off + (p1).toNat * 56) (o' := ad427.off + (p1).toNat * 56 + 1) fa60_1 rfl rfl) rfl ?_
              refine WL.val (R.loadA (cs := encC x419.cell) (n := 55) ag58 rfl (At.sub (a := ⟨ad427.block, ad427.off + (p1).toNat * 56, none⟩) (off := 1) (n := 55) (cs := encH x419) (ds := encC x419.cell) hat430 rfl rfl) rfl) rfl ?_
              refine WL.new (L' := fun b437 => [blk b102 60 (encH Hd.none), mapE b110 m345, blk b389 62 (encR x367 (Value.slice a382 x367.table.length c383)), blk b437 58 (encC Cl.zero)]) (f := fun b437 => Value.pointer (some ⟨b437, 0, none⟩)) (X.alloc (c := encC Cl.zero) (hs399.here) zr58 rfl (fun _ => rfl)) rfl ?_
              intro b437 w438 ht443 he440 hz441
              have hs444 := hs399.trans ht443
              refine WL.sto (L' := [blk b102 60 (encH Hd.none), mapE b110 m345, blk b389 62 (encR x367 (Value.slice a382 x367.table.length c383)), blk b437 58 (encC x419.cell)]) (X.store (i := 3) (n := 55) (b := b437) (off := 0) (c := encC Cl.zero) (U := 58) (vs := encC x419.cell) (v := Value.agg (List.toArray (encC x419.cell))) (c' := encC x419.cell) (hs444.here) rfl ag58.size rfl rfl rfl rfl rfl rfl rfl rfl) rfl rfl ?_
              intro w445 ht446
              have hs447 := hs444.trans ht446
              refine WL.nil ?_
              refine thenN ?_
              refine WC.seq ?_
              refine WC.drawM mixed (NP.then (NP.block (NP.then (NP.then (NP.block (NP.join (NP.then NP.rq))))))) (fun x => ∃ m2, (m2 = m345 ∨ m2 = madd m345 x419.cell) ∧ St [blk b102 60 (encH Hd.none), mapE b110 m345, blk b389 62 (encR x367 (Value.slice a382 x367.table.length c383)), blk b437 58 (encC x419.cell)] (w445).drew x [blk b102 60 (encH Hd.none), mapE b110 m2, blk b389 62 (encR x367 (Value.slice a382 x367.table.length c383)), blk b437 58 (encC x419.cell)]) ?_
              have ht448 := (hs447.here).ext (Ext.drew _)
              have hs449 := hs447.trans ht448
              have hS450 : (fun x => ∃ m2, (m2 = m345 ∨ m2 = madd m345 x419.cell) ∧ St [blk b102 60 (encH Hd.none), mapE b110 m345, blk b389 62 (encR x367 (Value.slice a382 x367.table.length c383)), blk b437 58 (encC x419.cell)] (w445).drew x [blk b102 60 (encH Hd.none), mapE b110 m2, blk b389 62 (encR x367 (Value.slice a382 x367.table.length c383)), blk b437 58 (encC x419.cell)]) ((w445).drew) := ⟨_, .inl rfl, (hs449.here)⟩
              refine WM.take 0 rfl (by decide +kernel) (by decide +kernel) (by decide +kernel) (by decide +kernel) rfl rfl (fun wq hq => (by obtain ⟨m2, hm2, hq2⟩ := hq; exact R.move (v := Value.map (some b110)) (by exact s361))) hS450 ?_
              refine WM.take 1 rfl (by decide +kernel) (by decide +kernel) (by decide +kernel) (by decide +kernel) rfl rfl (fun wq hq => (by obtain ⟨m2, hm2, hq2⟩ := hq; exact R.loadA (cs := encC x419.cell) (n := 55) ag58 rfl ((hs449.trans hq2).at (i := 3) (off := 0) (n := 55) (cs := encC x419.cell) rfl rfl rfl) rfl)) hS450 ?_
              refine WM.take 2 rfl (by decide +kernel) (by decide +kernel) (by decide +kernel) (by decide +kernel) rfl rfl (fun wq hq => (by obtain ⟨m2, hm2, hq2⟩ := hq; exact R.lookupM (i := 1) (m := m345) (c := x419.cell) hm2 (hs449.trans hq2) rfl rfl rfl)) hS450 ?_
              obtain ⟨hg451, h452⟩ := ckE (c := -9223372036854775808 ≤ (mget m345 x419.cell) + 1 ∧ (mget m345 x419.cell) + 1 ≤ 9223372036854775807) h435
              refine WM.take 3 rfl (by decide +kernel) (by decide +kernel) (by decide +kernel) (by decide +kernel) rfl rfl (fun wq hq => (by obtain ⟨m2, hm2, hq2⟩ := hq; exact R.add (a := mget m345 x419.cell) (b := 1) (z := (mget m345 x419.cell) + 1) rfl rfl (w64e rfl hg451.1 hg451.2))) hS450 ?_
              refine WM.sett (L' := [blk b102 60 (encH Hd.none), mapE b110 (madd m345 x419.cell), blk b389 62 (encR x367 (Value.slice a382 x367.table.length c383)), blk b437 58 (encC x419.cell)]) (v := Value.tuple #[Value.int .i64 (mget m345 x419.cell), Value.int .i64 ((midx m345 x419.cell : Nat) : Int)]) 4 (by decide +kernel) rfl rfl rfl (X.mapEntry (i := 1) (m := m345) (c := x419.cell) (hs449.here) rfl rfl rfl rfl) (fun _ h => ⟨_, .inr rfl, h⟩) ?_
              intro w453 ht454
              have hS455 : (fun x => ∃ m2, (m2 = m345 ∨ m2 = madd m345 x419.cell) ∧ St [blk b102 60 (encH Hd.none), mapE b110 m345, blk b389 62 (encR x367 (Value.slice a382 x367.table.length c383)), blk b437 58 (encC x419.cell)] (w445).drew x [blk b102 60 (encH Hd.none), mapE b110 m2, blk b389 62 (encR x367 (Value.slice a382 x367.table.length c383)), blk b437 58 (encC x419.cell)]) w453 := ⟨_, .inr rfl, ht454⟩
              have hs456 := hs449.trans ht454
              refine WM.take 5 rfl (by decide +kernel) (by decide +kernel) (by decide +kernel) (by decide +kernel) rfl rfl (fun wq hq => (by obtain ⟨m2, hm2, hq2⟩ := hq; exact R.extract (v := Value.int .i64 ((midx m345 x419.cell : Nat) : Int)) rfl rfl)) hS455 ?_
              refine WM.sto (L' := [blk b102 60 (encH Hd.none), mapE b110 (mput m345 x419.cell ((mget m345 x419.cell) + 1)), blk b389 62 (encR x367 (Value.slice a382 x367.table.length c383)), blk b437 58 (encC x419.cell)]) 6 (by decide +kernel) (by decide +kernel) rfl rfl rfl rfl (X.entryStore (i := 1) (m := m345) (c := x419.cell) (v := (mget m345 x419.cell) + 1) (hs456.here) rfl rfl rfl rfl rfl) ?_
              intro w457 ht458
              have hs459 := hs456.trans ht458
              refine WE.done (by decide +kernel) ?_
              refine thenN ?_
              refine WC.seq ?_
              refine WC.region ?_
              refine WL.val (R.move (v := Value.map (some b110)) (by exact s361)) rfl ?_
              refine WL.val (R.loadA (cs := encC x419.cell) (n := 55) ag58 rfl (hs459.at (i := 3) (off := 0) (n := 55) (cs := encC x419.cell) rfl rfl rfl) rfl) rfl ?_
              refine WL.val (R.lookup (i := 1) (m := mput m345 x419.cell ((mget m345 x419.cell) + 1)) (c := x419.cell) hs459 rfl rfl rfl) rfl ?_
              obtain ⟨hg460, h461⟩ := ckE (c := -9223372036854775808 ≤ 2 * (mget (mput m345 x419.cell ((mget m345 x419.cell) + 1)) x419.cell) ∧ 2 * (mget (mput m345 x419.cell ((mget m345 x419.cell) + 1)) x419.cell) ≤ 9223372036854775807) h452
              refine WL.val (R.mul (a := 2) (b := mget (mput m345 x419.cell ((mget m345 x419.cell) + 1)) x419.cell) (z := 2 * (mget (mput m345 x419.cell ((mget m345 x419.cell) + 1)) x419.cell)) rfl rfl (w64e rfl hg460.1 hg460.2)) rfl ?_
              refine WL.val (R.move (v := Value.int .i64 p0) (by exact s358)) rfl ?_
              obtain ⟨hg462, h463⟩ := ckE (c := -9223372036854775808 ≤ p0 - 1 ∧ p0 - 1 ≤ 9223372036854775807) h461
              refine WL.val (R.sub (a := p0) (b := 1) (z := p0 - 1) rfl rfl (w64e rfl hg462.1 hg462.2)) rfl ?_
              by_cases hc464 : (p0 - 1) < (2 * (mget (mput m345 x419.cell ((mget m345 x419.cell) + 1)) x419.cell))
              · have h465 := ifT hc464 h463
                refine WL.val (R.gtrT (k := .i64) (a := 2 * (mget (mput m345 x419.cell ((mget m345 x419.cell) + 1)) x419.cell)) (b := p0 - 1) un3 rfl rfl hc464) rfl ?_
                refine WL.nil ?_
                refine thenN ?_
                refine WC.condT rfl rfl ?_
                refine WC.seq ?_
                refine WC.region ?_
                refine WL.val (R.loadA (cs := encC x419.cell) (n := 55) ag58 rfl (hs459.at (i := 3) (off := 0) (n := 55) (cs := encC x419.cell) rfl rfl rfl) rfl) rfl ?_
                have hd466 : ∀ w, (Instr.build 60 #[(0, Value.bool true), (1, Value.agg (List.toArray (encC x419.cell)))]).run Try.prog w = .ok (Value.agg (List.toArray (encH (⟨true, x419.cell⟩ : Hd)))) w := fun _ => by kernel_rfl
                refine WL.val (R.build (vs := [(0, Value.bool true), (1, Value.agg (List.toArray (encC x419.cell)))]) rfl hd466) rfl ?_
                refine WL.sto (L' := [blk b102 60 (encH (⟨true, x419.cell⟩ : Hd)), mapE b110 (mput m345 x419.cell ((mget m345 x419.cell) + 1)), blk b389 62 (encR x367 (Value.slice a382 x367.table.length c383)), blk b437 58 (encC x419.cell)]) (X.store (i := 0) (n := 56) (b := b102) (off := 0) (c := encH Hd.none) (U := 60) (vs := encH (⟨true, x419.cell⟩ : Hd)) (v := Value.agg (List.toArray (encH (⟨true, x419.cell⟩ : Hd)))) (c' := encH (⟨true, x419.cell⟩ : Hd)) (hs459.here) rfl ag60.size (by exact s360) rfl rfl rfl rfl rfl rfl rfl) rfl rfl ?_
                intro w467 ht468
                have hs469 := hs459.trans ht468
                refine WL.nil ?_
                refine thenN ?_
                refine WC.ret ?_
                have hl470 := run_loadA (P := Try.prog) (n := 56) ag60 (hs469.at (i := 0) (off := 0) (n := 56) (cs := encH (⟨true, x419.cell⟩ : Hd)) rfl rfl rfl) rfl
                have ht471 := (hs469.here).perm (L' := []) (G := [blk b102 60 (encH (⟨true, x419.cell⟩ : Hd)), mapE b110 (mput m345 x419.cell ((mget m345 x419.cell) + 1)), blk b389 62 (encR x367 (Value.slice a382 x367.table.length c383)), blk b437 58 (encC x419.cell)]) ((List.Perm.refl _))
                have hs472 := hs469.trans ht471
                obtain rfl := Option.some.inj (show some (⟨true, x419.cell⟩ : Hd) = some r from h465)
                exact retCell (P := Try.prog) (n := 71) (fn := Try.f102) (R := fun v w' => v = Value.agg (List.toArray (encH (⟨true, x419.cell⟩ : Hd))) ∧ St [] w w' []) (t := 6) (v := Value.agg (List.toArray (encH (⟨true, x419.cell⟩ : Hd)))) rfl s360 rfl hl470 ⟨rfl, hs472⟩
              · have h473 := ifF hc464 h463
                refine WL.val (R.gtrF (k := .i64) (a := 2 * (mget (mput m345 x419.cell ((mget m345 x419.cell) + 1)) x419.cell)) (b := p0 - 1) un3 rfl rfl hc464) rfl ?_
                refine WL.nil ?_
                refine thenN ?_
                refine WC.condF rfl rfl ?_
                refine WC.skip ?_
                refine blockN ?_
                refine thenN ?_
                refine WC.region ?_
                obtain ⟨hg474, h475⟩ := ckE (c := -9223372036854775808 ≤ i344 + 1 ∧ i344 + 1 ≤ 9223372036854775807) h473
                refine WL.val (R.add (a := i344) (b := 1) (z := i344 + 1) (by exact s364) rfl (w64e rfl hg474.1 hg474.2)) rfl ?_
                refine WL.val (R.move (v := Value.int .i64 (i344 + 1)) rfl) rfl ?_
                refine WL.nil ?_
                have ht476 := (hs459.here).perm (L' := [blk b102 60 (encH Hd.none), mapE b110 (mput m345 x419.cell ((mget m345 x419.cell) + 1))]) (G := [blk b389 62 (encR x367 (Value.slice a382 x367.table.length c383)), blk b437 58 (encC x419.cell)]) ((List.Perm.refl _))
                have hs477 := hs459.trans ht476
                have hr478 := elT (((((((ht395.trans ht398).trans ht443).trans ht446).trans ht448).trans ht454).trans ht458).trans ht476) he353
                exact roundEnd (s := k352) ⟨i344 + 1, mput m345 x419.cell ((mget m345 x419.cell) + 1), s358, s359, s360, s361, s362, s363, rfl, hr478, h475, hs477⟩ (Nat.lt_succ_self _)
            · have h479 := ifF hc434 h421
              have hk480 : (!x419.is) = true := by simp [hc434]
              refine WC.condT (Eq.trans (show _ = Value.bool (!x419.is) from rfl) (congrArg Value.bool hk480)) rfl ?_
              refine WC.exit ?_
              refine thenE ?_
              refine blockHit ?_
              refine thenN ?_
              refine WC.region ?_
              obtain ⟨hg481, h482⟩ := ckE (c := -9223372036854775808 ≤ i344 + 1 ∧ i344 + 1 ≤ 9223372036854775807) h479
              refine WL.val (R.add (a := i344) (b := 1) (z := i344 + 1) (by exact s364) rfl (w64e rfl hg481.1 hg481.2)) rfl ?_
              refine WL.val (R.move (v := Value.int .i64 (i344 + 1)) rfl) rfl ?_
              refine WL.nil ?_
              have ht483 := (hs399.here).perm (L' := [blk b102 60 (encH Hd.none), mapE b110 m345]) (G := [blk b389 62 (encR x367 (Value.slice a382 x367.table.length c383))]) ((List.Perm.refl _))
              have hs484 := hs399.trans ht483
              have hr485 := elT ((ht395.trans ht398).trans ht483) he353
              exact roundEnd (s := k352) ⟨i344 + 1, m345, s358, s359, s360, s361, s362, s363, rfl, hr485, h482, hs484⟩ (Nat.lt_succ_self _)
        · have h486 := ifF hc408 h407
          have hk487 : (!x367.is) = true := by simp [hc408]
          refine WL.guardN (e := 32) (v := .bool true) (Eq.trans (show _ = Value.bool (!x367.is) from rfl) (congrArg Value.bool hk487)) rfl rfl rfl ?_
          refine WL.guardN (e := 32) (v := .bool true) (Eq.trans (show _ = Value.bool (!x367.is) from rfl) (congrArg Value.bool hk487)) rfl rfl rfl ?_
          refine WL.guardN (e := 32) (v := .bool true) (Eq.trans (show _ = Value.bool (!x367.is) from rfl) (congrArg Value.bool hk487)) rfl rfl rfl ?_
          refine WL.guardN (e := 32) (v := .bool true) (Eq.trans (show _ = Value.bool (!x367.is) from rfl) (congrArg Value.bool hk487)) rfl rfl rfl ?_
          refine WL.guardN (e := 32) (v := .bool true) (Eq.trans (show _ = Value.bool (!x367.is) from rfl) (congrArg Value.bool hk487)) rfl rfl rfl ?_
          refine WL.val (R.pickT (v := Value.bool true) (Eq.trans (show _ = Value.bool (!x367.is) from rfl) (congrArg Value.bool hk487)) rfl) rfl ?_
          refine WL.val (R.move (v := Value.bool true) rfl) rfl ?_
          refine WL.guardN (e := 39) (v := .bool true) rfl rfl rfl rfl ?_
          refine WL.guardN (e := 39) (v := .bool true) rfl rfl rfl rfl ?_
          refine WL.guardN (e := 39) (v := .bool true) rfl rfl rfl rfl ?_
          refine WL.guardN (e := 39) (v := .bool true) rfl rfl rfl rfl ?_
          refine WL.guardN (e := 39) (v := .bool true) rfl rfl rfl rfl ?_
          refine WL.guardN (e := 39) (v := .bool true) rfl rfl rfl rfl ?_
          refine WL.guardN (e := 39) (v := .bool true) rfl rfl rfl rfl ?_
          refine WL.val (R.pickT (v := Value.bool true) rfl rfl) rfl ?_
          refine WL.nil ?_
          refine thenN ?_
          refine WC.condT rfl rfl ?_
          refine WC.exit ?_
          refine thenE ?_
          refine blockHit ?_
          refine thenN ?_
          refine WC.region ?_
          obtain ⟨hg488, h489⟩ := ckE (c := -9223372036854775808 ≤ i344 + 1 ∧ i344 + 1 ≤ 9223372036854775807) h486
          refine WL.val (R.add (a := i344) (b := 1) (z := i344 + 1) (by exact s364) rfl (w64e rfl hg488.1 hg488.2)) rfl ?_
          refine WL.val (R.move (v := Value.int .i64 (i344 + 1)) rfl) rfl ?_
          refine WL.nil ?_
          have ht490 := (hs399.here).perm (L' := [blk b102 60 (encH Hd.none), mapE b110 m345]) (G := [blk b389 62 (encR x367 (Value.slice a382 x367.table.length c383))]) ((List.Perm.refl _))
          have hs491 := hs399.trans ht490
          have hr492 := elT ((ht395.trans ht398).trans ht490) he353
          exact roundEnd (s := k352) ⟨i344 + 1, m345, s358, s359, s360, s361, s362, s363, rfl, hr492, h489, hs491⟩ (Nat.lt_succ_self _)
    · have h493 := ifF hc365 h357
      refine WL.val (R.lssF (k := .i64) (a := i344) (b := (((p2.take (min p0 ((p2.length : Nat) : Int)).toNat).length : Nat) : Int)) un3 (by exact s364) (by exact s363) hc365) rfl ?_
      refine WL.nil ?_
      refine thenN ?_
      refine WC.seq ?_
      refine WC.condF rfl rfl ?_
      refine WC.exit ?_
      refine thenE ?_
      refine thenE ?_
      refine blockHit ?_
      have ht494 := (hs351.here).perm (L' := [blk b102 60 (encH Hd.none)]) (G := [mapE b110 m345]) ((List.Perm.refl _))
      have hs495 := hs351.trans ht494
      exact joinI ⟨s360, h493, hs495⟩
  · rintro σ355 w354 ⟨s497, h496, hs356⟩
    subst hK347
    refine thenN ?_
    refine WC.seq ?_
    refine WC.region ?_
    have hd498 : ∀ w, (Instr.build 60 #[]).run Try.prog w = .ok (Value.agg (List.toArray (encH Hd.none))) w := fun _ => by kernel_rfl
    refine WL.val (R.build (vs := []) rfl hd498) rfl ?_
    refine WL.sto (L' := [blk b102 60 (encH Hd.none)]) (X.store (i := 0) (n := 56) (b := b102) (off := 0) (c := encH Hd.none) (U := 60) (vs := encH Hd.none) (v := Value.agg (List.toArray (encH Hd.none))) (c' := encH Hd.none) (hs356.here) rfl ag60.size (by exact s497) rfl rfl rfl rfl rfl rfl rfl) rfl rfl ?_
    intro w499 ht500
    have hs501 := hs356.trans ht500
    refine WL.nil ?_
    refine thenN ?_
    refine WC.ret ?_
    have hl502 := run_loadA (P := Try.prog) (n := 56) ag60 (hs501.at (i := 0) (off := 0) (n := 56) (cs := encH Hd.none) rfl rfl rfl) rfl
    have ht503 := (hs501.here).perm (L' := []) (G := [blk b102 60 (encH Hd.none)]) ((List.Perm.refl _))
    have hs504 := hs501.trans ht503
    obtain rfl := Option.some.inj (show some Hd.none = some r from h496)
    exact retCell (P := Try.prog) (n := 71) (fn := Try.f102) (R := fun v w' => v = Value.agg (List.toArray (encH Hd.none)) ∧ St [] w w' []) (t := 6) (v := Value.agg (List.toArray (encH Hd.none))) rfl s497 rfl hl502 ⟨rfl, hs504⟩

theorem agree15_ok (w : World) (ok : Nat → Prop) (p0 : Int) (p1 : List Rw) (a1 : Option Addr) (c1 : Nat) (he1 : elems rowW w ok a1 p1) (hc1 : p1.length ≤ c1) {r : (List Hd)} (h : agree15 p0 p1 = some r) :
    Ret Try.prog 34 [Value.int .i64 p0, Value.slice a1 p1.length c1] w (fun v w' => ∃ ra0, ∃ rc0, v = Value.slice ra0 r.length rc0 ∧ r.length ≤ rc0 ∧ elems heldW w' (In ok w [] []) ra0 r ∧ St [] w w' []) := by
  rw [agree15] at h
  have hs100 : St [] w w [] := St.start w
  have he1001 := el0 (L0 := []) (fun b _ => out_nil b) he1
  refine enter (n := 29) Try.func34 rfl rfl rfl ?_
  refine WC.seq ?_
  refine WC.region ?_
  refine WL.val (R.assign (v := Value.slice none 0 0) rfl) rfl ?_
  refine WL.nil ?_
  refine thenN ?_
  refine WC.seq ?_
  refine WC.seq ?_
  refine WC.region ?_
  refine WL.val (R.move (v := Value.int .i64 p0) rfl) rfl ?_
  by_cases hc102 : p0 < 4
  · have h103 := ifT hc102 h
    refine WL.val (R.lssT (k := .i64) (a := p0) (b := 4) un3 rfl rfl hc102) rfl ?_
    refine WL.val (R.move (v := Value.bool true) rfl) rfl ?_
    refine WL.guardN (e := 9) (v := .bool true) rfl rfl rfl rfl ?_
    refine WL.guardN (e := 9) (v := .bool true) rfl rfl rfl rfl ?_
    refine WL.val (R.pickT (v := Value.bool true) rfl rfl) rfl ?_
    refine WL.nil ?_
    refine thenN ?_
    refine WC.condT rfl rfl ?_
    refine WC.seq ?_
    refine WC.region ?_
    refine WL.val (R.assign (v := Value.slice none 0 0) rfl) rfl ?_
    refine WL.nil ?_
    refine thenN ?_
    refine WC.ret ?_
    obtain rfl := Option.some.inj (show some [] = some r from h103)
    exact ret1 (P := Try.prog) (n := 29) (fn := Try.f34) (R := fun v w' => ∃ ra0, ∃ rc0, v = Value.slice ra0 [].length rc0 ∧ [].length ≤ rc0 ∧ elems heldW w' (In ok w [] []) ra0 [] ∧ St [] w w' []) (t := 4) (v := Value.slice none 0 0) rfl rfl rfl ⟨none, 0, rfl, (Nat.le_refl _), elems_nil, hs100⟩
  · have h104 := ifF hc102 h
    refine WL.val (R.lssF (k := .i64) (a := p0) (b := 4) un3 rfl rfl hc102) rfl ?_
    refine WL.val (R.move (v := Value.bool false) rfl) rfl ?_
    refine WL.guardY (e := 9) rfl rfl rfl ?_
    refine WL.val (R.move (v := Value.int .i64 p0) rfl) rfl ?_
    refine WL.guardY (e := 9) rfl rfl rfl ?_
    by_cases hc105 : 16 < p0
    · have h106 := ifT hc105 h104
      refine WL.val (R.gtrT (k := .i64) (a := p0) (b := 16) un3 rfl rfl hc105) rfl ?_
      refine WL.val (R.pickF (v := Value.bool true) rfl rfl) rfl ?_
      refine WL.nil ?_
      refine thenN ?_
      refine WC.condT rfl rfl ?_
      refine WC.seq ?_
      refine WC.region ?_
      refine WL.val (R.assign (v := Value.slice none 0 0) rfl) rfl ?_
      refine WL.nil ?_
      refine thenN ?_
      refine WC.ret ?_
      obtain rfl := Option.some.inj (show some [] = some r from h106)
      exact ret1 (P := Try.prog) (n := 29) (fn := Try.f34) (R := fun v w' => ∃ ra0, ∃ rc0, v = Value.slice ra0 [].length rc0 ∧ [].length ≤ rc0 ∧ elems heldW w' (In ok w [] []) ra0 [] ∧ St [] w w' []) (t := 4) (v := Value.slice none 0 0) rfl rfl rfl ⟨none, 0, rfl, (Nat.le_refl _), elems_nil, hs100⟩
    · have h107 := ifF hc105 h104
      refine WL.val (R.gtrF (k := .i64) (a := p0) (b := 16) un3 rfl rfl hc105) rfl ?_
      refine WL.val (R.pickF (v := Value.bool false) rfl rfl) rfl ?_
      refine WL.nil ?_
      refine thenN ?_
      refine WC.condF rfl rfl ?_
      refine WC.skip ?_
      refine thenN ?_
      refine WC.seq ?_
      refine WC.region ?_
      refine WL.val (R.move (v := Value.int .i64 p0) rfl) rfl ?_
      obtain ⟨hg108, h109⟩ := ckE (c := 0 ≤ p0 ∧ p0 < 1000000) h107
      refine WL.new (L' := fun b110 => [gsl 60 heldE (Value.slice (some ⟨b110, 0, none⟩) ((List.replicate (p0).toNat Hd.none).length) ((p0).toNat)) (List.replicate (p0).toNat Hd.none)]) (f := fun b110 => Value.slice (some ⟨b110, 0, none⟩) ((List.replicate (p0).toNat Hd.none).length) ((p0).toNat)) (X.makeSliceN (e := heldE) (z := Hd.none) (hs100.here) sl28 rfl rfl rfl hg108 (by decide) List.length_replicate (fun _ => rfl)) rfl ?_
      intro b110 w111 ht115 he112 hz113
      have hs116 := hs100.trans ht115
      refine WL.val (R.assign (v := Value.slice (some ⟨b110, 0, none⟩) ((List.replicate (p0).toNat Hd.none).length) ((p0).toNat)) rfl) rfl ?_
      refine WL.nil ?_
      refine thenN ?_
      refine WC.seq ?_
      refine WC.seq ?_
      refine WC.region ?_
      refine WL.val (R.move (v := Value.slice (some ⟨b110, 0, none⟩) ((List.replicate (p0).toNat Hd.none).length) ((p0).toNat)) rfl) rfl ?_
      refine WL.val (R.len (a := (some ⟨b110, 0, none⟩)) (n := ((List.replicate (p0).toNat Hd.none).length)) (c := ((p0).toNat)) un28 rfl) rfl ?_
      refine WL.val (R.move (v := Value.int .i64 0) rfl) rfl ?_
      refine WL.nil ?_
      refine thenN ?_
      have hr196 := elT ht115 he1001
      obtain ⟨K188, hK189, h190⟩ := kE (G := fun K188 => agree15_l1 p0 p1 K188 1000000 0 (List.replicate (p0).toNat Hd.none)) h109
      refine WC.join (fun σ198 w197 => ∃ l185 : List Hd, ∃ a186, ∃ c187, σ198 5 = (Value.slice a186 l185.length c187) ∧ K188 l185 = some r ∧ St [] w w197 [gsl 60 heldE (Value.slice a186 l185.length c187) l185]) ?_ ?_
      · refine WC.block ?_
        refine WC.loop (T := Nat) (fun k194 σ192 w191 => ∃ i181 : Int, ∃ l182 : List Hd, ∃ a183, ∃ c184, σ192 0 = (Value.int .i64 p0) ∧ σ192 1 = (Value.slice a1 p1.length c1) ∧ σ192 5 = (Value.slice a183 l182.length c184) ∧ σ192 16 = (Value.int .i64 (((List.replicate (p0).toNat Hd.none).length : Nat) : Int)) ∧ σ192 17 = (Value.int .i64 i181) ∧ elems rowW w191 (In ok w [] [gsl 60 heldE (Value.slice a183 l182.length c184) l182]) a1 p1 ∧ agree15_l1 p0 p1 K188 k194 i181 l182 = some r ∧ St [] w w191 [gsl 60 heldE (Value.slice a183 l182.length c184) l182]) (fun k194 => k194) 1000000 ⟨0, List.replicate (p0).toNat Hd.none, (some ⟨b110, 0, none⟩), (p0).toNat, rfl, rfl, rfl, rfl, rfl, hr196, h190, hs116⟩ ?_
        rintro k194 σ192 w191 ⟨i181, l182, a183, c184, s201, s202, s203, s204, s205, he195, h200, hs193⟩
        rcases k194 with _ | k194
        · rw [agree15_l1] at h200; cases h200
        rw [agree15_l1] at h200
        refine WC.seq ?_
        refine WC.region ?_
        by_cases hc206 : i181 < (((List.replicate (p0).toNat Hd.none).length : Nat) : Int)
        · have h207 := ifT hc206 h200
          refine WL.val (R.lssT (k := .i64) (a := i181) (b := (((List.replicate (p0).toNat Hd.none).length : Nat) : Int)) un3 (by exact s205) (by exact s204) hc206) rfl ?_
          refine WL.nil ?_
          refine thenN ?_
          refine WC.seq ?_
          refine WC.condT rfl rfl ?_
          refine WC.skip ?_
          refine thenN ?_
          refine WC.seq ?_
          refine WC.block ?_
          refine WC.seq ?_
          refine WC.region ?_
          refine WL.val (R.move (v := Value.int .i64 i181) (by exact s205)) rfl ?_
          refine WL.val (R.assign (v := Value.int .i64 i181) rfl) rfl ?_
          refine WL.nil ?_
          refine thenN ?_
          refine WC.region ?_
          refine WL.val (R.move (v := Value.slice a183 l182.length c184) (by exact s203)) rfl ?_
          refine WL.val (R.move (v := Value.int .i64 i181) rfl) rfl ?_
          refine WL.val (R.move (v := Value.int .i64 p0) (by exact s201)) rfl ?_
          refine WL.val (R.move (v := Value.int .i64 i181) rfl) rfl ?_
          refine WL.val (R.move (v := Value.slice a1 p1.length c1) (by exact s202)) rfl ?_
          obtain ⟨y208, hx209, h210⟩ := ob (o := most15 p0 i181 p1) h207
          refine WL.call (most15_ok _ _ p0 i181 p1 _ _ he195 hc1 hx209) (R.call (vs := [Value.int .i64 p0, Value.int .i64 i181, Value.slice a1 p1.length c1]) (caps := []) bo102 rfl rfl) rfl ?_
          rintro v213 w214 ⟨rfl, ht211⟩
          have ht212 := hs193.call (N := [gsl 60 heldE (Value.slice a183 l182.length c184) l182]) (M := []) (List.Perm.refl _) ht211
          have hs215 := hs193.trans ht212
          obtain ⟨x216, hx217, h218⟩ := ob (o := rd l182 i181) h210
          obtain ⟨h0219, hx220, hl221, hm222⟩ := rdE hx217
          obtain ⟨b223, c224, hv225, _⟩ := hs215.gslAt (i := 0) rfl hx220
          refine WL.val (R.indexS (n := 56) (m := (i181).toNat) (ad := ⟨b223, 0, none⟩) (len := (l182).length) (cap := c224) (z := i181) un28 ag60.size (Eq.trans (show _ = Value.slice a183 l182.length c184 from rfl) hv225) rfl rfl hm222 hl221 rfl) rfl ?_
          refine WL.sto (L' := [gsl 60 heldE (Value.slice a183 l182.length c184) ((l182).set (i181).toNat y208)]) (X.storeEl (i := 0) (j := (i181).toNat) (off := 0) (n := 56) (x := x216) (y := y208) (vs := encH y208) (u := Value.agg (List.toArray (encH y208))) (hs215.here) rfl hx220 hv225 ag60.size rfl rfl rfl rfl rfl rfl (by decide) (rfl) rfl) rfl rfl ?_
          intro w226 ht227
          have hs228 := hs215.trans ht227
          have hs229 : St [] w w226 [gsl 60 heldE (Value.slice a183 (((l182).set (i181).toNat y208).length) c184) ((l182).set (i181).toNat y208)] := by first | (simpa only [List.length_set] using hs228) | (simp only [List.length_set]; exact hs228)
          have ht230 : St [gsl 60 heldE (Value.slice a183 l182.length c184) l182] w214 w226 [gsl 60 heldE (Value.slice a183 (((l182).set (i181).toNat y208).length) c184) ((l182).set (i181).toNat y208)] := by first | (simpa only [List.length_set, List.nil_append, List.cons_append] using ht227) | (simp only [List.length_set]; exact ht227)
          refine WL.nil ?_
          refine blockN ?_
          refine thenN ?_
          refine WC.region ?_
          obtain ⟨hg231, h232⟩ := ckE (c := -9223372036854775808 ≤ i181 + 1 ∧ i181 + 1 ≤ 9223372036854775807) h218
          refine WL.val (R.add (a := i181) (b := 1) (z := i181 + 1) (by exact s205) rfl (w64e rfl hg231.1 hg231.2)) rfl ?_
          refine WL.val (R.move (v := Value.int .i64 (i181 + 1)) rfl) rfl ?_
          refine WL.nil ?_
          have hr233 := elT (ht212.trans ht230) he195
          exact roundEnd (s := k194) ⟨i181 + 1, (l182).set (i181).toNat y208, a183, c184, s201, s202, (Eq.trans (show _ = Value.slice a183 l182.length c184 from s203) (by simp only [List.length_set])), s204, rfl, hr233, h232, hs229⟩ (Nat.lt_succ_self _)
        · have h234 := ifF hc206 h200
          refine WL.val (R.lssF (k := .i64) (a := i181) (b := (((List.replicate (p0).toNat Hd.none).length : Nat) : Int)) un3 (by exact s205) (by exact s204) hc206) rfl ?_
          refine WL.nil ?_
          refine thenN ?_
          refine WC.seq ?_
          refine WC.condF rfl rfl ?_
          refine WC.exit ?_
          refine thenE ?_
          refine thenE ?_
          refine blockHit ?_
          exact joinI ⟨l182, a183, c184, s203, h234, hs193⟩
      · rintro σ198 w197 ⟨l185, a186, c187, s236, h235, hs199⟩
        subst hK189
        refine thenN ?_
        refine WC.seq ?_
        refine WC.region ?_
        refine WL.val (R.move (v := Value.slice a186 l185.length c187) (by exact s236)) rfl ?_
        refine WL.val (R.assign (v := Value.slice a186 l185.length c187) rfl) rfl ?_
        refine WL.nil ?_
        refine thenN ?_
        refine WC.ret ?_
        obtain ⟨a237, c238, hv239, hl240, he241⟩ := el_freeze (k := heldW) (ok := fun _ => False) hs199 (List.Perm.refl _) rfl (fun _ _ _ => ⟨trivial, rfl⟩)
        obtain ⟨rfl, rfl⟩ : a186 = a237 ∧ c187 = c238 := ⟨(Value.slice.inj hv239).1, (Value.slice.inj hv239).2.2⟩
        have ht242 := (hs199.here).perm (L' := []) (G := [gsl 60 heldE (Value.slice a186 l185.length c187) l185]) ((List.Perm.refl _))
        have hs243 := hs199.trans ht242
        obtain rfl := Option.some.inj (show some l185 = some r from h235)
        exact ret1 (P := Try.prog) (n := 29) (fn := Try.f34) (R := fun v w' => ∃ ra0, ∃ rc0, v = Value.slice ra0 l185.length rc0 ∧ l185.length ≤ rc0 ∧ elems heldW w' (In ok w [] []) ra0 l185 ∧ St [] w w' []) (t := 4) (v := Value.slice a186 l185.length c187) rfl rfl rfl ⟨a186, c187, rfl, hl240, (elN (ok' := ok) he241), hs243⟩

end Go.Proofs.Ytckcldimnelklaa
