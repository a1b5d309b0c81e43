/- The functions come to what their twins answer: group 14n. -/
import Derived.Test.YtckcldimnelklaaW13c
import Derived.Test.YtckcldimnelklaaTN
import Derived.Test.YtckcldimnelklaaD14n
namespace Go.Proofs.Ytckcldimnelklaa
open Go
set_option linter.unusedVariables false
set_option linter.unusedSimpArgs false
set_option maxRecDepth 100000
set_option maxHeartbeats 4000000

theorem heldn14_ok (w : World) (ok : Nat → Prop) (p0 : Hd) {r : Hd} (h : heldn14 p0 = some r) :
    Ret Try.prog 115 [Value.agg (List.toArray (encH p0))] w (fun v w' => v = Value.agg (List.toArray (encH r)) ∧ St [] w w' []) := by
  rw [heldn14] at h
  have hs100 : St [] w w [] := St.start w
  refine enter (n := 11) Try.func115 rfl rfl rfl ?_
  refine WC.seq ?_
  refine WC.region ?_
  refine WL.new (L' := fun b101 => [blk b101 60 (encH p0)]) (f := fun b101 => Value.pointer (some ⟨b101, 0, none⟩)) (X.box (v := Value.agg (List.toArray (encH p0))) (c := encH p0) (hs100.here) rfl rfl (fun _ => rfl)) rfl ?_
  intro b101 w102 ht107 he104 hz105
  have hs108 := hs100.trans ht107
  refine WL.new (L' := fun b109 => [blk b101 60 (encH p0), blk b109 60 (encH Hd.none)]) (f := fun b109 => Value.pointer (some ⟨b109, 0, none⟩)) (X.alloc (c := encH Hd.none) (hs108.here) zr60 rfl (fun _ => rfl)) rfl ?_
  intro b109 w110 ht115 he112 hz113
  have hs116 := hs108.trans ht115
  refine WL.nil ?_
  refine thenN ?_
  refine WC.seq ?_
  refine WC.seq ?_
  refine WC.region ?_
  refine WL.val (R.fieldAddr (o := 0) (o' := 0) fa60_0 rfl rfl) rfl ?_
  refine WL.val (R.loadL (v := Value.bool p0.is) lf4 rfl (hs116.at (i := 0) (off := 0) (n := 1) (cs := [Value.bool p0.is]) rfl rfl rfl)) rfl ?_
  refine WL.val (R.not (b := p0.is) rfl) rfl ?_
  refine WL.nil ?_
  refine thenN ?_
  by_cases hc117 : p0.is = true
  · have h118 := ifT hc117 h
    have hk119 : (!p0.is) = false := by simp [hc117]
    refine WC.condF (Eq.trans (show _ = Value.bool (!p0.is) from rfl) (congrArg Value.bool hk119)) rfl ?_
    refine WC.skip ?_
    refine thenN ?_
    refine WC.seq ?_
    refine WC.region ?_
    refine WL.val (R.fieldAddr (o := 0) (o' := 1) fa60_1 rfl rfl) rfl ?_
    refine WL.val (R.loadA (cs := encC p0.cell) (n := 55) ag58 rfl (hs116.at (i := 0) (off := 1) (n := 55) (cs := encC p0.cell) rfl rfl rfl) rfl) rfl ?_
    obtain ⟨y120, hx121, h122⟩ := ob (o := cell13 p0.cell) h118
    refine WL.call (cell13_ok _ (In (fun _ => False) w [] [blk b101 60 (encH p0), blk b109 60 (encH Hd.none)]) p0.cell  hx121) (R.call (vs := [Value.agg (List.toArray (encC p0.cell))]) (caps := []) bo73 rfl rfl) rfl ?_
    rintro v125 w126 ⟨rfl, ht123⟩
    have ht124 := hs116.call (N := [blk b101 60 (encH p0), blk b109 60 (encH Hd.none)]) (M := []) (List.Perm.refl _) ht123
    have hs127 := hs116.trans ht124
    have hd128 : ∀ w, (Instr.build 60 #[(0, Value.bool true), (1, Value.agg (List.toArray (encC y120)))]).run Try.prog w = .ok (Value.agg (List.toArray (encH (⟨true, y120⟩ : Hd)))) w := fun _ => by kernel_rfl
    refine WL.val (R.build (vs := [(0, Value.bool true), (1, Value.agg (List.toArray (encC y120)))]) rfl hd128) rfl ?_
    refine WL.sto (L' := [blk b101 60 (encH p0), blk b109 60 (encH (⟨true, y120⟩ : Hd))]) (X.store (i := 1) (n := 56) (b := b109) (off := 0) (c := encH Hd.none) (U := 60) (vs := encH (⟨true, y120⟩ : Hd)) (v := Value.agg (List.toArray (encH (⟨true, y120⟩ : Hd)))) (c' := encH (⟨true, y120⟩ : Hd)) (hs127.here) rfl ag60.size rfl rfl rfl rfl rfl rfl rfl rfl) rfl rfl ?_
    intro w129 ht130
    have hs131 := hs127.trans ht130
    refine WL.nil ?_
    refine thenN ?_
    refine WC.ret ?_
    have hl132 := run_loadA (P := Try.prog) (n := 56) ag60 (hs131.at (i := 1) (off := 0) (n := 56) (cs := encH (⟨true, y120⟩ : Hd)) rfl rfl rfl) rfl
    have ht133 := (hs131.here).perm (L' := []) (G := [blk b101 60 (encH p0), blk b109 60 (encH (⟨true, y120⟩ : Hd))]) ((List.Perm.refl _))
    have hs134 := hs131.trans ht133
    obtain rfl := Option.some.inj (show some (⟨true, y120⟩ : Hd) = some r from h122)
    exact retCell (P := Try.prog) (n := 11) (fn := Try.f115) (R := fun v w' => v = Value.agg (List.toArray (encH (⟨true, y120⟩ : Hd))) ∧ St [] w w' []) (t := 2) (v := Value.agg (List.toArray (encH (⟨true, y120⟩ : Hd)))) rfl rfl rfl hl132 ⟨rfl, hs134⟩
  · have h135 := ifF hc117 h
    have hk136 : (!p0.is) = true := by simp [hc117]
    refine WC.condT (Eq.trans (show _ = Value.bool (!p0.is) from rfl) (congrArg Value.bool hk136)) rfl ?_
    refine WC.seq ?_
    refine WC.region ?_
    have hd137 : ∀ w, (Instr.build 60 #[]).run Try.prog w = .ok (Value.agg (List.toArray (encH Hd.none))) w := fun _ => by kernel_rfl
    refine WL.val (R.build (vs := []) rfl hd137) rfl ?_
    refine WL.sto (L' := [blk b101 60 (encH p0), blk b109 60 (encH Hd.none)]) (X.store (i := 1) (n := 56) (b := b109) (off := 0) (c := encH Hd.none) (U := 60) (vs := encH Hd.none) (v := Value.agg (List.toArray (encH Hd.none))) (c' := encH Hd.none) (hs116.here) rfl ag60.size rfl rfl rfl rfl rfl rfl rfl rfl) rfl rfl ?_
    intro w138 ht139
    have hs140 := hs116.trans ht139
    refine WL.nil ?_
    refine thenN ?_
    refine WC.ret ?_
    have hl141 := run_loadA (P := Try.prog) (n := 56) ag60 (hs140.at (i := 1) (off := 0) (n := 56) (cs := encH Hd.none) rfl rfl rfl) rfl
    have ht142 := (hs140.here).perm (L' := []) (G := [blk b101 60 (encH p0), blk b109 60 (encH Hd.none)]) ((List.Perm.refl _))
    have hs143 := hs140.trans ht142
    obtain rfl := Option.some.inj (show some Hd.none = some r from h135)
    exact retCell (P := Try.prog) (n := 11) (fn := Try.f115) (R := fun v w' => v = Value.agg (List.toArray (encH Hd.none)) ∧ St [] w w' []) (t := 2) (v := Value.agg (List.toArray (encH Hd.none))) rfl rfl rfl hl141 ⟨rfl, hs143⟩

theorem filledHn14_ok (w : World) (ok : Nat → Prop) (p0 : Int) (p1 : List Hd) (a1 : Option Addr) (c1 : Nat) (he1 : elems heldW w ok a1 p1) (hc1 : p1.length ≤ c1) {r : (List Hd)} (h : filledHn14 p0 p1 = some r) :
    Ret Try.prog 114 [Value.int .i64 p0, Value.slice a1 p1.length c1, Value.func (.func 115) #[] (List.toArray [])] w (fun v w' => ∃ ra0, ∃ rc0, v = Value.slice ra0 r.length rc0 ∧ r.length ≤ rc0 ∧ elems heldW w' (In (fun _ => False) w [] []) ra0 r ∧ St [] w w' []) := by
  rw [filledHn14] at h
  have hs100 : St [] w w [] := St.start w
  have he1001 := el0 (L0 := []) (fun b _ => out_nil b) he1
  refine enter (n := 29) Try.func114 rfl rfl rfl ?_
  refine WC.seq ?_
  refine WC.region ?_
  refine WL.val (R.assign (v := Value.slice none 0 0) rfl) rfl ?_
  refine WL.nil ?_
  refine thenN ?_
  refine WC.seq ?_
  refine WC.region ?_
  refine WL.val (R.move (v := Value.int .i64 p0) rfl) rfl ?_
  obtain ⟨hg102, h103⟩ := ckE (c := 0 ≤ p0 ∧ p0 < 1000000) h
  refine WL.new (L' := fun b104 => [gsl 60 heldE (Value.slice (some ⟨b104, 0, none⟩) ((List.replicate (p0).toNat Hd.none).length) ((p0).toNat)) (List.replicate (p0).toNat Hd.none)]) (f := fun b104 => Value.slice (some ⟨b104, 0, none⟩) ((List.replicate (p0).toNat Hd.none).length) ((p0).toNat)) (X.makeSliceN (e := heldE) (z := Hd.none) (hs100.here) sl28 rfl rfl rfl hg102 (by decide) List.length_replicate (fun _ => rfl)) rfl ?_
  intro b104 w105 ht109 he106 hz107
  have hs110 := hs100.trans ht109
  refine WL.val (R.assign (v := Value.slice (some ⟨b104, 0, none⟩) ((List.replicate (p0).toNat Hd.none).length) ((p0).toNat)) rfl) rfl ?_
  refine WL.nil ?_
  refine thenN ?_
  refine WC.seq ?_
  refine WC.seq ?_
  refine WC.region ?_
  refine WL.val (R.move (v := Value.int .i64 p0) rfl) rfl ?_
  refine WL.val (R.move (v := Value.slice a1 p1.length c1) rfl) rfl ?_
  refine WL.val (R.len (a := a1) (n := p1.length) (c := c1) un28 rfl) rfl ?_
  refine WL.val (R.min (a := p0) (b := ((p1.length : Nat) : Int)) (z := min p0 ((p1.length : Nat) : Int)) rfl rfl rfl) rfl ?_
  refine WL.val (R.move (v := Value.int .i64 0) rfl) rfl ?_
  refine WL.nil ?_
  refine thenN ?_
  have hr218 := elT ht109 he1001
  obtain ⟨K210, hK211, h212⟩ := kE (G := fun K210 => filledHn14_l1 p0 p1 K210 1000000 0 (List.replicate (p0).toNat Hd.none)) h103
  refine WC.join (fun σ220 w219 => ∃ l207 : List Hd, ∃ a208, ∃ c209, σ220 7 = (Value.slice a208 l207.length c209) ∧ K210 l207 = some r ∧ St [] w w219 [gsl 60 heldE (Value.slice a208 l207.length c209) l207]) ?_ ?_
  · refine WC.block ?_
    refine WC.loop (T := Nat) (fun k216 σ214 w213 => ∃ i203 : Int, ∃ l204 : List Hd, ∃ a205, ∃ c206, σ214 1 = (Value.slice a1 p1.length c1) ∧ σ214 2 = (Value.func (.func 115) #[] (List.toArray [])) ∧ σ214 7 = (Value.slice a205 l204.length c206) ∧ σ214 14 = (Value.int .i64 (min p0 ((p1.length : Nat) : Int))) ∧ σ214 15 = (Value.int .i64 i203) ∧ elems heldW w213 (In ok w [] [gsl 60 heldE (Value.slice a205 l204.length c206) l204]) a1 p1 ∧ filledHn14_l1 p0 p1 K210 k216 i203 l204 = some r ∧ St [] w w213 [gsl 60 heldE (Value.slice a205 l204.length c206) l204]) (fun k216 => k216) 1000000 ⟨0, List.replicate (p0).toNat Hd.none, (some ⟨b104, 0, none⟩), (p0).toNat, rfl, rfl, rfl, rfl, rfl, hr218, h212, hs110⟩ ?_
    rintro k216 σ214 w213 ⟨i203, l204, a205, c206, s223, s224, s225, s226, s227, he217, h222, hs215⟩
    rcases k216 with _ | k216
    · rw [filledHn14_l1] at h222; cases h222
    rw [filledHn14_l1] at h222
    refine WC.seq ?_
    refine WC.region ?_
    by_cases hc228 : i203 < (min p0 ((p1.length : Nat) : Int))
    · have h229 := ifT hc228 h222
      refine WL.val (R.lssT (k := .i64) (a := i203) (b := min p0 ((p1.length : Nat) : Int)) un3 (by exact s227) (by exact s226) hc228) rfl ?_
      refine WL.nil ?_
      refine thenN ?_
      refine WC.seq ?_
      refine WC.condT rfl rfl ?_
      refine WC.skip ?_
      refine thenN ?_
      refine WC.seq ?_
      refine WC.block ?_
      refine WC.seq ?_
      refine WC.region ?_
      refine WL.val (R.move (v := Value.int .i64 i203) (by exact s227)) rfl ?_
      refine WL.val (R.assign (v := Value.int .i64 i203) rfl) rfl ?_
      refine WL.nil ?_
      refine thenN ?_
      refine WC.region ?_
      refine WL.val (R.move (v := Value.slice a205 l204.length c206) (by exact s225)) rfl ?_
      refine WL.val (R.move (v := Value.int .i64 i203) rfl) rfl ?_
      refine WL.val (R.move (v := Value.func (.func 115) #[] (List.toArray [])) (by exact s224)) rfl ?_
      refine WL.val (R.move (v := Value.slice a1 p1.length c1) (by exact s223)) rfl ?_
      refine WL.val (R.move (v := Value.int .i64 i203) rfl) rfl ?_
      obtain ⟨x230, hx231, h232⟩ := ob (o := rd p1 i203) h229
      obtain ⟨h0233, hx234, hl235, hm236⟩ := rdE hx231
      obtain ⟨ad237, e242, ha238, hp239, hat240, hrd241⟩ := he217 _ _ hx234
      obtain ⟨-, rfl⟩ := hrd241
      refine WL.val (R.indexS (n := 56) (m := (i203).toNat) (a := a1) (ad := ad237) (len := p1.length) (cap := c1) (z := i203) un28 ag60.size rfl ha238 rfl hm236 hl235 hp239) rfl ?_
      refine WL.val (R.loadA (cs := encH x230) (n := 56) ag60 rfl hat240 rfl) rfl ?_
      obtain ⟨y244, hx245, h246⟩ := ob (o := heldn14 x230) h232
      refine WL.call (heldn14_ok _ (In (fun _ => False) w [] [gsl 60 heldE (Value.slice a205 l204.length c206) l204]) x230  hx245) (R.call (vs := [Value.agg (List.toArray (encH x230))]) (caps := []) bo115 rfl rfl) rfl ?_
      rintro v249 w250 ⟨rfl, ht247⟩
      have ht248 := hs215.call (N := [gsl 60 heldE (Value.slice a205 l204.length c206) l204]) (M := []) (List.Perm.refl _) ht247
      have hs251 := hs215.trans ht248
      obtain ⟨x252, hx253, h254⟩ := ob (o := rd l204 i203) h246
      obtain ⟨h0255, hx256, hl257, hm258⟩ := rdE hx253
      obtain ⟨b259, c260, hv261, _⟩ := hs251.gslAt (i := 0) rfl hx256
      refine WL.val (R.indexS (n := 56) (m := (i203).toNat) (ad := ⟨b259, 0, none⟩) (len := (l204).length) (cap := c260) (z := i203) un28 ag60.size (Eq.trans (show _ = Value.slice a205 l204.length c206 from rfl) hv261) rfl rfl hm258 hl257 rfl) rfl ?_
      refine WL.sto (L' := [gsl 60 heldE (Value.slice a205 l204.length c206) ((l204).set (i203).toNat y244)]) (X.storeEl (i := 0) (j := (i203).toNat) (off := 0) (n := 56) (x := x252) (y := y244) (vs := encH y244) (u := Value.agg (List.toArray (encH y244))) (hs251.here) rfl hx256 hv261 ag60.size rfl rfl rfl rfl rfl rfl (by decide) (rfl) rfl) rfl rfl ?_
      intro w262 ht263
      have hs264 := hs251.trans ht263
      have hs265 : St [] w w262 [gsl 60 heldE (Value.slice a205 (((l204).set (i203).toNat y244).length) c206) ((l204).set (i203).toNat y244)] := by first | (simpa only [List.length_set] using hs264) | (simp only [List.length_set]; exact hs264)
      have ht266 : St [gsl 60 heldE (Value.slice a205 l204.length c206) l204] w250 w262 [gsl 60 heldE (Value.slice a205 (((l204).set (i203).toNat y244).length) c206) ((l204).set (i203).toNat y244)] := by first | (simpa only [List.length_set, List.nil_append, List.cons_append] using ht263) | (simp only [List.length_set]; exact ht263)
      refine WL.nil ?_
      refine blockN ?_
      refine thenN ?_
      refine WC.region ?_
      obtain ⟨hg267, h268⟩ := ckE (c := -9223372036854775808 ≤ i203 + 1 ∧ i203 + 1 ≤ 9223372036854775807) h254
      refine WL.val (R.add (a := i203) (b := 1) (z := i203 + 1) (by exact s227) rfl (w64e rfl hg267.1 hg267.2)) rfl ?_
      refine WL.val (R.move (v := Value.int .i64 (i203 + 1)) rfl) rfl ?_
      refine WL.nil ?_
      have hr269 := elT (ht248.trans ht266) he217
      exact roundEnd (s := k216) ⟨i203 + 1, (l204).set (i203).toNat y244, a205, c206, s223, s224, (Eq.trans (show _ = Value.slice a205 l204.length c206 from s225) (by simp only [List.length_set])), s226, rfl, hr269, h268, hs265⟩ (Nat.lt_succ_self _)
    · have h270 := ifF hc228 h222
      refine WL.val (R.lssF (k := .i64) (a := i203) (b := min p0 ((p1.length : Nat) : Int)) un3 (by exact s227) (by exact s226) hc228) rfl ?_
      refine WL.nil ?_
      refine thenN ?_
      refine WC.seq ?_
      refine WC.condF rfl rfl ?_
      refine WC.exit ?_
      refine thenE ?_
      refine thenE ?_
      refine blockHit ?_
      exact joinI ⟨l204, a205, c206, s225, h270, hs215⟩
  · rintro σ220 w219 ⟨l207, a208, c209, s272, h271, hs221⟩
    subst hK211
    refine thenN ?_
    refine WC.seq ?_
    refine WC.region ?_
    refine WL.val (R.move (v := Value.slice a208 l207.length c209) (by exact s272)) rfl ?_
    refine WL.val (R.assign (v := Value.slice a208 l207.length c209) rfl) rfl ?_
    refine WL.nil ?_
    refine thenN ?_
    refine WC.ret ?_
    obtain ⟨a273, c274, hv275, hl276, he277⟩ := el_freeze (k := heldW) (ok := fun _ => False) hs221 (List.Perm.refl _) rfl (fun _ _ _ => ⟨trivial, rfl⟩)
    obtain ⟨rfl, rfl⟩ : a208 = a273 ∧ c209 = c274 := ⟨(Value.slice.inj hv275).1, (Value.slice.inj hv275).2.2⟩
    have ht278 := (hs221.here).perm (L' := []) (G := [gsl 60 heldE (Value.slice a208 l207.length c209) l207]) ((List.Perm.refl _))
    have hs279 := hs221.trans ht278
    obtain rfl := Option.some.inj (show some l207 = some r from h271)
    exact ret1 (P := Try.prog) (n := 29) (fn := Try.f114) (R := fun v w' => ∃ ra0, ∃ rc0, v = Value.slice ra0 l207.length rc0 ∧ l207.length ≤ rc0 ∧ elems heldW w' (In (fun _ => False) w [] []) ra0 l207 ∧ St [] w w' []) (t := 6) (v := Value.slice a208 l207.length c209) rfl rfl rfl ⟨a208, c209, rfl, hl276, he277, hs279⟩

theorem mayn14_ok (w : World) (ok : Nat → Prop) (p0 : Int) {r : Bool} (h : mayn14 p0 = some r) :
    Ret Try.prog 108 [Value.int .i64 p0] w (fun v w' => v = Value.bool r ∧ St [] w w' []) := by
  rw [mayn14] at h
  have hs100 : St [] w w [] := St.start w
  refine enter (n := 9) Try.func108 rfl rfl rfl ?_
  refine WC.seq ?_
  refine WC.region ?_
  refine WL.val (R.assign (v := Value.bool false) rfl) rfl ?_
  refine WL.nil ?_
  refine thenN ?_
  refine WC.seq ?_
  refine WC.region ?_
  refine WL.val (R.move (v := Value.int .i64 p0) rfl) rfl ?_
  by_cases hc101 : 0 ≤ p0
  · have h102 := ifT hc101 h
    refine WL.val (R.geqT (k := .i64) (a := p0) (b := 0) un3 rfl rfl hc101) rfl ?_
    refine WL.val (R.move (v := Value.bool true) rfl) rfl ?_
    refine WL.guardY (e := 5) rfl rfl rfl ?_
    refine WL.val (R.move (v := Value.int .i64 p0) rfl) rfl ?_
    refine WL.guardY (e := 5) rfl rfl rfl ?_
    by_cases hc103 : p0 ≤ 16
    · have h104 := ifT hc103 h102
      refine WL.val (R.leqT (k := .i64) (a := p0) (b := 16) un3 rfl rfl hc103) rfl ?_
      refine WL.val (R.pickT (v := Value.bool true) rfl rfl) rfl ?_
      refine WL.val (R.assign (v := Value.bool true) rfl) rfl ?_
      refine WL.nil ?_
      refine thenN ?_
      refine WC.ret ?_
      obtain rfl := Option.some.inj (show some true = some r from h104)
      exact ret1 (P := Try.prog) (n := 9) (fn := Try.f108) (R := fun v w' => v = Value.bool true ∧ St [] w w' []) (t := 2) (v := Value.bool true) rfl rfl rfl ⟨rfl, hs100⟩
    · have h105 := ifF hc103 h102
      refine WL.val (R.leqF (k := .i64) (a := p0) (b := 16) un3 rfl rfl hc103) rfl ?_
      refine WL.val (R.pickT (v := Value.bool false) rfl rfl) rfl ?_
      refine WL.val (R.assign (v := Value.bool false) rfl) rfl ?_
      refine WL.nil ?_
      refine thenN ?_
      refine WC.ret ?_
      obtain rfl := Option.some.inj (show some false = some r from h105)
      exact ret1 (P := Try.prog) (n := 9) (fn := Try.f108) (R := fun v w' => v = Value.bool false ∧ St [] w w' []) (t := 2) (v := Value.bool false) rfl rfl rfl ⟨rfl, hs100⟩
  · have h106 := ifF hc101 h
    refine WL.val (R.geqF (k := .i64) (a := p0) (b := 0) un3 rfl rfl hc101) rfl ?_
    refine WL.val (R.move (v := Value.bool false) rfl) rfl ?_
    refine WL.guardN (e := 5) (v := .bool false) rfl rfl rfl rfl ?_
    refine WL.guardN (e := 5) (v := .bool false) rfl rfl rfl rfl ?_
    refine WL.val (R.pickF (v := Value.bool false) rfl rfl) rfl ?_
    refine WL.val (R.assign (v := Value.bool false) rfl) rfl ?_
    refine WL.nil ?_
    refine thenN ?_
    refine WC.ret ?_
    obtain rfl := Option.some.inj (show some false = some r from h106)
    exact ret1 (P := Try.prog) (n := 9) (fn := Try.f108) (R := fun v w' => v = Value.bool false ∧ St [] w w' []) (t := 2) (v := Value.bool false) rfl rfl rfl ⟨rfl, hs100⟩

theorem plainn14_ok (w : World) (ok : Nat → Prop) (p0 : Int) (p1 : Rw) (a1 : Option Addr) (c1 : Nat) (he1 : elems heldW w ok a1 p1.table) (hc1 : p1.table.length ≤ c1) {r : Rw} (h : plainn14 p0 p1 = some r) :
    Ret Try.prog 69 [Value.int .i64 p0, Value.agg (List.toArray (encR p1 (Value.slice a1 p1.table.length c1)))] w (fun v w' => ∃ ra0, ∃ rc0, v = Value.agg (List.toArray (encR r (Value.slice ra0 r.table.length rc0))) ∧ r.table.length ≤ rc0 ∧ elems heldW w' (In (fun _ => False) w [] []) ra0 r.table ∧ St [] w w' []) := by
  rw [plainn14] at h
  have hs100 : St [] w w [] := St.start w
  have he1001 := el0 (L0 := []) (fun b _ => out_nil b) he1
  refine enter (n := 22) Try.func69 rfl rfl rfl ?_
  refine WC.seq ?_
  refine WC.region ?_
  refine WL.new (L' := fun b102 => [blk b102 62 (encR p1 (Value.slice a1 p1.table.length c1))]) (f := fun b102 => Value.pointer (some ⟨b102, 0, none⟩)) (X.box (v := Value.agg (List.toArray (encR p1 (Value.slice a1 p1.table.length c1)))) (c := encR p1 (Value.slice a1 p1.table.length c1)) (hs100.here) rfl rfl (fun _ => rfl)) rfl ?_
  intro b102 w103 ht108 he105 hz106
  have hs109 := hs100.trans ht108
  refine WL.new (L' := fun b110 => [blk b102 62 (encR p1 (Value.slice a1 p1.table.length c1)), blk b110 62 (encR Rw.none (Value.slice none 0 0))]) (f := fun b110 => Value.pointer (some ⟨b110, 0, none⟩)) (X.alloc (c := encR Rw.none (Value.slice none 0 0)) (hs109.here) zr62 rfl (fun _ => rfl)) rfl ?_
  intro b110 w111 ht116 he113 hz114
  have hs117 := hs109.trans ht116
  refine WL.nil ?_
  refine thenN ?_
  refine WC.seq ?_
  refine WC.seq ?_
  refine WC.region ?_
  refine WL.val (R.fieldAddr (o := 0) (o' := 0) fa62_0 rfl rfl) rfl ?_
  refine WL.val (R.loadL (v := Value.bool p1.is) lf4 rfl (hs117.at (i := 0) (off := 0) (n := 1) (cs := [Value.bool p1.is]) rfl rfl rfl)) rfl ?_
  refine WL.val (R.not (b := p1.is) rfl) rfl ?_
  refine WL.val (R.move (v := Value.bool (!p1.is)) rfl) rfl ?_
  by_cases hc118 : p1.is = true
  · have h119 := ifT hc118 h
    have hk120 : (!p1.is) = false := by simp [hc118]
    refine WL.guardY (e := 8) (Eq.trans (show _ = Value.bool (!p1.is) from rfl) (congrArg Value.bool hk120)) rfl rfl ?_
    refine WL.val (R.move (v := Value.int .i64 p0) rfl) rfl ?_
    refine WL.guardY (e := 8) (Eq.trans (show _ = Value.bool (!p1.is) from rfl) (congrArg Value.bool hk120)) rfl rfl ?_
    obtain ⟨y121, hx122, h123⟩ := ob (o := may13 p0) h119
    refine WL.call (may13_ok _ (In (fun _ => False) w [] [blk b102 62 (encR p1 (Value.slice a1 p1.table.length c1)), blk b110 62 (encR Rw.none (Value.slice none 0 0))]) p0  hx122) (R.call (vs := [Value.int .i64 p0]) (caps := []) bo108 rfl rfl) rfl ?_
    rintro v126 w127 ⟨rfl, ht124⟩
    have ht125 := hs117.call (N := [blk b102 62 (encR p1 (Value.slice a1 p1.table.length c1)), blk b110 62 (encR Rw.none (Value.slice none 0 0))]) (M := []) (List.Perm.refl _) ht124
    have hs128 := hs117.trans ht125
    refine WL.guardY (e := 8) (Eq.trans (show _ = Value.bool (!p1.is) from rfl) (congrArg Value.bool hk120)) rfl rfl ?_
    refine WL.val (R.not (b := y121) rfl) rfl ?_
    refine WL.val (R.pickF (v := Value.bool (!y121)) (Eq.trans (show _ = Value.bool (!p1.is) from rfl) (congrArg Value.bool hk120)) rfl) rfl ?_
    refine WL.nil ?_
    refine thenN ?_
    by_cases hc129 : y121 = true
    · have h130 := ifT hc129 h123
      have hk131 : (!y121) = false := by simp [hc129]
      refine WC.condF (Eq.trans (show _ = Value.bool (!y121) from rfl) (congrArg Value.bool hk131)) rfl ?_
      refine WC.skip ?_
      refine thenN ?_
      refine WC.seq ?_
      refine WC.drawE mixed (NP.then NP.rq) ?_
      have ht132 := (hs128.here).ext (Ext.drew _)
      have hs133 := hs128.trans ht132
      refine WE.take 0 rfl (by decide +kernel) (by decide +kernel) (by decide +kernel) (by decide +kernel) rfl rfl (fun wq hq => R.fieldAddr (o := 0) (o' := 1) fa62_1 rfl rfl) ?_
      refine WE.take 1 rfl (by decide +kernel) (by decide +kernel) (by decide +kernel) (by decide +kernel) rfl rfl (fun wq hq => R.loadA (cs := encC p1.cell) (n := 55) ag58 rfl ((hs133.ext hq).at (i := 0) (off := 1) (n := 55) (cs := encC p1.cell) rfl rfl rfl) rfl) ?_
      refine WE.take 3 rfl (by decide +kernel) (by decide +kernel) (by decide +kernel) (by decide +kernel) rfl rfl (fun wq hq => R.move (v := Value.int .i64 p0) rfl) ?_
      refine WE.take 4 rfl (by decide +kernel) (by decide +kernel) (by decide +kernel) (by decide +kernel) rfl rfl (fun wq hq => R.fieldAddr (o := 0) (o' := 56) fa62_2 rfl rfl) ?_
      refine WE.take 5 rfl (by decide +kernel) (by decide +kernel) (by decide +kernel) (by decide +kernel) rfl rfl (fun wq hq => R.loadL (v := Value.slice a1 p1.table.length c1) lf28 rfl ((hs133.ext hq).at (i := 0) (off := 56) (n := 1) (cs := [Value.slice a1 p1.table.length c1]) rfl rfl rfl)) ?_
      obtain ⟨y134, hx135, h136⟩ := ob (o := cell13 p1.cell) h130
      refine WE.call 2 (by decide +kernel) rfl rfl rfl (cell13_ok _ (In (fun _ => False) w [] [blk b102 62 (encR p1 (Value.slice a1 p1.table.length c1)), blk b110 62 (encR Rw.none (Value.slice none 0 0))]) p1.cell  hx135) (R.call (vs := [Value.agg (List.toArray (encC p1.cell))]) (caps := []) bo73 rfl rfl) ?_
      rintro v139 w140 ⟨rfl, ht137⟩
      refine ⟨.inr (show Ext _ _ from ht137.kept), ?_⟩
      have ht138 := hs133.call (N := [blk b102 62 (encR p1 (Value.slice a1 p1.table.length c1)), blk b110 62 (encR Rw.none (Value.slice none 0 0))]) (M := []) (List.Perm.refl _) ht137
      have hs141 := hs133.trans ht138
      obtain ⟨y142, hx143, h144⟩ := ob (o := filledHn14 p0 p1.table) h136
      have hr145 := elT ((((ht108.trans ht116).trans ht125).trans ht132).trans ht138) he1001
      refine WE.call 6 (by decide +kernel) rfl rfl rfl (filledHn14_ok _ _ p0 p1.table _ _ hr145 hc1 hx143) (R.call (vs := [Value.int .i64 p0, Value.slice a1 p1.table.length c1, Value.func (.func 115) #[] (List.toArray [])]) (caps := []) bo114 rfl rfl) ?_
      rintro v152 w153 ⟨a148, c149, rfl, hl150, he151, ht146⟩
      refine ⟨.inr (show Ext _ _ from ht146.kept), ?_⟩
      have ht147 := hs141.call (N := [blk b102 62 (encR p1 (Value.slice a1 p1.table.length c1)), blk b110 62 (encR Rw.none (Value.slice none 0 0))]) (M := []) (List.Perm.refl _) ht146
      have he154 := elCN hs141 (M := []) (List.Perm.refl _) ht146 he151
      have hs155 := hs141.trans ht147
      have hd157 : ∀ w, (Instr.build 62 #[(0, Value.bool true), (1, Value.agg (List.toArray (encC y134))), (2, Value.slice a148 y142.length c149)]).run Try.prog w = .ok (Value.agg (List.toArray ((Value.bool true) :: ((encC y134) ++ ((Value.slice a148 y142.length c149) :: []))))) w := fun _ => by kernel_rfl
      refine WE.take 7 rfl (by decide +kernel) (by decide +kernel) (by decide +kernel) (by decide +kernel) rfl rfl (fun wq hq => R.build (vs := [(0, Value.bool true), (1, Value.agg (List.toArray (encC y134))), (2, Value.slice a148 y142.length c149)]) rfl hd157) ?_
      refine WE.sto (L' := [blk b102 62 (encR p1 (Value.slice a1 p1.table.length c1)), blk b110 62 ((Value.bool true) :: ((encC y134) ++ ((Value.slice a148 y142.length c149) :: [])))]) 8 (by decide +kernel) (by decide +kernel) rfl rfl rfl rfl (X.store (i := 1) (n := 57) (b := b110) (off := 0) (c := encR Rw.none (Value.slice none 0 0)) (U := 62) (vs := (Value.bool true) :: ((encC y134) ++ ((Value.slice a148 y142.length c149) :: []))) (v := Value.agg (List.toArray ((Value.bool true) :: ((encC y134) ++ ((Value.slice a148 y142.length c149) :: []))))) (c' := (Value.bool true) :: ((encC y134) ++ ((Value.slice a148 y142.length c149) :: []))) (hs155.here) rfl ag62.size rfl rfl rfl rfl rfl rfl rfl rfl) ?_
      intro w158 ht159
      have hs160 := hs155.trans ht159
      refine WE.done (by decide +kernel) ?_
      refine thenN ?_
      refine WC.ret ?_
      have hl161 := run_loadA (P := Try.prog) (n := 57) ag62 (hs160.at (i := 1) (off := 0) (n := 57) (cs := (Value.bool true) :: ((encC y134) ++ ((Value.slice a148 y142.length c149) :: []))) rfl rfl rfl) rfl
      have ht162 := (hs160.here).perm (L' := []) (G := [blk b102 62 (encR p1 (Value.slice a1 p1.table.length c1)), blk b110 62 ((Value.bool true) :: ((encC y134) ++ ((Value.slice a148 y142.length c149) :: [])))]) ((List.Perm.refl _))
      have hs163 := hs160.trans ht162
      have hr164 := elT (ht159.trans ht162) he154
      obtain rfl := Option.some.inj (show some (⟨true, y134, y142⟩ : Rw) = some r from h144)
      exact retCell (P := Try.prog) (n := 22) (fn := Try.f69) (R := fun v w' => ∃ ra0, ∃ rc0, v = Value.agg (List.toArray (encR (⟨true, y134, y142⟩ : Rw) (Value.slice ra0 (⟨true, y134, y142⟩ : Rw).table.length rc0))) ∧ (⟨true, y134, y142⟩ : Rw).table.length ≤ rc0 ∧ elems heldW w' (In (fun _ => False) w [] []) ra0 (⟨true, y134, y142⟩ : Rw).table ∧ St [] w w' []) (t := 4) (v := Value.agg (List.toArray ((Value.bool true) :: ((encC y134) ++ ((Value.slice a148 y142.length c149) :: []))))) rfl rfl rfl hl161 ⟨a148, c149, rfl, hl150, hr164, hs163⟩
    · have h165 := ifF hc129 h123
      have hk166 : (!y121) = true := by simp [hc129]
      refine WC.condT (Eq.trans (show _ = Value.bool (!y121) from rfl) (congrArg Value.bool hk166)) rfl ?_
      refine WC.seq ?_
      refine WC.region ?_
      have hd167 : ∀ w, (Instr.build 62 #[]).run Try.prog w = .ok (Value.agg (List.toArray (encR Rw.none (Value.slice none 0 0)))) w := fun _ => by kernel_rfl
      refine WL.val (R.build (vs := []) rfl hd167) rfl ?_
      refine WL.sto (L' := [blk b102 62 (encR p1 (Value.slice a1 p1.table.length c1)), blk b110 62 (encR Rw.none (Value.slice none 0 0))]) (X.store (i := 1) (n := 57) (b := b110) (off := 0) (c := encR Rw.none (Value.slice none 0 0)) (U := 62) (vs := encR Rw.none (Value.slice none 0 0)) (v := Value.agg (List.toArray (encR Rw.none (Value.slice none 0 0)))) (c' := encR Rw.none (Value.slice none 0 0)) (hs128.here) rfl ag62.size rfl rfl rfl rfl rfl rfl rfl rfl) rfl rfl ?_
      intro w168 ht169
      have hs170 := hs128.trans ht169
      refine WL.nil ?_
      refine thenN ?_
      refine WC.ret ?_
      have hl171 := run_loadA (P := Try.prog) (n := 57) ag62 (hs170.at (i := 1) (off := 0) (n := 57) (cs := encR Rw.none (Value.slice none 0 0)) rfl rfl rfl) rfl
      have ht172 := (hs170.here).perm (L' := []) (G := [blk b102 62 (encR p1 (Value.slice a1 p1.table.length c1)), blk b110 62 (encR Rw.none (Value.slice none 0 0))]) ((List.Perm.refl _))
      have hs173 := hs170.trans ht172
      obtain rfl := Option.some.inj (show some Rw.none = some r from h165)
      exact retCell (P := Try.prog) (n := 22) (fn := Try.f69) (R := fun v w' => ∃ ra0, ∃ rc0, v = Value.agg (List.toArray (encR Rw.none (Value.slice ra0 Rw.none.table.length rc0))) ∧ Rw.none.table.length ≤ rc0 ∧ elems heldW w' (In (fun _ => False) w [] []) ra0 Rw.none.table ∧ St [] w w' []) (t := 4) (v := Value.agg (List.toArray (encR Rw.none (Value.slice none 0 0)))) rfl rfl rfl hl171 ⟨none, 0, rfl, (Nat.le_refl _), elems_nil, hs173⟩
  · have h174 := ifF hc118 h
    have hk175 : (!p1.is) = true := by simp [hc118]
    refine WL.guardN (e := 8) (v := .bool true) (Eq.trans (show _ = Value.bool (!p1.is) from rfl) (congrArg Value.bool hk175)) rfl rfl rfl ?_
    refine WL.guardN (e := 8) (v := .bool true) (Eq.trans (show _ = Value.bool (!p1.is) from rfl) (congrArg Value.bool hk175)) rfl rfl rfl ?_
    refine WL.guardN (e := 8) (v := .bool true) (Eq.trans (show _ = Value.bool (!p1.is) from rfl) (congrArg Value.bool hk175)) rfl rfl rfl ?_
    refine WL.val (R.pickT (v := Value.bool true) (Eq.trans (show _ = Value.bool (!p1.is) from rfl) (congrArg Value.bool hk175)) rfl) rfl ?_
    refine WL.nil ?_
    refine thenN ?_
    refine WC.condT rfl rfl ?_
    refine WC.seq ?_
    refine WC.region ?_
    have hd176 : ∀ w, (Instr.build 62 #[]).run Try.prog w = .ok (Value.agg (List.toArray (encR Rw.none (Value.slice none 0 0)))) w := fun _ => by kernel_rfl
    refine WL.val (R.build (vs := []) rfl hd176) rfl ?_
    refine WL.sto (L' := [blk b102 62 (encR p1 (Value.slice a1 p1.table.length c1)), blk b110 62 (encR Rw.none (Value.slice none 0 0))]) (X.store (i := 1) (n := 57) (b := b110) (off := 0) (c := encR Rw.none (Value.slice none 0 0)) (U := 62) (vs := encR Rw.none (Value.slice none 0 0)) (v := Value.agg (List.toArray (encR Rw.none (Value.slice none 0 0)))) (c' := encR Rw.none (Value.slice none 0 0)) (hs117.here) rfl ag62.size rfl rfl rfl rfl rfl rfl rfl rfl) rfl rfl ?_
    intro w177 ht178
    have hs179 := hs117.trans ht178
    refine WL.nil ?_
    refine thenN ?_
    refine WC.ret ?_
    have hl180 := run_loadA (P := Try.prog) (n := 57) ag62 (hs179.at (i := 1) (off := 0) (n := 57) (cs := encR Rw.none (Value.slice none 0 0)) rfl rfl rfl) rfl
    have ht181 := (hs179.here).perm (L' := []) (G := [blk b102 62 (encR p1 (Value.slice a1 p1.table.length c1)), blk b110 62 (encR Rw.none (Value.slice none 0 0))]) ((List.Perm.refl _))
    have hs182 := hs179.trans ht181
    obtain rfl := Option.some.inj (show some Rw.none = some r from h174)
    exact retCell (P := Try.prog) (n := 22) (fn := Try.f69) (R := fun v w' => ∃ ra0, ∃ rc0, v = Value.agg (List.toArray (encR Rw.none (Value.slice ra0 Rw.none.table.length rc0))) ∧ Rw.none.table.length ≤ rc0 ∧ elems heldW w' (In (fun _ => False) w [] []) ra0 Rw.none.table ∧ St [] w w' []) (t := 4) (v := Value.agg (List.toArray (encR Rw.none (Value.slice none 0 0)))) rfl rfl rfl hl180 ⟨none, 0, rfl, (Nat.le_refl _), elems_nil, hs182⟩

theorem norm1n14_ok (w : World) (ok : Nat → Prop) (p0 : Rw) (q1 : Int) (a0 : Option Addr) (c0 : Nat) (he0 : elems heldW w ok a0 p0.table) (hc0 : p0.table.length ≤ c0) (b0o1 : Nat) (hok : ∀ b, ok b → out [blk b0o1 3 [Value.int .i64 q1]] b) (hL : St [blk b0o1 3 [Value.int .i64 q1]] w w [blk b0o1 3 [Value.int .i64 q1]]) {r : Rw} (h : norm1n14 p0 q1 = some r) :
    Ret Try.prog 110 [Value.agg (List.toArray (encR p0 (Value.slice a0 p0.table.length c0))), Value.pointer (some ⟨b0o1, 0, none⟩)] w (fun v w' => ∃ ra0, ∃ rc0, v = Value.agg (List.toArray (encR r (Value.slice ra0 r.table.length rc0))) ∧ r.table.length ≤ rc0 ∧ elems heldW w' (In (fun _ => False) w [blk b0o1 3 [Value.int .i64 q1]] [blk b0o1 3 [Value.int .i64 q1]]) ra0 r.table ∧ St [blk b0o1 3 [Value.int .i64 q1]] w w' [blk b0o1 3 [Value.int .i64 q1]]) := by
  rw [norm1n14] at h
  have hs100 : St [blk b0o1 3 [Value.int .i64 q1]] w w [blk b0o1 3 [Value.int .i64 q1]] := hL
  have he1000 := el0 (L0 := [blk b0o1 3 [Value.int .i64 q1]]) hok he0
  refine enter (n := 7) Try.func110 rfl rfl rfl ?_
  refine WC.seq ?_
  refine WC.region ?_
  refine WL.new (L' := fun b102 => [blk b0o1 3 [Value.int .i64 q1], blk b102 62 (encR p0 (Value.slice a0 p0.table.length c0))]) (f := fun b102 => Value.pointer (some ⟨b102, 0, none⟩)) (X.box (v := Value.agg (List.toArray (encR p0 (Value.slice a0 p0.table.length c0)))) (c := encR p0 (Value.slice a0 p0.table.length c0)) (hs100.here) rfl rfl (fun _ => rfl)) rfl ?_
  intro b102 w103 ht108 he105 hz106
  have hs109 := hs100.trans ht108
  refine WL.new (L' := fun b110 => [blk b0o1 3 [Value.int .i64 q1], blk b102 62 (encR p0 (Value.slice a0 p0.table.length c0)), blk b110 62 (encR Rw.none (Value.slice none 0 0))]) (f := fun b110 => Value.pointer (some ⟨b110, 0, none⟩)) (X.alloc (c := encR Rw.none (Value.slice none 0 0)) (hs109.here) zr62 rfl (fun _ => rfl)) rfl ?_
  intro b110 w111 ht116 he113 hz114
  have hs117 := hs109.trans ht116
  refine WL.nil ?_
  refine thenN ?_
  refine WC.seq ?_
  refine WC.region ?_
  refine WL.val (R.loadL (v := Value.int .i64 q1) lf3 rfl (hs117.at (i := 0) (off := 0) (n := 1) (cs := [Value.int .i64 q1]) rfl rfl rfl)) rfl ?_
  refine WL.val (R.loadA (cs := encR p0 (Value.slice a0 p0.table.length c0)) (n := 57) ag62 rfl (hs117.at (i := 1) (off := 0) (n := 57) (cs := encR p0 (Value.slice a0 p0.table.length c0)) rfl rfl rfl) rfl) rfl ?_
  obtain ⟨y118, hx119, h120⟩ := ob (o := plainn14 q1 p0) h
  have hr121 := elT (ht108.trans ht116) he1000
  refine WL.call (plainn14_ok _ _ q1 p0 _ _ hr121 hc0 hx119) (R.call (vs := [Value.int .i64 q1, Value.agg (List.toArray (encR p0 (Value.slice a0 p0.table.length c0)))]) (caps := []) bo69 rfl rfl) rfl ?_
  rintro v128 w129 ⟨a124, c125, rfl, hl126, he127, ht122⟩
  have ht123 := hs117.call (N := [blk b0o1 3 [Value.int .i64 q1], blk b102 62 (encR p0 (Value.slice a0 p0.table.length c0)), blk b110 62 (encR Rw.none (Value.slice none 0 0))]) (M := []) (List.Perm.refl _) ht122
  have he130 := elCN hs117 (M := []) (List.Perm.refl _) ht122 he127
  have hs131 := hs117.trans ht123
  refine WL.sto (L' := [blk b0o1 3 [Value.int .i64 q1], blk b102 62 (encR p0 (Value.slice a0 p0.table.length c0)), blk b110 62 (encR y118 (Value.slice a124 y118.table.length c125))]) (X.store (i := 2) (n := 57) (b := b110) (off := 0) (c := encR Rw.none (Value.slice none 0 0)) (U := 62) (vs := encR y118 (Value.slice a124 y118.table.length c125)) (v := Value.agg (List.toArray (encR y118 (Value.slice a124 y118.table.length c125)))) (c' := encR y118 (Value.slice a124 y118.table.length c125)) (hs131.here) rfl ag62.size rfl rfl rfl rfl rfl rfl rfl rfl) rfl rfl ?_
  intro w133 ht134
  have hs135 := hs131.trans ht134
  refine WL.nil ?_
  refine thenN ?_
  refine WC.ret ?_
  have hl136 := run_loadA (P := Try.prog) (n := 57) ag62 (hs135.at (i := 2) (off := 0) (n := 57) (cs := encR y118 (Value.slice a124 y118.table.length c125)) rfl rfl rfl) rfl
  have ht137 := (hs135.here).perm (L' := [blk b0o1 3 [Value.int .i64 q1]]) (G := [blk b102 62 (encR p0 (Value.slice a0 p0.table.length c0)), blk b110 62 (encR y118 (Value.slice a124 y118.table.length c125))]) ((List.Perm.refl _))
  have hs138 := hs135.trans ht137
  have hr139 := elT (ht134.trans ht137) he130
  obtain rfl := Option.some.inj (show some y118 = some r from h120)
  exact retCell (P := Try.prog) (n := 7) (fn := Try.f110) (R := fun v w' => ∃ ra0, ∃ rc0, v = Value.agg (List.toArray (encR y118 (Value.slice ra0 y118.table.length rc0))) ∧ y118.table.length ≤ rc0 ∧ elems heldW w' (In (fun _ => False) w [blk b0o1 3 [Value.int .i64 q1]] [blk b0o1 3 [Value.int .i64 q1]]) ra0 y118.table ∧ St [blk b0o1 3 [Value.int .i64 q1]] w w' [blk b0o1 3 [Value.int .i64 q1]]) (t := 3) (v := Value.agg (List.toArray (encR y118 (Value.slice a124 y118.table.length c125)))) rfl rfl rfl hl136 ⟨a124, c125, rfl, hl126, hr139, hs138⟩

theorem filledRn14_ok (w : World) (ok : Nat → Prop) (p0 : Int) (p1 : List Rw) (q40 : Int) (a1 : Option Addr) (c1 : Nat) (he1 : elems rowW w ok a1 p1) (hc1 : p1.length ≤ c1) (b0o40 : Nat) (hok : ∀ b, ok b → out [blk b0o40 3 [Value.int .i64 q40]] b) (hL : St [blk b0o40 3 [Value.int .i64 q40]] w w [blk b0o40 3 [Value.int .i64 q40]]) {r : (List Rw)} (h : filledRn14 p0 p1 q40 = some r) :
    Ret Try.prog 109 [Value.int .i64 p0, Value.slice a1 p1.length c1, Value.func (.func 110) #[] (List.toArray [Value.pointer (some ⟨b0o40, 0, none⟩)])] w (fun v w' => ∃ ra0, ∃ rc0, ∃ rrs0, v = Value.slice ra0 r.length rc0 ∧ readsL rowW w' (In (fun _ => False) w [blk b0o40 3 [Value.int .i64 q40]] [blk b0o40 3 [Value.int .i64 q40], gsl 62 (rawE 57) (Value.slice ra0 r.length rc0) rrs0]) r rrs0 ∧ St [blk b0o40 3 [Value.int .i64 q40]] w w' [blk b0o40 3 [Value.int .i64 q40], gsl 62 (rawE 57) (Value.slice ra0 r.length rc0) rrs0]) := by
  rw [filledRn14] at h
  have hs100 : St [blk b0o40 3 [Value.int .i64 q40]] w w [blk b0o40 3 [Value.int .i64 q40]] := hL
  have he1001 := el0 (L0 := [blk b0o40 3 [Value.int .i64 q40]]) hok he1
  refine enter (n := 29) Try.func109 rfl rfl rfl ?_
  refine WC.seq ?_
  refine WC.region ?_
  refine WL.val (R.assign (v := Value.slice none 0 0) rfl) rfl ?_
  refine WL.nil ?_
  refine thenN ?_
  refine WC.seq ?_
  refine WC.region ?_
  refine WL.val (R.move (v := Value.int .i64 p0) rfl) rfl ?_
  obtain ⟨hg102, h103⟩ := ckE (c := 0 ≤ p0 ∧ p0 < 1000000) h
  refine WL.new (L' := fun b104 => [blk b0o40 3 [Value.int .i64 q40], gsl 62 (rawE 57) (Value.slice (some ⟨b104, 0, none⟩) ((List.replicate (p0).toNat Rw.none).length) ((p0).toNat)) (List.replicate (p0).toNat (⟨encR Rw.none (Value.slice none 0 0), rfl, rfl⟩ : Raw 57))]) (f := fun b104 => Value.slice (some ⟨b104, 0, none⟩) ((List.replicate (p0).toNat Rw.none).length) ((p0).toNat)) (X.makeSliceN (e := (rawE 57)) (z := (⟨encR Rw.none (Value.slice none 0 0), rfl, rfl⟩ : Raw 57)) (hs100.here) sl22 rfl rfl rfl hg102 (by decide) List.length_replicate (fun _ => rfl)) rfl ?_
  intro b104 w105 ht109 he106 hz107
  have hs110 := hs100.trans ht109
  have hr111 : readsL rowW w105 (In (fun _ => False) w [blk b0o40 3 [Value.int .i64 q40]] [blk b0o40 3 [Value.int .i64 q40], gsl 62 (rawE 57) (Value.slice (some ⟨b104, 0, none⟩) ((List.replicate (p0).toNat Rw.none).length) ((p0).toNat)) (List.replicate (p0).toNat (⟨encR Rw.none (Value.slice none 0 0), rfl, rfl⟩ : Raw 57))]) (List.replicate (p0).toNat Rw.none) (List.replicate (p0).toNat (⟨encR Rw.none (Value.slice none 0 0), rfl, rfl⟩ : Raw 57)) := readsL_rep (p0).toNat ⟨_, rfl, ⟨_, _, rfl, Nat.le_refl _, elems_nil⟩⟩
  refine WL.val (R.assign (v := Value.slice (some ⟨b104, 0, none⟩) ((List.replicate (p0).toNat Rw.none).length) ((p0).toNat)) rfl) rfl ?_
  refine WL.nil ?_
  refine thenN ?_
  refine WC.seq ?_
  refine WC.seq ?_
  refine WC.region ?_
  refine WL.val (R.move (v := Value.int .i64 p0) rfl) rfl ?_
  refine WL.val (R.move (v := Value.slice a1 p1.length c1) rfl) rfl ?_
  refine WL.val (R.len (a := a1) (n := p1.length) (c := c1) un22 rfl) rfl ?_
  refine WL.val (R.min (a := p0) (b := ((p1.length : Nat) : Int)) (z := min p0 ((p1.length : Nat) : Int)) rfl rfl rfl) rfl ?_
  refine WL.val (R.move (v := Value.int .i64 0) rfl) rfl ?_
  refine WL.nil ?_
  refine thenN ?_
  have hr290 := elT ht109 he1001
  obtain ⟨K281, hK282, h283⟩ := kE (G := fun K281 => filledRn14_l1 p0 p1 q40 K281 1000000 0 (List.replicate (p0).toNat Rw.none)) h103
  refine WC.join (fun σ292 w291 => ∃ l277 : List Rw, ∃ rs278, ∃ a279, ∃ c280, σ292 7 = (Value.slice a279 l277.length c280) ∧ readsL rowW w291 (In (fun _ => False) w [blk b0o40 3 [Value.int .i64 q40]] [blk b0o40 3 [Value.int .i64 q40], gsl 62 (rawE 57) (Value.slice a279 l277.length c280) rs278]) l277 rs278 ∧ K281 l277 = some r ∧ St [blk b0o40 3 [Value.int .i64 q40]] w w291 [blk b0o40 3 [Value.int .i64 q40], gsl 62 (rawE 57) (Value.slice a279 l277.length c280) rs278]) ?_ ?_
  · refine WC.block ?_
    refine WC.loop (T := Nat) (fun k287 σ285 w284 => ∃ i272 : Int, ∃ l273 : List Rw, ∃ rs274, ∃ a275, ∃ c276, σ285 1 = (Value.slice a1 p1.length c1) ∧ σ285 2 = (Value.func (.func 110) #[] (List.toArray [Value.pointer (some ⟨b0o40, 0, none⟩)])) ∧ σ285 7 = (Value.slice a275 l273.length c276) ∧ σ285 14 = (Value.int .i64 (min p0 ((p1.length : Nat) : Int))) ∧ σ285 15 = (Value.int .i64 i272) ∧ elems rowW w284 (In ok w [blk b0o40 3 [Value.int .i64 q40]] [blk b0o40 3 [Value.int .i64 q40], gsl 62 (rawE 57) (Value.slice a275 l273.length c276) rs274]) a1 p1 ∧ readsL rowW w284 (In (fun _ => False) w [blk b0o40 3 [Value.int .i64 q40]] [blk b0o40 3 [Value.int .i64 q40], gsl 62 (rawE 57) (Value.slice a275 l273.length c276) rs274]) l273 rs274 ∧ filledRn14_l1 p0 p1 q40 K281 k287 i272 l273 = some r ∧ St [blk b0o40 3 [Value.int .i64 q40]] w w284 [blk b0o40 3 [Value.int .i64 q40], gsl 62 (rawE 57) (Value.slice a275 l273.length c276) rs274]) (fun k287 => k287) 1000000 ⟨0, List.replicate (p0).toNat Rw.none, List.replicate (p0).toNat (⟨encR Rw.none (Value.slice none 0 0), rfl, rfl⟩ : Raw 57), (some ⟨b104, 0, none⟩), (p0).toNat, rfl, rfl, rfl, rfl, rfl, hr290, hr111, h283, hs110⟩ ?_
    rintro k287 σ285 w284 ⟨i272, l273, rs274, a275, c276, s296, s297, s298, s299, s300, he288, hr289, h295, hs286⟩
    rcases k287 with _ | k287
    · rw [filledRn14_l1] at h295; cases h295
    rw [filledRn14_l1] at h295
    refine WC.seq ?_
    refine WC.region ?_
    by_cases hc301 : i272 < (min p0 ((p1.length : Nat) : Int))
    · have h302 := ifT hc301 h295
      refine WL.val (R.lssT (k := .i64) (a := i272) (b := min p0 ((p1.length : Nat) : Int)) un3 (by exact s300) (by exact s299) hc301) rfl ?_
      refine WL.nil ?_
      refine thenN ?_
      refine WC.seq ?_
      refine WC.condT rfl rfl ?_
      refine WC.skip ?_
      refine thenN ?_
      refine WC.seq ?_
      refine WC.block ?_
      refine WC.seq ?_
      refine WC.region ?_
      refine WL.val (R.move (v := Value.int .i64 i272) (by exact s300)) rfl ?_
      refine WL.val (R.assign (v := Value.int .i64 i272) rfl) rfl ?_
      refine WL.nil ?_
      refine thenN ?_
      refine WC.region ?_
      refine WL.val (R.move (v := Value.slice a275 l273.length c276) (by exact s298)) rfl ?_
      refine WL.val (R.move (v := Value.int .i64 i272) rfl) rfl ?_
      refine WL.val (R.move (v := Value.func (.func 110) #[] (List.toArray [Value.pointer (some ⟨b0o40, 0, none⟩)])) (by exact s297)) rfl ?_
      refine WL.val (R.move (v := Value.slice a1 p1.length c1) (by exact s296)) rfl ?_
      refine WL.val (R.move (v := Value.int .i64 i272) rfl) rfl ?_
      obtain ⟨x303, hx304, h305⟩ := ob (o := rd p1 i272) h302
      obtain ⟨h0306, hx307, hl308, hm309⟩ := rdE hx304
      obtain ⟨ad310, e315, ha311, hp312, hat313, hrd314⟩ := he288 _ _ hx307
      obtain ⟨t316, rfl, a318, c319, he322, hl320, he321⟩ := hrd314
      cases he322
      refine WL.val (R.indexS (n := 57) (m := (i272).toNat) (a := a1) (ad := ad310) (len := p1.length) (cap := c1) (z := i272) un22 ag62.size rfl ha311 rfl hm309 hl308 hp312) rfl ?_
      refine WL.val (R.loadA (cs := encR x303 (Value.slice a318 x303.table.length c319)) (n := 57) ag62 rfl hat313 rfl) rfl ?_
      obtain ⟨y325, hx326, h327⟩ := ob (o := norm1n14 x303 q40) h305
      refine WL.call (norm1n14_ok _ _ x303 q40 _ _ he321 hl320 b0o40 (In.outM (M := [blk b0o40 3 [Value.int .i64 q40]]) (N := [gsl 62 (rawE 57) (Value.slice a275 l273.length c276) rs274]) ((List.Perm.refl _))) (show St [blk b0o40 3 [Value.int .i64 q40]] _ _ [blk b0o40 3 [Value.int .i64 q40]] from St.ofM (M := [blk b0o40 3 [Value.int .i64 q40]]) (N := [gsl 62 (rawE 57) (Value.slice a275 l273.length c276) rs274]) hs286 ((List.Perm.refl _))) hx326) (R.call (vs := [Value.agg (List.toArray (encR x303 (Value.slice a318 x303.table.length c319)))]) (caps := [Value.pointer (some ⟨b0o40, 0, none⟩)]) bo110 rfl rfl) rfl ?_
      rintro v334 w335 ⟨a330, c331, rfl, hl332, he333, ht328⟩
      have ht329 := hs286.call (N := [gsl 62 (rawE 57) (Value.slice a275 l273.length c276) rs274]) (M := [blk b0o40 3 [Value.int .i64 q40]]) ((List.Perm.refl _)) ht328
      have he336 := elCN hs286 (M := [blk b0o40 3 [Value.int .i64 q40]]) ((List.Perm.refl _)) ht328 he333
      have hs337 := hs286.trans ht329
      obtain ⟨x339, hx340, h341⟩ := ob (o := rd l273 i272) h327
      obtain ⟨h0342, hx343, hl344, hm345⟩ := rdE hx340
      have hr354 := rlT ht329 hr289
      obtain ⟨⟨cs352, hp353⟩, hr350, hk351⟩ := readsL_at hr354 hx343
      obtain ⟨t355, rfl, a357, c358, he361, hl359, he360⟩ := hk351
      cases he361
      obtain ⟨b346, c347, hv348, _⟩ := hs337.gslAt (i := 1) rfl hr350
      refine WL.val (R.indexS (n := 57) (m := (i272).toNat) (ad := ⟨b346, 0, none⟩) (len := (rs274).length) (cap := c347) (z := i272) un22 ag62.size (Eq.trans (show _ = Value.slice a275 l273.length c276 from rfl) hv348) rfl rfl hm345 ((hr354).1 ▸ hl344) rfl) rfl ?_
      obtain ⟨r363, hr364, hr365⟩ := readsL_set (j := (i272).toNat) hr354 (cs := (encR y325 (Value.slice a330 y325.table.length c331))) ⟨_, rfl, ⟨_, _, rfl, hl332, he336⟩⟩ rfl
      refine WL.sto (L' := [blk b0o40 3 [Value.int .i64 q40], gsl 62 (rawE 57) (Value.slice a275 l273.length c276) ((rs274).set (i272).toNat r363)]) (X.storeEl (i := 1) (j := (i272).toNat) (off := 0) (n := 57) (x := _) (y := r363) (vs := encR y325 (Value.slice a330 y325.table.length c331)) (u := Value.agg (List.toArray (encR y325 (Value.slice a330 y325.table.length c331)))) (hs337.here) rfl hr350 hv348 ag62.size rfl rfl rfl rfl rfl rfl (by decide) ((show splice _ _ _ = r363.1 from by rw [hr364]; rfl)) rfl) rfl rfl ?_
      intro w367 ht368
      have hs369 := hs337.trans ht368
      have hs370 : St [blk b0o40 3 [Value.int .i64 q40]] w w367 [blk b0o40 3 [Value.int .i64 q40], gsl 62 (rawE 57) (Value.slice a275 (((l273).set (i272).toNat y325).length) c276) ((rs274).set (i272).toNat r363)] := by first | (simpa only [List.length_set] using hs369) | (simp only [List.length_set]; exact hs369)
      have ht371 : St [blk b0o40 3 [Value.int .i64 q40], gsl 62 (rawE 57) (Value.slice a275 l273.length c276) rs274] w335 w367 [blk b0o40 3 [Value.int .i64 q40], gsl 62 (rawE 57) (Value.slice a275 (((l273).set (i272).toNat y325).length) c276) ((rs274).set (i272).toNat r363)] := by first | (simpa only [List.length_set, List.nil_append, List.cons_append] using ht368) | (simp only [List.length_set]; exact ht368)
      refine WL.nil ?_
      refine blockN ?_
      refine thenN ?_
      refine WC.region ?_
      obtain ⟨hg372, h373⟩ := ckE (c := -9223372036854775808 ≤ i272 + 1 ∧ i272 + 1 ≤ 9223372036854775807) h341
      refine WL.val (R.add (a := i272) (b := 1) (z := i272 + 1) (by exact s300) rfl (w64e rfl hg372.1 hg372.2)) rfl ?_
      refine WL.val (R.move (v := Value.int .i64 (i272 + 1)) rfl) rfl ?_
      refine WL.nil ?_
      have hr374 := elT (ht329.trans ht371) he288
      have hr375 := rlT ht371 hr365
      exact roundEnd (s := k287) ⟨i272 + 1, (l273).set (i272).toNat y325, (rs274).set (i272).toNat r363, a275, c276, s296, s297, (Eq.trans (show _ = Value.slice a275 l273.length c276 from s298) (by simp only [List.length_set])), s299, rfl, hr374, hr375, h373, hs370⟩ (Nat.lt_succ_self _)
    · have h376 := ifF hc301 h295
      refine WL.val (R.lssF (k := .i64) (a := i272) (b := min p0 ((p1.length : Nat) : Int)) un3 (by exact s300) (by exact s299) hc301) rfl ?_
      refine WL.nil ?_
      refine thenN ?_
      refine WC.seq ?_
      refine WC.condF rfl rfl ?_
      refine WC.exit ?_
      refine thenE ?_
      refine thenE ?_
      refine blockHit ?_
      exact joinI ⟨l273, rs274, a275, c276, s298, hr289, h376, hs286⟩
  · rintro σ292 w291 ⟨l277, rs278, a279, c280, s378, hr294, h377, hs293⟩
    subst hK282
    refine thenN ?_
    refine WC.seq ?_
    refine WC.region ?_
    refine WL.val (R.move (v := Value.slice a279 l277.length c280) (by exact s378)) rfl ?_
    refine WL.val (R.assign (v := Value.slice a279 l277.length c280) rfl) rfl ?_
    refine WL.nil ?_
    refine thenN ?_
    refine WC.ret ?_
    obtain rfl := Option.some.inj (show some l277 = some r from h377)
    exact ret1 (P := Try.prog) (n := 29) (fn := Try.f109) (R := fun v w' => ∃ ra0, ∃ rc0, ∃ rrs0, v = Value.slice ra0 l277.length rc0 ∧ readsL rowW w' (In (fun _ => False) w [blk b0o40 3 [Value.int .i64 q40]] [blk b0o40 3 [Value.int .i64 q40], gsl 62 (rawE 57) (Value.slice ra0 l277.length rc0) rrs0]) l277 rrs0 ∧ St [blk b0o40 3 [Value.int .i64 q40]] w w' [blk b0o40 3 [Value.int .i64 q40], gsl 62 (rawE 57) (Value.slice ra0 l277.length rc0) rrs0]) (t := 6) (v := Value.slice a279 l277.length c280) rfl rfl rfl ⟨a279, c280, rs278, rfl, hr294, hs293⟩

theorem normn14_ok (w : World) (ok : Nat → Prop) (p0 : Int) (p1 : (List Rw)) (a1 : Option Addr) (c1 : Nat) (he1 : elems rowW w ok a1 p1) (hc1 : p1.length ≤ c1) {r : (List Rw)} (h : normn14 p0 p1 = some r) :
    Ret Try.prog 61 [Value.int .i64 p0, Value.agg (List.toArray [Value.slice a1 p1.length c1])] w (fun v w' => ∃ ra0, ∃ rc0, ∃ rrs0, v = Value.agg (List.toArray [Value.slice ra0 r.length rc0]) ∧ readsL rowW w' (In (fun _ => False) w [] [gsl 62 (rawE 57) (Value.slice ra0 r.length rc0) rrs0]) r rrs0 ∧ St [] w w' [gsl 62 (rawE 57) (Value.slice ra0 r.length rc0) rrs0]) := by
  rw [normn14] at h
  have hs100 : St [] w w [] := St.start w
  have he1001 := el0 (L0 := []) (fun b _ => out_nil b) he1
  refine enter (n := 15) Try.func61 rfl rfl rfl ?_
  refine WC.seq ?_
  refine WC.region ?_
  refine WL.new (L' := fun b102 => [blk b102 3 [Value.int .i64 p0]]) (f := fun b102 => Value.pointer (some ⟨b102, 0, none⟩)) (X.box (v := Value.int .i64 p0) (c := [Value.int .i64 p0]) (hs100.here) rfl rfl (fun _ => rfl)) rfl ?_
  intro b102 w103 ht108 he105 hz106
  have hs109 := hs100.trans ht108
  refine WL.new (L' := fun b110 => [blk b102 3 [Value.int .i64 p0], blk b110 25 [Value.slice a1 p1.length c1]]) (f := fun b110 => Value.pointer (some ⟨b110, 0, none⟩)) (X.box (v := Value.agg (List.toArray [Value.slice a1 p1.length c1])) (c := [Value.slice a1 p1.length c1]) (hs109.here) rfl rfl (fun _ => rfl)) rfl ?_
  intro b110 w111 ht116 he113 hz114
  have hs117 := hs109.trans ht116
  refine WL.new (L' := fun b118 => [blk b102 3 [Value.int .i64 p0], blk b110 25 [Value.slice a1 p1.length c1], blk b118 25 [Value.slice none 0 0]]) (f := fun b118 => Value.pointer (some ⟨b118, 0, none⟩)) (X.alloc (c := [Value.slice none 0 0]) (hs117.here) zr25 rfl (fun _ => rfl)) rfl ?_
  intro b118 w119 ht124 he121 hz122
  have hs125 := hs117.trans ht124
  refine WL.nil ?_
  refine thenN ?_
  refine WC.seq ?_
  refine WC.seq ?_
  refine WC.region ?_
  refine WL.val (R.loadL (v := Value.int .i64 p0) lf3 rfl (hs125.at (i := 0) (off := 0) (n := 1) (cs := [Value.int .i64 p0]) rfl rfl rfl)) rfl ?_
  obtain ⟨y126, hx127, h128⟩ := ob (o := may13 p0) h
  refine WL.call (may13_ok _ (In (fun _ => False) w [] [blk b102 3 [Value.int .i64 p0], blk b110 25 [Value.slice a1 p1.length c1], blk b118 25 [Value.slice none 0 0]]) p0  hx127) (R.call (vs := [Value.int .i64 p0]) (caps := []) bo108 rfl rfl) rfl ?_
  rintro v131 w132 ⟨rfl, ht129⟩
  have ht130 := hs125.call (N := [blk b102 3 [Value.int .i64 p0], blk b110 25 [Value.slice a1 p1.length c1], blk b118 25 [Value.slice none 0 0]]) (M := []) (List.Perm.refl _) ht129
  have hs133 := hs125.trans ht130
  refine WL.val (R.not (b := y126) rfl) rfl ?_
  refine WL.nil ?_
  refine thenN ?_
  by_cases hc134 : y126 = true
  · have h135 := ifT hc134 h128
    have hk136 : (!y126) = false := by simp [hc134]
    refine WC.condF (Eq.trans (show _ = Value.bool (!y126) from rfl) (congrArg Value.bool hk136)) rfl ?_
    refine WC.skip ?_
    refine thenN ?_
    refine WC.seq ?_
    refine WC.region ?_
    refine WL.val (R.loadL (v := Value.int .i64 p0) lf3 rfl (hs133.at (i := 0) (off := 0) (n := 1) (cs := [Value.int .i64 p0]) rfl rfl rfl)) rfl ?_
    refine WL.val (R.fieldAddr (o := 0) (o' := 0) fa25_0 rfl rfl) rfl ?_
    refine WL.val (R.loadL (v := Value.slice a1 p1.length c1) lf22 rfl (hs133.at (i := 1) (off := 0) (n := 1) (cs := [Value.slice a1 p1.length c1]) rfl rfl rfl)) rfl ?_
    refine WL.val (R.makeFunc (vs := []) (us := [Value.pointer (some ⟨b102, 0, none⟩)]) rfl rfl) rfl ?_
    obtain ⟨y137, hx138, h139⟩ := ob (o := filledRn14 p0 p1 p0) h135
    have hr140 := elT (((ht108.trans ht116).trans ht124).trans ht130) he1001
    refine WL.call (filledRn14_ok _ _ p0 p1 p0 _ _ hr140 hc1 b102 (In.outM (M := [blk b102 3 [Value.int .i64 p0]]) (N := [blk b110 25 [Value.slice a1 p1.length c1], blk b118 25 [Value.slice none 0 0]]) ((List.Perm.refl _))) (show St [blk b102 3 [Value.int .i64 p0]] _ _ [blk b102 3 [Value.int .i64 p0]] from St.ofM (M := [blk b102 3 [Value.int .i64 p0]]) (N := [blk b110 25 [Value.slice a1 p1.length c1], blk b118 25 [Value.slice none 0 0]]) hs133 ((List.Perm.refl _))) hx138) (R.call (vs := [Value.int .i64 p0, Value.slice a1 p1.length c1, Value.func (.func 110) #[] (List.toArray [Value.pointer (some ⟨b102, 0, none⟩)])]) (caps := []) bo109 rfl rfl) rfl ?_
    rintro v147 w148 ⟨a143, c144, rs145, rfl, hr146, ht141⟩
    have ht142 := hs133.call (N := [blk b110 25 [Value.slice a1 p1.length c1], blk b118 25 [Value.slice none 0 0]]) (M := [blk b102 3 [Value.int .i64 p0]]) ((List.Perm.refl _)) ht141
    have hs150 := hs133.trans ht142
    have hr151 := rlCN hs133 (M := [blk b102 3 [Value.int .i64 p0]]) ((List.Perm.refl _)) ht141 hr146
    have hd153 : ∀ w, (Instr.build 25 #[(0, Value.slice a143 y137.length c144)]).run Try.prog w = .ok (Value.agg (List.toArray [Value.slice a143 y137.length c144])) w := fun _ => by kernel_rfl
    refine WL.val (R.build (vs := [(0, Value.slice a143 y137.length c144)]) rfl hd153) rfl ?_
    refine WL.sto (L' := [blk b102 3 [Value.int .i64 p0], gsl 62 (rawE 57) (Value.slice a143 y137.length c144) rs145, blk b110 25 [Value.slice a1 p1.length c1], blk b118 25 [Value.slice a143 y137.length c144]]) (X.store (i := 3) (n := 1) (b := b118) (off := 0) (c := [Value.slice none 0 0]) (U := 25) (vs := [Value.slice a143 y137.length c144]) (v := Value.agg (List.toArray [Value.slice a143 y137.length c144])) (c' := [Value.slice a143 y137.length c144]) (hs150.here) rfl ag25.size rfl rfl rfl rfl rfl rfl rfl rfl) rfl rfl ?_
    intro w154 ht155
    have hs156 := hs150.trans ht155
    refine WL.nil ?_
    refine thenN ?_
    refine WC.ret ?_
    have hl157 := run_loadA (P := Try.prog) (n := 1) ag25 (hs156.at (i := 3) (off := 0) (n := 1) (cs := [Value.slice a143 y137.length c144]) rfl rfl rfl) rfl
    have ht158 := (hs156.here).perm (L' := [gsl 62 (rawE 57) (Value.slice a143 y137.length c144) rs145]) (G := [blk b102 3 [Value.int .i64 p0], blk b110 25 [Value.slice a1 p1.length c1], blk b118 25 [Value.slice a143 y137.length c144]]) (((List.perm_middle (l₁ := [blk b102 3 [Value.int .i64 p0]]) (a := gsl 62 (rawE 57) (Value.slice a143 y137.length c144) rs145) (l₂ := [blk b110 25 [Value.slice a1 p1.length c1], blk b118 25 [Value.slice a143 y137.length c144]])).trans (List.Perm.cons _ (List.Perm.refl _))))
    have hs159 := hs156.trans ht158
    have hr160 := rlT (ht155.trans ht158) hr151
    obtain rfl := Option.some.inj (show some y137 = some r from h139)
    exact retCell (P := Try.prog) (n := 15) (fn := Try.f61) (R := fun v w' => ∃ ra0, ∃ rc0, ∃ rrs0, v = Value.agg (List.toArray [Value.slice ra0 y137.length rc0]) ∧ readsL rowW w' (In (fun _ => False) w [] [gsl 62 (rawE 57) (Value.slice ra0 y137.length rc0) rrs0]) y137 rrs0 ∧ St [] w w' [gsl 62 (rawE 57) (Value.slice ra0 y137.length rc0) rrs0]) (t := 4) (v := Value.agg (List.toArray [Value.slice a143 y137.length c144])) rfl rfl rfl hl157 ⟨a143, c144, rs145, rfl, hr160, hs159⟩
  · have h161 := ifF hc134 h128
    have hk162 : (!y126) = true := by simp [hc134]
    refine WC.condT (Eq.trans (show _ = Value.bool (!y126) from rfl) (congrArg Value.bool hk162)) rfl ?_
    refine WC.seq ?_
    refine WC.region ?_
    have hd163 : ∀ w, (Instr.build 25 #[]).run Try.prog w = .ok (Value.agg (List.toArray [Value.slice none 0 0])) w := fun _ => by kernel_rfl
    refine WL.val (R.build (vs := []) rfl hd163) rfl ?_
    refine WL.sto (L' := [blk b102 3 [Value.int .i64 p0], blk b110 25 [Value.slice a1 p1.length c1], blk b118 25 [Value.slice none 0 0]]) (X.store (i := 2) (n := 1) (b := b118) (off := 0) (c := [Value.slice none 0 0]) (U := 25) (vs := [Value.slice none 0 0]) (v := Value.agg (List.toArray [Value.slice none 0 0])) (c' := [Value.slice none 0 0]) (hs133.here) rfl ag25.size rfl rfl rfl rfl rfl rfl rfl rfl) rfl rfl ?_
    intro w164 ht165
    have hs166 := hs133.trans ht165
    refine WL.nil ?_
    refine thenN ?_
    refine WC.ret ?_
    have ht167 := (hs166.here).addNil 62 (rawE 57) rfl
    have hs169 := hs166.trans ht167
    have hr170 : readsL (n := 57) rowW w164 (In (fun _ => False) w [] [blk b102 3 [Value.int .i64 p0], blk b110 25 [Value.slice a1 p1.length c1], blk b118 25 [Value.slice none 0 0], gsl 62 (rawE 57) (Value.slice none 0 0) []]) [] [] := readsL_nil
    have hl172 := run_loadA (P := Try.prog) (n := 1) ag25 (hs169.at (i := 2) (off := 0) (n := 1) (cs := [Value.slice none (([] : List Rw).length) 0]) rfl rfl rfl) rfl
    have ht173 := (hs169.here).perm (L' := [gsl 62 (rawE 57) (Value.slice none 0 0) []]) (G := [blk b102 3 [Value.int .i64 p0], blk b110 25 [Value.slice a1 p1.length c1], blk b118 25 [Value.slice none (([] : List Rw).length) 0]]) (((List.perm_middle (l₁ := [blk b102 3 [Value.int .i64 p0], blk b110 25 [Value.slice a1 p1.length c1], blk b118 25 [Value.slice none (([] : List Rw).length) 0]]) (a := gsl 62 (rawE 57) (Value.slice none 0 0) []) (l₂ := [])).trans (List.Perm.cons _ (List.Perm.refl _))))
    have hs174 := hs169.trans ht173
    have hr175 := rlT ht173 hr170
    obtain rfl := Option.some.inj (show some ([] : List Rw) = some r from h161)
    exact retCell (P := Try.prog) (n := 15) (fn := Try.f61) (R := fun v w' => ∃ ra0, ∃ rc0, ∃ rrs0, v = Value.agg (List.toArray [Value.slice ra0 ([] : List Rw).length rc0]) ∧ readsL rowW w' (In (fun _ => False) w [] [gsl 62 (rawE 57) (Value.slice ra0 ([] : List Rw).length rc0) rrs0]) ([] : List Rw) rrs0 ∧ St [] w w' [gsl 62 (rawE 57) (Value.slice ra0 ([] : List Rw).length rc0) rrs0]) (t := 4) (v := Value.agg (List.toArray [Value.slice none (([] : List Rw).length) 0])) rfl rfl rfl hl172 ⟨none, 0, [], rfl, hr175, hs174⟩

theorem equaln14_ok (w : World) (ok : Nat → Prop) (p0 : List Hd) (p1 : List Hd) (a0 : Option Addr) (c0 : Nat) (he0 : elems heldW w ok a0 p0) (hc0 : p0.length ≤ c0) (a1 : Option Addr) (c1 : Nat) (he1 : elems heldW w ok a1 p1) (hc1 : p1.length ≤ c1) {r : Bool} (h : equaln14 p0 p1 = some r) :
    Ret Try.prog 111 [Value.slice a0 p0.length c0, Value.slice a1 p1.length c1] w (fun v w' => v = Value.bool r ∧ St [] w w' []) := by
  rw [equaln14] at h
  have hs100 : St [] w w [] := St.start w
  have he1000 := el0 (L0 := []) (fun b _ => out_nil b) he0
  have he1001 := el0 (L0 := []) (fun b _ => out_nil b) he1
  refine enter (n := 26) Try.func111 rfl rfl rfl ?_
  refine WC.seq ?_
  refine WC.region ?_
  refine WL.val (R.assign (v := Value.bool false) rfl) rfl ?_
  refine WL.nil ?_
  refine thenN ?_
  refine WC.seq ?_
  refine WC.seq ?_
  refine WC.region ?_
  refine WL.val (R.move (v := Value.slice a0 p0.length c0) rfl) rfl ?_
  refine WL.val (R.len (a := a0) (n := p0.length) (c := c0) un28 rfl) rfl ?_
  refine WL.val (R.move (v := Value.slice a1 p1.length c1) rfl) rfl ?_
  refine WL.val (R.len (a := a1) (n := p1.length) (c := c1) un28 rfl) rfl ?_
  by_cases hc103 : ((p0.length : Nat) : Int) = ((p1.length : Nat) : Int)
  · have h104 := ifT hc103 h
    refine WL.val (R.neqF (k := .i64) (a := ((p0.length : Nat) : Int)) (b := ((p1.length : Nat) : Int)) un3 rfl rfl (not_not_intro hc103)) rfl ?_
    refine WL.nil ?_
    refine thenN ?_
    refine WC.condF rfl rfl ?_
    refine WC.skip ?_
    refine thenN ?_
    refine WC.seq ?_
    refine WC.seq ?_
    refine WC.region ?_
    refine WL.val (R.move (v := Value.slice a0 p0.length c0) rfl) rfl ?_
    refine WL.val (R.len (a := a0) (n := p0.length) (c := c0) un28 rfl) rfl ?_
    refine WL.val (R.move (v := Value.int .i64 0) rfl) rfl ?_
    refine WL.nil ?_
    refine thenN ?_
    obtain ⟨K193, hK194, h195⟩ := kE (G := fun K193 => equaln14_l1 p0 p1 K193 1000000 0) h104
    refine WC.join (fun σ203 w202 => K193 () = some r ∧ St [] w w202 []) ?_ ?_
    · refine WC.block ?_
      refine WC.loop (T := Nat) (fun k199 σ197 w196 => ∃ i192 : Int, σ197 0 = (Value.slice a0 p0.length c0) ∧ σ197 1 = (Value.slice a1 p1.length c1) ∧ σ197 12 = (Value.int .i64 ((p0.length : Nat) : Int)) ∧ σ197 13 = (Value.int .i64 i192) ∧ elems heldW w196 (In ok w [] []) a0 p0 ∧ elems heldW w196 (In ok w [] []) a1 p1 ∧ equaln14_l1 p0 p1 K193 k199 i192 = some r ∧ St [] w w196 []) (fun k199 => k199) 1000000 ⟨0, rfl, rfl, rfl, rfl, he1000, he1001, h195, hs100⟩ ?_
      rintro k199 σ197 w196 ⟨i192, s206, s207, s208, s209, he200, he201, h205, hs198⟩
      rcases k199 with _ | k199
      · rw [equaln14_l1] at h205; cases h205
      rw [equaln14_l1] at h205
      refine WC.seq ?_
      refine WC.region ?_
      by_cases hc210 : i192 < ((p0.length : Nat) : Int)
      · have h211 := ifT hc210 h205
        refine WL.val (R.lssT (k := .i64) (a := i192) (b := ((p0.length : Nat) : Int)) un3 (by exact s209) (by exact s208) hc210) rfl ?_
        refine WL.nil ?_
        refine thenN ?_
        refine WC.seq ?_
        refine WC.condT rfl rfl ?_
        refine WC.skip ?_
        refine thenN ?_
        refine WC.seq ?_
        refine WC.block ?_
        refine WC.seq ?_
        refine WC.region ?_
        refine WL.val (R.move (v := Value.int .i64 i192) (by exact s209)) rfl ?_
        refine WL.val (R.assign (v := Value.int .i64 i192) rfl) rfl ?_
        refine WL.nil ?_
        refine thenN ?_
        refine WC.seq ?_
        refine WC.drawE mixed (NP.then (NP.block (NP.then (NP.then (NP.block (NP.join (NP.then NP.rq))))))) ?_
        have ht212 := (hs198.here).ext (Ext.drew _)
        have hs213 := hs198.trans ht212
        refine WE.take 0 rfl (by decide +kernel) (by decide +kernel) (by decide +kernel) (by decide +kernel) rfl rfl (fun wq hq => R.move (v := Value.slice a0 p0.length c0) (by exact s206)) ?_
        refine WE.take 1 rfl (by decide +kernel) (by decide +kernel) (by decide +kernel) (by decide +kernel) rfl rfl (fun wq hq => R.move (v := Value.int .i64 i192) rfl) ?_
        obtain ⟨x214, hx215, h216⟩ := ob (o := rd p0 i192) h211
        obtain ⟨h0217, hx218, hl219, hm220⟩ := rdE hx215
        have hr221 := elT ht212 he200
        obtain ⟨ad222, e227, ha223, hp224, hat225, hrd226⟩ := hr221 _ _ hx218
        obtain ⟨-, rfl⟩ := hrd226
        refine WE.take 2 rfl (by decide +kernel) (by decide +kernel) (by decide +kernel) (by decide +kernel) rfl rfl (fun wq hq => R.indexS (n := 56) (m := (i192).toNat) (a := a0) (ad := ad222) (len := p0.length) (cap := c0) (z := i192) un28 ag60.size rfl ha223 rfl hm220 hl219 hp224) ?_
        refine WE.take 3 rfl (by decide +kernel) (by decide +kernel) (by decide +kernel) (by decide +kernel) rfl rfl (fun wq hq => R.loadA (cs := encH x214) (n := 56) ag60 rfl (At.exT hq hat225) rfl) ?_
        refine WE.take 4 rfl (by decide +kernel) (by decide +kernel) (by decide +kernel) (by decide +kernel) rfl rfl (fun wq hq => R.move (v := Value.slice a1 p1.length c1) (by exact s207)) ?_
        refine WE.take 5 rfl (by decide +kernel) (by decide +kernel) (by decide +kernel) (by decide +kernel) rfl rfl (fun wq hq => R.move (v := Value.int .i64 i192) rfl) ?_
        obtain ⟨x229, hx230, h231⟩ := ob (o := rd p1 i192) h216
        obtain ⟨h0232, hx233, hl234, hm235⟩ := rdE hx230
        have hr236 := elT ht212 he201
        obtain ⟨ad237, e242, ha238, hp239, hat240, hrd241⟩ := hr236 _ _ hx233
        obtain ⟨-, rfl⟩ := hrd241
        refine WE.take 6 rfl (by decide +kernel) (by decide +kernel) (by decide +kernel) (by decide +kernel) rfl rfl (fun wq hq => R.indexS (n := 56) (m := (i192).toNat) (a := a1) (ad := ad237) (len := p1.length) (cap := c1) (z := i192) un28 ag60.size rfl ha238 rfl hm235 hl234 hp239) ?_
        refine WE.take 7 rfl (by decide +kernel) (by decide +kernel) (by decide +kernel) (by decide +kernel) rfl rfl (fun wq hq => R.loadA (cs := encH x229) (n := 56) ag60 rfl (At.exT hq hat240) rfl) ?_
        refine WE.take 8 rfl (by decide +kernel) (by decide +kernel) (by decide +kernel) (by decide +kernel) rfl rfl (fun wq hq => R.neHeld (a := x214) (b := x229) rfl rfl) ?_
        refine WE.done (by decide +kernel) ?_
        refine thenN ?_
        by_cases hc244 : ¬ (x214 = x229)
        · have h245 := ifT hc244 h231
          refine WC.condT (Eq.trans (show _ = Value.bool (decide (¬ (x214 = x229))) from rfl) (congrArg Value.bool (decide_eq_true hc244))) rfl ?_
          refine WC.seq ?_
          refine WC.region ?_
          refine WL.val (R.assign (v := Value.bool false) rfl) rfl ?_
          refine WL.nil ?_
          refine thenN ?_
          refine WC.ret ?_
          obtain rfl := Option.some.inj (show some false = some r from h245)
          exact ret1 (P := Try.prog) (n := 26) (fn := Try.f111) (R := fun v w' => v = Value.bool false ∧ St [] w w' []) (t := 4) (v := Value.bool false) rfl rfl rfl ⟨rfl, hs213⟩
        · have h246 := ifF hc244 h231
          refine WC.condF (Eq.trans (show _ = Value.bool (decide (¬ (x214 = x229))) from rfl) (congrArg Value.bool (decide_eq_false hc244))) rfl ?_
          refine WC.skip ?_
          refine blockN ?_
          refine thenN ?_
          refine WC.region ?_
          obtain ⟨hg247, h248⟩ := ckE (c := -9223372036854775808 ≤ i192 + 1 ∧ i192 + 1 ≤ 9223372036854775807) h246
          refine WL.val (R.add (a := i192) (b := 1) (z := i192 + 1) (by exact s209) rfl (w64e rfl hg247.1 hg247.2)) rfl ?_
          refine WL.val (R.move (v := Value.int .i64 (i192 + 1)) rfl) rfl ?_
          refine WL.nil ?_
          exact roundEnd (s := k199) ⟨i192 + 1, s206, s207, s208, rfl, hr221, hr236, h248, hs213⟩ (Nat.lt_succ_self _)
      · have h249 := ifF hc210 h205
        refine WL.val (R.lssF (k := .i64) (a := i192) (b := ((p0.length : Nat) : Int)) un3 (by exact s209) (by exact s208) hc210) rfl ?_
        refine WL.nil ?_
        refine thenN ?_
        refine WC.seq ?_
        refine WC.condF rfl rfl ?_
        refine WC.exit ?_
        refine thenE ?_
        refine thenE ?_
        refine blockHit ?_
        exact joinI ⟨h249, hs198⟩
    · rintro σ203 w202 ⟨h250, hs204⟩
      subst hK194
      refine thenN ?_
      refine WC.seq ?_
      refine WC.region ?_
      refine WL.val (R.assign (v := Value.bool true) rfl) rfl ?_
      refine WL.nil ?_
      refine thenN ?_
      refine WC.ret ?_
      obtain rfl := Option.some.inj (show some true = some r from h250)
      exact ret1 (P := Try.prog) (n := 26) (fn := Try.f111) (R := fun v w' => v = Value.bool true ∧ St [] w w' []) (t := 4) (v := Value.bool true) rfl rfl rfl ⟨rfl, hs204⟩
  · have h251 := ifF hc103 h
    refine WL.val (R.neqT (k := .i64) (a := ((p0.length : Nat) : Int)) (b := ((p1.length : Nat) : Int)) un3 rfl rfl hc103) rfl ?_
    refine WL.nil ?_
    refine thenN ?_
    refine WC.condT rfl rfl ?_
    refine WC.seq ?_
    refine WC.region ?_
    refine WL.val (R.assign (v := Value.bool false) rfl) rfl ?_
    refine WL.nil ?_
    refine thenN ?_
    refine WC.ret ?_
    obtain rfl := Option.some.inj (show some false = some r from h251)
    exact ret1 (P := Try.prog) (n := 26) (fn := Try.f111) (R := fun v w' => v = Value.bool false ∧ St [] w w' []) (t := 4) (v := Value.bool false) rfl rfl rfl ⟨rfl, hs100⟩

theorem samen14_ok (w : World) (ok : Nat → Prop) (p0 : Rw) (p1 : Rw) (a0 : Option Addr) (c0 : Nat) (he0 : elems heldW w ok a0 p0.table) (hc0 : p0.table.length ≤ c0) (a1 : Option Addr) (c1 : Nat) (he1 : elems heldW w ok a1 p1.table) (hc1 : p1.table.length ≤ c1) {r : Bool} (h : samen14 p0 p1 = some r) :
    Ret Try.prog 65 [Value.agg (List.toArray (encR p0 (Value.slice a0 p0.table.length c0))), Value.agg (List.toArray (encR p1 (Value.slice a1 p1.table.length c1)))] w (fun v w' => v = Value.bool r ∧ St [] w w' []) := by
  rw [samen14] at h
  have hs100 : St [] w w [] := St.start w
  have he1000 := el0 (L0 := []) (fun b _ => out_nil b) he0
  have he1001 := el0 (L0 := []) (fun b _ => out_nil b) he1
  refine enter (n := 24) Try.func65 rfl rfl rfl ?_
  refine WC.seq ?_
  refine WC.region ?_
  refine WL.new (L' := fun b103 => [blk b103 62 (encR p0 (Value.slice a0 p0.table.length c0))]) (f := fun b103 => Value.pointer (some ⟨b103, 0, none⟩)) (X.box (v := Value.agg (List.toArray (encR p0 (Value.slice a0 p0.table.length c0)))) (c := encR p0 (Value.slice a0 p0.table.length c0)) (hs100.here) rfl rfl (fun _ => rfl)) rfl ?_
  intro b103 w104 ht109 he106 hz107
  have hs110 := hs100.trans ht109
  refine WL.new (L' := fun b111 => [blk b103 62 (encR p0 (Value.slice a0 p0.table.length c0)), blk b111 62 (encR p1 (Value.slice a1 p1.table.length c1))]) (f := fun b111 => Value.pointer (some ⟨b111, 0, none⟩)) (X.box (v := Value.agg (List.toArray (encR p1 (Value.slice a1 p1.table.length c1)))) (c := encR p1 (Value.slice a1 p1.table.length c1)) (hs110.here) rfl rfl (fun _ => rfl)) rfl ?_
  intro b111 w112 ht117 he114 hz115
  have hs118 := hs110.trans ht117
  refine WL.val (R.assign (v := Value.bool false) rfl) rfl ?_
  refine WL.nil ?_
  refine thenN ?_
  refine WC.seq ?_
  refine WC.region ?_
  refine WL.val (R.fieldAddr (o := 0) (o' := 0) fa62_0 rfl rfl) rfl ?_
  refine WL.val (R.loadL (v := Value.bool p0.is) lf4 rfl (hs118.at (i := 0) (off := 0) (n := 1) (cs := [Value.bool p0.is]) rfl rfl rfl)) rfl ?_
  refine WL.val (R.fieldAddr (o := 0) (o' := 0) fa62_0 rfl rfl) rfl ?_
  refine WL.val (R.loadL (v := Value.bool p1.is) lf4 rfl (hs118.at (i := 1) (off := 0) (n := 1) (cs := [Value.bool p1.is]) rfl rfl rfl)) rfl ?_
  by_cases hc119 : p0.is = true
  · have h120 := ifT hc119 h
    by_cases hc121 : p1.is = true
    · have h122 := ifT hc121 h120
      refine WL.val (R.eqB (a := true) (b := true) un4 (Eq.trans (show _ = Value.bool p0.is from rfl) (congrArg Value.bool hc119)) (Eq.trans (show _ = Value.bool p1.is from rfl) (congrArg Value.bool hc121))) rfl ?_
      refine WL.val (R.move (v := Value.bool true) rfl) rfl ?_
      refine WL.guardY (e := 10) rfl rfl rfl ?_
      refine WL.val (R.fieldAddr (o := 0) (o' := 1) fa62_1 rfl rfl) rfl ?_
      refine WL.guardY (e := 10) rfl rfl rfl ?_
      refine WL.val (R.loadA (cs := encC p0.cell) (n := 55) ag58 rfl (hs118.at (i := 0) (off := 1) (n := 55) (cs := encC p0.cell) rfl rfl rfl) rfl) rfl ?_
      refine WL.guardY (e := 10) rfl rfl rfl ?_
      refine WL.val (R.fieldAddr (o := 0) (o' := 1) fa62_1 rfl rfl) rfl ?_
      refine WL.guardY (e := 10) rfl rfl rfl ?_
      refine WL.val (R.loadA (cs := encC p1.cell) (n := 55) ag58 rfl (hs118.at (i := 1) (off := 1) (n := 55) (cs := encC p1.cell) rfl rfl rfl) rfl) rfl ?_
      refine WL.guardY (e := 10) rfl rfl rfl ?_
      refine WL.val (R.eqCell (a := p0.cell) (b := p1.cell) rfl rfl) rfl ?_
      refine WL.val (R.pickT (v := Value.bool (decide (p0.cell = p1.cell))) rfl rfl) rfl ?_
      refine WL.val (R.move (v := Value.bool (decide (p0.cell = p1.cell))) rfl) rfl ?_
      by_cases hc123 : p0.cell = p1.cell
      · have h124 := ifT hc123 h122
        refine WL.guardY (e := 17) (Eq.trans (show _ = Value.bool (decide (p0.cell = p1.cell)) from rfl) (congrArg Value.bool (decide_eq_true hc123))) rfl rfl ?_
        refine WL.val (R.fieldAddr (o := 0) (o' := 56) fa62_2 rfl rfl) rfl ?_
        refine WL.guardY (e := 17) (Eq.trans (show _ = Value.bool (decide (p0.cell = p1.cell)) from rfl) (congrArg Value.bool (decide_eq_true hc123))) rfl rfl ?_
        refine WL.val (R.loadL (v := Value.slice a0 p0.table.length c0) lf28 rfl (hs118.at (i := 0) (off := 56) (n := 1) (cs := [Value.slice a0 p0.table.length c0]) rfl rfl rfl)) rfl ?_
        refine WL.guardY (e := 17) (Eq.trans (show _ = Value.bool (decide (p0.cell = p1.cell)) from rfl) (congrArg Value.bool (decide_eq_true hc123))) rfl rfl ?_
        refine WL.val (R.fieldAddr (o := 0) (o' := 56) fa62_2 rfl rfl) rfl ?_
        refine WL.guardY (e := 17) (Eq.trans (show _ = Value.bool (decide (p0.cell = p1.cell)) from rfl) (congrArg Value.bool (decide_eq_true hc123))) rfl rfl ?_
        refine WL.val (R.loadL (v := Value.slice a1 p1.table.length c1) lf28 rfl (hs118.at (i := 1) (off := 56) (n := 1) (cs := [Value.slice a1 p1.table.length c1]) rfl rfl rfl)) rfl ?_
        refine WL.guardY (e := 17) (Eq.trans (show _ = Value.bool (decide (p0.cell = p1.cell)) from rfl) (congrArg Value.bool (decide_eq_true hc123))) rfl rfl ?_
        obtain ⟨y125, hx126, h127⟩ := ob (o := equaln14 p0.table p1.table) h124
        have hr128 := elT (ht109.trans ht117) he1000
        have hr129 := elT (ht109.trans ht117) he1001
        refine WL.call (equaln14_ok _ _ p0.table p1.table _ _ hr128 hc0 _ _ hr129 hc1 hx126) (R.call (vs := [Value.slice a0 p0.table.length c0, Value.slice a1 p1.table.length c1]) (caps := []) bo111 rfl rfl) rfl ?_
        rintro v132 w133 ⟨rfl, ht130⟩
        have ht131 := hs118.call (N := [blk b103 62 (encR p0 (Value.slice a0 p0.table.length c0)), blk b111 62 (encR p1 (Value.slice a1 p1.table.length c1))]) (M := []) (List.Perm.refl _) ht130
        have hs134 := hs118.trans ht131
        refine WL.val (R.pickT (v := Value.bool y125) (Eq.trans (show _ = Value.bool (decide (p0.cell = p1.cell)) from rfl) (congrArg Value.bool (decide_eq_true hc123))) rfl) rfl ?_
        refine WL.val (R.assign (v := Value.bool y125) rfl) rfl ?_
        refine WL.nil ?_
        refine thenN ?_
        refine WC.ret ?_
        have ht135 := (hs134.here).perm (L' := []) (G := [blk b103 62 (encR p0 (Value.slice a0 p0.table.length c0)), blk b111 62 (encR p1 (Value.slice a1 p1.table.length c1))]) ((List.Perm.refl _))
        have hs136 := hs134.trans ht135
        obtain rfl := Option.some.inj (show some y125 = some r from h127)
        exact ret1 (P := Try.prog) (n := 24) (fn := Try.f65) (R := fun v w' => v = Value.bool y125 ∧ St [] w w' []) (t := 4) (v := Value.bool y125) rfl rfl rfl ⟨rfl, hs136⟩
      · have h137 := ifF hc123 h122
        refine WL.guardN (e := 17) (v := .bool false) (Eq.trans (show _ = Value.bool (decide (p0.cell = p1.cell)) from rfl) (congrArg Value.bool (decide_eq_false hc123))) rfl rfl rfl ?_
        refine WL.guardN (e := 17) (v := .bool false) (Eq.trans (show _ = Value.bool (decide (p0.cell = p1.cell)) from rfl) (congrArg Value.bool (decide_eq_false hc123))) rfl rfl rfl ?_
        refine WL.guardN (e := 17) (v := .bool false) (Eq.trans (show _ = Value.bool (decide (p0.cell = p1.cell)) from rfl) (congrArg Value.bool (decide_eq_false hc123))) rfl rfl rfl ?_
        refine WL.guardN (e := 17) (v := .bool false) (Eq.trans (show _ = Value.bool (decide (p0.cell = p1.cell)) from rfl) (congrArg Value.bool (decide_eq_false hc123))) rfl rfl rfl ?_
        refine WL.guardN (e := 17) (v := .bool false) (Eq.trans (show _ = Value.bool (decide (p0.cell = p1.cell)) from rfl) (congrArg Value.bool (decide_eq_false hc123))) rfl rfl rfl ?_
        refine WL.val (R.pickF (v := Value.bool false) (Eq.trans (show _ = Value.bool (decide (p0.cell = p1.cell)) from rfl) (congrArg Value.bool (decide_eq_false hc123))) rfl) rfl ?_
        refine WL.val (R.assign (v := Value.bool false) rfl) rfl ?_
        refine WL.nil ?_
        refine thenN ?_
        refine WC.ret ?_
        have ht138 := (hs118.here).perm (L' := []) (G := [blk b103 62 (encR p0 (Value.slice a0 p0.table.length c0)), blk b111 62 (encR p1 (Value.slice a1 p1.table.length c1))]) ((List.Perm.refl _))
        have hs139 := hs118.trans ht138
        obtain rfl := Option.some.inj (show some false = some r from h137)
        exact ret1 (P := Try.prog) (n := 24) (fn := Try.f65) (R := fun v w' => v = Value.bool false ∧ St [] w w' []) (t := 4) (v := Value.bool false) rfl rfl rfl ⟨rfl, hs139⟩
    · have h140 := ifF hc121 h120
      refine WL.val (R.eqB (a := true) (b := false) un4 (Eq.trans (show _ = Value.bool p0.is from rfl) (congrArg Value.bool hc119)) (Eq.trans (show _ = Value.bool p1.is from rfl) (congrArg Value.bool (Bool.eq_false_iff.2 hc121)))) rfl ?_
      refine WL.val (R.move (v := Value.bool false) rfl) rfl ?_
      refine WL.guardN (e := 10) (v := .bool false) rfl rfl rfl rfl ?_
      refine WL.guardN (e := 10) (v := .bool false) rfl rfl rfl rfl ?_
      refine WL.guardN (e := 10) (v := .bool false) rfl rfl rfl rfl ?_
      refine WL.guardN (e := 10) (v := .bool false) rfl rfl rfl rfl ?_
      refine WL.guardN (e := 10) (v := .bool false) rfl rfl rfl rfl ?_
      refine WL.val (R.pickF (v := Value.bool false) rfl rfl) rfl ?_
      refine WL.val (R.move (v := Value.bool false) rfl) rfl ?_
      refine WL.guardN (e := 17) (v := .bool false) rfl rfl rfl rfl ?_
      refine WL.guardN (e := 17) (v := .bool false) rfl rfl rfl rfl ?_
      refine WL.guardN (e := 17) (v := .bool false) rfl rfl rfl rfl ?_
      refine WL.guardN (e := 17) (v := .bool false) rfl rfl rfl rfl ?_
      refine WL.guardN (e := 17) (v := .bool false) rfl rfl rfl rfl ?_
      refine WL.val (R.pickF (v := Value.bool false) rfl rfl) rfl ?_
      refine WL.val (R.assign (v := Value.bool false) rfl) rfl ?_
      refine WL.nil ?_
      refine thenN ?_
      refine WC.ret ?_
      have ht141 := (hs118.here).perm (L' := []) (G := [blk b103 62 (encR p0 (Value.slice a0 p0.table.length c0)), blk b111 62 (encR p1 (Value.slice a1 p1.table.length c1))]) ((List.Perm.refl _))
      have hs142 := hs118.trans ht141
      obtain rfl := Option.some.inj (show some false = some r from h140)
      exact ret1 (P := Try.prog) (n := 24) (fn := Try.f65) (R := fun v w' => v = Value.bool false ∧ St [] w w' []) (t := 4) (v := Value.bool false) rfl rfl rfl ⟨rfl, hs142⟩
  · have h143 := ifF hc119 h
    by_cases hc144 : p1.is = true
    · have h145 := ifT hc144 h143
      refine WL.val (R.eqB (a := false) (b := true) un4 (Eq.trans (show _ = Value.bool p0.is from rfl) (congrArg Value.bool (Bool.eq_false_iff.2 hc119))) (Eq.trans (show _ = Value.bool p1.is from rfl) (congrArg Value.bool hc144))) rfl ?_
      refine WL.val (R.move (v := Value.bool false) rfl) rfl ?_
      refine WL.guardN (e := 10) (v := .bool false) rfl rfl rfl rfl ?_
      refine WL.guardN (e := 10) (v := .bool false) rfl rfl rfl rfl ?_
      refine WL.guardN (e := 10) (v := .bool false) rfl rfl rfl rfl ?_
      refine WL.guardN (e := 10) (v := .bool false) rfl rfl rfl rfl ?_
      refine WL.guardN (e := 10) (v := .bool false) rfl rfl rfl rfl ?_
      refine WL.val (R.pickF (v := Value.bool false) rfl rfl) rfl ?_
      refine WL.val (R.move (v := Value.bool false) rfl) rfl ?_
      refine WL.guardN (e := 17) (v := .bool false) rfl rfl rfl rfl ?_
      refine WL.guardN (e := 17) (v := .bool false) rfl rfl rfl rfl ?_
      refine WL.guardN (e := 17) (v := .bool false) rfl rfl rfl rfl ?_
      refine WL.guardN (e := 17) (v := .bool false) rfl rfl rfl rfl ?_
      refine WL.guardN (e := 17) (v := .bool false) rfl rfl rfl rfl ?_
      refine WL.val (R.pickF (v := Value.bool false) rfl rfl) rfl ?_
      refine WL.val (R.assign (v := Value.bool false) rfl) rfl ?_
      refine WL.nil ?_
      refine thenN ?_
      refine WC.ret ?_
      have ht146 := (hs118.here).perm (L' := []) (G := [blk b103 62 (encR p0 (Value.slice a0 p0.table.length c0)), blk b111 62 (encR p1 (Value.slice a1 p1.table.length c1))]) ((List.Perm.refl _))
      have hs147 := hs118.trans ht146
      obtain rfl := Option.some.inj (show some false = some r from h145)
      exact ret1 (P := Try.prog) (n := 24) (fn := Try.f65) (R := fun v w' => v = Value.bool false ∧ St [] w w' []) (t := 4) (v := Value.bool false) rfl rfl rfl ⟨rfl, hs147⟩
    · have h148 := ifF hc144 h143
      refine WL.val (R.eqB (a := false) (b := false) un4 (Eq.trans (show _ = Value.bool p0.is from rfl) (congrArg Value.bool (Bool.eq_false_iff.2 hc119))) (Eq.trans (show _ = Value.bool p1.is from rfl) (congrArg Value.bool (Bool.eq_false_iff.2 hc144)))) rfl ?_
      refine WL.val (R.move (v := Value.bool true) rfl) rfl ?_
      refine WL.guardY (e := 10) rfl rfl rfl ?_
      refine WL.val (R.fieldAddr (o := 0) (o' := 1) fa62_1 rfl rfl) rfl ?_
      refine WL.guardY (e := 10) rfl rfl rfl ?_
      refine WL.val (R.loadA (cs := encC p0.cell) (n := 55) ag58 rfl (hs118.at (i := 0) (off := 1) (n := 55) (cs := encC p0.cell) rfl rfl rfl) rfl) rfl ?_
      refine WL.guardY (e := 10) rfl rfl rfl ?_
      refine WL.val (R.fieldAddr (o := 0) (o' := 1) fa62_1 rfl rfl) rfl ?_
      refine WL.guardY (e := 10) rfl rfl rfl ?_
      refine WL.val (R.loadA (cs := encC p1.cell) (n := 55) ag58 rfl (hs118.at (i := 1) (off := 1) (n := 55) (cs := encC p1.cell) rfl rfl rfl) rfl) rfl ?_
      refine WL.guardY (e := 10) rfl rfl rfl ?_
      refine WL.val (R.eqCell (a := p0.cell) (b := p1.cell) rfl rfl) rfl ?_
      refine WL.val (R.pickT (v := Value.bool (decide (p0.cell = p1.cell))) rfl rfl) rfl ?_
      refine WL.val (R.move (v := Value.bool (decide (p0.cell = p1.cell))) rfl) rfl ?_
      by_cases hc149 : p0.cell = p1.cell
      · have h150 := ifT hc149 h148
        refine WL.guardY (e := 17) (Eq.trans (show _ = Value.bool (decide (p0.cell = p1.cell)) from rfl) (congrArg Value.bool (decide_eq_true hc149))) rfl rfl ?_
        refine WL.val (R.fieldAddr (o := 0) (o' := 56) fa62_2 rfl rfl) rfl ?_
        refine WL.guardY (e := 17) (Eq.trans (show _ = Value.bool (decide (p0.cell = p1.cell)) from rfl) (congrArg Value.bool (decide_eq_true hc149))) rfl rfl ?_
        refine WL.val (R.loadL (v := Value.slice a0 p0.table.length c0) lf28 rfl (hs118.at (i := 0) (off := 56) (n := 1) (cs := [Value.slice a0 p0.table.length c0]) rfl rfl rfl)) rfl ?_
        refine WL.guardY (e := 17) (Eq.trans (show _ = Value.bool (decide (p0.cell = p1.cell)) from rfl) (congrArg Value.bool (decide_eq_true hc149))) rfl rfl ?_
        refine WL.val (R.fieldAddr (o := 0) (o' := 56) fa62_2 rfl rfl) rfl ?_
        refine WL.guardY (e := 17) (Eq.trans (show _ = Value.bool (decide (p0.cell = p1.cell)) from rfl) (congrArg Value.bool (decide_eq_true hc149))) rfl rfl ?_
        refine WL.val (R.loadL (v := Value.slice a1 p1.table.length c1) lf28 rfl (hs118.at (i := 1) (off := 56) (n := 1) (cs := [Value.slice a1 p1.table.length c1]) rfl rfl rfl)) rfl ?_
        refine WL.guardY (e := 17) (Eq.trans (show _ = Value.bool (decide (p0.cell = p1.cell)) from rfl) (congrArg Value.bool (decide_eq_true hc149))) rfl rfl ?_
        obtain ⟨y151, hx152, h153⟩ := ob (o := equaln14 p0.table p1.table) h150
        have hr154 := elT (ht109.trans ht117) he1000
        have hr155 := elT (ht109.trans ht117) he1001
        refine WL.call (equaln14_ok _ _ p0.table p1.table _ _ hr154 hc0 _ _ hr155 hc1 hx152) (R.call (vs := [Value.slice a0 p0.table.length c0, Value.slice a1 p1.table.length c1]) (caps := []) bo111 rfl rfl) rfl ?_
        rintro v158 w159 ⟨rfl, ht156⟩
        have ht157 := hs118.call (N := [blk b103 62 (encR p0 (Value.slice a0 p0.table.length c0)), blk b111 62 (encR p1 (Value.slice a1 p1.table.length c1))]) (M := []) (List.Perm.refl _) ht156
        have hs160 := hs118.trans ht157
        refine WL.val (R.pickT (v := Value.bool y151) (Eq.trans (show _ = Value.bool (decide (p0.cell = p1.cell)) from rfl) (congrArg Value.bool (decide_eq_true hc149))) rfl) rfl ?_
        refine WL.val (R.assign (v := Value.bool y151) rfl) rfl ?_
        refine WL.nil ?_
        refine thenN ?_
        refine WC.ret ?_
        have ht161 := (hs160.here).perm (L' := []) (G := [blk b103 62 (encR p0 (Value.slice a0 p0.table.length c0)), blk b111 62 (encR p1 (Value.slice a1 p1.table.length c1))]) ((List.Perm.refl _))
        have hs162 := hs160.trans ht161
        obtain rfl := Option.some.inj (show some y151 = some r from h153)
        exact ret1 (P := Try.prog) (n := 24) (fn := Try.f65) (R := fun v w' => v = Value.bool y151 ∧ St [] w w' []) (t := 4) (v := Value.bool y151) rfl rfl rfl ⟨rfl, hs162⟩
      · have h163 := ifF hc149 h148
        refine WL.guardN (e := 17) (v := .bool false) (Eq.trans (show _ = Value.bool (decide (p0.cell = p1.cell)) from rfl) (congrArg Value.bool (decide_eq_false hc149))) rfl rfl rfl ?_
        refine WL.guardN (e := 17) (v := .bool false) (Eq.trans (show _ = Value.bool (decide (p0.cell = p1.cell)) from rfl) (congrArg Value.bool (decide_eq_false hc149))) rfl rfl rfl ?_
        refine WL.guardN (e := 17) (v := .bool false) (Eq.trans (show _ = Value.bool (decide (p0.cell = p1.cell)) from rfl) (congrArg Value.bool (decide_eq_false hc149))) rfl rfl rfl ?_
        refine WL.guardN (e := 17) (v := .bool false) (Eq.trans (show _ = Value.bool (decide (p0.cell = p1.cell)) from rfl) (congrArg Value.bool (decide_eq_false hc149))) rfl rfl rfl ?_
        refine WL.guardN (e := 17) (v := .bool false) (Eq.trans (show _ = Value.bool (decide (p0.cell = p1.cell)) from rfl) (congrArg Value.bool (decide_eq_false hc149))) rfl rfl rfl ?_
        refine WL.val (R.pickF (v := Value.bool false) (Eq.trans (show _ = Value.bool (decide (p0.cell = p1.cell)) from rfl) (congrArg Value.bool (decide_eq_false hc149))) rfl) rfl ?_
        refine WL.val (R.assign (v := Value.bool false) rfl) rfl ?_
        refine WL.nil ?_
        refine thenN ?_
        refine WC.ret ?_
        have ht164 := (hs118.here).perm (L' := []) (G := [blk b103 62 (encR p0 (Value.slice a0 p0.table.length c0)), blk b111 62 (encR p1 (Value.slice a1 p1.table.length c1))]) ((List.Perm.refl _))
        have hs165 := hs118.trans ht164
        obtain rfl := Option.some.inj (show some false = some r from h163)
        exact ret1 (P := Try.prog) (n := 24) (fn := Try.f65) (R := fun v w' => v = Value.bool false ∧ St [] w w' []) (t := 4) (v := Value.bool false) rfl rfl rfl ⟨rfl, hs165⟩

theorem greatn14_ok (w : World) (ok : Nat → Prop) (p0 : (List Rw)) (a0 : Option Addr) (c0 : Nat) (he0 : elems rowW w ok a0 p0) (hc0 : p0.length ≤ c0) {r : Bool} (h : greatn14 p0 = some r) :
    Ret Try.prog 30 [Value.agg (List.toArray [Value.slice a0 p0.length c0])] w (fun v w' => v = Value.bool r ∧ St [] w w' []) := by
  rw [greatn14] at h
  have hs100 : St [] w w [] := St.start w
  have he1000 := el0 (L0 := []) (fun b _ => out_nil b) he0
  refine enter (n := 30) Try.func30 rfl rfl rfl ?_
  refine WC.seq ?_
  refine WC.region ?_
  refine WL.new (L' := fun b102 => [blk b102 25 [Value.slice a0 p0.length c0]]) (f := fun b102 => Value.pointer (some ⟨b102, 0, none⟩)) (X.box (v := Value.agg (List.toArray [Value.slice a0 p0.length c0])) (c := [Value.slice a0 p0.length c0]) (hs100.here) rfl rfl (fun _ => rfl)) rfl ?_
  intro b102 w103 ht108 he105 hz106
  have hs109 := hs100.trans ht108
  refine WL.val (R.assign (v := Value.bool false) rfl) rfl ?_
  refine WL.nil ?_
  refine thenN ?_
  refine WC.seq ?_
  refine WC.region ?_
  refine WL.val (R.fieldAddr (o := 0) (o' := 0) fa25_0 rfl rfl) rfl ?_
  refine WL.val (R.loadL (v := Value.slice a0 p0.length c0) lf22 rfl (hs109.at (i := 0) (off := 0) (n := 1) (cs := [Value.slice a0 p0.length c0]) rfl rfl rfl)) rfl ?_
  refine WL.val (R.len (a := a0) (n := p0.length) (c := c0) un22 rfl) rfl ?_
  refine WL.val (R.assign (v := Value.int .i64 ((p0.length : Nat) : Int)) rfl) rfl ?_
  refine WL.nil ?_
  refine thenN ?_
  refine WC.seq ?_
  refine WC.seq ?_
  refine WC.region ?_
  refine WL.val (R.assign (v := Value.int .i64 0) rfl) rfl ?_
  refine WL.nil ?_
  refine thenN ?_
  have hr187 := elT ht108 he1000
  obtain ⟨K179, hK180, h181⟩ := kE (G := fun K179 => greatn14_l1 p0 K179 1000000 ((p0.length : Nat) : Int) 0) h
  refine WC.join (fun σ189 w188 => ∃ i178 : Int, σ189 3 = (Value.int .i64 i178) ∧ K179 i178 = some r ∧ St [] w w188 []) ?_ ?_
  · refine WC.block ?_
    refine WC.loop (T := Nat) (fun k185 σ183 w182 => ∃ i176 : Int, ∃ i177 : Int, σ183 1 = (Value.pointer (some ⟨b102, 0, none⟩)) ∧ σ183 3 = (Value.int .i64 i176) ∧ σ183 4 = (Value.int .i64 i177) ∧ elems rowW w182 (In ok w [] [blk b102 25 [Value.slice a0 p0.length c0]]) a0 p0 ∧ greatn14_l1 p0 K179 k185 i176 i177 = some r ∧ St [] w w182 [blk b102 25 [Value.slice a0 p0.length c0]]) (fun k185 => k185) 1000000 ⟨((p0.length : Nat) : Int), 0, rfl, rfl, rfl, hr187, h181, hs109⟩ ?_
    rintro k185 σ183 w182 ⟨i176, i177, s192, s193, s194, he186, h191, hs184⟩
    rcases k185 with _ | k185
    · rw [greatn14_l1] at h191; cases h191
    rw [greatn14_l1] at h191
    refine WC.seq ?_
    refine WC.seq ?_
    refine WC.region ?_
    refine WL.val (R.move (v := Value.int .i64 i177) (by exact s194)) rfl ?_
    refine WL.val (R.fieldAddr (o := 0) (o' := 0) fa25_0 (by exact s192) rfl) rfl ?_
    refine WL.val (R.loadL (v := Value.slice a0 p0.length c0) lf22 rfl (hs184.at (i := 0) (off := 0) (n := 1) (cs := [Value.slice a0 p0.length c0]) rfl rfl rfl)) rfl ?_
    refine WL.val (R.len (a := a0) (n := p0.length) (c := c0) un22 rfl) rfl ?_
    by_cases hc195 : i177 < ((p0.length : Nat) : Int)
    · have h196 := ifT hc195 h191
      refine WL.val (R.lssT (k := .i64) (a := i177) (b := ((p0.length : Nat) : Int)) un3 rfl rfl hc195) rfl ?_
      refine WL.val (R.move (v := Value.bool true) rfl) rfl ?_
      refine WL.guardY (e := 13) rfl rfl rfl ?_
      refine WL.val (R.move (v := Value.int .i64 i176) (by exact s193)) rfl ?_
      refine WL.guardY (e := 13) rfl rfl rfl ?_
      by_cases hc197 : i176 < 900
      · have h198 := ifT hc197 h196
        refine WL.val (R.lssT (k := .i64) (a := i176) (b := 900) un3 rfl rfl hc197) rfl ?_
        refine WL.val (R.pickT (v := Value.bool true) rfl rfl) rfl ?_
        refine WL.nil ?_
        refine thenN ?_
        refine WC.condT rfl rfl ?_
        refine WC.skip ?_
        refine thenN ?_
        refine WC.seq ?_
        refine WC.block ?_
        refine WC.region ?_
        refine WL.val (R.move (v := Value.int .i64 i176) (by exact s193)) rfl ?_
        refine WL.val (R.fieldAddr (o := 0) (o' := 0) fa25_0 (by exact s192) rfl) rfl ?_
        refine WL.val (R.loadL (v := Value.slice a0 p0.length c0) lf22 rfl (hs184.at (i := 0) (off := 0) (n := 1) (cs := [Value.slice a0 p0.length c0]) rfl rfl rfl)) rfl ?_
        refine WL.val (R.move (v := Value.int .i64 i177) (by exact s194)) rfl ?_
        obtain ⟨x199, hx200, h201⟩ := ob (o := rd p0 i177) h198
        obtain ⟨h0202, hx203, hl204, hm205⟩ := rdE hx200
        obtain ⟨ad206, e211, ha207, hp208, hat209, hrd210⟩ := he186 _ _ hx203
        obtain ⟨t212, rfl, a214, c215, he218, hl216, he217⟩ := hrd210
        cases he218
        refine WL.val (R.indexS (n := 57) (m := (i177).toNat) (a := a0) (ad := ad206) (len := p0.length) (cap := c0) (z := i177) un22 ag62.size rfl ha207 rfl hm205 hl204 hp208) rfl ?_
        refine WL.val (R.fieldAddr (o := ad206.off + (i177).toNat * 57) (o' := ad206.off + (i177).toNat * 57 + 56) fa62_2 rfl rfl) rfl ?_
        refine WL.val (R.loadL (v := Value.slice a214 x199.table.length c215) lf28 rfl (At.sub (a := ⟨ad206.block, ad206.off + (i177).toNat * 57, none⟩) (off := 56) (n := 1) (cs := encR x199 (Value.slice a214 x199.table.length c215)) (ds := [Value.slice a214 x199.table.length c215]) hat209 rfl rfl)) rfl ?_
        refine WL.val (R.len (a := a214) (n := x199.table.length) (c := c215) un28 rfl) rfl ?_
        refine WL.val (R.add (a := i176) (b := ((x199.table.length : Nat) : Int)) (z := IntKind.wrap .i64 (i176 + ((x199.table.length : Nat) : Int))) rfl rfl (rfl)) rfl ?_
        refine WL.val (R.assign (v := Value.int .i64 (IntKind.wrap .i64 (i176 + ((x199.table.length : Nat) : Int)))) rfl) rfl ?_
        refine WL.nil ?_
        refine blockN ?_
        refine thenN ?_
        refine WC.region ?_
        refine WL.val (R.move (v := Value.int .i64 i177) (by exact s194)) rfl ?_
        obtain ⟨hg221, h222⟩ := ckE (c := -9223372036854775808 ≤ i177 + 1 ∧ i177 + 1 ≤ 9223372036854775807) h201
        refine WL.val (R.add (a := i177) (b := 1) (z := i177 + 1) rfl rfl (w64e rfl hg221.1 hg221.2)) rfl ?_
        refine WL.val (R.assign (v := Value.int .i64 (i177 + 1)) rfl) rfl ?_
        refine WL.nil ?_
        exact roundEnd (s := k185) ⟨IntKind.wrap .i64 (i176 + ((x199.table.length : Nat) : Int)), i177 + 1, s192, rfl, rfl, he186, h222, hs184⟩ (Nat.lt_succ_self _)
      · have h223 := ifF hc197 h196
        refine WL.val (R.lssF (k := .i64) (a := i176) (b := 900) un3 rfl rfl hc197) rfl ?_
        refine WL.val (R.pickT (v := Value.bool false) rfl rfl) rfl ?_
        refine WL.nil ?_
        refine thenN ?_
        refine WC.condF rfl rfl ?_
        refine WC.exit ?_
        refine thenE ?_
        refine thenE ?_
        refine blockHit ?_
        have ht224 := (hs184.here).perm (L' := []) (G := [blk b102 25 [Value.slice a0 p0.length c0]]) ((List.Perm.refl _))
        have hs225 := hs184.trans ht224
        exact joinI ⟨i176, s193, h223, hs225⟩
    · have h226 := ifF hc195 h191
      refine WL.val (R.lssF (k := .i64) (a := i177) (b := ((p0.length : Nat) : Int)) un3 rfl rfl hc195) rfl ?_
      refine WL.val (R.move (v := Value.bool false) rfl) rfl ?_
      refine WL.guardN (e := 13) (v := .bool false) rfl rfl rfl rfl ?_
      refine WL.guardN (e := 13) (v := .bool false) rfl rfl rfl rfl ?_
      refine WL.val (R.pickF (v := Value.bool false) rfl rfl) rfl ?_
      refine WL.nil ?_
      refine thenN ?_
      refine WC.condF rfl rfl ?_
      refine WC.exit ?_
      refine thenE ?_
      refine thenE ?_
      refine blockHit ?_
      have ht227 := (hs184.here).perm (L' := []) (G := [blk b102 25 [Value.slice a0 p0.length c0]]) ((List.Perm.refl _))
      have hs228 := hs184.trans ht227
      exact joinI ⟨i176, s193, h226, hs228⟩
  · rintro σ189 w188 ⟨i178, s230, h229, hs190⟩
    subst hK180
    refine thenN ?_
    refine WC.seq ?_
    refine WC.region ?_
    refine WL.val (R.move (v := Value.int .i64 i178) (by exact s230)) rfl ?_
    by_cases hc231 : 800 < i178
    · have h232 := ifT hc231 h229
      refine WL.val (R.gtrT (k := .i64) (a := i178) (b := 800) un3 rfl rfl hc231) rfl ?_
      refine WL.val (R.assign (v := Value.bool true) rfl) rfl ?_
      refine WL.nil ?_
      refine thenN ?_
      refine WC.ret ?_
      obtain rfl := Option.some.inj (show some true = some r from h232)
      exact ret1 (P := Try.prog) (n := 30) (fn := Try.f30) (R := fun v w' => v = Value.bool true ∧ St [] w w' []) (t := 2) (v := Value.bool true) rfl rfl rfl ⟨rfl, hs190⟩
    · have h233 := ifF hc231 h229
      refine WL.val (R.gtrF (k := .i64) (a := i178) (b := 800) un3 rfl rfl hc231) rfl ?_
      refine WL.val (R.assign (v := Value.bool false) rfl) rfl ?_
      refine WL.nil ?_
      refine thenN ?_
      refine WC.ret ?_
      obtain rfl := Option.some.inj (show some false = some r from h233)
      exact ret1 (P := Try.prog) (n := 30) (fn := Try.f30) (R := fun v w' => v = Value.bool false ∧ St [] w w' []) (t := 2) (v := Value.bool false) rfl rfl rfl ⟨rfl, hs190⟩

end Go.Proofs.Ytckcldimnelklaa
