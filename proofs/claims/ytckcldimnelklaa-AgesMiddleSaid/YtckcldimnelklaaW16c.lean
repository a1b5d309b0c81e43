/- The functions come to what their twins answer: group 16. -/
import Derived.Test.YtckcldimnelklaaTS
import Derived.Test.YtckcldimnelklaaTU
import Derived.Test.YtckcldimnelklaaLG
import Derived.Test.YtckcldimnelklaaD16
import Derived.Test.YtckcldimnelklaaW16b
namespace Go.Proofs.Ytckcldimnelklaa
open Go
set_option linter.unusedVariables false
set_option linter.unusedSimpArgs false
set_option maxRecDepth 100000
set_option maxHeartbeats 4000000

theorem amiddle16_ok (w : World) (ok : Nat → Prop) (p0 : Int × Int × Int) (p1 : List Hd) (a1 : Option Addr) (c1 : Nat) (he1 : elems heldW w ok a1 p1) (hc1 : p1.length ≤ c1) {r : Bool} (h : amiddle16 p0 p1 = some r) :
    Ret Try.prog 28 [Value.agg (List.toArray [Value.int .u8 p0.1, Value.int .u8 p0.2.1, Value.int .u8 p0.2.2]), Value.slice a1 p1.length c1] w (fun v w' => v = Value.bool r ∧ St [] w w' []) := by
  rw [amiddle16] at h
  have hs100 : St [] w w [] := St.start w
  have he1001 := el0 (L0 := []) (fun b _ => out_nil b) he1
  refine enter (n := 139) Try.func28 rfl rfl rfl ?_
  refine WC.seq ?_
  refine WC.region ?_
  refine WL.new (L' := fun b102 => [blk b102 219 [Value.int .u8 p0.1, Value.int .u8 p0.2.1, Value.int .u8 p0.2.2]]) (f := fun b102 => Value.pointer (some ⟨b102, 0, none⟩)) (X.box (v := Value.agg (List.toArray [Value.int .u8 p0.1, Value.int .u8 p0.2.1, Value.int .u8 p0.2.2])) (c := [Value.int .u8 p0.1, Value.int .u8 p0.2.1, Value.int .u8 p0.2.2]) (hs100.here) rfl rfl (fun _ => rfl)) rfl ?_
  intro b102 w103 ht108 he105 hz106
  have hs109 := hs100.trans ht108
  refine WL.val (R.assign (v := Value.bool false) rfl) rfl ?_
  refine WL.nil ?_
  refine thenN ?_
  refine WC.seq ?_
  refine WC.region ?_
  refine WL.val (R.indexA (n := 1) (m := 0) (b := b102) (o := 0) (z := 0) un219 lf5.size rfl rfl rfl (by decide)) rfl ?_
  refine WL.val (R.loadL (v := Value.int .u8 p0.1) lf5 rfl (hs109.at (i := 0) (off := 0) (n := 1) (cs := [Value.int .u8 p0.1]) rfl rfl rfl)) rfl ?_
  obtain ⟨hg110, h111⟩ := ckE (c := -9223372036854775808 ≤ p0.1 ∧ p0.1 ≤ 9223372036854775807) h
  refine WL.val (R.convII (n := p0.1) (z := p0.1) un5 un3 rfl (w64 hg110.1 hg110.2)) rfl ?_
  obtain ⟨hg112, h113⟩ := ckE (c := 0 ≤ p0.1 ∧ 0 < (13 : Int) ∧ (13 : Int) ≤ 9223372036854775807) h111
  refine WL.val (R.remG (a := p0.1) (b := 13) rfl rfl hg112 (by decide)) rfl ?_
  obtain ⟨hg114, h115⟩ := ckE (c := -9223372036854775808 ≤ 4 + (p0.1 % 13) ∧ 4 + (p0.1 % 13) ≤ 9223372036854775807) h113
  refine WL.val (R.add (a := 4) (b := p0.1 % 13) (z := 4 + (p0.1 % 13)) rfl rfl (w64e rfl hg114.1 hg114.2)) rfl ?_
  refine WL.val (R.assign (v := Value.int .i64 (4 + (p0.1 % 13))) rfl) rfl ?_
  refine WL.nil ?_
  refine thenN ?_
  refine WC.seq ?_
  refine WC.seq ?_
  refine WC.region ?_
  refine WL.val (R.move (v := Value.slice a1 p1.length c1) rfl) rfl ?_
  refine WL.val (R.len (a := a1) (n := p1.length) (c := c1) un28 rfl) rfl ?_
  refine WL.val (R.move (v := Value.int .i64 (4 + (p0.1 % 13))) rfl) rfl ?_
  by_cases hc116 : ((p1.length : Nat) : Int) < (4 + (p0.1 % 13))
  · have h117 := ifT hc116 h115
    refine WL.val (R.lssT (k := .i64) (a := ((p1.length : Nat) : Int)) (b := 4 + (p0.1 % 13)) un3 rfl rfl hc116) rfl ?_
    refine WL.val (R.move (v := Value.bool true) rfl) rfl ?_
    refine WL.guardN (e := 23) (v := .bool true) rfl rfl rfl rfl ?_
    refine WL.guardN (e := 23) (v := .bool true) rfl rfl rfl rfl ?_
    refine WL.guardN (e := 23) (v := .bool true) rfl rfl rfl rfl ?_
    refine WL.val (R.pickT (v := Value.bool true) rfl rfl) rfl ?_
    refine WL.nil ?_
    refine thenN ?_
    refine WC.condT rfl rfl ?_
    refine WC.seq ?_
    refine WC.region ?_
    obtain ⟨y118, hx119, h120⟩ := ob (o := lives16 ) h117
    refine WL.call (lives16_ok _ (In ok w [] [blk b102 219 [Value.int .u8 p0.1, Value.int .u8 p0.2.1, Value.int .u8 p0.2.2]])   hx119) (R.call (vs := []) (caps := []) bo95 rfl rfl) rfl ?_
    rintro v123 w124 ⟨rfl, ht121⟩
    have ht122 := hs109.call (N := [blk b102 219 [Value.int .u8 p0.1, Value.int .u8 p0.2.1, Value.int .u8 p0.2.2]]) (M := []) (List.Perm.refl _) ht121
    have hs125 := hs109.trans ht122
    refine WL.val (R.assign (v := Value.bool y118) rfl) rfl ?_
    refine WL.nil ?_
    refine thenN ?_
    refine WC.ret ?_
    have ht126 := (hs125.here).perm (L' := []) (G := [blk b102 219 [Value.int .u8 p0.1, Value.int .u8 p0.2.1, Value.int .u8 p0.2.2]]) ((List.Perm.refl _))
    have hs127 := hs125.trans ht126
    obtain rfl := Option.some.inj (show some y118 = some r from h120)
    exact ret1 (P := Try.prog) (n := 139) (fn := Try.f28) (R := fun v w' => v = Value.bool y118 ∧ St [] w w' []) (t := 4) (v := Value.bool y118) rfl rfl rfl ⟨rfl, hs127⟩
  · have h128 := ifF hc116 h115
    refine WL.val (R.lssF (k := .i64) (a := ((p1.length : Nat) : Int)) (b := 4 + (p0.1 % 13)) un3 rfl rfl hc116) rfl ?_
    refine WL.val (R.move (v := Value.bool false) rfl) rfl ?_
    refine WL.guardY (e := 23) rfl rfl rfl ?_
    refine WL.val (R.move (v := Value.slice a1 p1.length c1) rfl) rfl ?_
    refine WL.guardY (e := 23) rfl rfl rfl ?_
    refine WL.val (R.len (a := a1) (n := p1.length) (c := c1) un28 rfl) rfl ?_
    refine WL.guardY (e := 23) rfl rfl rfl ?_
    by_cases hc129 : 40 < ((p1.length : Nat) : Int)
    · have h130 := ifT hc129 h128
      refine WL.val (R.gtrT (k := .i64) (a := ((p1.length : Nat) : Int)) (b := 40) un3 rfl rfl hc129) rfl ?_
      refine WL.val (R.pickF (v := Value.bool true) rfl rfl) rfl ?_
      refine WL.nil ?_
      refine thenN ?_
      refine WC.condT rfl rfl ?_
      refine WC.seq ?_
      refine WC.region ?_
      obtain ⟨y131, hx132, h133⟩ := ob (o := lives16 ) h130
      refine WL.call (lives16_ok _ (In ok w [] [blk b102 219 [Value.int .u8 p0.1, Value.int .u8 p0.2.1, Value.int .u8 p0.2.2]])   hx132) (R.call (vs := []) (caps := []) bo95 rfl rfl) rfl ?_
      rintro v136 w137 ⟨rfl, ht134⟩
      have ht135 := hs109.call (N := [blk b102 219 [Value.int .u8 p0.1, Value.int .u8 p0.2.1, Value.int .u8 p0.2.2]]) (M := []) (List.Perm.refl _) ht134
      have hs138 := hs109.trans ht135
      refine WL.val (R.assign (v := Value.bool y131) rfl) rfl ?_
      refine WL.nil ?_
      refine thenN ?_
      refine WC.ret ?_
      have ht139 := (hs138.here).perm (L' := []) (G := [blk b102 219 [Value.int .u8 p0.1, Value.int .u8 p0.2.1, Value.int .u8 p0.2.2]]) ((List.Perm.refl _))
      have hs140 := hs138.trans ht139
      obtain rfl := Option.some.inj (show some y131 = some r from h133)
      exact ret1 (P := Try.prog) (n := 139) (fn := Try.f28) (R := fun v w' => v = Value.bool y131 ∧ St [] w w' []) (t := 4) (v := Value.bool y131) rfl rfl rfl ⟨rfl, hs140⟩
    · have h141 := ifF hc129 h128
      refine WL.val (R.gtrF (k := .i64) (a := ((p1.length : Nat) : Int)) (b := 40) un3 rfl rfl hc129) rfl ?_
      refine WL.val (R.pickF (v := Value.bool false) rfl rfl) rfl ?_
      refine WL.nil ?_
      refine thenN ?_
      refine WC.condF rfl rfl ?_
      refine WC.skip ?_
      refine thenN ?_
      refine WC.seq ?_
      refine WC.region ?_
      refine WL.val (R.move (v := Value.slice a1 p1.length c1) rfl) rfl ?_
      refine WL.val (R.move (v := Value.int .i64 (4 + (p0.1 % 13))) rfl) rfl ?_
      obtain ⟨hg142, h143⟩ := ckE (c := 0 ≤ 4 + (p0.1 % 13) ∧ 4 + (p0.1 % 13) ≤ ((p1.length : Nat) : Int)) h141
      have hr144 := elT ht108 he1001
      have hn147 : (p1.take (4 + (p0.1 % 13)).toNat).length = (4 + (p0.1 % 13)).toNat := take_len hg142
      have he145 := elems_take (4 + (p0.1 % 13)).toNat hr144
      have hl146 : (p1.take (4 + (p0.1 % 13)).toNat).length ≤ c1 := by rw [hn147]; exact toCap hg142 hc1
      refine WL.val (R.sliceToN (n := 56) (z := 4 + (p0.1 % 13)) (N := (p1.take (4 + (p0.1 % 13)).toNat).length) un28 ag60.size rfl rfl hg142 hn147 hc1) rfl ?_
      refine WL.val (R.assign (v := Value.slice a1 ((p1.take (4 + (p0.1 % 13)).toNat).length) c1) rfl) rfl ?_
      refine WL.nil ?_
      refine thenN ?_
      refine WC.seq ?_
      refine WC.region ?_
      refine WL.val (R.indexA (n := 1) (m := 1) (b := b102) (o := 0) (z := 1) un219 lf5.size rfl rfl rfl (by decide)) rfl ?_
      refine WL.val (R.loadL (v := Value.int .u8 p0.2.1) lf5 rfl (hs109.at (i := 0) (off := 1) (n := 1) (cs := [Value.int .u8 p0.2.1]) rfl rfl rfl)) rfl ?_
      obtain ⟨hg149, h150⟩ := ckE (c := -9223372036854775808 ≤ p0.2.1 ∧ p0.2.1 ≤ 9223372036854775807) h143
      refine WL.val (R.convII (n := p0.2.1) (z := p0.2.1) un5 un3 rfl (w64 hg149.1 hg149.2)) rfl ?_
      refine WL.val (R.move (v := Value.int .i64 (4 + (p0.1 % 13))) rfl) rfl ?_
      obtain ⟨hg151, h152⟩ := ckE (c := 0 ≤ p0.2.1 ∧ 0 < (4 + (p0.1 % 13) : Int) ∧ (4 + (p0.1 % 13) : Int) ≤ 9223372036854775807) h150
      refine WL.val (R.remG (a := p0.2.1) (b := 4 + (p0.1 % 13)) rfl rfl hg151 (by decide)) rfl ?_
      refine WL.val (R.assign (v := Value.int .i64 (p0.2.1 % (4 + (p0.1 % 13)))) rfl) rfl ?_
      refine WL.nil ?_
      refine thenN ?_
      refine WC.seq ?_
      refine WC.region ?_
      refine WL.val (R.move (v := Value.int .i64 (4 + (p0.1 % 13))) rfl) rfl ?_
      refine WL.val (R.move (v := Value.slice a1 ((p1.take (4 + (p0.1 % 13)).toNat).length) c1) rfl) rfl ?_
      obtain ⟨y153, hx154, h155⟩ := ob (o := common16 (4 + (p0.1 % 13)) (p1.take (4 + (p0.1 % 13)).toNat)) h152
      refine WL.call (common16_ok _ _ (4 + (p0.1 % 13)) (p1.take (4 + (p0.1 % 13)).toNat) _ _ he145 hl146 hx154) (R.call (vs := [Value.int .i64 (4 + (p0.1 % 13)), Value.slice a1 ((p1.take (4 + (p0.1 % 13)).toNat).length) c1]) (caps := []) bo94 rfl rfl) rfl ?_
      rintro v158 w159 ⟨rfl, ht156⟩
      have ht157 := hs109.call (N := [blk b102 219 [Value.int .u8 p0.1, Value.int .u8 p0.2.1, Value.int .u8 p0.2.2]]) (M := []) (List.Perm.refl _) ht156
      have hs160 := hs109.trans ht157
      refine WL.val (R.assign (v := Value.int .i64 y153) rfl) rfl ?_
      refine WL.nil ?_
      refine thenN ?_
      refine WC.seq ?_
      refine WC.region ?_
      refine WL.val (R.assign (v := Value.int .i64 (-1)) rfl) rfl ?_
      refine WL.nil ?_
      refine thenN ?_
      refine WC.seq ?_
      refine WC.region ?_
      refine WL.val (R.assign (v := Value.int .i64 (-1)) rfl) rfl ?_
      refine WL.nil ?_
      refine thenN ?_
      refine WC.seq ?_
      refine WC.region ?_
      refine WL.val (R.assign (v := Value.int .i64 0) rfl) rfl ?_
      refine WL.nil ?_
      refine thenN ?_
      refine WC.seq ?_
      refine WC.seq ?_
      refine WC.region ?_
      refine WL.val (R.assign (v := Value.int .i64 0) rfl) rfl ?_
      refine WL.nil ?_
      refine thenN ?_
      have hr270 := elT ht157 he145
      obtain ⟨K262, hK263, h264⟩ := kE (G := fun K262 => amiddle16_l1 p0 p1 K262 1000000 (-1) (-1) 0 0) h155
      refine WC.join (fun σ272 w271 => ∃ i259 : Int, ∃ i260 : Int, ∃ i261 : Int, σ272 1 = (Value.slice a1 ((p1.take (4 + (p0.1 % 13)).toNat).length) c1) ∧ σ272 2 = (Value.pointer (some ⟨b102, 0, none⟩)) ∧ σ272 5 = (Value.int .i64 (4 + (p0.1 % 13))) ∧ σ272 7 = (Value.int .i64 y153) ∧ σ272 8 = (Value.int .i64 i259) ∧ σ272 9 = (Value.int .i64 i260) ∧ σ272 10 = (Value.int .i64 i261) ∧ elems heldW w271 (In ok w [] [blk b102 219 [Value.int .u8 p0.1, Value.int .u8 p0.2.1, Value.int .u8 p0.2.2]]) a1 (p1.take (4 + (p0.1 % 13)).toNat) ∧ K262 i259 i260 i261 = some r ∧ St [] w w271 [blk b102 219 [Value.int .u8 p0.1, Value.int .u8 p0.2.1, Value.int .u8 p0.2.2]]) ?_ ?_
      · refine WC.block ?_
        refine WC.loop (T := Nat) (fun k268 σ266 w265 => ∃ i255 : Int, ∃ i256 : Int, ∃ i257 : Int, ∃ i258 : Int, σ266 1 = (Value.slice a1 ((p1.take (4 + (p0.1 % 13)).toNat).length) c1) ∧ σ266 2 = (Value.pointer (some ⟨b102, 0, none⟩)) ∧ σ266 5 = (Value.int .i64 (4 + (p0.1 % 13))) ∧ σ266 6 = (Value.int .i64 (p0.2.1 % (4 + (p0.1 % 13)))) ∧ σ266 7 = (Value.int .i64 y153) ∧ σ266 8 = (Value.int .i64 i255) ∧ σ266 9 = (Value.int .i64 i256) ∧ σ266 10 = (Value.int .i64 i257) ∧ σ266 11 = (Value.int .i64 i258) ∧ elems heldW w265 (In ok w [] [blk b102 219 [Value.int .u8 p0.1, Value.int .u8 p0.2.1, Value.int .u8 p0.2.2]]) a1 (p1.take (4 + (p0.1 % 13)).toNat) ∧ amiddle16_l1 p0 p1 K262 k268 i255 i256 i257 i258 = some r ∧ St [] w w265 [blk b102 219 [Value.int .u8 p0.1, Value.int .u8 p0.2.1, Value.int .u8 p0.2.2]]) (fun k268 => k268) 1000000 ⟨-1, -1, 0, 0, rfl, rfl, rfl, rfl, rfl, rfl, rfl, rfl, rfl, hr270, h264, hs160⟩ ?_
        rintro k268 σ266 w265 ⟨i255, i256, i257, i258, s276, s277, s278, s279, s280, s281, s282, s283, s284, he269, h275, hs267⟩
        rcases k268 with _ | k268
        · rw [amiddle16_l1] at h275; cases h275
        rw [amiddle16_l1] at h275
        refine WC.seq ?_
        refine WC.seq ?_
        refine WC.region ?_
        refine WL.val (R.move (v := Value.int .i64 i258) (by exact s284)) rfl ?_
        refine WL.val (R.move (v := Value.int .i64 (4 + (p0.1 % 13))) (by exact s278)) rfl ?_
        by_cases hc285 : i258 < (4 + (p0.1 % 13))
        · have h286 := ifT hc285 h275
          refine WL.val (R.lssT (k := .i64) (a := i258) (b := 4 + (p0.1 % 13)) un3 rfl rfl hc285) rfl ?_
          refine WL.nil ?_
          refine thenN ?_
          refine WC.condT rfl rfl ?_
          refine WC.skip ?_
          refine thenN ?_
          refine WC.seq ?_
          refine WC.block ?_
          refine WC.seq ?_
          refine WC.region ?_
          refine WL.val (R.move (v := Value.slice a1 ((p1.take (4 + (p0.1 % 13)).toNat).length) c1) (by exact s276)) rfl ?_
          refine WL.val (R.move (v := Value.int .i64 i258) (by exact s284)) rfl ?_
          obtain ⟨x287, hx288, h289⟩ := ob (o := rd (p1.take (4 + (p0.1 % 13)).toNat) i258) h286
          obtain ⟨h0290, hx291, hl292, hm293⟩ := rdE hx288
          obtain ⟨ad294, e299, ha295, hp296, hat297, hrd298⟩ := he269 _ _ hx291
          obtain ⟨-, rfl⟩ := hrd298
          refine WL.val (R.indexS (n := 56) (m := (i258).toNat) (a := a1) (ad := ad294) (len := ((p1.take (4 + (p0.1 % 13)).toNat).length)) (cap := c1) (z := i258) un28 ag60.size rfl ha295 rfl hm293 hl292 hp296) rfl ?_
          refine WL.val (R.fieldAddr (o := ad294.off + (i258).toNat * 56) (o' := ad294.off + (i258).toNat * 56 + 1) fa60_1 rfl rfl) rfl ?_
          refine WL.val (R.fieldAddr (o := ad294.off + (i258).toNat * 56 + 1) (o' := ad294.off + (i258).toNat * 56 + 1) fa58_0 rfl rfl) rfl ?_
          refine WL.val (R.loadL (v := Value.int .i64 x287.cell.age) lf2 rfl (At.sub (a := ⟨ad294.block, ad294.off + (i258).toNat * 56, none⟩) (off := 1) (n := 1) (cs := encH x287) (ds := [Value.int .i64 x287.cell.age]) hat297 rfl rfl)) rfl ?_
          refine WL.val (R.assign (v := Value.int .i64 x287.cell.age) rfl) rfl ?_
          refine WL.nil ?_
          refine thenN ?_
          refine WC.seq ?_
          refine WC.seq ?_
          refine WC.region ?_
          refine WL.val (R.move (v := Value.int .i64 i258) (by exact s284)) rfl ?_
          refine WL.val (R.move (v := Value.int .i64 (p0.2.1 % (4 + (p0.1 % 13)))) (by exact s279)) rfl ?_
          by_cases hc301 : i258 = (p0.2.1 % (4 + (p0.1 % 13)))
          · have h302 := ifT hc301 h289
            refine WL.val (R.eqlT (k := .i64) (a := i258) (b := p0.2.1 % (4 + (p0.1 % 13))) un3 rfl rfl hc301) rfl ?_
            refine WL.val (R.move (v := Value.bool true) rfl) rfl ?_
            refine WL.guardN (e := 54) (v := .bool true) rfl rfl rfl rfl ?_
            refine WL.guardN (e := 54) (v := .bool true) rfl rfl rfl rfl ?_
            refine WL.guardN (e := 54) (v := .bool true) rfl rfl rfl rfl ?_
            refine WL.guardN (e := 54) (v := .bool true) rfl rfl rfl rfl ?_
            refine WL.guardN (e := 54) (v := .bool true) rfl rfl rfl rfl ?_
            refine WL.guardN (e := 54) (v := .bool true) rfl rfl rfl rfl ?_
            refine WL.val (R.pickT (v := Value.bool true) rfl rfl) rfl ?_
            refine WL.val (R.move (v := Value.bool true) rfl) rfl ?_
            refine WL.guardN (e := 62) (v := .bool true) rfl rfl rfl rfl ?_
            refine WL.guardN (e := 62) (v := .bool true) rfl rfl rfl rfl ?_
            refine WL.val (R.pickT (v := Value.bool true) rfl rfl) rfl ?_
            refine WL.val (R.move (v := Value.bool true) rfl) rfl ?_
            refine WL.guardN (e := 66) (v := .bool true) rfl rfl rfl rfl ?_
            refine WL.guardN (e := 66) (v := .bool true) rfl rfl rfl rfl ?_
            refine WL.val (R.pickT (v := Value.bool true) rfl rfl) rfl ?_
            refine WL.nil ?_
            refine thenN ?_
            refine WC.condT rfl rfl ?_
            refine WC.exit ?_
            refine thenE ?_
            refine blockHit ?_
            refine thenN ?_
            refine WC.region ?_
            refine WL.val (R.move (v := Value.int .i64 i258) (by exact s284)) rfl ?_
            obtain ⟨hg303, h304⟩ := ckE (c := -9223372036854775808 ≤ i258 + 1 ∧ i258 + 1 ≤ 9223372036854775807) h302
            refine WL.val (R.add (a := i258) (b := 1) (z := i258 + 1) rfl rfl (w64e rfl hg303.1 hg303.2)) rfl ?_
            refine WL.val (R.assign (v := Value.int .i64 (i258 + 1)) rfl) rfl ?_
            refine WL.nil ?_
            exact roundEnd (s := k268) ⟨i255, i256, i257, i258 + 1, s276, s277, s278, s279, s280, s281, s282, s283, rfl, he269, h304, hs267⟩ (Nat.lt_succ_self _)
          · have h305 := ifF hc301 h289
            refine WL.val (R.eqlF (k := .i64) (a := i258) (b := p0.2.1 % (4 + (p0.1 % 13))) un3 rfl rfl hc301) rfl ?_
            refine WL.val (R.move (v := Value.bool false) rfl) rfl ?_
            refine WL.guardY (e := 54) rfl rfl rfl ?_
            refine WL.val (R.move (v := Value.slice a1 ((p1.take (4 + (p0.1 % 13)).toNat).length) c1) (by exact s276)) rfl ?_
            refine WL.guardY (e := 54) rfl rfl rfl ?_
            refine WL.val (R.move (v := Value.int .i64 i258) (by exact s284)) rfl ?_
            refine WL.guardY (e := 54) rfl rfl rfl ?_
            refine WL.val (R.indexS (n := 56) (m := (i258).toNat) (a := a1) (ad := ad294) (len := ((p1.take (4 + (p0.1 % 13)).toNat).length)) (cap := c1) (z := i258) un28 ag60.size rfl ha295 rfl hm293 hl292 hp296) rfl ?_
            refine WL.guardY (e := 54) rfl rfl rfl ?_
            refine WL.val (R.fieldAddr (o := ad294.off + (i258).toNat * 56) (o' := ad294.off + (i258).toNat * 56) fa60_0 rfl rfl) rfl ?_
            refine WL.guardY (e := 54) rfl rfl rfl ?_
            refine WL.val (R.loadL (v := Value.bool x287.is) lf4 rfl (At.sub (a := ⟨ad294.block, ad294.off + (i258).toNat * 56, none⟩) (off := 0) (n := 1) (cs := encH x287) (ds := [Value.bool x287.is]) hat297 rfl rfl)) rfl ?_
            refine WL.guardY (e := 54) rfl rfl rfl ?_
            refine WL.val (R.not (b := x287.is) rfl) rfl ?_
            refine WL.val (R.pickF (v := Value.bool (!x287.is)) rfl rfl) rfl ?_
            refine WL.val (R.move (v := Value.bool (!x287.is)) rfl) rfl ?_
            by_cases hc306 : x287.is = true
            · have h307 := ifT hc306 h305
              have hk308 : (!x287.is) = false := by simp [hc306]
              refine WL.guardY (e := 62) (Eq.trans (show _ = Value.bool (!x287.is) from rfl) (congrArg Value.bool hk308)) rfl rfl ?_
              refine WL.val (R.move (v := Value.int .i64 x287.cell.age) rfl) rfl ?_
              refine WL.guardY (e := 62) (Eq.trans (show _ = Value.bool (!x287.is) from rfl) (congrArg Value.bool hk308)) rfl rfl ?_
              by_cases hc309 : x287.cell.age < 0
              · have h310 := ifT hc309 h307
                refine WL.val (R.lssT (k := .i64) (a := x287.cell.age) (b := 0) un2 rfl rfl hc309) rfl ?_
                refine WL.val (R.pickF (v := Value.bool true) (Eq.trans (show _ = Value.bool (!x287.is) from rfl) (congrArg Value.bool hk308)) rfl) rfl ?_
                refine WL.val (R.move (v := Value.bool true) rfl) rfl ?_
                refine WL.guardN (e := 66) (v := .bool true) rfl rfl rfl rfl ?_
                refine WL.guardN (e := 66) (v := .bool true) rfl rfl rfl rfl ?_
                refine WL.val (R.pickT (v := Value.bool true) rfl rfl) rfl ?_
                refine WL.nil ?_
                refine thenN ?_
                refine WC.condT rfl rfl ?_
                refine WC.exit ?_
                refine thenE ?_
                refine blockHit ?_
                refine thenN ?_
                refine WC.region ?_
                refine WL.val (R.move (v := Value.int .i64 i258) (by exact s284)) rfl ?_
                obtain ⟨hg311, h312⟩ := ckE (c := -9223372036854775808 ≤ i258 + 1 ∧ i258 + 1 ≤ 9223372036854775807) h310
                refine WL.val (R.add (a := i258) (b := 1) (z := i258 + 1) rfl rfl (w64e rfl hg311.1 hg311.2)) rfl ?_
                refine WL.val (R.assign (v := Value.int .i64 (i258 + 1)) rfl) rfl ?_
                refine WL.nil ?_
                exact roundEnd (s := k268) ⟨i255, i256, i257, i258 + 1, s276, s277, s278, s279, s280, s281, s282, s283, rfl, he269, h312, hs267⟩ (Nat.lt_succ_self _)
              · have h313 := ifF hc309 h307
                refine WL.val (R.lssF (k := .i64) (a := x287.cell.age) (b := 0) un2 rfl rfl hc309) rfl ?_
                refine WL.val (R.pickF (v := Value.bool false) (Eq.trans (show _ = Value.bool (!x287.is) from rfl) (congrArg Value.bool hk308)) rfl) rfl ?_
                refine WL.val (R.move (v := Value.bool false) rfl) rfl ?_
                refine WL.guardY (e := 66) rfl rfl rfl ?_
                refine WL.val (R.move (v := Value.int .i64 x287.cell.age) rfl) rfl ?_
                refine WL.guardY (e := 66) rfl rfl rfl ?_
                by_cases hc314 : 1099511627776 < x287.cell.age
                · have h315 := ifT hc314 h313
                  refine WL.val (R.gtrT (k := .i64) (a := x287.cell.age) (b := 1099511627776) un2 rfl rfl hc314) rfl ?_
                  refine WL.val (R.pickF (v := Value.bool true) rfl rfl) rfl ?_
                  refine WL.nil ?_
                  refine thenN ?_
                  refine WC.condT rfl rfl ?_
                  refine WC.exit ?_
                  refine thenE ?_
                  refine blockHit ?_
                  refine thenN ?_
                  refine WC.region ?_
                  refine WL.val (R.move (v := Value.int .i64 i258) (by exact s284)) rfl ?_
                  obtain ⟨hg316, h317⟩ := ckE (c := -9223372036854775808 ≤ i258 + 1 ∧ i258 + 1 ≤ 9223372036854775807) h315
                  refine WL.val (R.add (a := i258) (b := 1) (z := i258 + 1) rfl rfl (w64e rfl hg316.1 hg316.2)) rfl ?_
                  refine WL.val (R.assign (v := Value.int .i64 (i258 + 1)) rfl) rfl ?_
                  refine WL.nil ?_
                  exact roundEnd (s := k268) ⟨i255, i256, i257, i258 + 1, s276, s277, s278, s279, s280, s281, s282, s283, rfl, he269, h317, hs267⟩ (Nat.lt_succ_self _)
                · have h318 := ifF hc314 h313
                  refine WL.val (R.gtrF (k := .i64) (a := x287.cell.age) (b := 1099511627776) un2 rfl rfl hc314) rfl ?_
                  refine WL.val (R.pickF (v := Value.bool false) rfl rfl) rfl ?_
                  refine WL.nil ?_
                  refine thenN ?_
                  refine WC.condF rfl rfl ?_
                  refine WC.skip ?_
                  refine thenN ?_
                  refine WC.seq ?_
                  refine WC.region ?_
                  refine WL.val (R.move (v := Value.int .i64 i257) (by exact s283)) rfl ?_
                  obtain ⟨hg319, h320⟩ := ckE (c := -9223372036854775808 ≤ i257 + 1 ∧ i257 + 1 ≤ 9223372036854775807) h318
                  refine WL.val (R.add (a := i257) (b := 1) (z := i257 + 1) rfl rfl (w64e rfl hg319.1 hg319.2)) rfl ?_
                  refine WL.val (R.assign (v := Value.int .i64 (i257 + 1)) rfl) rfl ?_
                  refine WL.nil ?_
                  refine thenN ?_
                  refine WC.seq ?_
                  refine WC.seq ?_
                  refine WC.region ?_
                  refine WL.val (R.move (v := Value.int .i64 i255) (by exact s281)) rfl ?_
                  by_cases hc321 : i255 < 0
                  · have h322 := ifT hc321 h320
                    refine WL.val (R.lssT (k := .i64) (a := i255) (b := 0) un2 rfl rfl hc321) rfl ?_
                    refine WL.val (R.move (v := Value.bool true) rfl) rfl ?_
                    refine WL.guardN (e := 74) (v := .bool true) rfl rfl rfl rfl ?_
                    refine WL.guardN (e := 74) (v := .bool true) rfl rfl rfl rfl ?_
                    refine WL.guardN (e := 74) (v := .bool true) rfl rfl rfl rfl ?_
                    refine WL.val (R.pickT (v := Value.bool true) rfl rfl) rfl ?_
                    refine WL.nil ?_
                    refine thenN ?_
                    refine WC.condT rfl rfl ?_
                    refine WC.region ?_
                    refine WL.val (R.move (v := Value.int .i64 x287.cell.age) rfl) rfl ?_
                    refine WL.val (R.assign (v := Value.int .i64 x287.cell.age) rfl) rfl ?_
                    refine WL.nil ?_
                    refine thenN ?_
                    refine WC.region ?_
                    refine WL.val (R.move (v := Value.int .i64 i256) (by exact s282)) rfl ?_
                    refine WL.val (R.move (v := Value.int .i64 x287.cell.age) rfl) rfl ?_
                    refine WL.val (R.max (a := i256) (b := x287.cell.age) (z := max i256 x287.cell.age) rfl rfl rfl) rfl ?_
                    refine WL.val (R.assign (v := Value.int .i64 (max i256 x287.cell.age)) rfl) rfl ?_
                    refine WL.nil ?_
                    refine blockN ?_
                    refine thenN ?_
                    refine WC.region ?_
                    refine WL.val (R.move (v := Value.int .i64 i258) (by exact s284)) rfl ?_
                    obtain ⟨hg323, h324⟩ := ckE (c := -9223372036854775808 ≤ i258 + 1 ∧ i258 + 1 ≤ 9223372036854775807) h322
                    refine WL.val (R.add (a := i258) (b := 1) (z := i258 + 1) rfl rfl (w64e rfl hg323.1 hg323.2)) rfl ?_
                    refine WL.val (R.assign (v := Value.int .i64 (i258 + 1)) rfl) rfl ?_
                    refine WL.nil ?_
                    exact roundEnd (s := k268) ⟨x287.cell.age, max i256 x287.cell.age, i257 + 1, i258 + 1, s276, s277, s278, s279, s280, rfl, rfl, rfl, rfl, he269, h324, hs267⟩ (Nat.lt_succ_self _)
                  · have h325 := ifF hc321 h320
                    refine WL.val (R.lssF (k := .i64) (a := i255) (b := 0) un2 rfl rfl hc321) rfl ?_
                    refine WL.val (R.move (v := Value.bool false) rfl) rfl ?_
                    refine WL.guardY (e := 74) rfl rfl rfl ?_
                    refine WL.val (R.move (v := Value.int .i64 x287.cell.age) rfl) rfl ?_
                    refine WL.guardY (e := 74) rfl rfl rfl ?_
                    refine WL.val (R.move (v := Value.int .i64 i255) (by exact s281)) rfl ?_
                    refine WL.guardY (e := 74) rfl rfl rfl ?_
                    by_cases hc326 : x287.cell.age < i255
                    · have h327 := ifT hc326 h325
                      refine WL.val (R.lssT (k := .i64) (a := x287.cell.age) (b := i255) un2 rfl rfl hc326) rfl ?_
                      refine WL.val (R.pickF (v := Value.bool true) rfl rfl) rfl ?_
                      refine WL.nil ?_
                      refine thenN ?_
                      refine WC.condT rfl rfl ?_
                      refine WC.region ?_
                      refine WL.val (R.move (v := Value.int .i64 x287.cell.age) rfl) rfl ?_
                      refine WL.val (R.assign (v := Value.int .i64 x287.cell.age) rfl) rfl ?_
                      refine WL.nil ?_
                      refine thenN ?_
                      refine WC.region ?_
                      refine WL.val (R.move (v := Value.int .i64 i256) (by exact s282)) rfl ?_
                      refine WL.val (R.move (v := Value.int .i64 x287.cell.age) rfl) rfl ?_
                      refine WL.val (R.max (a := i256) (b := x287.cell.age) (z := max i256 x287.cell.age) rfl rfl rfl) rfl ?_
                      refine WL.val (R.assign (v := Value.int .i64 (max i256 x287.cell.age)) rfl) rfl ?_
                      refine WL.nil ?_
                      refine blockN ?_
                      refine thenN ?_
                      refine WC.region ?_
                      refine WL.val (R.move (v := Value.int .i64 i258) (by exact s284)) rfl ?_
                      obtain ⟨hg328, h329⟩ := ckE (c := -9223372036854775808 ≤ i258 + 1 ∧ i258 + 1 ≤ 9223372036854775807) h327
                      refine WL.val (R.add (a := i258) (b := 1) (z := i258 + 1) rfl rfl (w64e rfl hg328.1 hg328.2)) rfl ?_
                      refine WL.val (R.assign (v := Value.int .i64 (i258 + 1)) rfl) rfl ?_
                      refine WL.nil ?_
                      exact roundEnd (s := k268) ⟨x287.cell.age, max i256 x287.cell.age, i257 + 1, i258 + 1, s276, s277, s278, s279, s280, rfl, rfl, rfl, rfl, he269, h329, hs267⟩ (Nat.lt_succ_self _)
                    · have h330 := ifF hc326 h325
                      refine WL.val (R.lssF (k := .i64) (a := x287.cell.age) (b := i255) un2 rfl rfl hc326) rfl ?_
                      refine WL.val (R.pickF (v := Value.bool false) rfl rfl) rfl ?_
                      refine WL.nil ?_
                      refine thenN ?_
                      refine WC.condF rfl rfl ?_
                      refine WC.skip ?_
                      refine thenN ?_
                      refine WC.region ?_
                      refine WL.val (R.move (v := Value.int .i64 i256) (by exact s282)) rfl ?_
                      refine WL.val (R.move (v := Value.int .i64 x287.cell.age) rfl) rfl ?_
                      refine WL.val (R.max (a := i256) (b := x287.cell.age) (z := max i256 x287.cell.age) rfl rfl rfl) rfl ?_
                      refine WL.val (R.assign (v := Value.int .i64 (max i256 x287.cell.age)) rfl) rfl ?_
                      refine WL.nil ?_
                      refine blockN ?_
                      refine thenN ?_
                      refine WC.region ?_
                      refine WL.val (R.move (v := Value.int .i64 i258) (by exact s284)) rfl ?_
                      obtain ⟨hg331, h332⟩ := ckE (c := -9223372036854775808 ≤ i258 + 1 ∧ i258 + 1 ≤ 9223372036854775807) h330
                      refine WL.val (R.add (a := i258) (b := 1) (z := i258 + 1) rfl rfl (w64e rfl hg331.1 hg331.2)) rfl ?_
                      refine WL.val (R.assign (v := Value.int .i64 (i258 + 1)) rfl) rfl ?_
                      refine WL.nil ?_
                      exact roundEnd (s := k268) ⟨i255, max i256 x287.cell.age, i257 + 1, i258 + 1, s276, s277, s278, s279, s280, s281, rfl, rfl, rfl, he269, h332, hs267⟩ (Nat.lt_succ_self _)
            · have h333 := ifF hc306 h305
              have hk334 : (!x287.is) = true := by simp [hc306]
              refine WL.guardN (e := 62) (v := .bool true) (Eq.trans (show _ = Value.bool (!x287.is) from rfl) (congrArg Value.bool hk334)) rfl rfl rfl ?_
              refine WL.guardN (e := 62) (v := .bool true) (Eq.trans (show _ = Value.bool (!x287.is) from rfl) (congrArg Value.bool hk334)) rfl rfl rfl ?_
              refine WL.val (R.pickT (v := Value.bool true) (Eq.trans (show _ = Value.bool (!x287.is) from rfl) (congrArg Value.bool hk334)) rfl) rfl ?_
              refine WL.val (R.move (v := Value.bool true) rfl) rfl ?_
              refine WL.guardN (e := 66) (v := .bool true) rfl rfl rfl rfl ?_
              refine WL.guardN (e := 66) (v := .bool true) rfl rfl rfl rfl ?_
              refine WL.val (R.pickT (v := Value.bool true) rfl rfl) rfl ?_
              refine WL.nil ?_
              refine thenN ?_
              refine WC.condT rfl rfl ?_
              refine WC.exit ?_
              refine thenE ?_
              refine blockHit ?_
              refine thenN ?_
              refine WC.region ?_
              refine WL.val (R.move (v := Value.int .i64 i258) (by exact s284)) rfl ?_
              obtain ⟨hg335, h336⟩ := ckE (c := -9223372036854775808 ≤ i258 + 1 ∧ i258 + 1 ≤ 9223372036854775807) h333
              refine WL.val (R.add (a := i258) (b := 1) (z := i258 + 1) rfl rfl (w64e rfl hg335.1 hg335.2)) rfl ?_
              refine WL.val (R.assign (v := Value.int .i64 (i258 + 1)) rfl) rfl ?_
              refine WL.nil ?_
              exact roundEnd (s := k268) ⟨i255, i256, i257, i258 + 1, s276, s277, s278, s279, s280, s281, s282, s283, rfl, he269, h336, hs267⟩ (Nat.lt_succ_self _)
        · have h337 := ifF hc285 h275
          refine WL.val (R.lssF (k := .i64) (a := i258) (b := 4 + (p0.1 % 13)) un3 rfl rfl hc285) rfl ?_
          refine WL.nil ?_
          refine thenN ?_
          refine WC.condF rfl rfl ?_
          refine WC.exit ?_
          refine thenE ?_
          refine thenE ?_
          refine blockHit ?_
          exact joinI ⟨i255, i256, i257, s276, s277, s278, s280, s281, s282, s283, he269, h337, hs267⟩
      · rintro σ272 w271 ⟨i259, i260, i261, s339, s340, s341, s342, s343, s344, s345, he274, h338, hs273⟩
        subst hK263
        refine thenN ?_
        refine WC.seq ?_
        refine WC.seq ?_
        refine WC.region ?_
        refine WL.val (R.move (v := Value.int .i64 y153) (by exact s342)) rfl ?_
        by_cases hc346 : 0 ≤ y153
        · have h347 := ifT hc346 h338
          refine WL.val (R.geqT (k := .i64) (a := y153) (b := 0) un2 rfl rfl hc346) rfl ?_
          refine WL.val (R.move (v := Value.bool true) rfl) rfl ?_
          refine WL.guardY (e := 85) rfl rfl rfl ?_
          refine WL.val (R.move (v := Value.int .i64 i261) (by exact s345)) rfl ?_
          refine WL.guardY (e := 85) rfl rfl rfl ?_
          refine WL.val (R.move (v := Value.int .i64 (4 + (p0.1 % 13))) (by exact s341)) rfl ?_
          refine WL.guardY (e := 85) rfl rfl rfl ?_
          obtain ⟨hg348, h349⟩ := ckE (c := -9223372036854775808 ≤ (4 + (p0.1 % 13)) - 2 ∧ (4 + (p0.1 % 13)) - 2 ≤ 9223372036854775807) h347
          refine WL.val (R.sub (a := 4 + (p0.1 % 13)) (b := 2) (z := (4 + (p0.1 % 13)) - 2) rfl rfl (w64e rfl hg348.1 hg348.2)) rfl ?_
          refine WL.guardY (e := 85) rfl rfl rfl ?_
          by_cases hc350 : i261 < ((4 + (p0.1 % 13)) - 2)
          · have h351 := ifT hc350 h349
            refine WL.val (R.lssT (k := .i64) (a := i261) (b := (4 + (p0.1 % 13)) - 2) un3 rfl rfl hc350) rfl ?_
            refine WL.guardY (e := 85) rfl rfl rfl ?_
            refine WL.val (R.move (v := Value.bool true) rfl) rfl ?_
            refine WL.guardN (e := 90) (v := .bool true) rfl rfl rfl rfl ?_
            refine WL.guardN (e := 90) (v := .bool true) rfl rfl rfl rfl ?_
            refine WL.guardN (e := 90) (v := .bool true) rfl rfl rfl rfl ?_
            refine WL.guardY (e := 85) rfl rfl rfl ?_
            refine WL.val (R.pickT (v := Value.bool true) rfl rfl) rfl ?_
            refine WL.guardY (e := 85) rfl rfl rfl ?_
            refine WL.val (R.move (v := Value.bool true) rfl) rfl ?_
            refine WL.guardN (e := 95) (v := .bool true) rfl rfl rfl rfl ?_
            refine WL.guardN (e := 95) (v := .bool true) rfl rfl rfl rfl ?_
            refine WL.guardN (e := 95) (v := .bool true) rfl rfl rfl rfl ?_
            refine WL.guardY (e := 85) rfl rfl rfl ?_
            refine WL.val (R.pickT (v := Value.bool true) rfl rfl) rfl ?_
            refine WL.val (R.pickT (v := Value.bool true) rfl rfl) rfl ?_
            refine WL.nil ?_
            refine thenN ?_
            refine WC.condT rfl rfl ?_
            refine WC.seq ?_
            refine WC.region ?_
            refine WL.val (R.assign (v := Value.bool false) rfl) rfl ?_
            refine WL.nil ?_
            refine thenN ?_
            refine WC.ret ?_
            have ht352 := (hs273.here).perm (L' := []) (G := [blk b102 219 [Value.int .u8 p0.1, Value.int .u8 p0.2.1, Value.int .u8 p0.2.2]]) ((List.Perm.refl _))
            have hs353 := hs273.trans ht352
            obtain rfl := Option.some.inj (show some false = some r from h351)
            exact ret1 (P := Try.prog) (n := 139) (fn := Try.f28) (R := fun v w' => v = Value.bool false ∧ St [] w w' []) (t := 4) (v := Value.bool false) rfl rfl rfl ⟨rfl, hs353⟩
          · have h354 := ifF hc350 h349
            refine WL.val (R.lssF (k := .i64) (a := i261) (b := (4 + (p0.1 % 13)) - 2) un3 rfl rfl hc350) rfl ?_
            refine WL.guardY (e := 85) rfl rfl rfl ?_
            refine WL.val (R.move (v := Value.bool false) rfl) rfl ?_
            refine WL.guardY (e := 90) rfl rfl rfl ?_
            refine WL.val (R.move (v := Value.int .i64 y153) (by exact s342)) rfl ?_
            refine WL.guardY (e := 90) rfl rfl rfl ?_
            refine WL.val (R.move (v := Value.int .i64 i259) (by exact s343)) rfl ?_
            refine WL.guardY (e := 90) rfl rfl rfl ?_
            by_cases hc355 : y153 < i259
            · have h356 := ifT hc355 h354
              refine WL.val (R.lssT (k := .i64) (a := y153) (b := i259) un2 rfl rfl hc355) rfl ?_
              refine WL.guardY (e := 85) rfl rfl rfl ?_
              refine WL.val (R.pickF (v := Value.bool true) rfl rfl) rfl ?_
              refine WL.guardY (e := 85) rfl rfl rfl ?_
              refine WL.val (R.move (v := Value.bool true) rfl) rfl ?_
              refine WL.guardN (e := 95) (v := .bool true) rfl rfl rfl rfl ?_
              refine WL.guardN (e := 95) (v := .bool true) rfl rfl rfl rfl ?_
              refine WL.guardN (e := 95) (v := .bool true) rfl rfl rfl rfl ?_
              refine WL.guardY (e := 85) rfl rfl rfl ?_
              refine WL.val (R.pickT (v := Value.bool true) rfl rfl) rfl ?_
              refine WL.val (R.pickT (v := Value.bool true) rfl rfl) rfl ?_
              refine WL.nil ?_
              refine thenN ?_
              refine WC.condT rfl rfl ?_
              refine WC.seq ?_
              refine WC.region ?_
              refine WL.val (R.assign (v := Value.bool false) rfl) rfl ?_
              refine WL.nil ?_
              refine thenN ?_
              refine WC.ret ?_
              have ht357 := (hs273.here).perm (L' := []) (G := [blk b102 219 [Value.int .u8 p0.1, Value.int .u8 p0.2.1, Value.int .u8 p0.2.2]]) ((List.Perm.refl _))
              have hs358 := hs273.trans ht357
              obtain rfl := Option.some.inj (show some false = some r from h356)
              exact ret1 (P := Try.prog) (n := 139) (fn := Try.f28) (R := fun v w' => v = Value.bool false ∧ St [] w w' []) (t := 4) (v := Value.bool false) rfl rfl rfl ⟨rfl, hs358⟩
            · have h359 := ifF hc355 h354
              refine WL.val (R.lssF (k := .i64) (a := y153) (b := i259) un2 rfl rfl hc355) rfl ?_
              refine WL.guardY (e := 85) rfl rfl rfl ?_
              refine WL.val (R.pickF (v := Value.bool false) rfl rfl) rfl ?_
              refine WL.guardY (e := 85) rfl rfl rfl ?_
              refine WL.val (R.move (v := Value.bool false) rfl) rfl ?_
              refine WL.guardY (e := 95) rfl rfl rfl ?_
              refine WL.val (R.move (v := Value.int .i64 y153) (by exact s342)) rfl ?_
              refine WL.guardY (e := 95) rfl rfl rfl ?_
              refine WL.val (R.move (v := Value.int .i64 i260) (by exact s344)) rfl ?_
              refine WL.guardY (e := 95) rfl rfl rfl ?_
              by_cases hc360 : i260 < y153
              · have h361 := ifT hc360 h359
                refine WL.val (R.gtrT (k := .i64) (a := y153) (b := i260) un2 rfl rfl hc360) rfl ?_
                refine WL.guardY (e := 85) rfl rfl rfl ?_
                refine WL.val (R.pickF (v := Value.bool true) rfl rfl) rfl ?_
                refine WL.val (R.pickT (v := Value.bool true) rfl rfl) rfl ?_
                refine WL.nil ?_
                refine thenN ?_
                refine WC.condT rfl rfl ?_
                refine WC.seq ?_
                refine WC.region ?_
                refine WL.val (R.assign (v := Value.bool false) rfl) rfl ?_
                refine WL.nil ?_
                refine thenN ?_
                refine WC.ret ?_
                have ht362 := (hs273.here).perm (L' := []) (G := [blk b102 219 [Value.int .u8 p0.1, Value.int .u8 p0.2.1, Value.int .u8 p0.2.2]]) ((List.Perm.refl _))
                have hs363 := hs273.trans ht362
                obtain rfl := Option.some.inj (show some false = some r from h361)
                exact ret1 (P := Try.prog) (n := 139) (fn := Try.f28) (R := fun v w' => v = Value.bool false ∧ St [] w w' []) (t := 4) (v := Value.bool false) rfl rfl rfl ⟨rfl, hs363⟩
              · have h364 := ifF hc360 h359
                refine WL.val (R.gtrF (k := .i64) (a := y153) (b := i260) un2 rfl rfl hc360) rfl ?_
                refine WL.guardY (e := 85) rfl rfl rfl ?_
                refine WL.val (R.pickF (v := Value.bool false) rfl rfl) rfl ?_
                refine WL.val (R.pickT (v := Value.bool false) rfl rfl) rfl ?_
                refine WL.nil ?_
                refine thenN ?_
                refine WC.condF rfl rfl ?_
                refine WC.skip ?_
                refine thenN ?_
                refine WC.seq ?_
                refine WC.seq ?_
                refine WC.region ?_
                refine WL.val (R.move (v := Value.int .i64 i261) (by exact s345)) rfl ?_
                refine WL.val (R.move (v := Value.int .i64 (4 + (p0.1 % 13))) (by exact s341)) rfl ?_
                obtain ⟨hg365, h366⟩ := ckE (c := -9223372036854775808 ≤ (4 + (p0.1 % 13)) - 1 ∧ (4 + (p0.1 % 13)) - 1 ≤ 9223372036854775807) h364
                refine WL.val (R.sub (a := 4 + (p0.1 % 13)) (b := 1) (z := (4 + (p0.1 % 13)) - 1) rfl rfl (w64e rfl hg365.1 hg365.2)) rfl ?_
                by_cases hc367 : i261 = ((4 + (p0.1 % 13)) - 1)
                · have h368 := ifT hc367 h366
                  refine WL.val (R.eqlT (k := .i64) (a := i261) (b := (4 + (p0.1 % 13)) - 1) un3 rfl rfl hc367) rfl ?_
                  refine WL.val (R.move (v := Value.bool true) rfl) rfl ?_
                  refine WL.guardY (e := 105) rfl rfl rfl ?_
                  refine WL.val (R.move (v := Value.int .i64 y153) (by exact s342)) rfl ?_
                  refine WL.guardY (e := 105) rfl rfl rfl ?_
                  by_cases hc369 : y153 < 0
                  · have h370 := ifT hc369 h368
                    refine WL.val (R.lssT (k := .i64) (a := y153) (b := 0) un2 rfl rfl hc369) rfl ?_
                    refine WL.guardY (e := 105) rfl rfl rfl ?_
                    refine WL.val (R.move (v := Value.bool true) rfl) rfl ?_
                    refine WL.guardN (e := 108) (v := .bool true) rfl rfl rfl rfl ?_
                    refine WL.guardN (e := 108) (v := .bool true) rfl rfl rfl rfl ?_
                    refine WL.guardN (e := 108) (v := .bool true) rfl rfl rfl rfl ?_
                    refine WL.guardN (e := 108) (v := .bool true) rfl rfl rfl rfl ?_
                    refine WL.guardN (e := 112) (v := undef) rfl rfl rfl rfl ?_
                    refine WL.guardN (e := 112) (v := undef) rfl rfl rfl rfl ?_
                    refine WL.guardN (e := 112) (v := undef) rfl rfl rfl rfl ?_
                    refine WL.guardN (e := 108) (v := .bool true) rfl rfl rfl rfl ?_
                    refine WL.guardY (e := 105) rfl rfl rfl ?_
                    refine WL.val (R.pickT (v := Value.bool true) rfl rfl) rfl ?_
                    refine WL.val (R.pickT (v := Value.bool true) rfl rfl) rfl ?_
                    refine WL.nil ?_
                    refine thenN ?_
                    refine WC.condT rfl rfl ?_
                    refine WC.seq ?_
                    refine WC.region ?_
                    refine WL.val (R.assign (v := Value.bool false) rfl) rfl ?_
                    refine WL.nil ?_
                    refine thenN ?_
                    refine WC.ret ?_
                    have ht371 := (hs273.here).perm (L' := []) (G := [blk b102 219 [Value.int .u8 p0.1, Value.int .u8 p0.2.1, Value.int .u8 p0.2.2]]) ((List.Perm.refl _))
                    have hs372 := hs273.trans ht371
                    obtain rfl := Option.some.inj (show some false = some r from h370)
                    exact ret1 (P := Try.prog) (n := 139) (fn := Try.f28) (R := fun v w' => v = Value.bool false ∧ St [] w w' []) (t := 4) (v := Value.bool false) rfl rfl rfl ⟨rfl, hs372⟩
                  · have h373 := ifF hc369 h368
                    refine WL.val (R.lssF (k := .i64) (a := y153) (b := 0) un2 rfl rfl hc369) rfl ?_
                    refine WL.guardY (e := 105) rfl rfl rfl ?_
                    refine WL.val (R.move (v := Value.bool false) rfl) rfl ?_
                    refine WL.guardY (e := 108) rfl rfl rfl ?_
                    refine WL.val (R.move (v := Value.int .i64 i259) (by exact s343)) rfl ?_
                    refine WL.guardY (e := 108) rfl rfl rfl ?_
                    refine WL.val (R.move (v := Value.int .i64 i260) (by exact s344)) rfl ?_
                    refine WL.guardY (e := 108) rfl rfl rfl ?_
                    by_cases hc374 : i259 = i260
                    · have h375 := ifT hc374 h373
                      refine WL.val (R.eqlT (k := .i64) (a := i259) (b := i260) un2 rfl rfl hc374) rfl ?_
                      refine WL.guardY (e := 108) rfl rfl rfl ?_
                      refine WL.val (R.move (v := Value.bool true) rfl) rfl ?_
                      refine WL.guardY (e := 112) rfl rfl rfl ?_
                      refine WL.val (R.move (v := Value.int .i64 y153) (by exact s342)) rfl ?_
                      refine WL.guardY (e := 112) rfl rfl rfl ?_
                      refine WL.val (R.move (v := Value.int .i64 i259) (by exact s343)) rfl ?_
                      refine WL.guardY (e := 112) rfl rfl rfl ?_
                      by_cases hc376 : y153 = i259
                      · have h377 := ifT hc376 h375
                        refine WL.val (R.neqF (k := .i64) (a := y153) (b := i259) un2 rfl rfl (not_not_intro hc376)) rfl ?_
                        refine WL.guardY (e := 108) rfl rfl rfl ?_
                        refine WL.val (R.pickT (v := Value.bool false) rfl rfl) rfl ?_
                        refine WL.guardY (e := 105) rfl rfl rfl ?_
                        refine WL.val (R.pickF (v := Value.bool false) rfl rfl) rfl ?_
                        refine WL.val (R.pickT (v := Value.bool false) rfl rfl) rfl ?_
                        refine WL.nil ?_
                        refine thenN ?_
                        refine WC.condF rfl rfl ?_
                        refine WC.skip ?_
                        refine thenN ?_
                        refine WC.seq ?_
                        refine WC.region ?_
                        refine WL.val (R.indexA (n := 1) (m := 2) (b := b102) (o := 0) (z := 2) un219 lf5.size (by exact s340) rfl rfl (by decide)) rfl ?_
                        refine WL.val (R.loadL (v := Value.int .u8 p0.2.2) lf5 rfl (hs273.at (i := 0) (off := 2) (n := 1) (cs := [Value.int .u8 p0.2.2]) rfl rfl rfl)) rfl ?_
                        obtain ⟨hg378, h379⟩ := ckE (c := -9223372036854775808 ≤ p0.2.2 ∧ p0.2.2 ≤ 9223372036854775807) h377
                        refine WL.val (R.convII (n := p0.2.2) (z := p0.2.2) un5 un3 rfl (w64 hg378.1 hg378.2)) rfl ?_
                        refine WL.val (R.move (v := Value.int .i64 (4 + (p0.1 % 13))) (by exact s341)) rfl ?_
                        obtain ⟨hg380, h381⟩ := ckE (c := 0 ≤ p0.2.2 ∧ 0 < (4 + (p0.1 % 13) : Int) ∧ (4 + (p0.1 % 13) : Int) ≤ 9223372036854775807) h379
                        refine WL.val (R.remG (a := p0.2.2) (b := 4 + (p0.1 % 13)) rfl rfl hg380 (by decide)) rfl ?_
                        refine WL.val (R.assign (v := Value.int .i64 (p0.2.2 % (4 + (p0.1 % 13)))) rfl) rfl ?_
                        refine WL.nil ?_
                        refine thenN ?_
                        refine WC.seq ?_
                        refine WC.drawK (L := [blk b102 219 [Value.int .u8 p0.1, Value.int .u8 p0.2.1, Value.int .u8 p0.2.2]]) mixed (NP.then NP.rq) ?_
                        have ht382 := (hs273.here).ext (Ext.drew _)
                        have hs383 := hs273.trans ht382
                        refine WK.take 0 rfl (by decide +kernel) (by decide +kernel) (by decide +kernel) (by decide +kernel) rfl rfl (fun wq hq => R.move (v := Value.int .i64 (4 + (p0.1 % 13))) (by exact s341)) ?_
                        refine WK.take 1 rfl (by decide +kernel) (by decide +kernel) (by decide +kernel) (by decide +kernel) rfl rfl (fun wq hq => R.move (v := Value.slice a1 ((p1.take (4 + (p0.1 % 13)).toNat).length) c1) (by exact s339)) ?_
                        refine WK.take 2 rfl (by decide +kernel) (by decide +kernel) (by decide +kernel) (by decide +kernel) rfl rfl (fun wq hq => R.move (v := Value.int .i64 (p0.2.2 % (4 + (p0.1 % 13)))) rfl) ?_
                        obtain ⟨hg384, h385⟩ := ckE (c := 0 ≤ p0.2.2 % (4 + (p0.1 % 13)) ∧ p0.2.2 % (4 + (p0.1 % 13)) ≤ (((p1.take (4 + (p0.1 % 13)).toNat).length : Nat) : Int)) h381
                        have hr386 := elT ht382 he274
                        obtain ⟨a389, c390, hr391, hl388, he387⟩ := R.sliceFromN (P := Try.prog) (T := 28) (E := 60) (k := heldW) un28 ag60.size hg384 hr386 hl146
                        refine WK.take 3 rfl (by decide +kernel) (by decide +kernel) (by decide +kernel) (by decide +kernel) rfl rfl (fun wq hq => hr391 _ _ _ _ _ _ _ _ _ rfl rfl) ?_
                        refine WK.take 5 rfl (by decide +kernel) (by decide +kernel) (by decide +kernel) (by decide +kernel) rfl rfl (fun wq hq => R.move (v := Value.slice a1 ((p1.take (4 + (p0.1 % 13)).toNat).length) c1) (by exact s339)) ?_
                        refine WK.take 6 rfl (by decide +kernel) (by decide +kernel) (by decide +kernel) (by decide +kernel) rfl rfl (fun wq hq => R.move (v := Value.int .i64 (p0.2.2 % (4 + (p0.1 % 13)))) rfl) ?_
                        have hn395 : ((p1.take (4 + (p0.1 % 13)).toNat).take (p0.2.2 % (4 + (p0.1 % 13))).toNat).length = (p0.2.2 % (4 + (p0.1 % 13))).toNat := take_len hg384
                        have he393 := elems_take (p0.2.2 % (4 + (p0.1 % 13))).toNat hr386
                        have hl394 : ((p1.take (4 + (p0.1 % 13)).toNat).take (p0.2.2 % (4 + (p0.1 % 13))).toNat).length ≤ c1 := by rw [hn395]; exact toCap hg384 hl146
                        refine WK.take 7 rfl (by decide +kernel) (by decide +kernel) (by decide +kernel) (by decide +kernel) rfl rfl (fun wq hq => R.sliceToN (n := 56) (z := p0.2.2 % (4 + (p0.1 % 13))) (N := ((p1.take (4 + (p0.1 % 13)).toNat).take (p0.2.2 % (4 + (p0.1 % 13))).toNat).length) un28 ag60.size rfl rfl hg384 hn395 hl146) ?_
                        refine WK.take 10 rfl (by decide +kernel) (by decide +kernel) (by decide +kernel) (by decide +kernel) rfl rfl (fun wq hq => R.move (v := Value.int .i64 y153) (by exact s342)) ?_
                        have ht397 := (hs383.here).addNil 60 heldE rfl
                        have hs399 := hs383.trans ht397
                        refine WK.conv ht397 ?_
                        obtain ⟨hg400, h401⟩ := ckE (c := ([] : List Hd).length + ((p1.take (4 + (p0.1 % 13)).toNat).drop (p0.2.2 % (4 + (p0.1 % 13))).toNat).length < 1000000) h385
                        have hr402 := elT ht397 he387
                        refine WK.grow (L' := fun v403 => [blk b102 219 [Value.int .u8 p0.1, Value.int .u8 p0.2.1, Value.int .u8 p0.2.2], gsl 60 heldE v403 (([] : List Hd) ++ ((p1.take (4 + (p0.1 % 13)).toNat).drop (p0.2.2 % (4 + (p0.1 % 13))).toNat))]) 4 (by decide +kernel) rfl rfl rfl (X.appendRd (k := heldW) (i := 1) (e := heldE) (xs := ([] : List Hd)) (ys := ((p1.take (4 + (p0.1 % 13)).toNat).drop (p0.2.2 % (4 + (p0.1 % 13))).toNat)) (c := c390) (a := a389) (hs399.here) sl28 rfl rfl rfl rfl rfl (fun h => h.2) (fun _ => rfl) hr402 (roomR hg400 (by decide)) (roomR63 hg400) (fun _ => rfl)) ?_
                        intro v403 w404 ht405
                        obtain ⟨a406, c407, hv408⟩ := gsl_sl (ht405.get (i := 1) rfl)
                        subst hv408
                        have hs409 := hs399.trans ht405
                        obtain ⟨hg410, h411⟩ := ckE (c := (([] : List Hd) ++ ((p1.take (4 + (p0.1 % 13)).toNat).drop (p0.2.2 % (4 + (p0.1 % 13))).toNat)).length + ((p1.take (4 + (p0.1 % 13)).toNat).take (p0.2.2 % (4 + (p0.1 % 13))).toNat).length < 1000000) h401
                        have hr412 := elT (ht397.trans ht405) he393
                        refine WK.grow (L' := fun v413 => [blk b102 219 [Value.int .u8 p0.1, Value.int .u8 p0.2.1, Value.int .u8 p0.2.2], gsl 60 heldE v413 ((([] : List Hd) ++ ((p1.take (4 + (p0.1 % 13)).toNat).drop (p0.2.2 % (4 + (p0.1 % 13))).toNat)) ++ ((p1.take (4 + (p0.1 % 13)).toNat).take (p0.2.2 % (4 + (p0.1 % 13))).toNat))]) 8 (by decide +kernel) rfl rfl rfl (X.appendRd (k := heldW) (i := 1) (e := heldE) (xs := (([] : List Hd) ++ ((p1.take (4 + (p0.1 % 13)).toNat).drop (p0.2.2 % (4 + (p0.1 % 13))).toNat))) (ys := ((p1.take (4 + (p0.1 % 13)).toNat).take (p0.2.2 % (4 + (p0.1 % 13))).toNat)) (c := c1) (a := a1) (hs409.here) sl28 rfl rfl rfl rfl rfl (fun h => h.2) (fun _ => rfl) hr412 (roomR hg410 (by decide)) (roomR63 hg410) (fun _ => rfl)) ?_
                        intro v413 w414 ht415
                        obtain ⟨a416, c417, hv418⟩ := gsl_sl (ht415.get (i := 1) rfl)
                        subst hv418
                        have hs419 := hs409.trans ht415
                        obtain ⟨a420, c421, hv422, hl423, he424⟩ := el_freeze (k := heldW) (ok := ok) hs419 ((List.perm_middle (l₁ := [blk b102 219 [Value.int .u8 p0.1, Value.int .u8 p0.2.1, Value.int .u8 p0.2.2]]) (a := gsl 60 heldE (Value.slice a416 (((([] : List Hd) ++ ((p1.take (4 + (p0.1 % 13)).toNat).drop (p0.2.2 % (4 + (p0.1 % 13))).toNat)) ++ ((p1.take (4 + (p0.1 % 13)).toNat).take (p0.2.2 % (4 + (p0.1 % 13))).toNat)).length) c417) ((([] : List Hd) ++ ((p1.take (4 + (p0.1 % 13)).toNat).drop (p0.2.2 % (4 + (p0.1 % 13))).toNat)) ++ ((p1.take (4 + (p0.1 % 13)).toNat).take (p0.2.2 % (4 + (p0.1 % 13))).toNat))) (l₂ := [])).trans (List.Perm.cons _ (List.Perm.refl _))) rfl (fun _ _ _ => ⟨trivial, rfl⟩)
                        obtain ⟨rfl, rfl⟩ : a416 = a420 ∧ c417 = c421 := ⟨(Value.slice.inj hv422).1, (Value.slice.inj hv422).2.2⟩
                        have ht425 := (hs419.here).perm (L' := [blk b102 219 [Value.int .u8 p0.1, Value.int .u8 p0.2.1, Value.int .u8 p0.2.2]]) (G := [gsl 60 heldE (Value.slice a416 (((([] : List Hd) ++ ((p1.take (4 + (p0.1 % 13)).toNat).drop (p0.2.2 % (4 + (p0.1 % 13))).toNat)) ++ ((p1.take (4 + (p0.1 % 13)).toNat).take (p0.2.2 % (4 + (p0.1 % 13))).toNat)).length) c417) ((([] : List Hd) ++ ((p1.take (4 + (p0.1 % 13)).toNat).drop (p0.2.2 % (4 + (p0.1 % 13))).toNat)) ++ ((p1.take (4 + (p0.1 % 13)).toNat).take (p0.2.2 % (4 + (p0.1 % 13))).toNat))]) ((List.Perm.refl _))
                        have hs426 := hs419.trans ht425
                        refine WK.conv ht425 ?_
                        obtain ⟨y428, hx429, h430⟩ := ob (o := common16 (4 + (p0.1 % 13)) ((([] : List Hd) ++ ((p1.take (4 + (p0.1 % 13)).toNat).drop (p0.2.2 % (4 + (p0.1 % 13))).toNat)) ++ ((p1.take (4 + (p0.1 % 13)).toNat).take (p0.2.2 % (4 + (p0.1 % 13))).toNat))) h411
                        refine WK.call 9 (by decide +kernel) rfl rfl rfl (common16_ok _ _ (4 + (p0.1 % 13)) ((([] : List Hd) ++ ((p1.take (4 + (p0.1 % 13)).toNat).drop (p0.2.2 % (4 + (p0.1 % 13))).toNat)) ++ ((p1.take (4 + (p0.1 % 13)).toNat).take (p0.2.2 % (4 + (p0.1 % 13))).toNat)) _ _ he424 hl423 hx429) (R.call (vs := [Value.int .i64 (4 + (p0.1 % 13)), Value.slice a416 (((([] : List Hd) ++ ((p1.take (4 + (p0.1 % 13)).toNat).drop (p0.2.2 % (4 + (p0.1 % 13))).toNat)) ++ ((p1.take (4 + (p0.1 % 13)).toNat).take (p0.2.2 % (4 + (p0.1 % 13))).toNat)).length) c417]) (caps := []) bo94 rfl rfl) ?_
                        rintro v433 w434 ⟨rfl, ht431⟩
                        have ht432 := hs426.call (N := [blk b102 219 [Value.int .u8 p0.1, Value.int .u8 p0.2.1, Value.int .u8 p0.2.2]]) (M := []) (List.Perm.refl _) ht431
                        have hs435 := hs426.trans ht432
                        refine ⟨_, ht432, ?_⟩
                        by_cases hc436 : y428 = y153
                        · have h437 := ifT hc436 h430
                          refine WK.take 11 rfl (by decide +kernel) (by decide +kernel) (by decide +kernel) (by decide +kernel) rfl rfl (fun wq hq => R.eqlT (k := .i64) (a := y428) (b := y153) un2 rfl rfl hc436) ?_
                          refine WK.take 12 rfl (by decide +kernel) (by decide +kernel) (by decide +kernel) (by decide +kernel) rfl rfl (fun wq hq => R.move (v := Value.bool true) rfl) ?_
                          obtain ⟨y438, hx439, h440⟩ := ob (o := lives16 ) h437
                          refine WK.callY 13 (e := 136) (by decide +kernel) rfl rfl rfl rfl rfl rfl (lives16_ok _ (In ok w [] [blk b102 219 [Value.int .u8 p0.1, Value.int .u8 p0.2.1, Value.int .u8 p0.2.2]])   hx439) (R.call (vs := []) (caps := []) bo95 rfl rfl) ?_
                          rintro v443 w444 ⟨rfl, ht441⟩
                          have ht442 := hs435.call (N := [blk b102 219 [Value.int .u8 p0.1, Value.int .u8 p0.2.1, Value.int .u8 p0.2.2]]) (M := []) (List.Perm.refl _) ht441
                          have hs445 := hs435.trans ht442
                          refine ⟨_, ht442, ?_⟩
                          refine WK.take 14 rfl (by decide +kernel) (by decide +kernel) (by decide +kernel) (by decide +kernel) rfl rfl (fun wq hq => R.pickT (v := Value.bool y438) rfl rfl) ?_
                          refine WK.take 15 rfl (by decide +kernel) (by decide +kernel) (by decide +kernel) (by decide +kernel) rfl rfl (fun wq hq => R.assign (v := Value.bool y438) rfl) ?_
                          refine WK.done (by decide +kernel) ?_
                          refine thenN ?_
                          refine WC.ret ?_
                          have ht446 := (hs445.here).perm (L' := []) (G := [blk b102 219 [Value.int .u8 p0.1, Value.int .u8 p0.2.1, Value.int .u8 p0.2.2]]) ((List.Perm.refl _))
                          have hs447 := hs445.trans ht446
                          obtain rfl := Option.some.inj (show some y438 = some r from h440)
                          exact ret1 (P := Try.prog) (n := 139) (fn := Try.f28) (R := fun v w' => v = Value.bool y438 ∧ St [] w w' []) (t := 4) (v := Value.bool y438) rfl rfl rfl ⟨rfl, hs447⟩
                        · have h448 := ifF hc436 h430
                          refine WK.take 11 rfl (by decide +kernel) (by decide +kernel) (by decide +kernel) (by decide +kernel) rfl rfl (fun wq hq => R.eqlF (k := .i64) (a := y428) (b := y153) un2 rfl rfl hc436) ?_
                          refine WK.take 12 rfl (by decide +kernel) (by decide +kernel) (by decide +kernel) (by decide +kernel) rfl rfl (fun wq hq => R.move (v := Value.bool false) rfl) ?_
                          refine WK.takeN 13 (e := 136) (v := .bool false) rfl (by decide +kernel) (by decide +kernel) (by decide +kernel) (by decide +kernel) rfl rfl rfl rfl rfl ?_
                          refine WK.take 14 rfl (by decide +kernel) (by decide +kernel) (by decide +kernel) (by decide +kernel) rfl rfl (fun wq hq => R.pickF (v := Value.bool false) rfl rfl) ?_
                          refine WK.take 15 rfl (by decide +kernel) (by decide +kernel) (by decide +kernel) (by decide +kernel) rfl rfl (fun wq hq => R.assign (v := Value.bool false) rfl) ?_
                          refine WK.done (by decide +kernel) ?_
                          refine thenN ?_
                          refine WC.ret ?_
                          have ht449 := (hs435.here).perm (L' := []) (G := [blk b102 219 [Value.int .u8 p0.1, Value.int .u8 p0.2.1, Value.int .u8 p0.2.2]]) ((List.Perm.refl _))
                          have hs450 := hs435.trans ht449
                          obtain rfl := Option.some.inj (show some false = some r from h448)
                          exact ret1 (P := Try.prog) (n := 139) (fn := Try.f28) (R := fun v w' => v = Value.bool false ∧ St [] w w' []) (t := 4) (v := Value.bool false) rfl rfl rfl ⟨rfl, hs450⟩
                      · have h451 := ifF hc376 h375
                        refine WL.val (R.neqT (k := .i64) (a := y153) (b := i259) un2 rfl rfl hc376) rfl ?_
                        refine WL.guardY (e := 108) rfl rfl rfl ?_
                        refine WL.val (R.pickT (v := Value.bool true) rfl rfl) rfl ?_
                        refine WL.guardY (e := 105) rfl rfl rfl ?_
                        refine WL.val (R.pickF (v := Value.bool true) rfl rfl) rfl ?_
                        refine WL.val (R.pickT (v := Value.bool true) rfl rfl) rfl ?_
                        refine WL.nil ?_
                        refine thenN ?_
                        refine WC.condT rfl rfl ?_
                        refine WC.seq ?_
                        refine WC.region ?_
                        refine WL.val (R.assign (v := Value.bool false) rfl) rfl ?_
                        refine WL.nil ?_
                        refine thenN ?_
                        refine WC.ret ?_
                        have ht452 := (hs273.here).perm (L' := []) (G := [blk b102 219 [Value.int .u8 p0.1, Value.int .u8 p0.2.1, Value.int .u8 p0.2.2]]) ((List.Perm.refl _))
                        have hs453 := hs273.trans ht452
                        obtain rfl := Option.some.inj (show some false = some r from h451)
                        exact ret1 (P := Try.prog) (n := 139) (fn := Try.f28) (R := fun v w' => v = Value.bool false ∧ St [] w w' []) (t := 4) (v := Value.bool false) rfl rfl rfl ⟨rfl, hs453⟩
                    · have h454 := ifF hc374 h373
                      refine WL.val (R.eqlF (k := .i64) (a := i259) (b := i260) un2 rfl rfl hc374) rfl ?_
                      refine WL.guardY (e := 108) rfl rfl rfl ?_
                      refine WL.val (R.move (v := Value.bool false) rfl) rfl ?_
                      refine WL.guardN (e := 112) (v := .bool false) rfl rfl rfl rfl ?_
                      refine WL.guardN (e := 112) (v := .bool false) rfl rfl rfl rfl ?_
                      refine WL.guardN (e := 112) (v := .bool false) rfl rfl rfl rfl ?_
                      refine WL.guardY (e := 108) rfl rfl rfl ?_
                      refine WL.val (R.pickF (v := Value.bool false) rfl rfl) rfl ?_
                      refine WL.guardY (e := 105) rfl rfl rfl ?_
                      refine WL.val (R.pickF (v := Value.bool false) rfl rfl) rfl ?_
                      refine WL.val (R.pickT (v := Value.bool false) rfl rfl) rfl ?_
                      refine WL.nil ?_
                      refine thenN ?_
                      refine WC.condF rfl rfl ?_
                      refine WC.skip ?_
                      refine thenN ?_
                      refine WC.seq ?_
                      refine WC.region ?_
                      refine WL.val (R.indexA (n := 1) (m := 2) (b := b102) (o := 0) (z := 2) un219 lf5.size (by exact s340) rfl rfl (by decide)) rfl ?_
                      refine WL.val (R.loadL (v := Value.int .u8 p0.2.2) lf5 rfl (hs273.at (i := 0) (off := 2) (n := 1) (cs := [Value.int .u8 p0.2.2]) rfl rfl rfl)) rfl ?_
                      obtain ⟨hg455, h456⟩ := ckE (c := -9223372036854775808 ≤ p0.2.2 ∧ p0.2.2 ≤ 9223372036854775807) h454
                      refine WL.val (R.convII (n := p0.2.2) (z := p0.2.2) un5 un3 rfl (w64 hg455.1 hg455.2)) rfl ?_
                      refine WL.val (R.move (v := Value.int .i64 (4 + (p0.1 % 13))) (by exact s341)) rfl ?_
                      obtain ⟨hg457, h458⟩ := ckE (c := 0 ≤ p0.2.2 ∧ 0 < (4 + (p0.1 % 13) : Int) ∧ (4 + (p0.1 % 13) : Int) ≤ 9223372036854775807) h456
                      refine WL.val (R.remG (a := p0.2.2) (b := 4 + (p0.1 % 13)) rfl rfl hg457 (by decide)) rfl ?_
                      refine WL.val (R.assign (v := Value.int .i64 (p0.2.2 % (4 + (p0.1 % 13)))) rfl) rfl ?_
                      refine WL.nil ?_
                      refine thenN ?_
                      refine WC.seq ?_
                      refine WC.drawK (L := [blk b102 219 [Value.int .u8 p0.1, Value.int .u8 p0.2.1, Value.int .u8 p0.2.2]]) mixed (NP.then NP.rq) ?_
                      have ht459 := (hs273.here).ext (Ext.drew _)
                      have hs460 := hs273.trans ht459
                      refine WK.take 0 rfl (by decide +kernel) (by decide +kernel) (by decide +kernel) (by decide +kernel) rfl rfl (fun wq hq => R.move (v := Value.int .i64 (4 + (p0.1 % 13))) (by exact s341)) ?_
                      refine WK.take 1 rfl (by decide +kernel) (by decide +kernel) (by decide +kernel) (by decide +kernel) rfl rfl (fun wq hq => R.move (v := Value.slice a1 ((p1.take (4 + (p0.1 % 13)).toNat).length) c1) (by exact s339)) ?_
                      refine WK.take 2 rfl (by decide +kernel) (by decide +kernel) (by decide +kernel) (by decide +kernel) rfl rfl (fun wq hq => R.move (v := Value.int .i64 (p0.2.2 % (4 + (p0.1 % 13)))) rfl) ?_
                      obtain ⟨hg461, h462⟩ := ckE (c := 0 ≤ p0.2.2 % (4 + (p0.1 % 13)) ∧ p0.2.2 % (4 + (p0.1 % 13)) ≤ (((p1.take (4 + (p0.1 % 13)).toNat).length : Nat) : Int)) h458
                      have hr463 := elT ht459 he274
                      obtain ⟨a466, c467, hr468, hl465, he464⟩ := R.sliceFromN (P := Try.prog) (T := 28) (E := 60) (k := heldW) un28 ag60.size hg461 hr463 hl146
                      refine WK.take 3 rfl (by decide +kernel) (by decide +kernel) (by decide +kernel) (by decide +kernel) rfl rfl (fun wq hq => hr468 _ _ _ _ _ _ _ _ _ rfl rfl) ?_
                      refine WK.take 5 rfl (by decide +kernel) (by decide +kernel) (by decide +kernel) (by decide +kernel) rfl rfl (fun wq hq => R.move (v := Value.slice a1 ((p1.take (4 + (p0.1 % 13)).toNat).length) c1) (by exact s339)) ?_
                      refine WK.take 6 rfl (by decide +kernel) (by decide +kernel) (by decide +kernel) (by decide +kernel) rfl rfl (fun wq hq => R.move (v := Value.int .i64 (p0.2.2 % (4 + (p0.1 % 13)))) rfl) ?_
                      have hn472 : ((p1.take (4 + (p0.1 % 13)).toNat).take (p0.2.2 % (4 + (p0.1 % 13))).toNat).length = (p0.2.2 % (4 + (p0.1 % 13))).toNat := take_len hg461
                      have he470 := elems_take (p0.2.2 % (4 + (p0.1 % 13))).toNat hr463
                      have hl471 : ((p1.take (4 + (p0.1 % 13)).toNat).take (p0.2.2 % (4 + (p0.1 % 13))).toNat).length ≤ c1 := by rw [hn472]; exact toCap hg461 hl146
                      refine WK.take 7 rfl (by decide +kernel) (by decide +kernel) (by decide +kernel) (by decide +kernel) rfl rfl (fun wq hq => R.sliceToN (n := 56) (z := p0.2.2 % (4 + (p0.1 % 13))) (N := ((p1.take (4 + (p0.1 % 13)).toNat).take (p0.2.2 % (4 + (p0.1 % 13))).toNat).length) un28 ag60.size rfl rfl hg461 hn472 hl146) ?_
                      refine WK.take 10 rfl (by decide +kernel) (by decide +kernel) (by decide +kernel) (by decide +kernel) rfl rfl (fun wq hq => R.move (v := Value.int .i64 y153) (by exact s342)) ?_
                      have ht474 := (hs460.here).addNil 60 heldE rfl
                      have hs476 := hs460.trans ht474
                      refine WK.conv ht474 ?_
                      obtain ⟨hg477, h478⟩ := ckE (c := ([] : List Hd).length + ((p1.take (4 + (p0.1 % 13)).toNat).drop (p0.2.2 % (4 + (p0.1 % 13))).toNat).length < 1000000) h462
                      have hr479 := elT ht474 he464
                      refine WK.grow (L' := fun v480 => [blk b102 219 [Value.int .u8 p0.1, Value.int .u8 p0.2.1, Value.int .u8 p0.2.2], gsl 60 heldE v480 (([] : List Hd) ++ ((p1.take (4 + (p0.1 % 13)).toNat).drop (p0.2.2 % (4 + (p0.1 % 13))).toNat))]) 4 (by decide +kernel) rfl rfl rfl (X.appendRd (k := heldW) (i := 1) (e := heldE) (xs := ([] : List Hd)) (ys := ((p1.take (4 + (p0.1 % 13)).toNat).drop (p0.2.2 % (4 + (p0.1 % 13))).toNat)) (c := c467) (a := a466) (hs476.here) sl28 rfl rfl rfl rfl rfl (fun h => h.2) (fun _ => rfl) hr479 (roomR hg477 (by decide)) (roomR63 hg477) (fun _ => rfl)) ?_
                      intro v480 w481 ht482
                      obtain ⟨a483, c484, hv485⟩ := gsl_sl (ht482.get (i := 1) rfl)
                      subst hv485
                      have hs486 := hs476.trans ht482
                      obtain ⟨hg487, h488⟩ := ckE (c := (([] : List Hd) ++ ((p1.take (4 + (p0.1 % 13)).toNat).drop (p0.2.2 % (4 + (p0.1 % 13))).toNat)).length + ((p1.take (4 + (p0.1 % 13)).toNat).take (p0.2.2 % (4 + (p0.1 % 13))).toNat).length < 1000000) h478
                      have hr489 := elT (ht474.trans ht482) he470
                      refine WK.grow (L' := fun v490 => [blk b102 219 [Value.int .u8 p0.1, Value.int .u8 p0.2.1, Value.int .u8 p0.2.2], gsl 60 heldE v490 ((([] : List Hd) ++ ((p1.take (4 + (p0.1 % 13)).toNat).drop (p0.2.2 % (4 + (p0.1 % 13))).toNat)) ++ ((p1.take (4 + (p0.1 % 13)).toNat).take (p0.2.2 % (4 + (p0.1 % 13))).toNat))]) 8 (by decide +kernel) rfl rfl rfl (X.appendRd (k := heldW) (i := 1) (e := heldE) (xs := (([] : List Hd) ++ ((p1.take (4 + (p0.1 % 13)).toNat).drop (p0.2.2 % (4 + (p0.1 % 13))).toNat))) (ys := ((p1.take (4 + (p0.1 % 13)).toNat).take (p0.2.2 % (4 + (p0.1 % 13))).toNat)) (c := c1) (a := a1) (hs486.here) sl28 rfl rfl rfl rfl rfl (fun h => h.2) (fun _ => rfl) hr489 (roomR hg487 (by decide)) (roomR63 hg487) (fun _ => rfl)) ?_
                      intro v490 w491 ht492
                      obtain ⟨a493, c494, hv495⟩ := gsl_sl (ht492.get (i := 1) rfl)
                      subst hv495
                      have hs496 := hs486.trans ht492
                      obtain ⟨a497, c498, hv499, hl500, he501⟩ := el_freeze (k := heldW) (ok := ok) hs496 ((List.perm_middle (l₁ := [blk b102 219 [Value.int .u8 p0.1, Value.int .u8 p0.2.1, Value.int .u8 p0.2.2]]) (a := gsl 60 heldE (Value.slice a493 (((([] : List Hd) ++ ((p1.take (4 + (p0.1 % 13)).toNat).drop (p0.2.2 % (4 + (p0.1 % 13))).toNat)) ++ ((p1.take (4 + (p0.1 % 13)).toNat).take (p0.2.2 % (4 + (p0.1 % 13))).toNat)).length) c494) ((([] : List Hd) ++ ((p1.take (4 + (p0.1 % 13)).toNat).drop (p0.2.2 % (4 + (p0.1 % 13))).toNat)) ++ ((p1.take (4 + (p0.1 % 13)).toNat).take (p0.2.2 % (4 + (p0.1 % 13))).toNat))) (l₂ := [])).trans (List.Perm.cons _ (List.Perm.refl _))) rfl (fun _ _ _ => ⟨trivial, rfl⟩)
                      obtain ⟨rfl, rfl⟩ : a493 = a497 ∧ c494 = c498 := ⟨(Value.slice.inj hv499).1, (Value.slice.inj hv499).2.2⟩
                      have ht502 := (hs496.here).perm (L' := [blk b102 219 [Value.int .u8 p0.1, Value.int .u8 p0.2.1, Value.int .u8 p0.2.2]]) (G := [gsl 60 heldE (Value.slice a493 (((([] : List Hd) ++ ((p1.take (4 + (p0.1 % 13)).toNat).drop (p0.2.2 % (4 + (p0.1 % 13))).toNat)) ++ ((p1.take (4 + (p0.1 % 13)).toNat).take (p0.2.2 % (4 + (p0.1 % 13))).toNat)).length) c494) ((([] : List Hd) ++ ((p1.take (4 + (p0.1 % 13)).toNat).drop (p0.2.2 % (4 + (p0.1 % 13))).toNat)) ++ ((p1.take (4 + (p0.1 % 13)).toNat).take (p0.2.2 % (4 + (p0.1 % 13))).toNat))]) ((List.Perm.refl _))
                      have hs503 := hs496.trans ht502
                      refine WK.conv ht502 ?_
                      obtain ⟨y505, hx506, h507⟩ := ob (o := common16 (4 + (p0.1 % 13)) ((([] : List Hd) ++ ((p1.take (4 + (p0.1 % 13)).toNat).drop (p0.2.2 % (4 + (p0.1 % 13))).toNat)) ++ ((p1.take (4 + (p0.1 % 13)).toNat).take (p0.2.2 % (4 + (p0.1 % 13))).toNat))) h488
                      refine WK.call 9 (by decide +kernel) rfl rfl rfl (common16_ok _ _ (4 + (p0.1 % 13)) ((([] : List Hd) ++ ((p1.take (4 + (p0.1 % 13)).toNat).drop (p0.2.2 % (4 + (p0.1 % 13))).toNat)) ++ ((p1.take (4 + (p0.1 % 13)).toNat).take (p0.2.2 % (4 + (p0.1 % 13))).toNat)) _ _ he501 hl500 hx506) (R.call (vs := [Value.int .i64 (4 + (p0.1 % 13)), Value.slice a493 (((([] : List Hd) ++ ((p1.take (4 + (p0.1 % 13)).toNat).drop (p0.2.2 % (4 + (p0.1 % 13))).toNat)) ++ ((p1.take (4 + (p0.1 % 13)).toNat).take (p0.2.2 % (4 + (p0.1 % 13))).toNat)).length) c494]) (caps := []) bo94 rfl rfl) ?_
                      rintro v510 w511 ⟨rfl, ht508⟩
                      have ht509 := hs503.call (N := [blk b102 219 [Value.int .u8 p0.1, Value.int .u8 p0.2.1, Value.int .u8 p0.2.2]]) (M := []) (List.Perm.refl _) ht508
                      have hs512 := hs503.trans ht509
                      refine ⟨_, ht509, ?_⟩
                      by_cases hc513 : y505 = y153
                      · have h514 := ifT hc513 h507
                        refine WK.take 11 rfl (by decide +kernel) (by decide +kernel) (by decide +kernel) (by decide +kernel) rfl rfl (fun wq hq => R.eqlT (k := .i64) (a := y505) (b := y153) un2 rfl rfl hc513) ?_
                        refine WK.take 12 rfl (by decide +kernel) (by decide +kernel) (by decide +kernel) (by decide +kernel) rfl rfl (fun wq hq => R.move (v := Value.bool true) rfl) ?_
                        obtain ⟨y515, hx516, h517⟩ := ob (o := lives16 ) h514
                        refine WK.callY 13 (e := 136) (by decide +kernel) rfl rfl rfl rfl rfl rfl (lives16_ok _ (In ok w [] [blk b102 219 [Value.int .u8 p0.1, Value.int .u8 p0.2.1, Value.int .u8 p0.2.2]])   hx516) (R.call (vs := []) (caps := []) bo95 rfl rfl) ?_
                        rintro v520 w521 ⟨rfl, ht518⟩
                        have ht519 := hs512.call (N := [blk b102 219 [Value.int .u8 p0.1, Value.int .u8 p0.2.1, Value.int .u8 p0.2.2]]) (M := []) (List.Perm.refl _) ht518
                        have hs522 := hs512.trans ht519
                        refine ⟨_, ht519, ?_⟩
                        refine WK.take 14 rfl (by decide +kernel) (by decide +kernel) (by decide +kernel) (by decide +kernel) rfl rfl (fun wq hq => R.pickT (v := Value.bool y515) rfl rfl) ?_
                        refine WK.take 15 rfl (by decide +kernel) (by decide +kernel) (by decide +kernel) (by decide +kernel) rfl rfl (fun wq hq => R.assign (v := Value.bool y515) rfl) ?_
                        refine WK.done (by decide +kernel) ?_
                        refine thenN ?_
                        refine WC.ret ?_
                        have ht523 := (hs522.here).perm (L' := []) (G := [blk b102 219 [Value.int .u8 p0.1, Value.int .u8 p0.2.1, Value.int .u8 p0.2.2]]) ((List.Perm.refl _))
                        have hs524 := hs522.trans ht523
                        obtain rfl := Option.some.inj (show some y515 = some r from h517)
                        exact ret1 (P := Try.prog) (n := 139) (fn := Try.f28) (R := fun v w' => v = Value.bool y515 ∧ St [] w w' []) (t := 4) (v := Value.bool y515) rfl rfl rfl ⟨rfl, hs524⟩
                      · have h525 := ifF hc513 h507
                        refine WK.take 11 rfl (by decide +kernel) (by decide +kernel) (by decide +kernel) (by decide +kernel) rfl rfl (fun wq hq => R.eqlF (k := .i64) (a := y505) (b := y153) un2 rfl rfl hc513) ?_
                        refine WK.take 12 rfl (by decide +kernel) (by decide +kernel) (by decide +kernel) (by decide +kernel) rfl rfl (fun wq hq => R.move (v := Value.bool false) rfl) ?_
                        refine WK.takeN 13 (e := 136) (v := .bool false) rfl (by decide +kernel) (by decide +kernel) (by decide +kernel) (by decide +kernel) rfl rfl rfl rfl rfl ?_
                        refine WK.take 14 rfl (by decide +kernel) (by decide +kernel) (by decide +kernel) (by decide +kernel) rfl rfl (fun wq hq => R.pickF (v := Value.bool false) rfl rfl) ?_
                        refine WK.take 15 rfl (by decide +kernel) (by decide +kernel) (by decide +kernel) (by decide +kernel) rfl rfl (fun wq hq => R.assign (v := Value.bool false) rfl) ?_
                        refine WK.done (by decide +kernel) ?_
                        refine thenN ?_
                        refine WC.ret ?_
                        have ht526 := (hs512.here).perm (L' := []) (G := [blk b102 219 [Value.int .u8 p0.1, Value.int .u8 p0.2.1, Value.int .u8 p0.2.2]]) ((List.Perm.refl _))
                        have hs527 := hs512.trans ht526
                        obtain rfl := Option.some.inj (show some false = some r from h525)
                        exact ret1 (P := Try.prog) (n := 139) (fn := Try.f28) (R := fun v w' => v = Value.bool false ∧ St [] w w' []) (t := 4) (v := Value.bool false) rfl rfl rfl ⟨rfl, hs527⟩
                · have h528 := ifF hc367 h366
                  refine WL.val (R.eqlF (k := .i64) (a := i261) (b := (4 + (p0.1 % 13)) - 1) un3 rfl rfl hc367) rfl ?_
                  refine WL.val (R.move (v := Value.bool false) rfl) rfl ?_
                  refine WL.guardN (e := 105) (v := .bool false) rfl rfl rfl rfl ?_
                  refine WL.guardN (e := 105) (v := .bool false) rfl rfl rfl rfl ?_
                  refine WL.guardN (e := 105) (v := .bool false) rfl rfl rfl rfl ?_
                  refine WL.guardN (e := 108) (v := undef) rfl rfl rfl rfl ?_
                  refine WL.guardN (e := 108) (v := undef) rfl rfl rfl rfl ?_
                  refine WL.guardN (e := 108) (v := undef) rfl rfl rfl rfl ?_
                  refine WL.guardN (e := 108) (v := undef) rfl rfl rfl rfl ?_
                  refine WL.guardN (e := 112) (v := undef) rfl rfl rfl rfl ?_
                  refine WL.guardN (e := 112) (v := undef) rfl rfl rfl rfl ?_
                  refine WL.guardN (e := 112) (v := undef) rfl rfl rfl rfl ?_
                  refine WL.guardN (e := 108) (v := undef) rfl rfl rfl rfl ?_
                  refine WL.guardN (e := 105) (v := .bool false) rfl rfl rfl rfl ?_
                  refine WL.val (R.pickF (v := Value.bool false) rfl rfl) rfl ?_
                  refine WL.nil ?_
                  refine thenN ?_
                  refine WC.condF rfl rfl ?_
                  refine WC.skip ?_
                  refine thenN ?_
                  refine WC.seq ?_
                  refine WC.region ?_
                  refine WL.val (R.indexA (n := 1) (m := 2) (b := b102) (o := 0) (z := 2) un219 lf5.size (by exact s340) rfl rfl (by decide)) rfl ?_
                  refine WL.val (R.loadL (v := Value.int .u8 p0.2.2) lf5 rfl (hs273.at (i := 0) (off := 2) (n := 1) (cs := [Value.int .u8 p0.2.2]) rfl rfl rfl)) rfl ?_
                  obtain ⟨hg529, h530⟩ := ckE (c := -9223372036854775808 ≤ p0.2.2 ∧ p0.2.2 ≤ 9223372036854775807) h528
                  refine WL.val (R.convII (n := p0.2.2) (z := p0.2.2) un5 un3 rfl (w64 hg529.1 hg529.2)) rfl ?_
                  refine WL.val (R.move (v := Value.int .i64 (4 + (p0.1 % 13))) (by exact s341)) rfl ?_
                  obtain ⟨hg531, h532⟩ := ckE (c := 0 ≤ p0.2.2 ∧ 0 < (4 + (p0.1 % 13) : Int) ∧ (4 + (p0.1 % 13) : Int) ≤ 9223372036854775807) h530
                  refine WL.val (R.remG (a := p0.2.2) (b := 4 + (p0.1 % 13)) rfl rfl hg531 (by decide)) rfl ?_
                  refine WL.val (R.assign (v := Value.int .i64 (p0.2.2 % (4 + (p0.1 % 13)))) rfl) rfl ?_
                  refine WL.nil ?_
                  refine thenN ?_
                  refine WC.seq ?_
                  refine WC.drawK (L := [blk b102 219 [Value.int .u8 p0.1, Value.int .u8 p0.2.1, Value.int .u8 p0.2.2]]) mixed (NP.then NP.rq) ?_
                  have ht533 := (hs273.here).ext (Ext.drew _)
                  have hs534 := hs273.trans ht533
                  refine WK.take 0 rfl (by decide +kernel) (by decide +kernel) (by decide +kernel) (by decide +kernel) rfl rfl (fun wq hq => R.move (v := Value.int .i64 (4 + (p0.1 % 13))) (by exact s341)) ?_
                  refine WK.take 1 rfl (by decide +kernel) (by decide +kernel) (by decide +kernel) (by decide +kernel) rfl rfl (fun wq hq => R.move (v := Value.slice a1 ((p1.take (4 + (p0.1 % 13)).toNat).length) c1) (by exact s339)) ?_
                  refine WK.take 2 rfl (by decide +kernel) (by decide +kernel) (by decide +kernel) (by decide +kernel) rfl rfl (fun wq hq => R.move (v := Value.int .i64 (p0.2.2 % (4 + (p0.1 % 13)))) rfl) ?_
                  obtain ⟨hg535, h536⟩ := ckE (c := 0 ≤ p0.2.2 % (4 + (p0.1 % 13)) ∧ p0.2.2 % (4 + (p0.1 % 13)) ≤ (((p1.take (4 + (p0.1 % 13)).toNat).length : Nat) : Int)) h532
                  have hr537 := elT ht533 he274
                  obtain ⟨a540, c541, hr542, hl539, he538⟩ := R.sliceFromN (P := Try.prog) (T := 28) (E := 60) (k := heldW) un28 ag60.size hg535 hr537 hl146
                  refine WK.take 3 rfl (by decide +kernel) (by decide +kernel) (by decide +kernel) (by decide +kernel) rfl rfl (fun wq hq => hr542 _ _ _ _ _ _ _ _ _ rfl rfl) ?_
                  refine WK.take 5 rfl (by decide +kernel) (by decide +kernel) (by decide +kernel) (by decide +kernel) rfl rfl (fun wq hq => R.move (v := Value.slice a1 ((p1.take (4 + (p0.1 % 13)).toNat).length) c1) (by exact s339)) ?_
                  refine WK.take 6 rfl (by decide +kernel) (by decide +kernel) (by decide +kernel) (by decide +kernel) rfl rfl (fun wq hq => R.move (v := Value.int .i64 (p0.2.2 % (4 + (p0.1 % 13)))) rfl) ?_
                  have hn546 : ((p1.take (4 + (p0.1 % 13)).toNat).take (p0.2.2 % (4 + (p0.1 % 13))).toNat).length = (p0.2.2 % (4 + (p0.1 % 13))).toNat := take_len hg535
                  have he544 := elems_take (p0.2.2 % (4 + (p0.1 % 13))).toNat hr537
                  have hl545 : ((p1.take (4 + (p0.1 % 13)).toNat).take (p0.2.2 % (4 + (p0.1 % 13))).toNat).length ≤ c1 := by rw [hn546]; exact toCap hg535 hl146
                  refine WK.take 7 rfl (by decide +kernel) (by decide +kernel) (by decide +kernel) (by decide +kernel) rfl rfl (fun wq hq => R.sliceToN (n := 56) (z := p0.2.2 % (4 + (p0.1 % 13))) (N := ((p1.take (4 + (p0.1 % 13)).toNat).take (p0.2.2 % (4 + (p0.1 % 13))).toNat).length) un28 ag60.size rfl rfl hg535 hn546 hl146) ?_
                  refine WK.take 10 rfl (by decide +kernel) (by decide +kernel) (by decide +kernel) (by decide +kernel) rfl rfl (fun wq hq => R.move (v := Value.int .i64 y153) (by exact s342)) ?_
                  have ht548 := (hs534.here).addNil 60 heldE rfl
                  have hs550 := hs534.trans ht548
                  refine WK.conv ht548 ?_
                  obtain ⟨hg551, h552⟩ := ckE (c := ([] : List Hd).length + ((p1.take (4 + (p0.1 % 13)).toNat).drop (p0.2.2 % (4 + (p0.1 % 13))).toNat).length < 1000000) h536
                  have hr553 := elT ht548 he538
                  refine WK.grow (L' := fun v554 => [blk b102 219 [Value.int .u8 p0.1, Value.int .u8 p0.2.1, Value.int .u8 p0.2.2], gsl 60 heldE v554 (([] : List Hd) ++ ((p1.take (4 + (p0.1 % 13)).toNat).drop (p0.2.2 % (4 + (p0.1 % 13))).toNat))]) 4 (by decide +kernel) rfl rfl rfl (X.appendRd (k := heldW) (i := 1) (e := heldE) (xs := ([] : List Hd)) (ys := ((p1.take (4 + (p0.1 % 13)).toNat).drop (p0.2.2 % (4 + (p0.1 % 13))).toNat)) (c := c541) (a := a540) (hs550.here) sl28 rfl rfl rfl rfl rfl (fun h => h.2) (fun _ => rfl) hr553 (roomR hg551 (by decide)) (roomR63 hg551) (fun _ => rfl)) ?_
                  intro v554 w555 ht556
                  obtain ⟨a557, c558, hv559⟩ := gsl_sl (ht556.get (i := 1) rfl)
                  subst hv559
                  have hs560 := hs550.trans ht556
                  obtain ⟨hg561, h562⟩ := ckE (c := (([] : List Hd) ++ ((p1.take (4 + (p0.1 % 13)).toNat).drop (p0.2.2 % (4 + (p0.1 % 13))).toNat)).length + ((p1.take (4 + (p0.1 % 13)).toNat).take (p0.2.2 % (4 + (p0.1 % 13))).toNat).length < 1000000) h552
                  have hr563 := elT (ht548.trans ht556) he544
                  refine WK.grow (L' := fun v564 => [blk b102 219 [Value.int .u8 p0.1, Value.int .u8 p0.2.1, Value.int .u8 p0.2.2], gsl 60 heldE v564 ((([] : List Hd) ++ ((p1.take (4 + (p0.1 % 13)).toNat).drop (p0.2.2 % (4 + (p0.1 % 13))).toNat)) ++ ((p1.take (4 + (p0.1 % 13)).toNat).take (p0.2.2 % (4 + (p0.1 % 13))).toNat))]) 8 (by decide +kernel) rfl rfl rfl (X.appendRd (k := heldW) (i := 1) (e := heldE) (xs := (([] : List Hd) ++ ((p1.take (4 + (p0.1 % 13)).toNat).drop (p0.2.2 % (4 + (p0.1 % 13))).toNat))) (ys := ((p1.take (4 + (p0.1 % 13)).toNat).take (p0.2.2 % (4 + (p0.1 % 13))).toNat)) (c := c1) (a := a1) (hs560.here) sl28 rfl rfl rfl rfl rfl (fun h => h.2) (fun _ => rfl) hr563 (roomR hg561 (by decide)) (roomR63 hg561) (fun _ => rfl)) ?_
                  intro v564 w565 ht566
                  obtain ⟨a567, c568, hv569⟩ := gsl_sl (ht566.get (i := 1) rfl)
                  subst hv569
                  have hs570 := hs560.trans ht566
                  obtain ⟨a571, c572, hv573, hl574, he575⟩ := el_freeze (k := heldW) (ok := ok) hs570 ((List.perm_middle (l₁ := [blk b102 219 [Value.int .u8 p0.1, Value.int .u8 p0.2.1, Value.int .u8 p0.2.2]]) (a := gsl 60 heldE (Value.slice a567 (((([] : List Hd) ++ ((p1.take (4 + (p0.1 % 13)).toNat).drop (p0.2.2 % (4 + (p0.1 % 13))).toNat)) ++ ((p1.take (4 + (p0.1 % 13)).toNat).take (p0.2.2 % (4 + (p0.1 % 13))).toNat)).length) c568) ((([] : List Hd) ++ ((p1.take (4 + (p0.1 % 13)).toNat).drop (p0.2.2 % (4 + (p0.1 % 13))).toNat)) ++ ((p1.take (4 + (p0.1 % 13)).toNat).take (p0.2.2 % (4 + (p0.1 % 13))).toNat))) (l₂ := [])).trans (List.Perm.cons _ (List.Perm.refl _))) rfl (fun _ _ _ => ⟨trivial, rfl⟩)
                  obtain ⟨rfl, rfl⟩ : a567 = a571 ∧ c568 = c572 := ⟨(Value.slice.inj hv573).1, (Value.slice.inj hv573).2.2⟩
                  have ht576 := (hs570.here).perm (L' := [blk b102 219 [Value.int .u8 p0.1, Value.int .u8 p0.2.1, Value.int .u8 p0.2.2]]) (G := [gsl 60 heldE (Value.slice a567 (((([] : List Hd) ++ ((p1.take (4 + (p0.1 % 13)).toNat).drop (p0.2.2 % (4 + (p0.1 % 13))).toNat)) ++ ((p1.take (4 + (p0.1 % 13)).toNat).take (p0.2.2 % (4 + (p0.1 % 13))).toNat)).length) c568) ((([] : List Hd) ++ ((p1.take (4 + (p0.1 % 13)).toNat).drop (p0.2.2 % (4 + (p0.1 % 13))).toNat)) ++ ((p1.take (4 + (p0.1 % 13)).toNat).take (p0.2.2 % (4 + (p0.1 % 13))).toNat))]) ((List.Perm.refl _))
                  have hs577 := hs570.trans ht576
                  refine WK.conv ht576 ?_
                  obtain ⟨y579, hx580, h581⟩ := ob (o := common16 (4 + (p0.1 % 13)) ((([] : List Hd) ++ ((p1.take (4 + (p0.1 % 13)).toNat).drop (p0.2.2 % (4 + (p0.1 % 13))).toNat)) ++ ((p1.take (4 + (p0.1 % 13)).toNat).take (p0.2.2 % (4 + (p0.1 % 13))).toNat))) h562
                  refine WK.call 9 (by decide +kernel) rfl rfl rfl (common16_ok _ _ (4 + (p0.1 % 13)) ((([] : List Hd) ++ ((p1.take (4 + (p0.1 % 13)).toNat).drop (p0.2.2 % (4 + (p0.1 % 13))).toNat)) ++ ((p1.take (4 + (p0.1 % 13)).toNat).take (p0.2.2 % (4 + (p0.1 % 13))).toNat)) _ _ he575 hl574 hx580) (R.call (vs := [Value.int .i64 (4 + (p0.1 % 13)), Value.slice a567 (((([] : List Hd) ++ ((p1.take (4 + (p0.1 % 13)).toNat).drop (p0.2.2 % (4 + (p0.1 % 13))).toNat)) ++ ((p1.take (4 + (p0.1 % 13)).toNat).take (p0.2.2 % (4 + (p0.1 % 13))).toNat)).length) c568]) (caps := []) bo94 rfl rfl) ?_
                  rintro v584 w585 ⟨rfl, ht582⟩
                  have ht583 := hs577.call (N := [blk b102 219 [Value.int .u8 p0.1, Value.int .u8 p0.2.1, Value.int .u8 p0.2.2]]) (M := []) (List.Perm.refl _) ht582
                  have hs586 := hs577.trans ht583
                  refine ⟨_, ht583, ?_⟩
                  by_cases hc587 : y579 = y153
                  · have h588 := ifT hc587 h581
                    refine WK.take 11 rfl (by decide +kernel) (by decide +kernel) (by decide +kernel) (by decide +kernel) rfl rfl (fun wq hq => R.eqlT (k := .i64) (a := y579) (b := y153) un2 rfl rfl hc587) ?_
                    refine WK.take 12 rfl (by decide +kernel) (by decide +kernel) (by decide +kernel) (by decide +kernel) rfl rfl (fun wq hq => R.move (v := Value.bool true) rfl) ?_
                    obtain ⟨y589, hx590, h591⟩ := ob (o := lives16 ) h588
                    refine WK.callY 13 (e := 136) (by decide +kernel) rfl rfl rfl rfl rfl rfl (lives16_ok _ (In ok w [] [blk b102 219 [Value.int .u8 p0.1, Value.int .u8 p0.2.1, Value.int .u8 p0.2.2]])   hx590) (R.call (vs := []) (caps := []) bo95 rfl rfl) ?_
                    rintro v594 w595 ⟨rfl, ht592⟩
                    have ht593 := hs586.call (N := [blk b102 219 [Value.int .u8 p0.1, Value.int .u8 p0.2.1, Value.int .u8 p0.2.2]]) (M := []) (List.Perm.refl _) ht592
                    have hs596 := hs586.trans ht593
                    refine ⟨_, ht593, ?_⟩
                    refine WK.take 14 rfl (by decide +kernel) (by decide +kernel) (by decide +kernel) (by decide +kernel) rfl rfl (fun wq hq => R.pickT (v := Value.bool y589) rfl rfl) ?_
                    refine WK.take 15 rfl (by decide +kernel) (by decide +kernel) (by decide +kernel) (by decide +kernel) rfl rfl (fun wq hq => R.assign (v := Value.bool y589) rfl) ?_
                    refine WK.done (by decide +kernel) ?_
                    refine thenN ?_
                    refine WC.ret ?_
                    have ht597 := (hs596.here).perm (L' := []) (G := [blk b102 219 [Value.int .u8 p0.1, Value.int .u8 p0.2.1, Value.int .u8 p0.2.2]]) ((List.Perm.refl _))
                    have hs598 := hs596.trans ht597
                    obtain rfl := Option.some.inj (show some y589 = some r from h591)
                    exact ret1 (P := Try.prog) (n := 139) (fn := Try.f28) (R := fun v w' => v = Value.bool y589 ∧ St [] w w' []) (t := 4) (v := Value.bool y589) rfl rfl rfl ⟨rfl, hs598⟩
                  · have h599 := ifF hc587 h581
                    refine WK.take 11 rfl (by decide +kernel) (by decide +kernel) (by decide +kernel) (by decide +kernel) rfl rfl (fun wq hq => R.eqlF (k := .i64) (a := y579) (b := y153) un2 rfl rfl hc587) ?_
                    refine WK.take 12 rfl (by decide +kernel) (by decide +kernel) (by decide +kernel) (by decide +kernel) rfl rfl (fun wq hq => R.move (v := Value.bool false) rfl) ?_
                    refine WK.takeN 13 (e := 136) (v := .bool false) rfl (by decide +kernel) (by decide +kernel) (by decide +kernel) (by decide +kernel) rfl rfl rfl rfl rfl ?_
                    refine WK.take 14 rfl (by decide +kernel) (by decide +kernel) (by decide +kernel) (by decide +kernel) rfl rfl (fun wq hq => R.pickF (v := Value.bool false) rfl rfl) ?_
                    refine WK.take 15 rfl (by decide +kernel) (by decide +kernel) (by decide +kernel) (by decide +kernel) rfl rfl (fun wq hq => R.assign (v := Value.bool false) rfl) ?_
                    refine WK.done (by decide +kernel) ?_
                    refine thenN ?_
                    refine WC.ret ?_
                    have ht600 := (hs586.here).perm (L' := []) (G := [blk b102 219 [Value.int .u8 p0.1, Value.int .u8 p0.2.1, Value.int .u8 p0.2.2]]) ((List.Perm.refl _))
                    have hs601 := hs586.trans ht600
                    obtain rfl := Option.some.inj (show some false = some r from h599)
                    exact ret1 (P := Try.prog) (n := 139) (fn := Try.f28) (R := fun v w' => v = Value.bool false ∧ St [] w w' []) (t := 4) (v := Value.bool false) rfl rfl rfl ⟨rfl, hs601⟩
        · have h602 := ifF hc346 h338
          refine WL.val (R.geqF (k := .i64) (a := y153) (b := 0) un2 rfl rfl hc346) rfl ?_
          refine WL.val (R.move (v := Value.bool false) rfl) rfl ?_
          refine WL.guardN (e := 85) (v := .bool false) rfl rfl rfl rfl ?_
          refine WL.guardN (e := 85) (v := .bool false) rfl rfl rfl rfl ?_
          refine WL.guardN (e := 85) (v := .bool false) rfl rfl rfl rfl ?_
          refine WL.guardN (e := 85) (v := .bool false) rfl rfl rfl rfl ?_
          refine WL.guardN (e := 85) (v := .bool false) rfl rfl rfl rfl ?_
          refine WL.guardN (e := 90) (v := undef) rfl rfl rfl rfl ?_
          refine WL.guardN (e := 90) (v := undef) rfl rfl rfl rfl ?_
          refine WL.guardN (e := 90) (v := undef) rfl rfl rfl rfl ?_
          refine WL.guardN (e := 85) (v := .bool false) rfl rfl rfl rfl ?_
          refine WL.guardN (e := 85) (v := .bool false) rfl rfl rfl rfl ?_
          refine WL.guardN (e := 95) (v := undef) rfl rfl rfl rfl ?_
          refine WL.guardN (e := 95) (v := undef) rfl rfl rfl rfl ?_
          refine WL.guardN (e := 95) (v := undef) rfl rfl rfl rfl ?_
          refine WL.guardN (e := 85) (v := .bool false) rfl rfl rfl rfl ?_
          refine WL.val (R.pickF (v := Value.bool false) rfl rfl) rfl ?_
          refine WL.nil ?_
          refine thenN ?_
          refine WC.condF rfl rfl ?_
          refine WC.skip ?_
          refine thenN ?_
          refine WC.seq ?_
          refine WC.seq ?_
          refine WC.region ?_
          refine WL.val (R.move (v := Value.int .i64 i261) (by exact s345)) rfl ?_
          refine WL.val (R.move (v := Value.int .i64 (4 + (p0.1 % 13))) (by exact s341)) rfl ?_
          obtain ⟨hg603, h604⟩ := ckE (c := -9223372036854775808 ≤ (4 + (p0.1 % 13)) - 1 ∧ (4 + (p0.1 % 13)) - 1 ≤ 9223372036854775807) h602
          refine WL.val (R.sub (a := 4 + (p0.1 % 13)) (b := 1) (z := (4 + (p0.1 % 13)) - 1) rfl rfl (w64e rfl hg603.1 hg603.2)) rfl ?_
          by_cases hc605 : i261 = ((4 + (p0.1 % 13)) - 1)
          · have h606 := ifT hc605 h604
            refine WL.val (R.eqlT (k := .i64) (a := i261) (b := (4 + (p0.1 % 13)) - 1) un3 rfl rfl hc605) rfl ?_
            refine WL.val (R.move (v := Value.bool true) rfl) rfl ?_
            refine WL.guardY (e := 105) rfl rfl rfl ?_
            refine WL.val (R.move (v := Value.int .i64 y153) (by exact s342)) rfl ?_
            refine WL.guardY (e := 105) rfl rfl rfl ?_
            by_cases hc607 : y153 < 0
            · have h608 := ifT hc607 h606
              refine WL.val (R.lssT (k := .i64) (a := y153) (b := 0) un2 rfl rfl hc607) rfl ?_
              refine WL.guardY (e := 105) rfl rfl rfl ?_
              refine WL.val (R.move (v := Value.bool true) rfl) rfl ?_
              refine WL.guardN (e := 108) (v := .bool true) rfl rfl rfl rfl ?_
              refine WL.guardN (e := 108) (v := .bool true) rfl rfl rfl rfl ?_
              refine WL.guardN (e := 108) (v := .bool true) rfl rfl rfl rfl ?_
              refine WL.guardN (e := 108) (v := .bool true) rfl rfl rfl rfl ?_
              refine WL.guardN (e := 112) (v := undef) rfl rfl rfl rfl ?_
              refine WL.guardN (e := 112) (v := undef) rfl rfl rfl rfl ?_
              refine WL.guardN (e := 112) (v := undef) rfl rfl rfl rfl ?_
              refine WL.guardN (e := 108) (v := .bool true) rfl rfl rfl rfl ?_
              refine WL.guardY (e := 105) rfl rfl rfl ?_
              refine WL.val (R.pickT (v := Value.bool true) rfl rfl) rfl ?_
              refine WL.val (R.pickT (v := Value.bool true) rfl rfl) rfl ?_
              refine WL.nil ?_
              refine thenN ?_
              refine WC.condT rfl rfl ?_
              refine WC.seq ?_
              refine WC.region ?_
              refine WL.val (R.assign (v := Value.bool false) rfl) rfl ?_
              refine WL.nil ?_
              refine thenN ?_
              refine WC.ret ?_
              have ht609 := (hs273.here).perm (L' := []) (G := [blk b102 219 [Value.int .u8 p0.1, Value.int .u8 p0.2.1, Value.int .u8 p0.2.2]]) ((List.Perm.refl _))
              have hs610 := hs273.trans ht609
              obtain rfl := Option.some.inj (show some false = some r from h608)
              exact ret1 (P := Try.prog) (n := 139) (fn := Try.f28) (R := fun v w' => v = Value.bool false ∧ St [] w w' []) (t := 4) (v := Value.bool false) rfl rfl rfl ⟨rfl, hs610⟩
            · have h611 := ifF hc607 h606
              refine WL.val (R.lssF (k := .i64) (a := y153) (b := 0) un2 rfl rfl hc607) rfl ?_
              refine WL.guardY (e := 105) rfl rfl rfl ?_
              refine WL.val (R.move (v := Value.bool false) rfl) rfl ?_
              refine WL.guardY (e := 108) rfl rfl rfl ?_
              refine WL.val (R.move (v := Value.int .i64 i259) (by exact s343)) rfl ?_
              refine WL.guardY (e := 108) rfl rfl rfl ?_
              refine WL.val (R.move (v := Value.int .i64 i260) (by exact s344)) rfl ?_
              refine WL.guardY (e := 108) rfl rfl rfl ?_
              by_cases hc612 : i259 = i260
              · have h613 := ifT hc612 h611
                refine WL.val (R.eqlT (k := .i64) (a := i259) (b := i260) un2 rfl rfl hc612) rfl ?_
                refine WL.guardY (e := 108) rfl rfl rfl ?_
                refine WL.val (R.move (v := Value.bool true) rfl) rfl ?_
                refine WL.guardY (e := 112) rfl rfl rfl ?_
                refine WL.val (R.move (v := Value.int .i64 y153) (by exact s342)) rfl ?_
                refine WL.guardY (e := 112) rfl rfl rfl ?_
                refine WL.val (R.move (v := Value.int .i64 i259) (by exact s343)) rfl ?_
                refine WL.guardY (e := 112) rfl rfl rfl ?_
                by_cases hc614 : y153 = i259
                · have h615 := ifT hc614 h613
                  refine WL.val (R.neqF (k := .i64) (a := y153) (b := i259) un2 rfl rfl (not_not_intro hc614)) rfl ?_
                  refine WL.guardY (e := 108) rfl rfl rfl ?_
                  refine WL.val (R.pickT (v := Value.bool false) rfl rfl) rfl ?_
                  refine WL.guardY (e := 105) rfl rfl rfl ?_
                  refine WL.val (R.pickF (v := Value.bool false) rfl rfl) rfl ?_
                  refine WL.val (R.pickT (v := Value.bool false) rfl rfl) rfl ?_
                  refine WL.nil ?_
                  refine thenN ?_
                  refine WC.condF rfl rfl ?_
                  refine WC.skip ?_
                  refine thenN ?_
                  refine WC.seq ?_
                  refine WC.region ?_
                  refine WL.val (R.indexA (n := 1) (m := 2) (b := b102) (o := 0) (z := 2) un219 lf5.size (by exact s340) rfl rfl (by decide)) rfl ?_
                  refine WL.val (R.loadL (v := Value.int .u8 p0.2.2) lf5 rfl (hs273.at (i := 0) (off := 2) (n := 1) (cs := [Value.int .u8 p0.2.2]) rfl rfl rfl)) rfl ?_
                  obtain ⟨hg616, h617⟩ := ckE (c := -9223372036854775808 ≤ p0.2.2 ∧ p0.2.2 ≤ 9223372036854775807) h615
                  refine WL.val (R.convII (n := p0.2.2) (z := p0.2.2) un5 un3 rfl (w64 hg616.1 hg616.2)) rfl ?_
                  refine WL.val (R.move (v := Value.int .i64 (4 + (p0.1 % 13))) (by exact s341)) rfl ?_
                  obtain ⟨hg618, h619⟩ := ckE (c := 0 ≤ p0.2.2 ∧ 0 < (4 + (p0.1 % 13) : Int) ∧ (4 + (p0.1 % 13) : Int) ≤ 9223372036854775807) h617
                  refine WL.val (R.remG (a := p0.2.2) (b := 4 + (p0.1 % 13)) rfl rfl hg618 (by decide)) rfl ?_
                  refine WL.val (R.assign (v := Value.int .i64 (p0.2.2 % (4 + (p0.1 % 13)))) rfl) rfl ?_
                  refine WL.nil ?_
                  refine thenN ?_
                  refine WC.seq ?_
                  refine WC.drawK (L := [blk b102 219 [Value.int .u8 p0.1, Value.int .u8 p0.2.1, Value.int .u8 p0.2.2]]) mixed (NP.then NP.rq) ?_
                  have ht620 := (hs273.here).ext (Ext.drew _)
                  have hs621 := hs273.trans ht620
                  refine WK.take 0 rfl (by decide +kernel) (by decide +kernel) (by decide +kernel) (by decide +kernel) rfl rfl (fun wq hq => R.move (v := Value.int .i64 (4 + (p0.1 % 13))) (by exact s341)) ?_
                  refine WK.take 1 rfl (by decide +kernel) (by decide +kernel) (by decide +kernel) (by decide +kernel) rfl rfl (fun wq hq => R.move (v := Value.slice a1 ((p1.take (4 + (p0.1 % 13)).toNat).length) c1) (by exact s339)) ?_
                  refine WK.take 2 rfl (by decide +kernel) (by decide +kernel) (by decide +kernel) (by decide +kernel) rfl rfl (fun wq hq => R.move (v := Value.int .i64 (p0.2.2 % (4 + (p0.1 % 13)))) rfl) ?_
                  obtain ⟨hg622, h623⟩ := ckE (c := 0 ≤ p0.2.2 % (4 + (p0.1 % 13)) ∧ p0.2.2 % (4 + (p0.1 % 13)) ≤ (((p1.take (4 + (p0.1 % 13)).toNat).length : Nat) : Int)) h619
                  have hr624 := elT ht620 he274
                  obtain ⟨a627, c628, hr629, hl626, he625⟩ := R.sliceFromN (P := Try.prog) (T := 28) (E := 60) (k := heldW) un28 ag60.size hg622 hr624 hl146
                  refine WK.take 3 rfl (by decide +kernel) (by decide +kernel) (by decide +kernel) (by decide +kernel) rfl rfl (fun wq hq => hr629 _ _ _ _ _ _ _ _ _ rfl rfl) ?_
                  refine WK.take 5 rfl (by decide +kernel) (by decide +kernel) (by decide +kernel) (by decide +kernel) rfl rfl (fun wq hq => R.move (v := Value.slice a1 ((p1.take (4 + (p0.1 % 13)).toNat).length) c1) (by exact s339)) ?_
                  refine WK.take 6 rfl (by decide +kernel) (by decide +kernel) (by decide +kernel) (by decide +kernel) rfl rfl (fun wq hq => R.move (v := Value.int .i64 (p0.2.2 % (4 + (p0.1 % 13)))) rfl) ?_
                  have hn633 : ((p1.take (4 + (p0.1 % 13)).toNat).take (p0.2.2 % (4 + (p0.1 % 13))).toNat).length = (p0.2.2 % (4 + (p0.1 % 13))).toNat := take_len hg622
                  have he631 := elems_take (p0.2.2 % (4 + (p0.1 % 13))).toNat hr624
                  have hl632 : ((p1.take (4 + (p0.1 % 13)).toNat).take (p0.2.2 % (4 + (p0.1 % 13))).toNat).length ≤ c1 := by rw [hn633]; exact toCap hg622 hl146
                  refine WK.take 7 rfl (by decide +kernel) (by decide +kernel) (by decide +kernel) (by decide +kernel) rfl rfl (fun wq hq => R.sliceToN (n := 56) (z := p0.2.2 % (4 + (p0.1 % 13))) (N := ((p1.take (4 + (p0.1 % 13)).toNat).take (p0.2.2 % (4 + (p0.1 % 13))).toNat).length) un28 ag60.size rfl rfl hg622 hn633 hl146) ?_
                  refine WK.take 10 rfl (by decide +kernel) (by decide +kernel) (by decide +kernel) (by decide +kernel) rfl rfl (fun wq hq => R.move (v := Value.int .i64 y153) (by exact s342)) ?_
                  have ht635 := (hs621.here).addNil 60 heldE rfl
                  have hs637 := hs621.trans ht635
                  refine WK.conv ht635 ?_
                  obtain ⟨hg638, h639⟩ := ckE (c := ([] : List Hd).length + ((p1.take (4 + (p0.1 % 13)).toNat).drop (p0.2.2 % (4 + (p0.1 % 13))).toNat).length < 1000000) h623
                  have hr640 := elT ht635 he625
                  refine WK.grow (L' := fun v641 => [blk b102 219 [Value.int .u8 p0.1, Value.int .u8 p0.2.1, Value.int .u8 p0.2.2], gsl 60 heldE v641 (([] : List Hd) ++ ((p1.take (4 + (p0.1 % 13)).toNat).drop (p0.2.2 % (4 + (p0.1 % 13))).toNat))]) 4 (by decide +kernel) rfl rfl rfl (X.appendRd (k := heldW) (i := 1) (e := heldE) (xs := ([] : List Hd)) (ys := ((p1.take (4 + (p0.1 % 13)).toNat).drop (p0.2.2 % (4 + (p0.1 % 13))).toNat)) (c := c628) (a := a627) (hs637.here) sl28 rfl rfl rfl rfl rfl (fun h => h.2) (fun _ => rfl) hr640 (roomR hg638 (by decide)) (roomR63 hg638) (fun _ => rfl)) ?_
                  intro v641 w642 ht643
                  obtain ⟨a644, c645, hv646⟩ := gsl_sl (ht643.get (i := 1) rfl)
                  subst hv646
                  have hs647 := hs637.trans ht643
                  obtain ⟨hg648, h649⟩ := ckE (c := (([] : List Hd) ++ ((p1.take (4 + (p0.1 % 13)).toNat).drop (p0.2.2 % (4 + (p0.1 % 13))).toNat)).length + ((p1.take (4 + (p0.1 % 13)).toNat).take (p0.2.2 % (4 + (p0.1 % 13))).toNat).length < 1000000) h639
                  have hr650 := elT (ht635.trans ht643) he631
                  refine WK.grow (L' := fun v651 => [blk b102 219 [Value.int .u8 p0.1, Value.int .u8 p0.2.1, Value.int .u8 p0.2.2], gsl 60 heldE v651 ((([] : List Hd) ++ ((p1.take (4 + (p0.1 % 13)).toNat).drop (p0.2.2 % (4 + (p0.1 % 13))).toNat)) ++ ((p1.take (4 + (p0.1 % 13)).toNat).take (p0.2.2 % (4 + (p0.1 % 13))).toNat))]) 8 (by decide +kernel) rfl rfl rfl (X.appendRd (k := heldW) (i := 1) (e := heldE) (xs := (([] : List Hd) ++ ((p1.take (4 + (p0.1 % 13)).toNat).drop (p0.2.2 % (4 + (p0.1 % 13))).toNat))) (ys := ((p1.take (4 + (p0.1 % 13)).toNat).take (p0.2.2 % (4 + (p0.1 % 13))).toNat)) (c := c1) (a := a1) (hs647.here) sl28 rfl rfl rfl rfl rfl (fun h => h.2) (fun _ => rfl) hr650 (roomR hg648 (by decide)) (roomR63 hg648) (fun _ => rfl)) ?_
                  intro v651 w652 ht653
                  obtain ⟨a654, c655, hv656⟩ := gsl_sl (ht653.get (i := 1) rfl)
                  subst hv656
                  have hs657 := hs647.trans ht653
                  obtain ⟨a658, c659, hv660, hl661, he662⟩ := el_freeze (k := heldW) (ok := ok) hs657 ((List.perm_middle (l₁ := [blk b102 219 [Value.int .u8 p0.1, Value.int .u8 p0.2.1, Value.int .u8 p0.2.2]]) (a := gsl 60 heldE (Value.slice a654 (((([] : List Hd) ++ ((p1.take (4 + (p0.1 % 13)).toNat).drop (p0.2.2 % (4 + (p0.1 % 13))).toNat)) ++ ((p1.take (4 + (p0.1 % 13)).toNat).take (p0.2.2 % (4 + (p0.1 % 13))).toNat)).length) c655) ((([] : List Hd) ++ ((p1.take (4 + (p0.1 % 13)).toNat).drop (p0.2.2 % (4 + (p0.1 % 13))).toNat)) ++ ((p1.take (4 + (p0.1 % 13)).toNat).take (p0.2.2 % (4 + (p0.1 % 13))).toNat))) (l₂ := [])).trans (List.Perm.cons _ (List.Perm.refl _))) rfl (fun _ _ _ => ⟨trivial, rfl⟩)
                  obtain ⟨rfl, rfl⟩ : a654 = a658 ∧ c655 = c659 := ⟨(Value.slice.inj hv660).1, (Value.slice.inj hv660).2.2⟩
                  have ht663 := (hs657.here).perm (L' := [blk b102 219 [Value.int .u8 p0.1, Value.int .u8 p0.2.1, Value.int .u8 p0.2.2]]) (G := [gsl 60 heldE (Value.slice a654 (((([] : List Hd) ++ ((p1.take (4 + (p0.1 % 13)).toNat).drop (p0.2.2 % (4 + (p0.1 % 13))).toNat)) ++ ((p1.take (4 + (p0.1 % 13)).toNat).take (p0.2.2 % (4 + (p0.1 % 13))).toNat)).length) c655) ((([] : List Hd) ++ ((p1.take (4 + (p0.1 % 13)).toNat).drop (p0.2.2 % (4 + (p0.1 % 13))).toNat)) ++ ((p1.take (4 + (p0.1 % 13)).toNat).take (p0.2.2 % (4 + (p0.1 % 13))).toNat))]) ((List.Perm.refl _))
                  have hs664 := hs657.trans ht663
                  refine WK.conv ht663 ?_
                  obtain ⟨y666, hx667, h668⟩ := ob (o := common16 (4 + (p0.1 % 13)) ((([] : List Hd) ++ ((p1.take (4 + (p0.1 % 13)).toNat).drop (p0.2.2 % (4 + (p0.1 % 13))).toNat)) ++ ((p1.take (4 + (p0.1 % 13)).toNat).take (p0.2.2 % (4 + (p0.1 % 13))).toNat))) h649
                  refine WK.call 9 (by decide +kernel) rfl rfl rfl (common16_ok _ _ (4 + (p0.1 % 13)) ((([] : List Hd) ++ ((p1.take (4 + (p0.1 % 13)).toNat).drop (p0.2.2 % (4 + (p0.1 % 13))).toNat)) ++ ((p1.take (4 + (p0.1 % 13)).toNat).take (p0.2.2 % (4 + (p0.1 % 13))).toNat)) _ _ he662 hl661 hx667) (R.call (vs := [Value.int .i64 (4 + (p0.1 % 13)), Value.slice a654 (((([] : List Hd) ++ ((p1.take (4 + (p0.1 % 13)).toNat).drop (p0.2.2 % (4 + (p0.1 % 13))).toNat)) ++ ((p1.take (4 + (p0.1 % 13)).toNat).take (p0.2.2 % (4 + (p0.1 % 13))).toNat)).length) c655]) (caps := []) bo94 rfl rfl) ?_
                  rintro v671 w672 ⟨rfl, ht669⟩
                  have ht670 := hs664.call (N := [blk b102 219 [Value.int .u8 p0.1, Value.int .u8 p0.2.1, Value.int .u8 p0.2.2]]) (M := []) (List.Perm.refl _) ht669
                  have hs673 := hs664.trans ht670
                  refine ⟨_, ht670, ?_⟩
                  by_cases hc674 : y666 = y153
                  · have h675 := ifT hc674 h668
                    refine WK.take 11 rfl (by decide +kernel) (by decide +kernel) (by decide +kernel) (by decide +kernel) rfl rfl (fun wq hq => R.eqlT (k := .i64) (a := y666) (b := y153) un2 rfl rfl hc674) ?_
                    refine WK.take 12 rfl (by decide +kernel) (by decide +kernel) (by decide +kernel) (by decide +kernel) rfl rfl (fun wq hq => R.move (v := Value.bool true) rfl) ?_
                    obtain ⟨y676, hx677, h678⟩ := ob (o := lives16 ) h675
                    refine WK.callY 13 (e := 136) (by decide +kernel) rfl rfl rfl rfl rfl rfl (lives16_ok _ (In ok w [] [blk b102 219 [Value.int .u8 p0.1, Value.int .u8 p0.2.1, Value.int .u8 p0.2.2]])   hx677) (R.call (vs := []) (caps := []) bo95 rfl rfl) ?_
                    rintro v681 w682 ⟨rfl, ht679⟩
                    have ht680 := hs673.call (N := [blk b102 219 [Value.int .u8 p0.1, Value.int .u8 p0.2.1, Value.int .u8 p0.2.2]]) (M := []) (List.Perm.refl _) ht679
                    have hs683 := hs673.trans ht680
                    refine ⟨_, ht680, ?_⟩
                    refine WK.take 14 rfl (by decide +kernel) (by decide +kernel) (by decide +kernel) (by decide +kernel) rfl rfl (fun wq hq => R.pickT (v := Value.bool y676) rfl rfl) ?_
                    refine WK.take 15 rfl (by decide +kernel) (by decide +kernel) (by decide +kernel) (by decide +kernel) rfl rfl (fun wq hq => R.assign (v := Value.bool y676) rfl) ?_
                    refine WK.done (by decide +kernel) ?_
                    refine thenN ?_
                    refine WC.ret ?_
                    have ht684 := (hs683.here).perm (L' := []) (G := [blk b102 219 [Value.int .u8 p0.1, Value.int .u8 p0.2.1, Value.int .u8 p0.2.2]]) ((List.Perm.refl _))
                    have hs685 := hs683.trans ht684
                    obtain rfl := Option.some.inj (show some y676 = some r from h678)
                    exact ret1 (P := Try.prog) (n := 139) (fn := Try.f28) (R := fun v w' => v = Value.bool y676 ∧ St [] w w' []) (t := 4) (v := Value.bool y676) rfl rfl rfl ⟨rfl, hs685⟩
                  · have h686 := ifF hc674 h668
                    refine WK.take 11 rfl (by decide +kernel) (by decide +kernel) (by decide +kernel) (by decide +kernel) rfl rfl (fun wq hq => R.eqlF (k := .i64) (a := y666) (b := y153) un2 rfl rfl hc674) ?_
                    refine WK.take 12 rfl (by decide +kernel) (by decide +kernel) (by decide +kernel) (by decide +kernel) rfl rfl (fun wq hq => R.move (v := Value.bool false) rfl) ?_
                    refine WK.takeN 13 (e := 136) (v := .bool false) rfl (by decide +kernel) (by decide +kernel) (by decide +kernel) (by decide +kernel) rfl rfl rfl rfl rfl ?_
                    refine WK.take 14 rfl (by decide +kernel) (by decide +kernel) (by decide +kernel) (by decide +kernel) rfl rfl (fun wq hq => R.pickF (v := Value.bool false) rfl rfl) ?_
                    refine WK.take 15 rfl (by decide +kernel) (by decide +kernel) (by decide +kernel) (by decide +kernel) rfl rfl (fun wq hq => R.assign (v := Value.bool false) rfl) ?_
                    refine WK.done (by decide +kernel) ?_
                    refine thenN ?_
                    refine WC.ret ?_
                    have ht687 := (hs673.here).perm (L' := []) (G := [blk b102 219 [Value.int .u8 p0.1, Value.int .u8 p0.2.1, Value.int .u8 p0.2.2]]) ((List.Perm.refl _))
                    have hs688 := hs673.trans ht687
                    obtain rfl := Option.some.inj (show some false = some r from h686)
                    exact ret1 (P := Try.prog) (n := 139) (fn := Try.f28) (R := fun v w' => v = Value.bool false ∧ St [] w w' []) (t := 4) (v := Value.bool false) rfl rfl rfl ⟨rfl, hs688⟩
                · have h689 := ifF hc614 h613
                  refine WL.val (R.neqT (k := .i64) (a := y153) (b := i259) un2 rfl rfl hc614) rfl ?_
                  refine WL.guardY (e := 108) rfl rfl rfl ?_
                  refine WL.val (R.pickT (v := Value.bool true) rfl rfl) rfl ?_
                  refine WL.guardY (e := 105) rfl rfl rfl ?_
                  refine WL.val (R.pickF (v := Value.bool true) rfl rfl) rfl ?_
                  refine WL.val (R.pickT (v := Value.bool true) rfl rfl) rfl ?_
                  refine WL.nil ?_
                  refine thenN ?_
                  refine WC.condT rfl rfl ?_
                  refine WC.seq ?_
                  refine WC.region ?_
                  refine WL.val (R.assign (v := Value.bool false) rfl) rfl ?_
                  refine WL.nil ?_
                  refine thenN ?_
                  refine WC.ret ?_
                  have ht690 := (hs273.here).perm (L' := []) (G := [blk b102 219 [Value.int .u8 p0.1, Value.int .u8 p0.2.1, Value.int .u8 p0.2.2]]) ((List.Perm.refl _))
                  have hs691 := hs273.trans ht690
                  obtain rfl := Option.some.inj (show some false = some r from h689)
                  exact ret1 (P := Try.prog) (n := 139) (fn := Try.f28) (R := fun v w' => v = Value.bool false ∧ St [] w w' []) (t := 4) (v := Value.bool false) rfl rfl rfl ⟨rfl, hs691⟩
              · have h692 := ifF hc612 h611
                refine WL.val (R.eqlF (k := .i64) (a := i259) (b := i260) un2 rfl rfl hc612) rfl ?_
                refine WL.guardY (e := 108) rfl rfl rfl ?_
                refine WL.val (R.move (v := Value.bool false) rfl) rfl ?_
                refine WL.guardN (e := 112) (v := .bool false) rfl rfl rfl rfl ?_
                refine WL.guardN (e := 112) (v := .bool false) rfl rfl rfl rfl ?_
                refine WL.guardN (e := 112) (v := .bool false) rfl rfl rfl rfl ?_
                refine WL.guardY (e := 108) rfl rfl rfl ?_
                refine WL.val (R.pickF (v := Value.bool false) rfl rfl) rfl ?_
                refine WL.guardY (e := 105) rfl rfl rfl ?_
                refine WL.val (R.pickF (v := Value.bool false) rfl rfl) rfl ?_
                refine WL.val (R.pickT (v := Value.bool false) rfl rfl) rfl ?_
                refine WL.nil ?_
                refine thenN ?_
                refine WC.condF rfl rfl ?_
                refine WC.skip ?_
                refine thenN ?_
                refine WC.seq ?_
                refine WC.region ?_
                refine WL.val (R.indexA (n := 1) (m := 2) (b := b102) (o := 0) (z := 2) un219 lf5.size (by exact s340) rfl rfl (by decide)) rfl ?_
                refine WL.val (R.loadL (v := Value.int .u8 p0.2.2) lf5 rfl (hs273.at (i := 0) (off := 2) (n := 1) (cs := [Value.int .u8 p0.2.2]) rfl rfl rfl)) rfl ?_
                obtain ⟨hg693, h694⟩ := ckE (c := -9223372036854775808 ≤ p0.2.2 ∧ p0.2.2 ≤ 9223372036854775807) h692
                refine WL.val (R.convII (n := p0.2.2) (z := p0.2.2) un5 un3 rfl (w64 hg693.1 hg693.2)) rfl ?_
                refine WL.val (R.move (v := Value.int .i64 (4 + (p0.1 % 13))) (by exact s341)) rfl ?_
                obtain ⟨hg695, h696⟩ := ckE (c := 0 ≤ p0.2.2 ∧ 0 < (4 + (p0.1 % 13) : Int) ∧ (4 + (p0.1 % 13) : Int) ≤ 9223372036854775807) h694
                refine WL.val (R.remG (a := p0.2.2) (b := 4 + (p0.1 % 13)) rfl rfl hg695 (by decide)) rfl ?_
                refine WL.val (R.assign (v := Value.int .i64 (p0.2.2 % (4 + (p0.1 % 13)))) rfl) rfl ?_
                refine WL.nil ?_
                refine thenN ?_
                refine WC.seq ?_
                refine WC.drawK (L := [blk b102 219 [Value.int .u8 p0.1, Value.int .u8 p0.2.1, Value.int .u8 p0.2.2]]) mixed (NP.then NP.rq) ?_
                have ht697 := (hs273.here).ext (Ext.drew _)
                have hs698 := hs273.trans ht697
                refine WK.take 0 rfl (by decide +kernel) (by decide +kernel) (by decide +kernel) (by decide +kernel) rfl rfl (fun wq hq => R.move (v := Value.int .i64 (4 + (p0.1 % 13))) (by exact s341)) ?_
                refine WK.take 1 rfl (by decide +kernel) (by decide +kernel) (by decide +kernel) (by decide +kernel) rfl rfl (fun wq hq => R.move (v := Value.slice a1 ((p1.take (4 + (p0.1 % 13)).toNat).length) c1) (by exact s339)) ?_
                refine WK.take 2 rfl (by decide +kernel) (by decide +kernel) (by decide +kernel) (by decide +kernel) rfl rfl (fun wq hq => R.move (v := Value.int .i64 (p0.2.2 % (4 + (p0.1 % 13)))) rfl) ?_
                obtain ⟨hg699, h700⟩ := ckE (c := 0 ≤ p0.2.2 % (4 + (p0.1 % 13)) ∧ p0.2.2 % (4 + (p0.1 % 13)) ≤ (((p1.take (4 + (p0.1 % 13)).toNat).length : Nat) : Int)) h696
                have hr701 := elT ht697 he274
                obtain ⟨a704, c705, hr706, hl703, he702⟩ := R.sliceFromN (P := Try.prog) (T := 28) (E := 60) (k := heldW) un28 ag60.size hg699 hr701 hl146
                refine WK.take 3 rfl (by decide +kernel) (by decide +kernel) (by decide +kernel) (by decide +kernel) rfl rfl (fun wq hq => hr706 _ _ _ _ _ _ _ _ _ rfl rfl) ?_
                refine WK.take 5 rfl (by decide +kernel) (by decide +kernel) (by decide +kernel) (by decide +kernel) rfl rfl (fun wq hq => R.move (v := Value.slice a1 ((p1.take (4 + (p0.1 % 13)).toNat).length) c1) (by exact s339)) ?_
                refine WK.take 6 rfl (by decide +kernel) (by decide +kernel) (by decide +kernel) (by decide +kernel) rfl rfl (fun wq hq => R.move (v := Value.int .i64 (p0.2.2 % (4 + (p0.1 % 13)))) rfl) ?_
                have hn710 : ((p1.take (4 + (p0.1 % 13)).toNat).take (p0.2.2 % (4 + (p0.1 % 13))).toNat).length = (p0.2.2 % (4 + (p0.1 % 13))).toNat := take_len hg699
                have he708 := elems_take (p0.2.2 % (4 + (p0.1 % 13))).toNat hr701
                have hl709 : ((p1.take (4 + (p0.1 % 13)).toNat).take (p0.2.2 % (4 + (p0.1 % 13))).toNat).length ≤ c1 := by rw [hn710]; exact toCap hg699 hl146
                refine WK.take 7 rfl (by decide +kernel) (by decide +kernel) (by decide +kernel) (by decide +kernel) rfl rfl (fun wq hq => R.sliceToN (n := 56) (z := p0.2.2 % (4 + (p0.1 % 13))) (N := ((p1.take (4 + (p0.1 % 13)).toNat).take (p0.2.2 % (4 + (p0.1 % 13))).toNat).length) un28 ag60.size rfl rfl hg699 hn710 hl146) ?_
                refine WK.take 10 rfl (by decide +kernel) (by decide +kernel) (by decide +kernel) (by decide +kernel) rfl rfl (fun wq hq => R.move (v := Value.int .i64 y153) (by exact s342)) ?_
                have ht712 := (hs698.here).addNil 60 heldE rfl
                have hs714 := hs698.trans ht712
                refine WK.conv ht712 ?_
                obtain ⟨hg715, h716⟩ := ckE (c := ([] : List Hd).length + ((p1.take (4 + (p0.1 % 13)).toNat).drop (p0.2.2 % (4 + (p0.1 % 13))).toNat).length < 1000000) h700
                have hr717 := elT ht712 he702
                refine WK.grow (L' := fun v718 => [blk b102 219 [Value.int .u8 p0.1, Value.int .u8 p0.2.1, Value.int .u8 p0.2.2], gsl 60 heldE v718 (([] : List Hd) ++ ((p1.take (4 + (p0.1 % 13)).toNat).drop (p0.2.2 % (4 + (p0.1 % 13))).toNat))]) 4 (by decide +kernel) rfl rfl rfl (X.appendRd (k := heldW) (i := 1) (e := heldE) (xs := ([] : List Hd)) (ys := ((p1.take (4 + (p0.1 % 13)).toNat).drop (p0.2.2 % (4 + (p0.1 % 13))).toNat)) (c := c705) (a := a704) (hs714.here) sl28 rfl rfl rfl rfl rfl (fun h => h.2) (fun _ => rfl) hr717 (roomR hg715 (by decide)) (roomR63 hg715) (fun _ => rfl)) ?_
                intro v718 w719 ht720
                obtain ⟨a721, c722, hv723⟩ := gsl_sl (ht720.get (i := 1) rfl)
                subst hv723
                have hs724 := hs714.trans ht720
                obtain ⟨hg725, h726⟩ := ckE (c := (([] : List Hd) ++ ((p1.take (4 + (p0.1 % 13)).toNat).drop (p0.2.2 % (4 + (p0.1 % 13))).toNat)).length + ((p1.take (4 + (p0.1 % 13)).toNat).take (p0.2.2 % (4 + (p0.1 % 13))).toNat).length < 1000000) h716
                have hr727 := elT (ht712.trans ht720) he708
                refine WK.grow (L' := fun v728 => [blk b102 219 [Value.int .u8 p0.1, Value.int .u8 p0.2.1, Value.int .u8 p0.2.2], gsl 60 heldE v728 ((([] : List Hd) ++ ((p1.take (4 + (p0.1 % 13)).toNat).drop (p0.2.2 % (4 + (p0.1 % 13))).toNat)) ++ ((p1.take (4 + (p0.1 % 13)).toNat).take (p0.2.2 % (4 + (p0.1 % 13))).toNat))]) 8 (by decide +kernel) rfl rfl rfl (X.appendRd (k := heldW) (i := 1) (e := heldE) (xs := (([] : List Hd) ++ ((p1.take (4 + (p0.1 % 13)).toNat).drop (p0.2.2 % (4 + (p0.1 % 13))).toNat))) (ys := ((p1.take (4 + (p0.1 % 13)).toNat).take (p0.2.2 % (4 + (p0.1 % 13))).toNat)) (c := c1) (a := a1) (hs724.here) sl28 rfl rfl rfl rfl rfl (fun h => h.2) (fun _ => rfl) hr727 (roomR hg725 (by decide)) (roomR63 hg725) (fun _ => rfl)) ?_
                intro v728 w729 ht730
                obtain ⟨a731, c732, hv733⟩ := gsl_sl (ht730.get (i := 1) rfl)
                subst hv733
                have hs734 := hs724.trans ht730
                obtain ⟨a735, c736, hv737, hl738, he739⟩ := el_freeze (k := heldW) (ok := ok) hs734 ((List.perm_middle (l₁ := [blk b102 219 [Value.int .u8 p0.1, Value.int .u8 p0.2.1, Value.int .u8 p0.2.2]]) (a := gsl 60 heldE (Value.slice a731 (((([] : List Hd) ++ ((p1.take (4 + (p0.1 % 13)).toNat).drop (p0.2.2 % (4 + (p0.1 % 13))).toNat)) ++ ((p1.take (4 + (p0.1 % 13)).toNat).take (p0.2.2 % (4 + (p0.1 % 13))).toNat)).length) c732) ((([] : List Hd) ++ ((p1.take (4 + (p0.1 % 13)).toNat).drop (p0.2.2 % (4 + (p0.1 % 13))).toNat)) ++ ((p1.take (4 + (p0.1 % 13)).toNat).take (p0.2.2 % (4 + (p0.1 % 13))).toNat))) (l₂ := [])).trans (List.Perm.cons _ (List.Perm.refl _))) rfl (fun _ _ _ => ⟨trivial, rfl⟩)
                obtain ⟨rfl, rfl⟩ : a731 = a735 ∧ c732 = c736 := ⟨(Value.slice.inj hv737).1, (Value.slice.inj hv737).2.2⟩
                have ht740 := (hs734.here).perm (L' := [blk b102 219 [Value.int .u8 p0.1, Value.int .u8 p0.2.1, Value.int .u8 p0.2.2]]) (G := [gsl 60 heldE (Value.slice a731 (((([] : List Hd) ++ ((p1.take (4 + (p0.1 % 13)).toNat).drop (p0.2.2 % (4 + (p0.1 % 13))).toNat)) ++ ((p1.take (4 + (p0.1 % 13)).toNat).take (p0.2.2 % (4 + (p0.1 % 13))).toNat)).length) c732) ((([] : List Hd) ++ ((p1.take (4 + (p0.1 % 13)).toNat).drop (p0.2.2 % (4 + (p0.1 % 13))).toNat)) ++ ((p1.take (4 + (p0.1 % 13)).toNat).take (p0.2.2 % (4 + (p0.1 % 13))).toNat))]) ((List.Perm.refl _))
                have hs741 := hs734.trans ht740
                refine WK.conv ht740 ?_
                obtain ⟨y743, hx744, h745⟩ := ob (o := common16 (4 + (p0.1 % 13)) ((([] : List Hd) ++ ((p1.take (4 + (p0.1 % 13)).toNat).drop (p0.2.2 % (4 + (p0.1 % 13))).toNat)) ++ ((p1.take (4 + (p0.1 % 13)).toNat).take (p0.2.2 % (4 + (p0.1 % 13))).toNat))) h726
                refine WK.call 9 (by decide +kernel) rfl rfl rfl (common16_ok _ _ (4 + (p0.1 % 13)) ((([] : List Hd) ++ ((p1.take (4 + (p0.1 % 13)).toNat).drop (p0.2.2 % (4 + (p0.1 % 13))).toNat)) ++ ((p1.take (4 + (p0.1 % 13)).toNat).take (p0.2.2 % (4 + (p0.1 % 13))).toNat)) _ _ he739 hl738 hx744) (R.call (vs := [Value.int .i64 (4 + (p0.1 % 13)), Value.slice a731 (((([] : List Hd) ++ ((p1.take (4 + (p0.1 % 13)).toNat).drop (p0.2.2 % (4 + (p0.1 % 13))).toNat)) ++ ((p1.take (4 + (p0.1 % 13)).toNat).take (p0.2.2 % (4 + (p0.1 % 13))).toNat)).length) c732]) (caps := []) bo94 rfl rfl) ?_
                rintro v748 w749 ⟨rfl, ht746⟩
                have ht747 := hs741.call (N := [blk b102 219 [Value.int .u8 p0.1, Value.int .u8 p0.2.1, Value.int .u8 p0.2.2]]) (M := []) (List.Perm.refl _) ht746
                have hs750 := hs741.trans ht747
                refine ⟨_, ht747, ?_⟩
                by_cases hc751 : y743 = y153
                · have h752 := ifT hc751 h745
                  refine WK.take 11 rfl (by decide +kernel) (by decide +kernel) (by decide +kernel) (by decide +kernel) rfl rfl (fun wq hq => R.eqlT (k := .i64) (a := y743) (b := y153) un2 rfl rfl hc751) ?_
                  refine WK.take 12 rfl (by decide +kernel) (by decide +kernel) (by decide +kernel) (by decide +kernel) rfl rfl (fun wq hq => R.move (v := Value.bool true) rfl) ?_
                  obtain ⟨y753, hx754, h755⟩ := ob (o := lives16 ) h752
                  refine WK.callY 13 (e := 136) (by decide +kernel) rfl rfl rfl rfl rfl rfl (lives16_ok _ (In ok w [] [blk b102 219 [Value.int .u8 p0.1, Value.int .u8 p0.2.1, Value.int .u8 p0.2.2]])   hx754) (R.call (vs := []) (caps := []) bo95 rfl rfl) ?_
                  rintro v758 w759 ⟨rfl, ht756⟩
                  have ht757 := hs750.call (N := [blk b102 219 [Value.int .u8 p0.1, Value.int .u8 p0.2.1, Value.int .u8 p0.2.2]]) (M := []) (List.Perm.refl _) ht756
                  have hs760 := hs750.trans ht757
                  refine ⟨_, ht757, ?_⟩
                  refine WK.take 14 rfl (by decide +kernel) (by decide +kernel) (by decide +kernel) (by decide +kernel) rfl rfl (fun wq hq => R.pickT (v := Value.bool y753) rfl rfl) ?_
                  refine WK.take 15 rfl (by decide +kernel) (by decide +kernel) (by decide +kernel) (by decide +kernel) rfl rfl (fun wq hq => R.assign (v := Value.bool y753) rfl) ?_
                  refine WK.done (by decide +kernel) ?_
                  refine thenN ?_
                  refine WC.ret ?_
                  have ht761 := (hs760.here).perm (L' := []) (G := [blk b102 219 [Value.int .u8 p0.1, Value.int .u8 p0.2.1, Value.int .u8 p0.2.2]]) ((List.Perm.refl _))
                  have hs762 := hs760.trans ht761
                  obtain rfl := Option.some.inj (show some y753 = some r from h755)
                  exact ret1 (P := Try.prog) (n := 139) (fn := Try.f28) (R := fun v w' => v = Value.bool y753 ∧ St [] w w' []) (t := 4) (v := Value.bool y753) rfl rfl rfl ⟨rfl, hs762⟩
                · have h763 := ifF hc751 h745
                  refine WK.take 11 rfl (by decide +kernel) (by decide +kernel) (by decide +kernel) (by decide +kernel) rfl rfl (fun wq hq => R.eqlF (k := .i64) (a := y743) (b := y153) un2 rfl rfl hc751) ?_
                  refine WK.take 12 rfl (by decide +kernel) (by decide +kernel) (by decide +kernel) (by decide +kernel) rfl rfl (fun wq hq => R.move (v := Value.bool false) rfl) ?_
                  refine WK.takeN 13 (e := 136) (v := .bool false) rfl (by decide +kernel) (by decide +kernel) (by decide +kernel) (by decide +kernel) rfl rfl rfl rfl rfl ?_
                  refine WK.take 14 rfl (by decide +kernel) (by decide +kernel) (by decide +kernel) (by decide +kernel) rfl rfl (fun wq hq => R.pickF (v := Value.bool false) rfl rfl) ?_
                  refine WK.take 15 rfl (by decide +kernel) (by decide +kernel) (by decide +kernel) (by decide +kernel) rfl rfl (fun wq hq => R.assign (v := Value.bool false) rfl) ?_
                  refine WK.done (by decide +kernel) ?_
                  refine thenN ?_
                  refine WC.ret ?_
                  have ht764 := (hs750.here).perm (L' := []) (G := [blk b102 219 [Value.int .u8 p0.1, Value.int .u8 p0.2.1, Value.int .u8 p0.2.2]]) ((List.Perm.refl _))
                  have hs765 := hs750.trans ht764
                  obtain rfl := Option.some.inj (show some false = some r from h763)
                  exact ret1 (P := Try.prog) (n := 139) (fn := Try.f28) (R := fun v w' => v = Value.bool false ∧ St [] w w' []) (t := 4) (v := Value.bool false) rfl rfl rfl ⟨rfl, hs765⟩
          · have h766 := ifF hc605 h604
            refine WL.val (R.eqlF (k := .i64) (a := i261) (b := (4 + (p0.1 % 13)) - 1) un3 rfl rfl hc605) rfl ?_
            refine WL.val (R.move (v := Value.bool false) rfl) rfl ?_
            refine WL.guardN (e := 105) (v := .bool false) rfl rfl rfl rfl ?_
            refine WL.guardN (e := 105) (v := .bool false) rfl rfl rfl rfl ?_
            refine WL.guardN (e := 105) (v := .bool false) rfl rfl rfl rfl ?_
            refine WL.guardN (e := 108) (v := undef) rfl rfl rfl rfl ?_
            refine WL.guardN (e := 108) (v := undef) rfl rfl rfl rfl ?_
            refine WL.guardN (e := 108) (v := undef) rfl rfl rfl rfl ?_
            refine WL.guardN (e := 108) (v := undef) rfl rfl rfl rfl ?_
            refine WL.guardN (e := 112) (v := undef) rfl rfl rfl rfl ?_
            refine WL.guardN (e := 112) (v := undef) rfl rfl rfl rfl ?_
            refine WL.guardN (e := 112) (v := undef) rfl rfl rfl rfl ?_
            refine WL.guardN (e := 108) (v := undef) rfl rfl rfl rfl ?_
            refine WL.guardN (e := 105) (v := .bool false) rfl rfl rfl rfl ?_
            refine WL.val (R.pickF (v := Value.bool false) rfl rfl) rfl ?_
            refine WL.nil ?_
            refine thenN ?_
            refine WC.condF rfl rfl ?_
            refine WC.skip ?_
            refine thenN ?_
            refine WC.seq ?_
            refine WC.region ?_
            refine WL.val (R.indexA (n := 1) (m := 2) (b := b102) (o := 0) (z := 2) un219 lf5.size (by exact s340) rfl rfl (by decide)) rfl ?_
            refine WL.val (R.loadL (v := Value.int .u8 p0.2.2) lf5 rfl (hs273.at (i := 0) (off := 2) (n := 1) (cs := [Value.int .u8 p0.2.2]) rfl rfl rfl)) rfl ?_
            obtain ⟨hg767, h768⟩ := ckE (c := -9223372036854775808 ≤ p0.2.2 ∧ p0.2.2 ≤ 9223372036854775807) h766
            refine WL.val (R.convII (n := p0.2.2) (z := p0.2.2) un5 un3 rfl (w64 hg767.1 hg767.2)) rfl ?_
            refine WL.val (R.move (v := Value.int .i64 (4 + (p0.1 % 13))) (by exact s341)) rfl ?_
            obtain ⟨hg769, h770⟩ := ckE (c := 0 ≤ p0.2.2 ∧ 0 < (4 + (p0.1 % 13) : Int) ∧ (4 + (p0.1 % 13) : Int) ≤ 9223372036854775807) h768
            refine WL.val (R.remG (a := p0.2.2) (b := 4 + (p0.1 % 13)) rfl rfl hg769 (by decide)) rfl ?_
            refine WL.val (R.assign (v := Value.int .i64 (p0.2.2 % (4 + (p0.1 % 13)))) rfl) rfl ?_
            refine WL.nil ?_
            refine thenN ?_
            refine WC.seq ?_
            refine WC.drawK (L := [blk b102 219 [Value.int .u8 p0.1, Value.int .u8 p0.2.1, Value.int .u8 p0.2.2]]) mixed (NP.then NP.rq) ?_
            have ht771 := (hs273.here).ext (Ext.drew _)
            have hs772 := hs273.trans ht771
            refine WK.take 0 rfl (by decide +kernel) (by decide +kernel) (by decide +kernel) (by decide +kernel) rfl rfl (fun wq hq => R.move (v := Value.int .i64 (4 + (p0.1 % 13))) (by exact s341)) ?_
            refine WK.take 1 rfl (by decide +kernel) (by decide +kernel) (by decide +kernel) (by decide +kernel) rfl rfl (fun wq hq => R.move (v := Value.slice a1 ((p1.take (4 + (p0.1 % 13)).toNat).length) c1) (by exact s339)) ?_
            refine WK.take 2 rfl (by decide +kernel) (by decide +kernel) (by decide +kernel) (by decide +kernel) rfl rfl (fun wq hq => R.move (v := Value.int .i64 (p0.2.2 % (4 + (p0.1 % 13)))) rfl) ?_
            obtain ⟨hg773, h774⟩ := ckE (c := 0 ≤ p0.2.2 % (4 + (p0.1 % 13)) ∧ p0.2.2 % (4 + (p0.1 % 13)) ≤ (((p1.take (4 + (p0.1 % 13)).toNat).length : Nat) : Int)) h770
            have hr775 := elT ht771 he274
            obtain ⟨a778, c779, hr780, hl777, he776⟩ := R.sliceFromN (P := Try.prog) (T := 28) (E := 60) (k := heldW) un28 ag60.size hg773 hr775 hl146
            refine WK.take 3 rfl (by decide +kernel) (by decide +kernel) (by decide +kernel) (by decide +kernel) rfl rfl (fun wq hq => hr780 _ _ _ _ _ _ _ _ _ rfl rfl) ?_
            refine WK.take 5 rfl (by decide +kernel) (by decide +kernel) (by decide +kernel) (by decide +kernel) rfl rfl (fun wq hq => R.move (v := Value.slice a1 ((p1.take (4 + (p0.1 % 13)).toNat).length) c1) (by exact s339)) ?_
            refine WK.take 6 rfl (by decide +kernel) (by decide +kernel) (by decide +kernel) (by decide +kernel) rfl rfl (fun wq hq => R.move (v := Value.int .i64 (p0.2.2 % (4 + (p0.1 % 13)))) rfl) ?_
            have hn784 : ((p1.take (4 + (p0.1 % 13)).toNat).take (p0.2.2 % (4 + (p0.1 % 13))).toNat).length = (p0.2.2 % (4 + (p0.1 % 13))).toNat := take_len hg773
            have he782 := elems_take (p0.2.2 % (4 + (p0.1 % 13))).toNat hr775
            have hl783 : ((p1.take (4 + (p0.1 % 13)).toNat).take (p0.2.2 % (4 + (p0.1 % 13))).toNat).length ≤ c1 := by rw [hn784]; exact toCap hg773 hl146
            refine WK.take 7 rfl (by decide +kernel) (by decide +kernel) (by decide +kernel) (by decide +kernel) rfl rfl (fun wq hq => R.sliceToN (n := 56) (z := p0.2.2 % (4 + (p0.1 % 13))) (N := ((p1.take (4 + (p0.1 % 13)).toNat).take (p0.2.2 % (4 + (p0.1 % 13))).toNat).length) un28 ag60.size rfl rfl hg773 hn784 hl146) ?_
            refine WK.take 10 rfl (by decide +kernel) (by decide +kernel) (by decide +kernel) (by decide +kernel) rfl rfl (fun wq hq => R.move (v := Value.int .i64 y153) (by exact s342)) ?_
            have ht786 := (hs772.here).addNil 60 heldE rfl
            have hs788 := hs772.trans ht786
            refine WK.conv ht786 ?_
            obtain ⟨hg789, h790⟩ := ckE (c := ([] : List Hd).length + ((p1.take (4 + (p0.1 % 13)).toNat).drop (p0.2.2 % (4 + (p0.1 % 13))).toNat).length < 1000000) h774
            have hr791 := elT ht786 he776
            refine WK.grow (L' := fun v792 => [blk b102 219 [Value.int .u8 p0.1, Value.int .u8 p0.2.1, Value.int .u8 p0.2.2], gsl 60 heldE v792 (([] : List Hd) ++ ((p1.take (4 + (p0.1 % 13)).toNat).drop (p0.2.2 % (4 + (p0.1 % 13))).toNat))]) 4 (by decide +kernel) rfl rfl rfl (X.appendRd (k := heldW) (i := 1) (e := heldE) (xs := ([] : List Hd)) (ys := ((p1.take (4 + (p0.1 % 13)).toNat).drop (p0.2.2 % (4 + (p0.1 % 13))).toNat)) (c := c779) (a := a778) (hs788.here) sl28 rfl rfl rfl rfl rfl (fun h => h.2) (fun _ => rfl) hr791 (roomR hg789 (by decide)) (roomR63 hg789) (fun _ => rfl)) ?_
            intro v792 w793 ht794
            obtain ⟨a795, c796, hv797⟩ := gsl_sl (ht794.get (i := 1) rfl)
            subst hv797
            have hs798 := hs788.trans ht794
            obtain ⟨hg799, h800⟩ := ckE (c := (([] : List Hd) ++ ((p1.take (4 + (p0.1 % 13)).toNat).drop (p0.2.2 % (4 + (p0.1 % 13))).toNat)).length + ((p1.take (4 + (p0.1 % 13)).toNat).take (p0.2.2 % (4 + (p0.1 % 13))).toNat).length < 1000000) h790
            have hr801 := elT (ht786.trans ht794) he782
            refine WK.grow (L' := fun v802 => [blk b102 219 [Value.int .u8 p0.1, Value.int .u8 p0.2.1, Value.int .u8 p0.2.2], gsl 60 heldE v802 ((([] : List Hd) ++ ((p1.take (4 + (p0.1 % 13)).toNat).drop (p0.2.2 % (4 + (p0.1 % 13))).toNat)) ++ ((p1.take (4 + (p0.1 % 13)).toNat).take (p0.2.2 % (4 + (p0.1 % 13))).toNat))]) 8 (by decide +kernel) rfl rfl rfl (X.appendRd (k := heldW) (i := 1) (e := heldE) (xs := (([] : List Hd) ++ ((p1.take (4 + (p0.1 % 13)).toNat).drop (p0.2.2 % (4 + (p0.1 % 13))).toNat))) (ys := ((p1.take (4 + (p0.1 % 13)).toNat).take (p0.2.2 % (4 + (p0.1 % 13))).toNat)) (c := c1) (a := a1) (hs798.here) sl28 rfl rfl rfl rfl rfl (fun h => h.2) (fun _ => rfl) hr801 (roomR hg799 (by decide)) (roomR63 hg799) (fun _ => rfl)) ?_
            intro v802 w803 ht804
            obtain ⟨a805, c806, hv807⟩ := gsl_sl (ht804.get (i := 1) rfl)
            subst hv807
            have hs808 := hs798.trans ht804
            obtain ⟨a809, c810, hv811, hl812, he813⟩ := el_freeze (k := heldW) (ok := ok) hs808 ((List.perm_middle (l₁ := [blk b102 219 [Value.int .u8 p0.1, Value.int .u8 p0.2.1, Value.int .u8 p0.2.2]]) (a := gsl 60 heldE (Value.slice a805 (((([] : List Hd) ++ ((p1.take (4 + (p0.1 % 13)).toNat).drop (p0.2.2 % (4 + (p0.1 % 13))).toNat)) ++ ((p1.take (4 + (p0.1 % 13)).toNat).take (p0.2.2 % (4 + (p0.1 % 13))).toNat)).length) c806) ((([] : List Hd) ++ ((p1.take (4 + (p0.1 % 13)).toNat).drop (p0.2.2 % (4 + (p0.1 % 13))).toNat)) ++ ((p1.take (4 + (p0.1 % 13)).toNat).take (p0.2.2 % (4 + (p0.1 % 13))).toNat))) (l₂ := [])).trans (List.Perm.cons _ (List.Perm.refl _))) rfl (fun _ _ _ => ⟨trivial, rfl⟩)
            obtain ⟨rfl, rfl⟩ : a805 = a809 ∧ c806 = c810 := ⟨(Value.slice.inj hv811).1, (Value.slice.inj hv811).2.2⟩
            have ht814 := (hs808.here).perm (L' := [blk b102 219 [Value.int .u8 p0.1, Value.int .u8 p0.2.1, Value.int .u8 p0.2.2]]) (G := [gsl 60 heldE (Value.slice a805 (((([] : List Hd) ++ ((p1.take (4 + (p0.1 % 13)).toNat).drop (p0.2.2 % (4 + (p0.1 % 13))).toNat)) ++ ((p1.take (4 + (p0.1 % 13)).toNat).take (p0.2.2 % (4 + (p0.1 % 13))).toNat)).length) c806) ((([] : List Hd) ++ ((p1.take (4 + (p0.1 % 13)).toNat).drop (p0.2.2 % (4 + (p0.1 % 13))).toNat)) ++ ((p1.take (4 + (p0.1 % 13)).toNat).take (p0.2.2 % (4 + (p0.1 % 13))).toNat))]) ((List.Perm.refl _))
            have hs815 := hs808.trans ht814
            refine WK.conv ht814 ?_
            obtain ⟨y817, hx818, h819⟩ := ob (o := common16 (4 + (p0.1 % 13)) ((([] : List Hd) ++ ((p1.take (4 + (p0.1 % 13)).toNat).drop (p0.2.2 % (4 + (p0.1 % 13))).toNat)) ++ ((p1.take (4 + (p0.1 % 13)).toNat).take (p0.2.2 % (4 + (p0.1 % 13))).toNat))) h800
            refine WK.call 9 (by decide +kernel) rfl rfl rfl (common16_ok _ _ (4 + (p0.1 % 13)) ((([] : List Hd) ++ ((p1.take (4 + (p0.1 % 13)).toNat).drop (p0.2.2 % (4 + (p0.1 % 13))).toNat)) ++ ((p1.take (4 + (p0.1 % 13)).toNat).take (p0.2.2 % (4 + (p0.1 % 13))).toNat)) _ _ he813 hl812 hx818) (R.call (vs := [Value.int .i64 (4 + (p0.1 % 13)), Value.slice a805 (((([] : List Hd) ++ ((p1.take (4 + (p0.1 % 13)).toNat).drop (p0.2.2 % (4 + (p0.1 % 13))).toNat)) ++ ((p1.take (4 + (p0.1 % 13)).toNat).take (p0.2.2 % (4 + (p0.1 % 13))).toNat)).length) c806]) (caps := []) bo94 rfl rfl) ?_
            rintro v822 w823 ⟨rfl, ht820⟩
            have ht821 := hs815.call (N := [blk b102 219 [Value.int .u8 p0.1, Value.int .u8 p0.2.1, Value.int .u8 p0.2.2]]) (M := []) (List.Perm.refl _) ht820
            have hs824 := hs815.trans ht821
            refine ⟨_, ht821, ?_⟩
            by_cases hc825 : y817 = y153
            · have h826 := ifT hc825 h819
              refine WK.take 11 rfl (by decide +kernel) (by decide +kernel) (by decide +kernel) (by decide +kernel) rfl rfl (fun wq hq => R.eqlT (k := .i64) (a := y817) (b := y153) un2 rfl rfl hc825) ?_
              refine WK.take 12 rfl (by decide +kernel) (by decide +kernel) (by decide +kernel) (by decide +kernel) rfl rfl (fun wq hq => R.move (v := Value.bool true) rfl) ?_
              obtain ⟨y827, hx828, h829⟩ := ob (o := lives16 ) h826
              refine WK.callY 13 (e := 136) (by decide +kernel) rfl rfl rfl rfl rfl rfl (lives16_ok _ (In ok w [] [blk b102 219 [Value.int .u8 p0.1, Value.int .u8 p0.2.1, Value.int .u8 p0.2.2]])   hx828) (R.call (vs := []) (caps := []) bo95 rfl rfl) ?_
              rintro v832 w833 ⟨rfl, ht830⟩
              have ht831 := hs824.call (N := [blk b102 219 [Value.int .u8 p0.1, Value.int .u8 p0.2.1, Value.int .u8 p0.2.2]]) (M := []) (List.Perm.refl _) ht830
              have hs834 := hs824.trans ht831
              refine ⟨_, ht831, ?_⟩
              refine WK.take 14 rfl (by decide +kernel) (by decide +kernel) (by decide +kernel) (by decide +kernel) rfl rfl (fun wq hq => R.pickT (v := Value.bool y827) rfl rfl) ?_
              refine WK.take 15 rfl (by decide +kernel) (by decide +kernel) (by decide +kernel) (by decide +kernel) rfl rfl (fun wq hq => R.assign (v := Value.bool y827) rfl) ?_
              refine WK.done (by decide +kernel) ?_
              refine thenN ?_
              refine WC.ret ?_
              have ht835 := (hs834.here).perm (L' := []) (G := [blk b102 219 [Value.int .u8 p0.1, Value.int .u8 p0.2.1, Value.int .u8 p0.2.2]]) ((List.Perm.refl _))
              have hs836 := hs834.trans ht835
              obtain rfl := Option.some.inj (show some y827 = some r from h829)
              exact ret1 (P := Try.prog) (n := 139) (fn := Try.f28) (R := fun v w' => v = Value.bool y827 ∧ St [] w w' []) (t := 4) (v := Value.bool y827) rfl rfl rfl ⟨rfl, hs836⟩
            · have h837 := ifF hc825 h819
              refine WK.take 11 rfl (by decide +kernel) (by decide +kernel) (by decide +kernel) (by decide +kernel) rfl rfl (fun wq hq => R.eqlF (k := .i64) (a := y817) (b := y153) un2 rfl rfl hc825) ?_
              refine WK.take 12 rfl (by decide +kernel) (by decide +kernel) (by decide +kernel) (by decide +kernel) rfl rfl (fun wq hq => R.move (v := Value.bool false) rfl) ?_
              refine WK.takeN 13 (e := 136) (v := .bool false) rfl (by decide +kernel) (by decide +kernel) (by decide +kernel) (by decide +kernel) rfl rfl rfl rfl rfl ?_
              refine WK.take 14 rfl (by decide +kernel) (by decide +kernel) (by decide +kernel) (by decide +kernel) rfl rfl (fun wq hq => R.pickF (v := Value.bool false) rfl rfl) ?_
              refine WK.take 15 rfl (by decide +kernel) (by decide +kernel) (by decide +kernel) (by decide +kernel) rfl rfl (fun wq hq => R.assign (v := Value.bool false) rfl) ?_
              refine WK.done (by decide +kernel) ?_
              refine thenN ?_
              refine WC.ret ?_
              have ht838 := (hs824.here).perm (L' := []) (G := [blk b102 219 [Value.int .u8 p0.1, Value.int .u8 p0.2.1, Value.int .u8 p0.2.2]]) ((List.Perm.refl _))
              have hs839 := hs824.trans ht838
              obtain rfl := Option.some.inj (show some false = some r from h837)
              exact ret1 (P := Try.prog) (n := 139) (fn := Try.f28) (R := fun v w' => v = Value.bool false ∧ St [] w w' []) (t := 4) (v := Value.bool false) rfl rfl rfl ⟨rfl, hs839⟩

theorem arun16_ok (w : World) (ok : Nat → Prop) (p0 : Int) (p1 : List (Int × Int)) (a1 : Option Addr) (c1 : Nat) (he1 : elems (pairK (intW .i64) (intW .i64)) w ok a1 p1) (hc1 : p1.length ≤ c1) {r : Bool} (h : arun16 p0 p1 = some r) :
    Ret Try.prog 29 [Value.int .u8 p0, Value.slice a1 p1.length c1] w (fun v w' => v = Value.bool r ∧ St [] w w' []) := by
  rw [arun16] at h
  have hs100 : St [] w w [] := St.start w
  have he1001 := el0 (L0 := []) (fun b _ => out_nil b) he1
  refine enter (n := 110) Try.func29 rfl rfl rfl ?_
  refine WC.seq ?_
  refine WC.region ?_
  refine WL.val (R.assign (v := Value.bool false) rfl) rfl ?_
  refine WL.nil ?_
  refine thenN ?_
  refine WC.seq ?_
  refine WC.seq ?_
  refine WC.region ?_
  refine WL.val (R.move (v := Value.slice a1 p1.length c1) rfl) rfl ?_
  refine WL.val (R.len (a := a1) (n := p1.length) (c := c1) un205 rfl) rfl ?_
  by_cases hc102 : 40 < ((p1.length : Nat) : Int)
  · have h103 := ifT hc102 h
    refine WL.val (R.gtrT (k := .i64) (a := ((p1.length : Nat) : Int)) (b := 40) un3 rfl rfl hc102) rfl ?_
    refine WL.nil ?_
    refine thenN ?_
    refine WC.condT rfl rfl ?_
    refine WC.seq ?_
    refine WC.region ?_
    obtain ⟨y104, hx105, h106⟩ := ob (o := lives16 ) h103
    refine WL.call (lives16_ok _ (In ok w [] [])   hx105) (R.call (vs := []) (caps := []) bo95 rfl rfl) rfl ?_
    rintro v109 w110 ⟨rfl, ht107⟩
    have ht108 := hs100.call (N := []) (M := []) (List.Perm.refl _) ht107
    have hs111 := hs100.trans ht108
    refine WL.val (R.assign (v := Value.bool y104) rfl) rfl ?_
    refine WL.nil ?_
    refine thenN ?_
    refine WC.ret ?_
    obtain rfl := Option.some.inj (show some y104 = some r from h106)
    exact ret1 (P := Try.prog) (n := 110) (fn := Try.f29) (R := fun v w' => v = Value.bool y104 ∧ St [] w w' []) (t := 4) (v := Value.bool y104) rfl rfl rfl ⟨rfl, hs111⟩
  · have h112 := ifF hc102 h
    refine WL.val (R.gtrF (k := .i64) (a := ((p1.length : Nat) : Int)) (b := 40) un3 rfl rfl hc102) rfl ?_
    refine WL.nil ?_
    refine thenN ?_
    refine WC.condF rfl rfl ?_
    refine WC.skip ?_
    refine thenN ?_
    refine WC.seq ?_
    refine WC.region ?_
    refine WL.val (R.move (v := Value.int .u8 p0) rfl) rfl ?_
    obtain ⟨hg113, h114⟩ := ckE (c := -9223372036854775808 ≤ p0 ∧ p0 ≤ 9223372036854775807) h112
    refine WL.val (R.convII (n := p0) (z := p0) un5 un3 rfl (w64 hg113.1 hg113.2)) rfl ?_
    obtain ⟨hg115, h116⟩ := ckE (c := 0 ≤ p0 ∧ 0 < (13 : Int) ∧ (13 : Int) ≤ 9223372036854775807) h114
    refine WL.val (R.remG (a := p0) (b := 13) rfl rfl hg115 (by decide)) rfl ?_
    obtain ⟨hg117, h118⟩ := ckE (c := -9223372036854775808 ≤ 4 + (p0 % 13) ∧ 4 + (p0 % 13) ≤ 9223372036854775807) h116
    refine WL.val (R.add (a := 4) (b := p0 % 13) (z := 4 + (p0 % 13)) rfl rfl (w64e rfl hg117.1 hg117.2)) rfl ?_
    refine WL.val (R.assign (v := Value.int .i64 (4 + (p0 % 13))) rfl) rfl ?_
    refine WL.nil ?_
    refine thenN ?_
    refine WC.seq ?_
    refine WC.region ?_
    refine WL.val (R.move (v := Value.int .i64 (4 + (p0 % 13))) rfl) rfl ?_
    obtain ⟨y119, hx120, h121⟩ := ob (o := anew16 (4 + (p0 % 13))) h118
    refine WL.call (anew16_ok _ (In ok w [] []) (4 + (p0 % 13))  hx120) (R.call (vs := [Value.int .i64 (4 + (p0 % 13))]) (caps := []) bo97 rfl rfl) rfl ?_
    rintro v127 w128 ⟨rp124, rL125, rfl, ho126, ht122⟩
    rcases ocE h121 with ⟨ho131, h129⟩ | ⟨q130, ho131, h129⟩
    · rw [ho131] at ho126
      obtain ⟨rfl, rfl⟩ := ho126
      have ht123 := hs100.call (N := []) (M := []) (List.Perm.refl _) ht122
      have hs132 := hs100.trans ht123
      refine WL.val (R.move (v := Value.tuple #[Value.pointer none, Value.int .i64 y119.2]) rfl) rfl ?_
      refine WL.val (R.extract (v := Value.pointer none) rfl rfl) rfl ?_
      refine WL.val (R.extract (v := Value.int .i64 y119.2) rfl rfl) rfl ?_
      refine WL.val (R.assign (v := Value.pointer none) rfl) rfl ?_
      refine WL.val (R.assign (v := Value.int .i64 y119.2) rfl) rfl ?_
      refine WL.nil ?_
      refine thenN ?_
      refine WC.seq ?_
      refine WC.seq ?_
      refine WC.region ?_
      refine WL.val (R.move (v := Value.int .i64 y119.2) rfl) rfl ?_
      by_cases hc133 : y119.2 = 0
      · have h134 := ifT hc133 h129
        refine WL.val (R.neqF (k := .i64) (a := y119.2) (b := 0) un66 rfl rfl (not_not_intro hc133)) rfl ?_
        refine WL.nil ?_
        refine thenN ?_
        refine WC.condF rfl rfl ?_
        refine WC.skip ?_
        refine thenN ?_
        refine WC.seq ?_
        refine WC.region ?_
        refine WL.val (R.assign (v := Value.slice none 0 0) rfl) rfl ?_
        refine WL.nil ?_
        refine thenN ?_
        refine WC.seq ?_
        refine WC.seq ?_
        refine WC.region ?_
        refine WL.val (R.assign (v := Value.int .i64 0) rfl) rfl ?_
        refine WL.nil ?_
        refine thenN ?_
        have ht234 := (hs132.here).addNil 2 i64E rfl
        have hs236 := hs132.trans ht234
        have hr450 := elT (ht123.trans ht234) he1001
        obtain ⟨K442, hK443, h444⟩ := kE (G := fun K442 => arun16_l1 p0 p1 K442 1000000 0 ([] : List Int)) h134
        refine WC.join (fun σ452 w451 => ∃ l439 : List Int, ∃ a440, ∃ c441, σ452 5 = (Value.int .i64 (4 + (p0 % 13))) ∧ σ452 6 = (Value.pointer none) ∧ σ452 8 = (Value.slice a440 l439.length c441) ∧ K442 l439 = some r ∧ St [] w w451 [gsl 2 i64E (Value.slice a440 l439.length c441) l439]) ?_ ?_
        · refine WC.block ?_
          refine WC.loop (T := Nat) (fun k448 σ446 w445 => ∃ i435 : Int, ∃ l436 : List Int, ∃ a437, ∃ c438, σ446 1 = (Value.slice a1 p1.length c1) ∧ σ446 5 = (Value.int .i64 (4 + (p0 % 13))) ∧ σ446 6 = (Value.pointer none) ∧ σ446 8 = (Value.slice a437 l436.length c438) ∧ σ446 9 = (Value.int .i64 i435) ∧ elems (pairK (intW .i64) (intW .i64)) w445 (In ok w [] [gsl 2 i64E (Value.slice a437 l436.length c438) l436]) a1 p1 ∧ arun16_l1 p0 p1 K442 k448 i435 l436 = some r ∧ St [] w w445 [gsl 2 i64E (Value.slice a437 l436.length c438) l436]) (fun k448 => k448) 1000000 ⟨0, ([] : List Int), none, 0, rfl, rfl, rfl, rfl, rfl, hr450, h444, hs236⟩ ?_
          rintro k448 σ446 w445 ⟨i435, l436, a437, c438, s455, s456, s457, s458, s459, he449, h454, hs447⟩
          rcases k448 with _ | k448
          · rw [arun16_l1] at h454; cases h454
          rw [arun16_l1] at h454
          refine WC.seq ?_
          refine WC.seq ?_
          refine WC.region ?_
          refine WL.val (R.move (v := Value.int .i64 i435) (by exact s459)) rfl ?_
          refine WL.val (R.move (v := Value.int .i64 (4 + (p0 % 13))) (by exact s456)) rfl ?_
          obtain ⟨hg460, h461⟩ := ckE (c := -9223372036854775808 ≤ 2 * (4 + (p0 % 13)) ∧ 2 * (4 + (p0 % 13)) ≤ 9223372036854775807) h454
          refine WL.val (R.mul (a := 2) (b := 4 + (p0 % 13)) (z := 2 * (4 + (p0 % 13))) rfl rfl (w64e rfl hg460.1 hg460.2)) rfl ?_
          by_cases hc462 : i435 < (2 * (4 + (p0 % 13)))
          · have h463 := ifT hc462 h461
            refine WL.val (R.lssT (k := .i64) (a := i435) (b := 2 * (4 + (p0 % 13))) un3 rfl rfl hc462) rfl ?_
            refine WL.nil ?_
            refine thenN ?_
            refine WC.condT rfl rfl ?_
            refine WC.skip ?_
            refine thenN ?_
            refine WC.seq ?_
            refine WC.block ?_
            refine WC.seq ?_
            refine WC.region ?_
            refine WL.val (R.move (v := Value.int .i64 i435) (by exact s459)) rfl ?_
            refine WL.val (R.assign (v := Value.int .i64 i435) rfl) rfl ?_
            refine WL.nil ?_
            refine thenN ?_
            obtain ⟨J486, hJ487, h488⟩ := jnE h463
            refine WC.seq ?_
            refine WC.join (fun σ490 w489 => ∃ i485 : Int, σ490 1 = (Value.slice a1 p1.length c1) ∧ σ490 5 = (Value.int .i64 (4 + (p0 % 13))) ∧ σ490 6 = (Value.pointer none) ∧ σ490 8 = (Value.slice a437 l436.length c438) ∧ σ490 9 = (Value.int .i64 i435) ∧ σ490 10 = (Value.int .i64 i485) ∧ elems (pairK (intW .i64) (intW .i64)) w489 (In ok w [] [gsl 2 i64E (Value.slice a437 l436.length c438) l436]) a1 p1 ∧ J486 i485 = some r ∧ St [] w w489 [gsl 2 i64E (Value.slice a437 l436.length c438) l436]) ?_ ?_
            · refine WC.seq ?_
              refine WC.region ?_
              refine WL.val (R.move (v := Value.int .i64 i435) (by exact s459)) rfl ?_
              refine WL.val (R.move (v := Value.slice a1 p1.length c1) (by exact s455)) rfl ?_
              refine WL.val (R.len (a := a1) (n := p1.length) (c := c1) un205 rfl) rfl ?_
              by_cases hc493 : i435 < ((p1.length : Nat) : Int)
              · have h494 := ifT hc493 h488
                refine WL.val (R.lssT (k := .i64) (a := i435) (b := ((p1.length : Nat) : Int)) un3 rfl rfl hc493) rfl ?_
                refine WL.nil ?_
                refine thenN ?_
                refine WC.condT rfl rfl ?_
                refine WC.region ?_
                refine WL.val (R.move (v := Value.slice a1 p1.length c1) (by exact s455)) rfl ?_
                refine WL.val (R.move (v := Value.int .i64 i435) (by exact s459)) rfl ?_
                obtain ⟨x495, hx496, h497⟩ := ob (o := rd p1 i435) h494
                obtain ⟨h0498, hx499, hl500, hm501⟩ := rdE hx496
                obtain ⟨ad502, e507, ha503, hp504, hat505, hrd506⟩ := he449 _ _ hx499
                obtain ⟨cs508, cs509, rfl, hp510, hp511⟩ := hrd506
                obtain ⟨-, rfl⟩ := hp510
                obtain ⟨-, rfl⟩ := hp511
                refine WL.val (R.indexS (n := 2) (m := (i435).toNat) (a := a1) (ad := ad502) (len := p1.length) (cap := c1) (z := i435) un205 ag213.size rfl ha503 rfl hm501 hl500 hp504) rfl ?_
                refine WL.val (R.indexA (n := 1) (m := 0) (b := ad502.block) (o := ad502.off + (i435).toNat * 2) (z := 0) un213 lf2.size rfl rfl rfl (by decide)) rfl ?_
                refine WL.val (R.loadL (v := Value.int .i64 x495.1) lf2 rfl (At.sub (a := ⟨ad502.block, ad502.off + (i435).toNat * 2, none⟩) (off := 0) (n := 1) (cs := [Value.int .i64 x495.1, Value.int .i64 x495.2]) (ds := [Value.int .i64 x495.1]) hat505 rfl rfl)) rfl ?_
                refine WL.val (R.and rfl rfl) rfl ?_
                refine WL.val (R.assign (v := Value.int .i64 (andI .i64 x495.1 549755813887)) rfl) rfl ?_
                refine WL.nil ?_
                exact joinI ⟨andI .i64 x495.1 549755813887, s455, s456, s457, s458, s459, rfl, he449, h497, hs447⟩
              · have h513 := ifF hc493 h488
                refine WL.val (R.lssF (k := .i64) (a := i435) (b := ((p1.length : Nat) : Int)) un3 rfl rfl hc493) rfl ?_
                refine WL.nil ?_
                refine thenN ?_
                refine WC.condF rfl rfl ?_
                refine WC.skip ?_
                exact joinI ⟨i435, s455, s456, s457, s458, s459, rfl, he449, h513, hs447⟩
            · rintro σ490 w489 ⟨i485, s515, s516, s517, s518, s519, s520, he492, h514, hs491⟩
              subst hJ487
              refine thenN ?_
              refine WC.seq ?_
              refine WC.region ?_
              refine WL.val (R.move (v := Value.pointer none) (by exact s517)) rfl ?_
              refine WL.val (R.move (v := Value.int .i64 i485) (by exact s520)) rfl ?_
              obtain ⟨y521, hx522, h523⟩ := ob (o := astepN16 i485 (-1)) h514
              refine WL.call (astepN16_ok _ (In ok w [] [gsl 2 i64E (Value.slice a437 l436.length c438) l436]) i485 (-1)  hx522) (R.call (vs := [Value.pointer none, Value.int .i64 i485, Value.int .i64 (-1)]) (caps := []) bo99 rfl rfl) rfl ?_
              rintro v526 w527 ⟨rfl, ht524⟩
              have ht525 := hs491.call (N := [gsl 2 i64E (Value.slice a437 l436.length c438) l436]) (M := []) (List.Perm.refl _) ht524
              have hs528 := hs491.trans ht525
              refine WL.val (R.move (v := Value.tuple #[Value.int .i64 y521.1, Value.int .i64 y521.2]) rfl) rfl ?_
              refine WL.val (R.extract (v := Value.int .i64 y521.1) rfl rfl) rfl ?_
              refine WL.val (R.extract (v := Value.int .i64 y521.2) rfl rfl) rfl ?_
              refine WL.val (R.assign (v := Value.int .i64 y521.1) rfl) rfl ?_
              refine WL.val (R.assign (v := Value.int .i64 y521.2) rfl) rfl ?_
              refine WL.nil ?_
              refine thenN ?_
              refine WC.seq ?_
              refine WC.seq ?_
              refine WC.region ?_
              refine WL.val (R.move (v := Value.int .i64 y521.1) rfl) rfl ?_
              refine WL.val (R.move (v := Value.int .i64 i485) (by exact s520)) rfl ?_
              refine WL.val (R.move (v := Value.int .i64 (4 + (p0 % 13))) (by exact s516)) rfl ?_
              refine WL.val (R.mul (a := 2) (b := 4 + (p0 % 13)) (z := 2 * (4 + (p0 % 13))) rfl rfl (w64e rfl hg460.1 hg460.2)) rfl ?_
              obtain ⟨hg529, h530⟩ := ckE (c := -9223372036854775808 ≤ i485 + (2 * (4 + (p0 % 13))) ∧ i485 + (2 * (4 + (p0 % 13))) ≤ 9223372036854775807) h523
              refine WL.val (R.add (a := i485) (b := 2 * (4 + (p0 % 13))) (z := i485 + (2 * (4 + (p0 % 13)))) rfl rfl (w64e rfl hg529.1 hg529.2)) rfl ?_
              by_cases hc531 : y521.1 = (i485 + (2 * (4 + (p0 % 13))))
              · have h532 := ifT hc531 h530
                refine WL.val (R.neqF (k := .i64) (a := y521.1) (b := i485 + (2 * (4 + (p0 % 13)))) un2 rfl rfl (not_not_intro hc531)) rfl ?_
                refine WL.nil ?_
                refine thenN ?_
                refine WC.condF rfl rfl ?_
                refine WC.skip ?_
                refine thenN ?_
                refine WC.region ?_
                refine WL.val (R.move (v := Value.slice a437 l436.length c438) (by exact s518)) rfl ?_
                refine WL.val (R.move (v := Value.int .i64 y521.1) rfl) rfl ?_
                have hd538 : ∀ w : World, (Instr.buildSlice 196 1 #[(0, Value.int .i64 y521.1)]).run Try.prog w = .ok (.slice (some ⟨w.heap.size, 0, none⟩) 1 1) { w with heap := w.heap.push (.cells (List.toArray [Value.int .i64 y521.1]) 2) } := fun _ => by kernel_rfl
                refine WL.new (L' := fun b533 => [gsl 2 i64E (Value.slice a437 l436.length c438) l436, blk b533 2 [Value.int .i64 y521.1]]) (f := fun b533 => Value.slice (some ⟨b533, 0, none⟩) 1 1) (X.buildSlice (c := [Value.int .i64 y521.1]) (vs := [(0, Value.int .i64 y521.1)]) (hs528.here) rfl hd538 (fun _ => rfl)) rfl ?_
                intro b533 w534 ht540 he536 hz537
                have hs541 := hs528.trans ht540
                obtain ⟨hg542, h543⟩ := ckE (c := l436.length < 1000000) h532
                refine WL.grow (L' := fun v544 => [gsl 2 i64E v544 (l436 ++ [y521.1]), blk b533 2 [Value.int .i64 y521.1]]) (X.append (i := 0) (e := i64E) (xs := l436) (ys := [y521.1]) (ad := ⟨b533, 0, none⟩) (m := 1) (c := 1) (hs541.here) sl196 rfl rfl rfl rfl ((hs541.here).at (i := 1) (off := 0) (n := 1) (cs := flat i64E [y521.1]) rfl rfl rfl) rfl rfl (room (n := 1) hg542 rfl (by decide)) (room63 (n := 1) hg542 rfl (by decide)) (fun _ => rfl)) rfl ?_
                intro v544 w545 ht546
                obtain ⟨a547, c548, hv549⟩ := gsl_sl (ht546.get (i := 0) rfl)
                subst hv549
                have hs550 := hs541.trans ht546
                refine WL.val (R.assign (v := Value.slice a547 ((l436 ++ [y521.1]).length) c548) rfl) rfl ?_
                refine WL.nil ?_
                refine blockN ?_
                refine thenN ?_
                refine WC.region ?_
                refine WL.val (R.move (v := Value.int .i64 i435) (by exact s519)) rfl ?_
                obtain ⟨hg551, h552⟩ := ckE (c := -9223372036854775808 ≤ i435 + 1 ∧ i435 + 1 ≤ 9223372036854775807) h543
                refine WL.val (R.add (a := i435) (b := 1) (z := i435 + 1) rfl rfl (w64e rfl hg551.1 hg551.2)) rfl ?_
                refine WL.val (R.assign (v := Value.int .i64 (i435 + 1)) rfl) rfl ?_
                refine WL.nil ?_
                have ht553 := (hs550.here).perm (L' := [gsl 2 i64E (Value.slice a547 ((l436 ++ [y521.1]).length) c548) (l436 ++ [y521.1])]) (G := [blk b533 2 [Value.int .i64 y521.1]]) ((List.Perm.refl _))
                have hs554 := hs550.trans ht553
                have hr555 := elT (((ht525.trans ht540).trans ht546).trans ht553) he492
                exact roundEnd (s := k448) ⟨i435 + 1, l436 ++ [y521.1], a547, c548, s515, s516, s517, rfl, rfl, hr555, h552, hs554⟩ (Nat.lt_succ_self _)
              · have h556 := ifF hc531 h530
                refine WL.val (R.neqT (k := .i64) (a := y521.1) (b := i485 + (2 * (4 + (p0 % 13)))) un2 rfl rfl hc531) rfl ?_
                refine WL.nil ?_
                refine thenN ?_
                refine WC.condT rfl rfl ?_
                refine WC.seq ?_
                refine WC.region ?_
                refine WL.val (R.assign (v := Value.bool false) rfl) rfl ?_
                refine WL.nil ?_
                refine thenN ?_
                refine WC.ret ?_
                have ht557 := (hs528.here).perm (L' := []) (G := [gsl 2 i64E (Value.slice a437 l436.length c438) l436]) ((List.Perm.refl _))
                have hs558 := hs528.trans ht557
                obtain rfl := Option.some.inj (show some false = some r from h556)
                exact ret1 (P := Try.prog) (n := 110) (fn := Try.f29) (R := fun v w' => v = Value.bool false ∧ St [] w w' []) (t := 4) (v := Value.bool false) rfl rfl rfl ⟨rfl, hs558⟩
          · have h559 := ifF hc462 h461
            refine WL.val (R.lssF (k := .i64) (a := i435) (b := 2 * (4 + (p0 % 13))) un3 rfl rfl hc462) rfl ?_
            refine WL.nil ?_
            refine thenN ?_
            refine WC.condF rfl rfl ?_
            refine WC.exit ?_
            refine thenE ?_
            refine thenE ?_
            refine blockHit ?_
            exact joinI ⟨l436, a437, c438, s456, s457, s458, h559, hs447⟩
        · rintro σ452 w451 ⟨l439, a440, c441, s561, s562, s563, h560, hs453⟩
          subst hK443
          refine thenN ?_
          refine WC.seq ?_
          refine WC.region ?_
          refine WL.val (R.assign (v := Value.int .i64 (-1)) rfl) rfl ?_
          refine WL.nil ?_
          refine thenN ?_
          refine WC.seq ?_
          refine WC.seq ?_
          refine WC.region ?_
          refine WL.val (R.assign (v := Value.int .i64 0) rfl) rfl ?_
          refine WL.nil ?_
          refine thenN ?_
          obtain ⟨K712, hK713, h714⟩ := kE (G := fun K712 => arun16_l2 p0 K712 1000000 (-1) 0 l439) h560
          refine WC.join (fun σ720 w719 => K712 () = some r ∧ St [] w w719 []) ?_ ?_
          · refine WC.block ?_
            refine WC.loop (T := Nat) (fun k718 σ716 w715 => ∃ i707 : Int, ∃ i708 : Int, ∃ l709 : List Int, ∃ a710, ∃ c711, σ716 5 = (Value.int .i64 (4 + (p0 % 13))) ∧ σ716 6 = (Value.pointer none) ∧ σ716 8 = (Value.slice a710 l709.length c711) ∧ σ716 13 = (Value.int .i64 i707) ∧ σ716 14 = (Value.int .i64 i708) ∧ arun16_l2 p0 K712 k718 i707 i708 l709 = some r ∧ St [] w w715 [gsl 2 i64E (Value.slice a710 l709.length c711) l709]) (fun k718 => k718) 1000000 ⟨-1, 0, l439, a440, c441, s561, s562, s563, rfl, rfl, h714, hs453⟩ ?_
            rintro k718 σ716 w715 ⟨i707, i708, l709, a710, c711, s723, s724, s725, s726, s727, h722, hs717⟩
            rcases k718 with _ | k718
            · rw [arun16_l2] at h722; cases h722
            rw [arun16_l2] at h722
            refine WC.seq ?_
            refine WC.seq ?_
            refine WC.region ?_
            refine WL.val (R.move (v := Value.int .i64 i708) (by exact s727)) rfl ?_
            refine WL.val (R.move (v := Value.int .i64 (4 + (p0 % 13))) (by exact s723)) rfl ?_
            obtain ⟨hg728, h729⟩ := ckE (c := -9223372036854775808 ≤ 5 * (4 + (p0 % 13)) ∧ 5 * (4 + (p0 % 13)) ≤ 9223372036854775807) h722
            refine WL.val (R.mul (a := 5) (b := 4 + (p0 % 13)) (z := 5 * (4 + (p0 % 13))) rfl rfl (w64e rfl hg728.1 hg728.2)) rfl ?_
            by_cases hc730 : i708 < (5 * (4 + (p0 % 13)))
            · have h731 := ifT hc730 h729
              refine WL.val (R.lssT (k := .i64) (a := i708) (b := 5 * (4 + (p0 % 13))) un3 rfl rfl hc730) rfl ?_
              refine WL.nil ?_
              refine thenN ?_
              refine WC.condT rfl rfl ?_
              refine WC.skip ?_
              refine thenN ?_
              refine WC.seq ?_
              refine WC.block ?_
              refine WC.seq ?_
              refine WC.region ?_
              refine WL.val (R.move (v := Value.pointer none) (by exact s724)) rfl ?_
              refine WL.val (R.move (v := Value.slice a710 l709.length c711) (by exact s725)) rfl ?_
              refine WL.val (R.move (v := Value.int .i64 i708) (by exact s727)) rfl ?_
              obtain ⟨x732, hx733, h734⟩ := ob (o := rd l709 i708) h731
              obtain ⟨h0735, hx736, hl737, hm738⟩ := rdE hx733
              obtain ⟨b739, c740, hv741, _⟩ := hs717.gslAt (i := 0) rfl hx736
              refine WL.val (R.indexS (n := 1) (m := (i708).toNat) (ad := ⟨b739, 0, none⟩) (len := (l709).length) (cap := c740) (z := i708) un196 lf2.size (Eq.trans (show _ = Value.slice a710 l709.length c711 from rfl) hv741) rfl rfl hm738 hl737 rfl) rfl ?_
              refine WL.val (R.loadL (v := Value.int .i64 x732) lf2 rfl (hs717.gslAtV (i := 0) rfl hx736 hv741)) rfl ?_
              obtain ⟨y742, hx743, h744⟩ := ob (o := astepN16 x732 (-1)) h734
              refine WL.call (astepN16_ok _ (In ok w [] [gsl 2 i64E (Value.slice a710 l709.length c711) l709]) x732 (-1)  hx743) (R.call (vs := [Value.pointer none, Value.int .i64 x732, Value.int .i64 (-1)]) (caps := []) bo99 rfl rfl) rfl ?_
              rintro v747 w748 ⟨rfl, ht745⟩
              have ht746 := hs717.call (N := [gsl 2 i64E (Value.slice a710 l709.length c711) l709]) (M := []) (List.Perm.refl _) ht745
              have hs749 := hs717.trans ht746
              refine WL.val (R.move (v := Value.tuple #[Value.int .i64 y742.1, Value.int .i64 y742.2]) rfl) rfl ?_
              refine WL.val (R.extract (v := Value.int .i64 y742.1) rfl rfl) rfl ?_
              refine WL.val (R.extract (v := Value.int .i64 y742.2) rfl rfl) rfl ?_
              refine WL.val (R.assign (v := Value.int .i64 y742.1) rfl) rfl ?_
              refine WL.val (R.assign (v := Value.int .i64 y742.2) rfl) rfl ?_
              refine WL.nil ?_
              refine thenN ?_
              refine WC.seq ?_
              refine WC.region ?_
              refine WL.val (R.move (v := Value.slice a710 l709.length c711) (by exact s725)) rfl ?_
              refine WL.val (R.move (v := Value.int .i64 y742.1) rfl) rfl ?_
              have hd755 : ∀ w : World, (Instr.buildSlice 196 1 #[(0, Value.int .i64 y742.1)]).run Try.prog w = .ok (.slice (some ⟨w.heap.size, 0, none⟩) 1 1) { w with heap := w.heap.push (.cells (List.toArray [Value.int .i64 y742.1]) 2) } := fun _ => by kernel_rfl
              refine WL.new (L' := fun b750 => [gsl 2 i64E (Value.slice a710 l709.length c711) l709, blk b750 2 [Value.int .i64 y742.1]]) (f := fun b750 => Value.slice (some ⟨b750, 0, none⟩) 1 1) (X.buildSlice (c := [Value.int .i64 y742.1]) (vs := [(0, Value.int .i64 y742.1)]) (hs749.here) rfl hd755 (fun _ => rfl)) rfl ?_
              intro b750 w751 ht757 he753 hz754
              have hs758 := hs749.trans ht757
              obtain ⟨hg759, h760⟩ := ckE (c := l709.length < 1000000) h744
              refine WL.grow (L' := fun v761 => [gsl 2 i64E v761 (l709 ++ [y742.1]), blk b750 2 [Value.int .i64 y742.1]]) (X.append (i := 0) (e := i64E) (xs := l709) (ys := [y742.1]) (ad := ⟨b750, 0, none⟩) (m := 1) (c := 1) (hs758.here) sl196 rfl rfl rfl rfl ((hs758.here).at (i := 1) (off := 0) (n := 1) (cs := flat i64E [y742.1]) rfl rfl rfl) rfl rfl (room (n := 1) hg759 rfl (by decide)) (room63 (n := 1) hg759 rfl (by decide)) (fun _ => rfl)) rfl ?_
              intro v761 w762 ht763
              obtain ⟨a764, c765, hv766⟩ := gsl_sl (ht763.get (i := 0) rfl)
              subst hv766
              have hs767 := hs758.trans ht763
              refine WL.val (R.assign (v := Value.slice a764 ((l709 ++ [y742.1]).length) c765) rfl) rfl ?_
              refine WL.nil ?_
              refine thenN ?_
              refine WC.seq ?_
              refine WC.seq ?_
              refine WC.region ?_
              refine WL.val (R.move (v := Value.int .i64 y742.1) rfl) rfl ?_
              refine WL.val (R.move (v := Value.slice a764 ((l709 ++ [y742.1]).length) c765) rfl) rfl ?_
              refine WL.val (R.move (v := Value.int .i64 i708) (by exact s727)) rfl ?_
              obtain ⟨x768, hx769, h770⟩ := ob (o := rd (l709 ++ [y742.1]) i708) h760
              obtain ⟨h0771, hx772, hl773, hm774⟩ := rdE hx769
              obtain ⟨b775, c776, hv777, _⟩ := hs767.gslAt (i := 0) rfl hx772
              refine WL.val (R.indexS (n := 1) (m := (i708).toNat) (ad := ⟨b775, 0, none⟩) (len := (l709 ++ [y742.1]).length) (cap := c776) (z := i708) un196 lf2.size (Eq.trans (show _ = Value.slice a764 ((l709 ++ [y742.1]).length) c765 from rfl) hv777) rfl rfl hm774 hl773 rfl) rfl ?_
              refine WL.val (R.loadL (v := Value.int .i64 x768) lf2 rfl (hs767.gslAtV (i := 0) rfl hx772 hv777)) rfl ?_
              refine WL.val (R.move (v := Value.int .i64 (4 + (p0 % 13))) (by exact s723)) rfl ?_
              obtain ⟨hg778, h779⟩ := ckE (c := -9223372036854775808 ≤ 2 * (4 + (p0 % 13)) ∧ 2 * (4 + (p0 % 13)) ≤ 9223372036854775807) h770
              refine WL.val (R.mul (a := 2) (b := 4 + (p0 % 13)) (z := 2 * (4 + (p0 % 13))) rfl rfl (w64e rfl hg778.1 hg778.2)) rfl ?_
              obtain ⟨hg780, h781⟩ := ckE (c := -9223372036854775808 ≤ x768 + (2 * (4 + (p0 % 13))) ∧ x768 + (2 * (4 + (p0 % 13))) ≤ 9223372036854775807) h779
              refine WL.val (R.add (a := x768) (b := 2 * (4 + (p0 % 13))) (z := x768 + (2 * (4 + (p0 % 13)))) rfl rfl (w64e rfl hg780.1 hg780.2)) rfl ?_
              by_cases hc782 : y742.1 = (x768 + (2 * (4 + (p0 % 13))))
              · have h783 := ifT hc782 h781
                refine WL.val (R.neqF (k := .i64) (a := y742.1) (b := x768 + (2 * (4 + (p0 % 13)))) un2 rfl rfl (not_not_intro hc782)) rfl ?_
                refine WL.val (R.move (v := Value.bool false) rfl) rfl ?_
                refine WL.guardY (e := 93) rfl rfl rfl ?_
                refine WL.val (R.move (v := Value.int .i64 y742.2) rfl) rfl ?_
                refine WL.guardY (e := 93) rfl rfl rfl ?_
                refine WL.val (R.move (v := Value.int .i64 y742.1) rfl) rfl ?_
                refine WL.guardY (e := 93) rfl rfl rfl ?_
                by_cases hc784 : y742.2 < y742.1
                · have h785 := ifT hc784 h783
                  refine WL.val (R.lssT (k := .i64) (a := y742.2) (b := y742.1) un2 rfl rfl hc784) rfl ?_
                  refine WL.val (R.pickF (v := Value.bool true) rfl rfl) rfl ?_
                  refine WL.val (R.move (v := Value.bool true) rfl) rfl ?_
                  refine WL.guardN (e := 98) (v := .bool true) rfl rfl rfl rfl ?_
                  refine WL.guardN (e := 98) (v := .bool true) rfl rfl rfl rfl ?_
                  refine WL.guardN (e := 98) (v := .bool true) rfl rfl rfl rfl ?_
                  refine WL.guardN (e := 101) (v := undef) rfl rfl rfl rfl ?_
                  refine WL.guardN (e := 101) (v := undef) rfl rfl rfl rfl ?_
                  refine WL.guardN (e := 101) (v := undef) rfl rfl rfl rfl ?_
                  refine WL.guardN (e := 101) (v := undef) rfl rfl rfl rfl ?_
                  refine WL.guardN (e := 98) (v := .bool true) rfl rfl rfl rfl ?_
                  refine WL.val (R.pickT (v := Value.bool true) rfl rfl) rfl ?_
                  refine WL.nil ?_
                  refine thenN ?_
                  refine WC.condT rfl rfl ?_
                  refine WC.seq ?_
                  refine WC.region ?_
                  refine WL.val (R.assign (v := Value.bool false) rfl) rfl ?_
                  refine WL.nil ?_
                  refine thenN ?_
                  refine WC.ret ?_
                  have ht786 := (hs767.here).perm (L' := []) (G := [gsl 2 i64E (Value.slice a764 ((l709 ++ [y742.1]).length) c765) (l709 ++ [y742.1]), blk b750 2 [Value.int .i64 y742.1]]) ((List.Perm.refl _))
                  have hs787 := hs767.trans ht786
                  obtain rfl := Option.some.inj (show some false = some r from h785)
                  exact ret1 (P := Try.prog) (n := 110) (fn := Try.f29) (R := fun v w' => v = Value.bool false ∧ St [] w w' []) (t := 4) (v := Value.bool false) rfl rfl rfl ⟨rfl, hs787⟩
                · have h788 := ifF hc784 h783
                  refine WL.val (R.lssF (k := .i64) (a := y742.2) (b := y742.1) un2 rfl rfl hc784) rfl ?_
                  refine WL.val (R.pickF (v := Value.bool false) rfl rfl) rfl ?_
                  refine WL.val (R.move (v := Value.bool false) rfl) rfl ?_
                  refine WL.guardY (e := 98) rfl rfl rfl ?_
                  refine WL.val (R.move (v := Value.int .i64 i708) (by exact s727)) rfl ?_
                  refine WL.guardY (e := 98) rfl rfl rfl ?_
                  by_cases hc789 : 0 < i708
                  · have h790 := ifT hc789 h788
                    refine WL.val (R.gtrT (k := .i64) (a := i708) (b := 0) un3 rfl rfl hc789) rfl ?_
                    refine WL.guardY (e := 98) rfl rfl rfl ?_
                    refine WL.val (R.move (v := Value.bool true) rfl) rfl ?_
                    refine WL.guardY (e := 101) rfl rfl rfl ?_
                    refine WL.val (R.move (v := Value.int .i64 y742.2) rfl) rfl ?_
                    refine WL.guardY (e := 101) rfl rfl rfl ?_
                    refine WL.val (R.move (v := Value.int .i64 i707) (by exact s726)) rfl ?_
                    refine WL.guardY (e := 101) rfl rfl rfl ?_
                    obtain ⟨hg791, h792⟩ := ckE (c := -9223372036854775808 ≤ i707 + 1 ∧ i707 + 1 ≤ 9223372036854775807) h790
                    refine WL.val (R.add (a := i707) (b := 1) (z := i707 + 1) rfl rfl (w64e rfl hg791.1 hg791.2)) rfl ?_
                    refine WL.guardY (e := 101) rfl rfl rfl ?_
                    by_cases hc793 : y742.2 = (i707 + 1)
                    · have h794 := ifT hc793 h792
                      refine WL.val (R.neqF (k := .i64) (a := y742.2) (b := i707 + 1) un2 rfl rfl (not_not_intro hc793)) rfl ?_
                      refine WL.guardY (e := 98) rfl rfl rfl ?_
                      refine WL.val (R.pickT (v := Value.bool false) rfl rfl) rfl ?_
                      refine WL.val (R.pickF (v := Value.bool false) rfl rfl) rfl ?_
                      refine WL.nil ?_
                      refine thenN ?_
                      refine WC.condF rfl rfl ?_
                      refine WC.skip ?_
                      refine thenN ?_
                      refine WC.region ?_
                      refine WL.val (R.move (v := Value.int .i64 y742.2) rfl) rfl ?_
                      refine WL.val (R.assign (v := Value.int .i64 y742.2) rfl) rfl ?_
                      refine WL.nil ?_
                      refine blockN ?_
                      refine thenN ?_
                      refine WC.region ?_
                      refine WL.val (R.move (v := Value.int .i64 i708) (by exact s727)) rfl ?_
                      obtain ⟨hg795, h796⟩ := ckE (c := -9223372036854775808 ≤ i708 + 1 ∧ i708 + 1 ≤ 9223372036854775807) h794
                      refine WL.val (R.add (a := i708) (b := 1) (z := i708 + 1) rfl rfl (w64e rfl hg795.1 hg795.2)) rfl ?_
                      refine WL.val (R.assign (v := Value.int .i64 (i708 + 1)) rfl) rfl ?_
                      refine WL.nil ?_
                      have ht797 := (hs767.here).perm (L' := [gsl 2 i64E (Value.slice a764 ((l709 ++ [y742.1]).length) c765) (l709 ++ [y742.1])]) (G := [blk b750 2 [Value.int .i64 y742.1]]) ((List.Perm.refl _))
                      have hs798 := hs767.trans ht797
                      exact roundEnd (s := k718) ⟨y742.2, i708 + 1, l709 ++ [y742.1], a764, c765, s723, s724, rfl, rfl, rfl, h796, hs798⟩ (Nat.lt_succ_self _)
                    · have h799 := ifF hc793 h792
                      refine WL.val (R.neqT (k := .i64) (a := y742.2) (b := i707 + 1) un2 rfl rfl hc793) rfl ?_
                      refine WL.guardY (e := 98) rfl rfl rfl ?_
                      refine WL.val (R.pickT (v := Value.bool true) rfl rfl) rfl ?_
                      refine WL.val (R.pickF (v := Value.bool true) rfl rfl) rfl ?_
                      refine WL.nil ?_
                      refine thenN ?_
                      refine WC.condT rfl rfl ?_
                      refine WC.seq ?_
                      refine WC.region ?_
                      refine WL.val (R.assign (v := Value.bool false) rfl) rfl ?_
                      refine WL.nil ?_
                      refine thenN ?_
                      refine WC.ret ?_
                      have ht800 := (hs767.here).perm (L' := []) (G := [gsl 2 i64E (Value.slice a764 ((l709 ++ [y742.1]).length) c765) (l709 ++ [y742.1]), blk b750 2 [Value.int .i64 y742.1]]) ((List.Perm.refl _))
                      have hs801 := hs767.trans ht800
                      obtain rfl := Option.some.inj (show some false = some r from h799)
                      exact ret1 (P := Try.prog) (n := 110) (fn := Try.f29) (R := fun v w' => v = Value.bool false ∧ St [] w w' []) (t := 4) (v := Value.bool false) rfl rfl rfl ⟨rfl, hs801⟩
                  · have h802 := ifF hc789 h788
                    refine WL.val (R.gtrF (k := .i64) (a := i708) (b := 0) un3 rfl rfl hc789) rfl ?_
                    refine WL.guardY (e := 98) rfl rfl rfl ?_
                    refine WL.val (R.move (v := Value.bool false) rfl) rfl ?_
                    refine WL.guardN (e := 101) (v := .bool false) rfl rfl rfl rfl ?_
                    refine WL.guardN (e := 101) (v := .bool false) rfl rfl rfl rfl ?_
                    refine WL.guardN (e := 101) (v := .bool false) rfl rfl rfl rfl ?_
                    refine WL.guardN (e := 101) (v := .bool false) rfl rfl rfl rfl ?_
                    refine WL.guardY (e := 98) rfl rfl rfl ?_
                    refine WL.val (R.pickF (v := Value.bool false) rfl rfl) rfl ?_
                    refine WL.val (R.pickF (v := Value.bool false) rfl rfl) rfl ?_
                    refine WL.nil ?_
                    refine thenN ?_
                    refine WC.condF rfl rfl ?_
                    refine WC.skip ?_
                    refine thenN ?_
                    refine WC.region ?_
                    refine WL.val (R.move (v := Value.int .i64 y742.2) rfl) rfl ?_
                    refine WL.val (R.assign (v := Value.int .i64 y742.2) rfl) rfl ?_
                    refine WL.nil ?_
                    refine blockN ?_
                    refine thenN ?_
                    refine WC.region ?_
                    refine WL.val (R.move (v := Value.int .i64 i708) (by exact s727)) rfl ?_
                    obtain ⟨hg803, h804⟩ := ckE (c := -9223372036854775808 ≤ i708 + 1 ∧ i708 + 1 ≤ 9223372036854775807) h802
                    refine WL.val (R.add (a := i708) (b := 1) (z := i708 + 1) rfl rfl (w64e rfl hg803.1 hg803.2)) rfl ?_
                    refine WL.val (R.assign (v := Value.int .i64 (i708 + 1)) rfl) rfl ?_
                    refine WL.nil ?_
                    have ht805 := (hs767.here).perm (L' := [gsl 2 i64E (Value.slice a764 ((l709 ++ [y742.1]).length) c765) (l709 ++ [y742.1])]) (G := [blk b750 2 [Value.int .i64 y742.1]]) ((List.Perm.refl _))
                    have hs806 := hs767.trans ht805
                    exact roundEnd (s := k718) ⟨y742.2, i708 + 1, l709 ++ [y742.1], a764, c765, s723, s724, rfl, rfl, rfl, h804, hs806⟩ (Nat.lt_succ_self _)
              · have h807 := ifF hc782 h781
                refine WL.val (R.neqT (k := .i64) (a := y742.1) (b := x768 + (2 * (4 + (p0 % 13)))) un2 rfl rfl hc782) rfl ?_
                refine WL.val (R.move (v := Value.bool true) rfl) rfl ?_
                refine WL.guardN (e := 93) (v := .bool true) rfl rfl rfl rfl ?_
                refine WL.guardN (e := 93) (v := .bool true) rfl rfl rfl rfl ?_
                refine WL.guardN (e := 93) (v := .bool true) rfl rfl rfl rfl ?_
                refine WL.val (R.pickT (v := Value.bool true) rfl rfl) rfl ?_
                refine WL.val (R.move (v := Value.bool true) rfl) rfl ?_
                refine WL.guardN (e := 98) (v := .bool true) rfl rfl rfl rfl ?_
                refine WL.guardN (e := 98) (v := .bool true) rfl rfl rfl rfl ?_
                refine WL.guardN (e := 98) (v := .bool true) rfl rfl rfl rfl ?_
                refine WL.guardN (e := 101) (v := undef) rfl rfl rfl rfl ?_
                refine WL.guardN (e := 101) (v := undef) rfl rfl rfl rfl ?_
                refine WL.guardN (e := 101) (v := undef) rfl rfl rfl rfl ?_
                refine WL.guardN (e := 101) (v := undef) rfl rfl rfl rfl ?_
                refine WL.guardN (e := 98) (v := .bool true) rfl rfl rfl rfl ?_
                refine WL.val (R.pickT (v := Value.bool true) rfl rfl) rfl ?_
                refine WL.nil ?_
                refine thenN ?_
                refine WC.condT rfl rfl ?_
                refine WC.seq ?_
                refine WC.region ?_
                refine WL.val (R.assign (v := Value.bool false) rfl) rfl ?_
                refine WL.nil ?_
                refine thenN ?_
                refine WC.ret ?_
                have ht808 := (hs767.here).perm (L' := []) (G := [gsl 2 i64E (Value.slice a764 ((l709 ++ [y742.1]).length) c765) (l709 ++ [y742.1]), blk b750 2 [Value.int .i64 y742.1]]) ((List.Perm.refl _))
                have hs809 := hs767.trans ht808
                obtain rfl := Option.some.inj (show some false = some r from h807)
                exact ret1 (P := Try.prog) (n := 110) (fn := Try.f29) (R := fun v w' => v = Value.bool false ∧ St [] w w' []) (t := 4) (v := Value.bool false) rfl rfl rfl ⟨rfl, hs809⟩
            · have h810 := ifF hc730 h729
              refine WL.val (R.lssF (k := .i64) (a := i708) (b := 5 * (4 + (p0 % 13))) un3 rfl rfl hc730) rfl ?_
              refine WL.nil ?_
              refine thenN ?_
              refine WC.condF rfl rfl ?_
              refine WC.exit ?_
              refine thenE ?_
              refine thenE ?_
              refine blockHit ?_
              have ht811 := (hs717.here).perm (L' := []) (G := [gsl 2 i64E (Value.slice a710 l709.length c711) l709]) ((List.Perm.refl _))
              have hs812 := hs717.trans ht811
              exact joinI ⟨h810, hs812⟩
          · rintro σ720 w719 ⟨h813, hs721⟩
            subst hK713
            refine thenN ?_
            refine WC.seq ?_
            refine WC.region ?_
            obtain ⟨y814, hx815, h816⟩ := ob (o := lives16 ) h813
            refine WL.call (lives16_ok _ (In ok w [] [])   hx815) (R.call (vs := []) (caps := []) bo95 rfl rfl) rfl ?_
            rintro v819 w820 ⟨rfl, ht817⟩
            have ht818 := hs721.call (N := []) (M := []) (List.Perm.refl _) ht817
            have hs821 := hs721.trans ht818
            refine WL.val (R.assign (v := Value.bool y814) rfl) rfl ?_
            refine WL.nil ?_
            refine thenN ?_
            refine WC.ret ?_
            obtain rfl := Option.some.inj (show some y814 = some r from h816)
            exact ret1 (P := Try.prog) (n := 110) (fn := Try.f29) (R := fun v w' => v = Value.bool y814 ∧ St [] w w' []) (t := 4) (v := Value.bool y814) rfl rfl rfl ⟨rfl, hs821⟩
      · have h822 := ifF hc133 h129
        refine WL.val (R.neqT (k := .i64) (a := y119.2) (b := 0) un66 rfl rfl hc133) rfl ?_
        refine WL.nil ?_
        refine thenN ?_
        refine WC.condT rfl rfl ?_
        refine WC.seq ?_
        refine WC.region ?_
        refine WL.val (R.assign (v := Value.bool false) rfl) rfl ?_
        refine WL.nil ?_
        refine thenN ?_
        refine WC.ret ?_
        obtain rfl := Option.some.inj (show some false = some r from h822)
        exact ret1 (P := Try.prog) (n := 110) (fn := Try.f29) (R := fun v w' => v = Value.bool false ∧ St [] w w' []) (t := 4) (v := Value.bool false) rfl rfl rfl ⟨rfl, hs132⟩
    · rw [ho131] at ho126
      obtain ⟨b823, rfl, a824, c825, rfl⟩ := ho126
      have ht123 := hs100.call (N := []) (M := []) (List.Perm.refl _) ht122
      have hs828 := hs100.trans ht123
      refine WL.val (R.move (v := Value.tuple #[Value.pointer (some ⟨b823, 0, none⟩), Value.int .i64 y119.2]) rfl) rfl ?_
      refine WL.val (R.extract (v := Value.pointer (some ⟨b823, 0, none⟩)) rfl rfl) rfl ?_
      refine WL.val (R.extract (v := Value.int .i64 y119.2) rfl rfl) rfl ?_
      refine WL.val (R.assign (v := Value.pointer (some ⟨b823, 0, none⟩)) rfl) rfl ?_
      refine WL.val (R.assign (v := Value.int .i64 y119.2) rfl) rfl ?_
      refine WL.nil ?_
      refine thenN ?_
      refine WC.seq ?_
      refine WC.seq ?_
      refine WC.region ?_
      refine WL.val (R.move (v := Value.int .i64 y119.2) rfl) rfl ?_
      by_cases hc829 : y119.2 = 0
      · have h830 := ifT hc829 h129
        refine WL.val (R.neqF (k := .i64) (a := y119.2) (b := 0) un66 rfl rfl (not_not_intro hc829)) rfl ?_
        refine WL.nil ?_
        refine thenN ?_
        refine WC.condF rfl rfl ?_
        refine WC.skip ?_
        refine thenN ?_
        refine WC.seq ?_
        refine WC.region ?_
        refine WL.val (R.assign (v := Value.slice none 0 0) rfl) rfl ?_
        refine WL.nil ?_
        refine thenN ?_
        refine WC.seq ?_
        refine WC.seq ?_
        refine WC.region ?_
        refine WL.val (R.assign (v := Value.int .i64 0) rfl) rfl ?_
        refine WL.nil ?_
        refine thenN ?_
        have ht932 := (hs828.here).addNil 2 i64E rfl
        have hs934 := hs828.trans ht932
        have ht1164 := (hs934.here).perm (L' := [blk b823 216 [Value.int .i64 q130.1, Value.slice a824 q130.2.length c825], gsl 2 i64E (Value.slice none 0 0) ([] : List Int), gslU 2 i64E (Value.slice a824 q130.2.length c825) q130.2]) (G := []) ((List.Perm.cons _ ((List.perm_middle (l₁ := [gslU 2 i64E (Value.slice a824 q130.2.length c825) q130.2]) (a := gsl 2 i64E (Value.slice none 0 0) ([] : List Int)) (l₂ := [])).trans (List.Perm.cons _ (List.Perm.refl _)))))
        have hs1165 := hs934.trans ht1164
        have hr1166 := elT ((ht123.trans ht932).trans ht1164) he1001
        obtain ⟨K1156, hK1157, h1158⟩ := kE (G := fun K1156 => arun16_l3 p0 p1 K1156 1000000 0 q130.1 ([] : List Int) q130.2) h830
        refine WC.join (fun σ1168 w1167 => ∃ i1149 : Int, ∃ l1150 : List Int, ∃ l1153 : List Int, ∃ a1151, ∃ c1152, ∃ a1154, ∃ c1155, σ1168 5 = (Value.int .i64 (4 + (p0 % 13))) ∧ σ1168 6 = (Value.pointer (some ⟨b823, 0, none⟩)) ∧ σ1168 8 = (Value.slice a1151 l1150.length c1152) ∧ K1156 i1149 l1150 l1153 = some r ∧ St [] w w1167 [blk b823 216 [Value.int .i64 i1149, Value.slice a1154 l1153.length c1155], gsl 2 i64E (Value.slice a1151 l1150.length c1152) l1150, gslU 2 i64E (Value.slice a1154 l1153.length c1155) l1153]) ?_ ?_
        · refine WC.block ?_
          refine WC.loop (T := Nat) (fun k1162 σ1160 w1159 => ∃ i1141 : Int, ∃ i1142 : Int, ∃ l1143 : List Int, ∃ l1146 : List Int, ∃ a1144, ∃ c1145, ∃ a1147, ∃ c1148, σ1160 1 = (Value.slice a1 p1.length c1) ∧ σ1160 5 = (Value.int .i64 (4 + (p0 % 13))) ∧ σ1160 6 = (Value.pointer (some ⟨b823, 0, none⟩)) ∧ σ1160 8 = (Value.slice a1144 l1143.length c1145) ∧ σ1160 9 = (Value.int .i64 i1141) ∧ elems (pairK (intW .i64) (intW .i64)) w1159 (In ok w [] [blk b823 216 [Value.int .i64 i1142, Value.slice a1147 l1146.length c1148], gsl 2 i64E (Value.slice a1144 l1143.length c1145) l1143, gslU 2 i64E (Value.slice a1147 l1146.length c1148) l1146]) a1 p1 ∧ arun16_l3 p0 p1 K1156 k1162 i1141 i1142 l1143 l1146 = some r ∧ St [] w w1159 [blk b823 216 [Value.int .i64 i1142, Value.slice a1147 l1146.length c1148], gsl 2 i64E (Value.slice a1144 l1143.length c1145) l1143, gslU 2 i64E (Value.slice a1147 l1146.length c1148) l1146]) (fun k1162 => k1162) 1000000 ⟨0, q130.1, ([] : List Int), q130.2, none, 0, a824, c825, rfl, rfl, rfl, rfl, rfl, hr1166, h1158, hs1165⟩ ?_
          rintro k1162 σ1160 w1159 ⟨i1141, i1142, l1143, l1146, a1144, c1145, a1147, c1148, s1171, s1172, s1173, s1174, s1175, he1163, h1170, hs1161⟩
          rcases k1162 with _ | k1162
          · rw [arun16_l3] at h1170; cases h1170
          rw [arun16_l3] at h1170
          refine WC.seq ?_
          refine WC.seq ?_
          refine WC.region ?_
          refine WL.val (R.move (v := Value.int .i64 i1141) (by exact s1175)) rfl ?_
          refine WL.val (R.move (v := Value.int .i64 (4 + (p0 % 13))) (by exact s1172)) rfl ?_
          obtain ⟨hg1176, h1177⟩ := ckE (c := -9223372036854775808 ≤ 2 * (4 + (p0 % 13)) ∧ 2 * (4 + (p0 % 13)) ≤ 9223372036854775807) h1170
          refine WL.val (R.mul (a := 2) (b := 4 + (p0 % 13)) (z := 2 * (4 + (p0 % 13))) rfl rfl (w64e rfl hg1176.1 hg1176.2)) rfl ?_
          by_cases hc1178 : i1141 < (2 * (4 + (p0 % 13)))
          · have h1179 := ifT hc1178 h1177
            refine WL.val (R.lssT (k := .i64) (a := i1141) (b := 2 * (4 + (p0 % 13))) un3 rfl rfl hc1178) rfl ?_
            refine WL.nil ?_
            refine thenN ?_
            refine WC.condT rfl rfl ?_
            refine WC.skip ?_
            refine thenN ?_
            refine WC.seq ?_
            refine WC.block ?_
            refine WC.seq ?_
            refine WC.region ?_
            refine WL.val (R.move (v := Value.int .i64 i1141) (by exact s1175)) rfl ?_
            refine WL.val (R.assign (v := Value.int .i64 i1141) rfl) rfl ?_
            refine WL.nil ?_
            refine thenN ?_
            obtain ⟨J1202, hJ1203, h1204⟩ := jnE h1179
            refine WC.seq ?_
            refine WC.join (fun σ1206 w1205 => ∃ i1201 : Int, σ1206 1 = (Value.slice a1 p1.length c1) ∧ σ1206 5 = (Value.int .i64 (4 + (p0 % 13))) ∧ σ1206 6 = (Value.pointer (some ⟨b823, 0, none⟩)) ∧ σ1206 8 = (Value.slice a1144 l1143.length c1145) ∧ σ1206 9 = (Value.int .i64 i1141) ∧ σ1206 10 = (Value.int .i64 i1201) ∧ elems (pairK (intW .i64) (intW .i64)) w1205 (In ok w [] [blk b823 216 [Value.int .i64 i1142, Value.slice a1147 l1146.length c1148], gsl 2 i64E (Value.slice a1144 l1143.length c1145) l1143, gslU 2 i64E (Value.slice a1147 l1146.length c1148) l1146]) a1 p1 ∧ J1202 i1201 = some r ∧ St [] w w1205 [blk b823 216 [Value.int .i64 i1142, Value.slice a1147 l1146.length c1148], gsl 2 i64E (Value.slice a1144 l1143.length c1145) l1143, gslU 2 i64E (Value.slice a1147 l1146.length c1148) l1146]) ?_ ?_
            · refine WC.seq ?_
              refine WC.region ?_
              refine WL.val (R.move (v := Value.int .i64 i1141) (by exact s1175)) rfl ?_
              refine WL.val (R.move (v := Value.slice a1 p1.length c1) (by exact s1171)) rfl ?_
              refine WL.val (R.len (a := a1) (n := p1.length) (c := c1) un205 rfl) rfl ?_
              by_cases hc1209 : i1141 < ((p1.length : Nat) : Int)
              · have h1210 := ifT hc1209 h1204
                refine WL.val (R.lssT (k := .i64) (a := i1141) (b := ((p1.length : Nat) : Int)) un3 rfl rfl hc1209) rfl ?_
                refine WL.nil ?_
                refine thenN ?_
                refine WC.condT rfl rfl ?_
                refine WC.region ?_
                refine WL.val (R.move (v := Value.slice a1 p1.length c1) (by exact s1171)) rfl ?_
                refine WL.val (R.move (v := Value.int .i64 i1141) (by exact s1175)) rfl ?_
                obtain ⟨x1211, hx1212, h1213⟩ := ob (o := rd p1 i1141) h1210
                obtain ⟨h01214, hx1215, hl1216, hm1217⟩ := rdE hx1212
                obtain ⟨ad1218, e1223, ha1219, hp1220, hat1221, hrd1222⟩ := he1163 _ _ hx1215
                obtain ⟨cs1224, cs1225, rfl, hp1226, hp1227⟩ := hrd1222
                obtain ⟨-, rfl⟩ := hp1226
                obtain ⟨-, rfl⟩ := hp1227
                refine WL.val (R.indexS (n := 2) (m := (i1141).toNat) (a := a1) (ad := ad1218) (len := p1.length) (cap := c1) (z := i1141) un205 ag213.size rfl ha1219 rfl hm1217 hl1216 hp1220) rfl ?_
                refine WL.val (R.indexA (n := 1) (m := 0) (b := ad1218.block) (o := ad1218.off + (i1141).toNat * 2) (z := 0) un213 lf2.size rfl rfl rfl (by decide)) rfl ?_
                refine WL.val (R.loadL (v := Value.int .i64 x1211.1) lf2 rfl (At.sub (a := ⟨ad1218.block, ad1218.off + (i1141).toNat * 2, none⟩) (off := 0) (n := 1) (cs := [Value.int .i64 x1211.1, Value.int .i64 x1211.2]) (ds := [Value.int .i64 x1211.1]) hat1221 rfl rfl)) rfl ?_
                refine WL.val (R.and rfl rfl) rfl ?_
                refine WL.val (R.assign (v := Value.int .i64 (andI .i64 x1211.1 549755813887)) rfl) rfl ?_
                refine WL.nil ?_
                exact joinI ⟨andI .i64 x1211.1 549755813887, s1171, s1172, s1173, s1174, s1175, rfl, he1163, h1213, hs1161⟩
              · have h1229 := ifF hc1209 h1204
                refine WL.val (R.lssF (k := .i64) (a := i1141) (b := ((p1.length : Nat) : Int)) un3 rfl rfl hc1209) rfl ?_
                refine WL.nil ?_
                refine thenN ?_
                refine WC.condF rfl rfl ?_
                refine WC.skip ?_
                exact joinI ⟨i1141, s1171, s1172, s1173, s1174, s1175, rfl, he1163, h1229, hs1161⟩
            · rintro σ1206 w1205 ⟨i1201, s1231, s1232, s1233, s1234, s1235, s1236, he1208, h1230, hs1207⟩
              subst hJ1203
              refine thenN ?_
              refine WC.seq ?_
              refine WC.region ?_
              refine WL.val (R.move (v := Value.pointer (some ⟨b823, 0, none⟩)) (by exact s1233)) rfl ?_
              refine WL.val (R.move (v := Value.int .i64 i1201) (by exact s1236)) rfl ?_
              obtain ⟨y1237, hx1238, h1239⟩ := ob (o := astep16 (i1142, l1146) i1201 (-1)) h1230
              refine WL.call (astep16_ok _ (In ok w [] [blk b823 216 [Value.int .i64 i1142, Value.slice a1147 l1146.length c1148], gsl 2 i64E (Value.slice a1144 l1143.length c1145) l1143, gslU 2 i64E (Value.slice a1147 l1146.length c1148) l1146]) (i1142, l1146) i1201 (-1)  b823 _ _ (In.outM (M := [blk b823 216 [Value.int .i64 i1142, Value.slice a1147 l1146.length c1148], gslU 2 i64E (Value.slice a1147 l1146.length c1148) l1146]) (N := [gsl 2 i64E (Value.slice a1144 l1143.length c1145) l1143]) ((List.Perm.cons _ ((List.perm_middle (l₁ := [gsl 2 i64E (Value.slice a1144 l1143.length c1145) l1143]) (a := gslU 2 i64E (Value.slice a1147 l1146.length c1148) l1146) (l₂ := [])).trans (List.Perm.cons _ (List.Perm.refl _)))))) (show St [blk b823 216 [Value.int .i64 i1142, Value.slice a1147 l1146.length c1148], gslU 2 i64E (Value.slice a1147 l1146.length c1148) l1146] _ _ [blk b823 216 [Value.int .i64 i1142, Value.slice a1147 l1146.length c1148], gslU 2 i64E (Value.slice a1147 l1146.length c1148) l1146] from St.ofM (M := [blk b823 216 [Value.int .i64 i1142, Value.slice a1147 l1146.length c1148], gslU 2 i64E (Value.slice a1147 l1146.length c1148) l1146]) (N := [gsl 2 i64E (Value.slice a1144 l1143.length c1145) l1143]) hs1207 ((List.Perm.cons _ ((List.perm_middle (l₁ := [gsl 2 i64E (Value.slice a1144 l1143.length c1145) l1143]) (a := gslU 2 i64E (Value.slice a1147 l1146.length c1148) l1146) (l₂ := [])).trans (List.Perm.cons _ (List.Perm.refl _)))))) hx1238) (R.call (vs := [Value.pointer (some ⟨b823, 0, none⟩), Value.int .i64 i1201, Value.int .i64 (-1)]) (caps := []) bo99 rfl rfl) rfl ?_
              rintro v1244 w1245 ⟨a1242, c1243, rfl, ht1240⟩
              have ht1241 := hs1207.call (N := [gsl 2 i64E (Value.slice a1144 l1143.length c1145) l1143]) (M := [blk b823 216 [Value.int .i64 i1142, Value.slice a1147 l1146.length c1148], gslU 2 i64E (Value.slice a1147 l1146.length c1148) l1146]) ((List.Perm.cons _ ((List.perm_middle (l₁ := [gsl 2 i64E (Value.slice a1144 l1143.length c1145) l1143]) (a := gslU 2 i64E (Value.slice a1147 l1146.length c1148) l1146) (l₂ := [])).trans (List.Perm.cons _ (List.Perm.refl _))))) ht1240
              have hs1246 := hs1207.trans ht1241
              refine WL.val (R.move (v := Value.tuple #[Value.int .i64 y1237.1, Value.int .i64 y1237.2.1]) rfl) rfl ?_
              refine WL.val (R.extract (v := Value.int .i64 y1237.1) rfl rfl) rfl ?_
              refine WL.val (R.extract (v := Value.int .i64 y1237.2.1) rfl rfl) rfl ?_
              refine WL.val (R.assign (v := Value.int .i64 y1237.1) rfl) rfl ?_
              refine WL.val (R.assign (v := Value.int .i64 y1237.2.1) rfl) rfl ?_
              refine WL.nil ?_
              refine thenN ?_
              refine WC.seq ?_
              refine WC.seq ?_
              refine WC.region ?_
              refine WL.val (R.move (v := Value.int .i64 y1237.1) rfl) rfl ?_
              refine WL.val (R.move (v := Value.int .i64 i1201) (by exact s1236)) rfl ?_
              refine WL.val (R.move (v := Value.int .i64 (4 + (p0 % 13))) (by exact s1232)) rfl ?_
              refine WL.val (R.mul (a := 2) (b := 4 + (p0 % 13)) (z := 2 * (4 + (p0 % 13))) rfl rfl (w64e rfl hg1176.1 hg1176.2)) rfl ?_
              obtain ⟨hg1247, h1248⟩ := ckE (c := -9223372036854775808 ≤ i1201 + (2 * (4 + (p0 % 13))) ∧ i1201 + (2 * (4 + (p0 % 13))) ≤ 9223372036854775807) h1239
              refine WL.val (R.add (a := i1201) (b := 2 * (4 + (p0 % 13))) (z := i1201 + (2 * (4 + (p0 % 13)))) rfl rfl (w64e rfl hg1247.1 hg1247.2)) rfl ?_
              by_cases hc1249 : y1237.1 = (i1201 + (2 * (4 + (p0 % 13))))
              · have h1250 := ifT hc1249 h1248
                refine WL.val (R.neqF (k := .i64) (a := y1237.1) (b := i1201 + (2 * (4 + (p0 % 13)))) un2 rfl rfl (not_not_intro hc1249)) rfl ?_
                refine WL.nil ?_
                refine thenN ?_
                refine WC.condF rfl rfl ?_
                refine WC.skip ?_
                refine thenN ?_
                refine WC.region ?_
                refine WL.val (R.move (v := Value.slice a1144 l1143.length c1145) (by exact s1234)) rfl ?_
                refine WL.val (R.move (v := Value.int .i64 y1237.1) rfl) rfl ?_
                have hd1256 : ∀ w : World, (Instr.buildSlice 196 1 #[(0, Value.int .i64 y1237.1)]).run Try.prog w = .ok (.slice (some ⟨w.heap.size, 0, none⟩) 1 1) { w with heap := w.heap.push (.cells (List.toArray [Value.int .i64 y1237.1]) 2) } := fun _ => by kernel_rfl
                refine WL.new (L' := fun b1251 => [blk b823 216 [Value.int .i64 y1237.2.2.1, Value.slice a1242 y1237.2.2.2.length c1243], gslU 2 i64E (Value.slice a1242 y1237.2.2.2.length c1243) y1237.2.2.2, gsl 2 i64E (Value.slice a1144 l1143.length c1145) l1143, blk b1251 2 [Value.int .i64 y1237.1]]) (f := fun b1251 => Value.slice (some ⟨b1251, 0, none⟩) 1 1) (X.buildSlice (c := [Value.int .i64 y1237.1]) (vs := [(0, Value.int .i64 y1237.1)]) (hs1246.here) rfl hd1256 (fun _ => rfl)) rfl ?_
                intro b1251 w1252 ht1258 he1254 hz1255
                have hs1259 := hs1246.trans ht1258
                obtain ⟨hg1260, h1261⟩ := ckE (c := l1143.length < 1000000) h1250
                refine WL.grow (L' := fun v1262 => [blk b823 216 [Value.int .i64 y1237.2.2.1, Value.slice a1242 y1237.2.2.2.length c1243], gslU 2 i64E (Value.slice a1242 y1237.2.2.2.length c1243) y1237.2.2.2, gsl 2 i64E v1262 (l1143 ++ [y1237.1]), blk b1251 2 [Value.int .i64 y1237.1]]) (X.append (i := 2) (e := i64E) (xs := l1143) (ys := [y1237.1]) (ad := ⟨b1251, 0, none⟩) (m := 1) (c := 1) (hs1259.here) sl196 rfl rfl rfl rfl ((hs1259.here).at (i := 3) (off := 0) (n := 1) (cs := flat i64E [y1237.1]) rfl rfl rfl) rfl rfl (room (n := 1) hg1260 rfl (by decide)) (room63 (n := 1) hg1260 rfl (by decide)) (fun _ => rfl)) rfl ?_
                intro v1262 w1263 ht1264
                obtain ⟨a1265, c1266, hv1267⟩ := gsl_sl (ht1264.get (i := 2) rfl)
                subst hv1267
                have hs1268 := hs1259.trans ht1264
                refine WL.val (R.assign (v := Value.slice a1265 ((l1143 ++ [y1237.1]).length) c1266) rfl) rfl ?_
                refine WL.nil ?_
                refine blockN ?_
                refine thenN ?_
                refine WC.region ?_
                refine WL.val (R.move (v := Value.int .i64 i1141) (by exact s1235)) rfl ?_
                obtain ⟨hg1269, h1270⟩ := ckE (c := -9223372036854775808 ≤ i1141 + 1 ∧ i1141 + 1 ≤ 9223372036854775807) h1261
                refine WL.val (R.add (a := i1141) (b := 1) (z := i1141 + 1) rfl rfl (w64e rfl hg1269.1 hg1269.2)) rfl ?_
                refine WL.val (R.assign (v := Value.int .i64 (i1141 + 1)) rfl) rfl ?_
                refine WL.nil ?_
                have ht1271 := (hs1268.here).perm (L' := [blk b823 216 [Value.int .i64 y1237.2.2.1, Value.slice a1242 y1237.2.2.2.length c1243], gsl 2 i64E (Value.slice a1265 ((l1143 ++ [y1237.1]).length) c1266) (l1143 ++ [y1237.1]), gslU 2 i64E (Value.slice a1242 y1237.2.2.2.length c1243) y1237.2.2.2]) (G := [blk b1251 2 [Value.int .i64 y1237.1]]) ((List.Perm.cons _ ((List.perm_middle (l₁ := [gslU 2 i64E (Value.slice a1242 y1237.2.2.2.length c1243) y1237.2.2.2]) (a := gsl 2 i64E (Value.slice a1265 ((l1143 ++ [y1237.1]).length) c1266) (l1143 ++ [y1237.1])) (l₂ := [blk b1251 2 [Value.int .i64 y1237.1]])).trans (List.Perm.cons _ (List.Perm.refl _)))))
                have hs1272 := hs1268.trans ht1271
                have hr1273 := elT (((ht1241.trans ht1258).trans ht1264).trans ht1271) he1208
                exact roundEnd (s := k1162) ⟨i1141 + 1, y1237.2.2.1, l1143 ++ [y1237.1], y1237.2.2.2, a1265, c1266, a1242, c1243, s1231, s1232, s1233, rfl, rfl, hr1273, h1270, hs1272⟩ (Nat.lt_succ_self _)
              · have h1274 := ifF hc1249 h1248
                refine WL.val (R.neqT (k := .i64) (a := y1237.1) (b := i1201 + (2 * (4 + (p0 % 13)))) un2 rfl rfl hc1249) rfl ?_
                refine WL.nil ?_
                refine thenN ?_
                refine WC.condT rfl rfl ?_
                refine WC.seq ?_
                refine WC.region ?_
                refine WL.val (R.assign (v := Value.bool false) rfl) rfl ?_
                refine WL.nil ?_
                refine thenN ?_
                refine WC.ret ?_
                have ht1275 := (hs1246.here).perm (L' := []) (G := [blk b823 216 [Value.int .i64 y1237.2.2.1, Value.slice a1242 y1237.2.2.2.length c1243], gslU 2 i64E (Value.slice a1242 y1237.2.2.2.length c1243) y1237.2.2.2, gsl 2 i64E (Value.slice a1144 l1143.length c1145) l1143]) ((List.Perm.refl _))
                have hs1276 := hs1246.trans ht1275
                obtain rfl := Option.some.inj (show some false = some r from h1274)
                exact ret1 (P := Try.prog) (n := 110) (fn := Try.f29) (R := fun v w' => v = Value.bool false ∧ St [] w w' []) (t := 4) (v := Value.bool false) rfl rfl rfl ⟨rfl, hs1276⟩
          · have h1277 := ifF hc1178 h1177
            refine WL.val (R.lssF (k := .i64) (a := i1141) (b := 2 * (4 + (p0 % 13))) un3 rfl rfl hc1178) rfl ?_
            refine WL.nil ?_
            refine thenN ?_
            refine WC.condF rfl rfl ?_
            refine WC.exit ?_
            refine thenE ?_
            refine thenE ?_
            refine blockHit ?_
            exact joinI ⟨i1142, l1143, l1146, a1144, c1145, a1147, c1148, s1172, s1173, s1174, h1277, hs1161⟩
        · rintro σ1168 w1167 ⟨i1149, l1150, l1153, a1151, c1152, a1154, c1155, s1279, s1280, s1281, h1278, hs1169⟩
          subst hK1157
          refine thenN ?_
          refine WC.seq ?_
          refine WC.region ?_
          refine WL.val (R.assign (v := Value.int .i64 (-1)) rfl) rfl ?_
          refine WL.nil ?_
          refine thenN ?_
          refine WC.seq ?_
          refine WC.seq ?_
          refine WC.region ?_
          refine WL.val (R.assign (v := Value.int .i64 0) rfl) rfl ?_
          refine WL.nil ?_
          refine thenN ?_
          obtain ⟨K1442, hK1443, h1444⟩ := kE (G := fun K1442 => arun16_l4 p0 K1442 1000000 (-1) 0 i1149 l1150 l1153) h1278
          refine WC.join (fun σ1450 w1449 => K1442 () = some r ∧ St [] w w1449 []) ?_ ?_
          · refine WC.block ?_
            refine WC.loop (T := Nat) (fun k1448 σ1446 w1445 => ∃ i1433 : Int, ∃ i1434 : Int, ∃ i1435 : Int, ∃ l1436 : List Int, ∃ l1439 : List Int, ∃ a1437, ∃ c1438, ∃ a1440, ∃ c1441, σ1446 5 = (Value.int .i64 (4 + (p0 % 13))) ∧ σ1446 6 = (Value.pointer (some ⟨b823, 0, none⟩)) ∧ σ1446 8 = (Value.slice a1437 l1436.length c1438) ∧ σ1446 13 = (Value.int .i64 i1433) ∧ σ1446 14 = (Value.int .i64 i1434) ∧ arun16_l4 p0 K1442 k1448 i1433 i1434 i1435 l1436 l1439 = some r ∧ St [] w w1445 [blk b823 216 [Value.int .i64 i1435, Value.slice a1440 l1439.length c1441], gsl 2 i64E (Value.slice a1437 l1436.length c1438) l1436, gslU 2 i64E (Value.slice a1440 l1439.length c1441) l1439]) (fun k1448 => k1448) 1000000 ⟨-1, 0, i1149, l1150, l1153, a1151, c1152, a1154, c1155, s1279, s1280, s1281, rfl, rfl, h1444, hs1169⟩ ?_
            rintro k1448 σ1446 w1445 ⟨i1433, i1434, i1435, l1436, l1439, a1437, c1438, a1440, c1441, s1453, s1454, s1455, s1456, s1457, h1452, hs1447⟩
            rcases k1448 with _ | k1448
            · rw [arun16_l4] at h1452; cases h1452
            rw [arun16_l4] at h1452
            refine WC.seq ?_
            refine WC.seq ?_
            refine WC.region ?_
            refine WL.val (R.move (v := Value.int .i64 i1434) (by exact s1457)) rfl ?_
            refine WL.val (R.move (v := Value.int .i64 (4 + (p0 % 13))) (by exact s1453)) rfl ?_
            obtain ⟨hg1458, h1459⟩ := ckE (c := -9223372036854775808 ≤ 5 * (4 + (p0 % 13)) ∧ 5 * (4 + (p0 % 13)) ≤ 9223372036854775807) h1452
            refine WL.val (R.mul (a := 5) (b := 4 + (p0 % 13)) (z := 5 * (4 + (p0 % 13))) rfl rfl (w64e rfl hg1458.1 hg1458.2)) rfl ?_
            by_cases hc1460 : i1434 < (5 * (4 + (p0 % 13)))
            · have h1461 := ifT hc1460 h1459
              refine WL.val (R.lssT (k := .i64) (a := i1434) (b := 5 * (4 + (p0 % 13))) un3 rfl rfl hc1460) rfl ?_
              refine WL.nil ?_
              refine thenN ?_
              refine WC.condT rfl rfl ?_
              refine WC.skip ?_
              refine thenN ?_
              refine WC.seq ?_
              refine WC.block ?_
              refine WC.seq ?_
              refine WC.region ?_
              refine WL.val (R.move (v := Value.pointer (some ⟨b823, 0, none⟩)) (by exact s1454)) rfl ?_
              refine WL.val (R.move (v := Value.slice a1437 l1436.length c1438) (by exact s1455)) rfl ?_
              refine WL.val (R.move (v := Value.int .i64 i1434) (by exact s1457)) rfl ?_
              obtain ⟨x1462, hx1463, h1464⟩ := ob (o := rd l1436 i1434) h1461
              obtain ⟨h01465, hx1466, hl1467, hm1468⟩ := rdE hx1463
              obtain ⟨b1469, c1470, hv1471, _⟩ := hs1447.gslAt (i := 1) rfl hx1466
              refine WL.val (R.indexS (n := 1) (m := (i1434).toNat) (ad := ⟨b1469, 0, none⟩) (len := (l1436).length) (cap := c1470) (z := i1434) un196 lf2.size (Eq.trans (show _ = Value.slice a1437 l1436.length c1438 from rfl) hv1471) rfl rfl hm1468 hl1467 rfl) rfl ?_
              refine WL.val (R.loadL (v := Value.int .i64 x1462) lf2 rfl (hs1447.gslAtV (i := 1) rfl hx1466 hv1471)) rfl ?_
              obtain ⟨y1472, hx1473, h1474⟩ := ob (o := astep16 (i1435, l1439) x1462 (-1)) h1464
              refine WL.call (astep16_ok _ (In ok w [] [blk b823 216 [Value.int .i64 i1435, Value.slice a1440 l1439.length c1441], gsl 2 i64E (Value.slice a1437 l1436.length c1438) l1436, gslU 2 i64E (Value.slice a1440 l1439.length c1441) l1439]) (i1435, l1439) x1462 (-1)  b823 _ _ (In.outM (M := [blk b823 216 [Value.int .i64 i1435, Value.slice a1440 l1439.length c1441], gslU 2 i64E (Value.slice a1440 l1439.length c1441) l1439]) (N := [gsl 2 i64E (Value.slice a1437 l1436.length c1438) l1436]) ((List.Perm.cons _ ((List.perm_middle (l₁ := [gsl 2 i64E (Value.slice a1437 l1436.length c1438) l1436]) (a := gslU 2 i64E (Value.slice a1440 l1439.length c1441) l1439) (l₂ := [])).trans (List.Perm.cons _ (List.Perm.refl _)))))) (show St [blk b823 216 [Value.int .i64 i1435, Value.slice a1440 l1439.length c1441], gslU 2 i64E (Value.slice a1440 l1439.length c1441) l1439] _ _ [blk b823 216 [Value.int .i64 i1435, Value.slice a1440 l1439.length c1441], gslU 2 i64E (Value.slice a1440 l1439.length c1441) l1439] from St.ofM (M := [blk b823 216 [Value.int .i64 i1435, Value.slice a1440 l1439.length c1441], gslU 2 i64E (Value.slice a1440 l1439.length c1441) l1439]) (N := [gsl 2 i64E (Value.slice a1437 l1436.length c1438) l1436]) hs1447 ((List.Perm.cons _ ((List.perm_middle (l₁ := [gsl 2 i64E (Value.slice a1437 l1436.length c1438) l1436]) (a := gslU 2 i64E (Value.slice a1440 l1439.length c1441) l1439) (l₂ := [])).trans (List.Perm.cons _ (List.Perm.refl _)))))) hx1473) (R.call (vs := [Value.pointer (some ⟨b823, 0, none⟩), Value.int .i64 x1462, Value.int .i64 (-1)]) (caps := []) bo99 rfl rfl) rfl ?_
              rintro v1479 w1480 ⟨a1477, c1478, rfl, ht1475⟩
              have ht1476 := hs1447.call (N := [gsl 2 i64E (Value.slice a1437 l1436.length c1438) l1436]) (M := [blk b823 216 [Value.int .i64 i1435, Value.slice a1440 l1439.length c1441], gslU 2 i64E (Value.slice a1440 l1439.length c1441) l1439]) ((List.Perm.cons _ ((List.perm_middle (l₁ := [gsl 2 i64E (Value.slice a1437 l1436.length c1438) l1436]) (a := gslU 2 i64E (Value.slice a1440 l1439.length c1441) l1439) (l₂ := [])).trans (List.Perm.cons _ (List.Perm.refl _))))) ht1475
              have hs1481 := hs1447.trans ht1476
              refine WL.val (R.move (v := Value.tuple #[Value.int .i64 y1472.1, Value.int .i64 y1472.2.1]) rfl) rfl ?_
              refine WL.val (R.extract (v := Value.int .i64 y1472.1) rfl rfl) rfl ?_
              refine WL.val (R.extract (v := Value.int .i64 y1472.2.1) rfl rfl) rfl ?_
              refine WL.val (R.assign (v := Value.int .i64 y1472.1) rfl) rfl ?_
              refine WL.val (R.assign (v := Value.int .i64 y1472.2.1) rfl) rfl ?_
              refine WL.nil ?_
              refine thenN ?_
              refine WC.seq ?_
              refine WC.region ?_
              refine WL.val (R.move (v := Value.slice a1437 l1436.length c1438) (by exact s1455)) rfl ?_
              refine WL.val (R.move (v := Value.int .i64 y1472.1) rfl) rfl ?_
              have hd1487 : ∀ w : World, (Instr.buildSlice 196 1 #[(0, Value.int .i64 y1472.1)]).run Try.prog w = .ok (.slice (some ⟨w.heap.size, 0, none⟩) 1 1) { w with heap := w.heap.push (.cells (List.toArray [Value.int .i64 y1472.1]) 2) } := fun _ => by kernel_rfl
              refine WL.new (L' := fun b1482 => [blk b823 216 [Value.int .i64 y1472.2.2.1, Value.slice a1477 y1472.2.2.2.length c1478], gslU 2 i64E (Value.slice a1477 y1472.2.2.2.length c1478) y1472.2.2.2, gsl 2 i64E (Value.slice a1437 l1436.length c1438) l1436, blk b1482 2 [Value.int .i64 y1472.1]]) (f := fun b1482 => Value.slice (some ⟨b1482, 0, none⟩) 1 1) (X.buildSlice (c := [Value.int .i64 y1472.1]) (vs := [(0, Value.int .i64 y1472.1)]) (hs1481.here) rfl hd1487 (fun _ => rfl)) rfl ?_
              intro b1482 w1483 ht1489 he1485 hz1486
              have hs1490 := hs1481.trans ht1489
              obtain ⟨hg1491, h1492⟩ := ckE (c := l1436.length < 1000000) h1474
              refine WL.grow (L' := fun v1493 => [blk b823 216 [Value.int .i64 y1472.2.2.1, Value.slice a1477 y1472.2.2.2.length c1478], gslU 2 i64E (Value.slice a1477 y1472.2.2.2.length c1478) y1472.2.2.2, gsl 2 i64E v1493 (l1436 ++ [y1472.1]), blk b1482 2 [Value.int .i64 y1472.1]]) (X.append (i := 2) (e := i64E) (xs := l1436) (ys := [y1472.1]) (ad := ⟨b1482, 0, none⟩) (m := 1) (c := 1) (hs1490.here) sl196 rfl rfl rfl rfl ((hs1490.here).at (i := 3) (off := 0) (n := 1) (cs := flat i64E [y1472.1]) rfl rfl rfl) rfl rfl (room (n := 1) hg1491 rfl (by decide)) (room63 (n := 1) hg1491 rfl (by decide)) (fun _ => rfl)) rfl ?_
              intro v1493 w1494 ht1495
              obtain ⟨a1496, c1497, hv1498⟩ := gsl_sl (ht1495.get (i := 2) rfl)
              subst hv1498
              have hs1499 := hs1490.trans ht1495
              refine WL.val (R.assign (v := Value.slice a1496 ((l1436 ++ [y1472.1]).length) c1497) rfl) rfl ?_
              refine WL.nil ?_
              refine thenN ?_
              refine WC.seq ?_
              refine WC.seq ?_
              refine WC.region ?_
              refine WL.val (R.move (v := Value.int .i64 y1472.1) rfl) rfl ?_
              refine WL.val (R.move (v := Value.slice a1496 ((l1436 ++ [y1472.1]).length) c1497) rfl) rfl ?_
              refine WL.val (R.move (v := Value.int .i64 i1434) (by exact s1457)) rfl ?_
              obtain ⟨x1500, hx1501, h1502⟩ := ob (o := rd (l1436 ++ [y1472.1]) i1434) h1492
              obtain ⟨h01503, hx1504, hl1505, hm1506⟩ := rdE hx1501
              obtain ⟨b1507, c1508, hv1509, _⟩ := hs1499.gslAt (i := 2) rfl hx1504
              refine WL.val (R.indexS (n := 1) (m := (i1434).toNat) (ad := ⟨b1507, 0, none⟩) (len := (l1436 ++ [y1472.1]).length) (cap := c1508) (z := i1434) un196 lf2.size (Eq.trans (show _ = Value.slice a1496 ((l1436 ++ [y1472.1]).length) c1497 from rfl) hv1509) rfl rfl hm1506 hl1505 rfl) rfl ?_
              refine WL.val (R.loadL (v := Value.int .i64 x1500) lf2 rfl (hs1499.gslAtV (i := 2) rfl hx1504 hv1509)) rfl ?_
              refine WL.val (R.move (v := Value.int .i64 (4 + (p0 % 13))) (by exact s1453)) rfl ?_
              obtain ⟨hg1510, h1511⟩ := ckE (c := -9223372036854775808 ≤ 2 * (4 + (p0 % 13)) ∧ 2 * (4 + (p0 % 13)) ≤ 9223372036854775807) h1502
              refine WL.val (R.mul (a := 2) (b := 4 + (p0 % 13)) (z := 2 * (4 + (p0 % 13))) rfl rfl (w64e rfl hg1510.1 hg1510.2)) rfl ?_
              obtain ⟨hg1512, h1513⟩ := ckE (c := -9223372036854775808 ≤ x1500 + (2 * (4 + (p0 % 13))) ∧ x1500 + (2 * (4 + (p0 % 13))) ≤ 9223372036854775807) h1511
              refine WL.val (R.add (a := x1500) (b := 2 * (4 + (p0 % 13))) (z := x1500 + (2 * (4 + (p0 % 13)))) rfl rfl (w64e rfl hg1512.1 hg1512.2)) rfl ?_
              by_cases hc1514 : y1472.1 = (x1500 + (2 * (4 + (p0 % 13))))
              · have h1515 := ifT hc1514 h1513
                refine WL.val (R.neqF (k := .i64) (a := y1472.1) (b := x1500 + (2 * (4 + (p0 % 13)))) un2 rfl rfl (not_not_intro hc1514)) rfl ?_
                refine WL.val (R.move (v := Value.bool false) rfl) rfl ?_
                refine WL.guardY (e := 93) rfl rfl rfl ?_
                refine WL.val (R.move (v := Value.int .i64 y1472.2.1) rfl) rfl ?_
                refine WL.guardY (e := 93) rfl rfl rfl ?_
                refine WL.val (R.move (v := Value.int .i64 y1472.1) rfl) rfl ?_
                refine WL.guardY (e := 93) rfl rfl rfl ?_
                by_cases hc1516 : y1472.2.1 < y1472.1
                · have h1517 := ifT hc1516 h1515
                  refine WL.val (R.lssT (k := .i64) (a := y1472.2.1) (b := y1472.1) un2 rfl rfl hc1516) rfl ?_
                  refine WL.val (R.pickF (v := Value.bool true) rfl rfl) rfl ?_
                  refine WL.val (R.move (v := Value.bool true) rfl) rfl ?_
                  refine WL.guardN (e := 98) (v := .bool true) rfl rfl rfl rfl ?_
                  refine WL.guardN (e := 98) (v := .bool true) rfl rfl rfl rfl ?_
                  refine WL.guardN (e := 98) (v := .bool true) rfl rfl rfl rfl ?_
                  refine WL.guardN (e := 101) (v := undef) rfl rfl rfl rfl ?_
                  refine WL.guardN (e := 101) (v := undef) rfl rfl rfl rfl ?_
                  refine WL.guardN (e := 101) (v := undef) rfl rfl rfl rfl ?_
                  refine WL.guardN (e := 101) (v := undef) rfl rfl rfl rfl ?_
                  refine WL.guardN (e := 98) (v := .bool true) rfl rfl rfl rfl ?_
                  refine WL.val (R.pickT (v := Value.bool true) rfl rfl) rfl ?_
                  refine WL.nil ?_
                  refine thenN ?_
                  refine WC.condT rfl rfl ?_
                  refine WC.seq ?_
                  refine WC.region ?_
                  refine WL.val (R.assign (v := Value.bool false) rfl) rfl ?_
                  refine WL.nil ?_
                  refine thenN ?_
                  refine WC.ret ?_
                  have ht1518 := (hs1499.here).perm (L' := []) (G := [blk b823 216 [Value.int .i64 y1472.2.2.1, Value.slice a1477 y1472.2.2.2.length c1478], gslU 2 i64E (Value.slice a1477 y1472.2.2.2.length c1478) y1472.2.2.2, gsl 2 i64E (Value.slice a1496 ((l1436 ++ [y1472.1]).length) c1497) (l1436 ++ [y1472.1]), blk b1482 2 [Value.int .i64 y1472.1]]) ((List.Perm.refl _))
                  have hs1519 := hs1499.trans ht1518
                  obtain rfl := Option.some.inj (show some false = some r from h1517)
                  exact ret1 (P := Try.prog) (n := 110) (fn := Try.f29) (R := fun v w' => v = Value.bool false ∧ St [] w w' []) (t := 4) (v := Value.bool false) rfl rfl rfl ⟨rfl, hs1519⟩
                · have h1520 := ifF hc1516 h1515
                  refine WL.val (R.lssF (k := .i64) (a := y1472.2.1) (b := y1472.1) un2 rfl rfl hc1516) rfl ?_
                  refine WL.val (R.pickF (v := Value.bool false) rfl rfl) rfl ?_
                  refine WL.val (R.move (v := Value.bool false) rfl) rfl ?_
                  refine WL.guardY (e := 98) rfl rfl rfl ?_
                  refine WL.val (R.move (v := Value.int .i64 i1434) (by exact s1457)) rfl ?_
                  refine WL.guardY (e := 98) rfl rfl rfl ?_
                  by_cases hc1521 : 0 < i1434
                  · have h1522 := ifT hc1521 h1520
                    refine WL.val (R.gtrT (k := .i64) (a := i1434) (b := 0) un3 rfl rfl hc1521) rfl ?_
                    refine WL.guardY (e := 98) rfl rfl rfl ?_
                    refine WL.val (R.move (v := Value.bool true) rfl) rfl ?_
                    refine WL.guardY (e := 101) rfl rfl rfl ?_
                    refine WL.val (R.move (v := Value.int .i64 y1472.2.1) rfl) rfl ?_
                    refine WL.guardY (e := 101) rfl rfl rfl ?_
                    refine WL.val (R.move (v := Value.int .i64 i1433) (by exact s1456)) rfl ?_
                    refine WL.guardY (e := 101) rfl rfl rfl ?_
                    obtain ⟨hg1523, h1524⟩ := ckE (c := -9223372036854775808 ≤ i1433 + 1 ∧ i1433 + 1 ≤ 9223372036854775807) h1522
                    refine WL.val (R.add (a := i1433) (b := 1) (z := i1433 + 1) rfl rfl (w64e rfl hg1523.1 hg1523.2)) rfl ?_
                    refine WL.guardY (e := 101) rfl rfl rfl ?_
                    by_cases hc1525 : y1472.2.1 = (i1433 + 1)
                    · have h1526 := ifT hc1525 h1524
                      refine WL.val (R.neqF (k := .i64) (a := y1472.2.1) (b := i1433 + 1) un2 rfl rfl (not_not_intro hc1525)) rfl ?_
                      refine WL.guardY (e := 98) rfl rfl rfl ?_
                      refine WL.val (R.pickT (v := Value.bool false) rfl rfl) rfl ?_
                      refine WL.val (R.pickF (v := Value.bool false) rfl rfl) rfl ?_
                      refine WL.nil ?_
                      refine thenN ?_
                      refine WC.condF rfl rfl ?_
                      refine WC.skip ?_
                      refine thenN ?_
                      refine WC.region ?_
                      refine WL.val (R.move (v := Value.int .i64 y1472.2.1) rfl) rfl ?_
                      refine WL.val (R.assign (v := Value.int .i64 y1472.2.1) rfl) rfl ?_
                      refine WL.nil ?_
                      refine blockN ?_
                      refine thenN ?_
                      refine WC.region ?_
                      refine WL.val (R.move (v := Value.int .i64 i1434) (by exact s1457)) rfl ?_
                      obtain ⟨hg1527, h1528⟩ := ckE (c := -9223372036854775808 ≤ i1434 + 1 ∧ i1434 + 1 ≤ 9223372036854775807) h1526
                      refine WL.val (R.add (a := i1434) (b := 1) (z := i1434 + 1) rfl rfl (w64e rfl hg1527.1 hg1527.2)) rfl ?_
                      refine WL.val (R.assign (v := Value.int .i64 (i1434 + 1)) rfl) rfl ?_
                      refine WL.nil ?_
                      have ht1529 := (hs1499.here).perm (L' := [blk b823 216 [Value.int .i64 y1472.2.2.1, Value.slice a1477 y1472.2.2.2.length c1478], gsl 2 i64E (Value.slice a1496 ((l1436 ++ [y1472.1]).length) c1497) (l1436 ++ [y1472.1]), gslU 2 i64E (Value.slice a1477 y1472.2.2.2.length c1478) y1472.2.2.2]) (G := [blk b1482 2 [Value.int .i64 y1472.1]]) ((List.Perm.cons _ ((List.perm_middle (l₁ := [gslU 2 i64E (Value.slice a1477 y1472.2.2.2.length c1478) y1472.2.2.2]) (a := gsl 2 i64E (Value.slice a1496 ((l1436 ++ [y1472.1]).length) c1497) (l1436 ++ [y1472.1])) (l₂ := [blk b1482 2 [Value.int .i64 y1472.1]])).trans (List.Perm.cons _ (List.Perm.refl _)))))
                      have hs1530 := hs1499.trans ht1529
                      exact roundEnd (s := k1448) ⟨y1472.2.1, i1434 + 1, y1472.2.2.1, l1436 ++ [y1472.1], y1472.2.2.2, a1496, c1497, a1477, c1478, s1453, s1454, rfl, rfl, rfl, h1528, hs1530⟩ (Nat.lt_succ_self _)
                    · have h1531 := ifF hc1525 h1524
                      refine WL.val (R.neqT (k := .i64) (a := y1472.2.1) (b := i1433 + 1) un2 rfl rfl hc1525) rfl ?_
                      refine WL.guardY (e := 98) rfl rfl rfl ?_
                      refine WL.val (R.pickT (v := Value.bool true) rfl rfl) rfl ?_
                      refine WL.val (R.pickF (v := Value.bool true) rfl rfl) rfl ?_
                      refine WL.nil ?_
                      refine thenN ?_
                      refine WC.condT rfl rfl ?_
                      refine WC.seq ?_
                      refine WC.region ?_
                      refine WL.val (R.assign (v := Value.bool false) rfl) rfl ?_
                      refine WL.nil ?_
                      refine thenN ?_
                      refine WC.ret ?_
                      have ht1532 := (hs1499.here).perm (L' := []) (G := [blk b823 216 [Value.int .i64 y1472.2.2.1, Value.slice a1477 y1472.2.2.2.length c1478], gslU 2 i64E (Value.slice a1477 y1472.2.2.2.length c1478) y1472.2.2.2, gsl 2 i64E (Value.slice a1496 ((l1436 ++ [y1472.1]).length) c1497) (l1436 ++ [y1472.1]), blk b1482 2 [Value.int .i64 y1472.1]]) ((List.Perm.refl _))
                      have hs1533 := hs1499.trans ht1532
                      obtain rfl := Option.some.inj (show some false = some r from h1531)
                      exact ret1 (P := Try.prog) (n := 110) (fn := Try.f29) (R := fun v w' => v = Value.bool false ∧ St [] w w' []) (t := 4) (v := Value.bool false) rfl rfl rfl ⟨rfl, hs1533⟩
                  · have h1534 := ifF hc1521 h1520
                    refine WL.val (R.gtrF (k := .i64) (a := i1434) (b := 0) un3 rfl rfl hc1521) rfl ?_
                    refine WL.guardY (e := 98) rfl rfl rfl ?_
                    refine WL.val (R.move (v := Value.bool false) rfl) rfl ?_
                    refine WL.guardN (e := 101) (v := .bool false) rfl rfl rfl rfl ?_
                    refine WL.guardN (e := 101) (v := .bool false) rfl rfl rfl rfl ?_
                    refine WL.guardN (e := 101) (v := .bool false) rfl rfl rfl rfl ?_
                    refine WL.guardN (e := 101) (v := .bool false) rfl rfl rfl rfl ?_
                    refine WL.guardY (e := 98) rfl rfl rfl ?_
                    refine WL.val (R.pickF (v := Value.bool false) rfl rfl) rfl ?_
                    refine WL.val (R.pickF (v := Value.bool false) rfl rfl) rfl ?_
                    refine WL.nil ?_
                    refine thenN ?_
                    refine WC.condF rfl rfl ?_
                    refine WC.skip ?_
                    refine thenN ?_
                    refine WC.region ?_
                    refine WL.val (R.move (v := Value.int .i64 y1472.2.1) rfl) rfl ?_
                    refine WL.val (R.assign (v := Value.int .i64 y1472.2.1) rfl) rfl ?_
                    refine WL.nil ?_
                    refine blockN ?_
                    refine thenN ?_
                    refine WC.region ?_
                    refine WL.val (R.move (v := Value.int .i64 i1434) (by exact s1457)) rfl ?_
                    obtain ⟨hg1535, h1536⟩ := ckE (c := -9223372036854775808 ≤ i1434 + 1 ∧ i1434 + 1 ≤ 9223372036854775807) h1534
                    refine WL.val (R.add (a := i1434) (b := 1) (z := i1434 + 1) rfl rfl (w64e rfl hg1535.1 hg1535.2)) rfl ?_
                    refine WL.val (R.assign (v := Value.int .i64 (i1434 + 1)) rfl) rfl ?_
                    refine WL.nil ?_
                    have ht1537 := (hs1499.here).perm (L' := [blk b823 216 [Value.int .i64 y1472.2.2.1, Value.slice a1477 y1472.2.2.2.length c1478], gsl 2 i64E (Value.slice a1496 ((l1436 ++ [y1472.1]).length) c1497) (l1436 ++ [y1472.1]), gslU 2 i64E (Value.slice a1477 y1472.2.2.2.length c1478) y1472.2.2.2]) (G := [blk b1482 2 [Value.int .i64 y1472.1]]) ((List.Perm.cons _ ((List.perm_middle (l₁ := [gslU 2 i64E (Value.slice a1477 y1472.2.2.2.length c1478) y1472.2.2.2]) (a := gsl 2 i64E (Value.slice a1496 ((l1436 ++ [y1472.1]).length) c1497) (l1436 ++ [y1472.1])) (l₂ := [blk b1482 2 [Value.int .i64 y1472.1]])).trans (List.Perm.cons _ (List.Perm.refl _)))))
                    have hs1538 := hs1499.trans ht1537
                    exact roundEnd (s := k1448) ⟨y1472.2.1, i1434 + 1, y1472.2.2.1, l1436 ++ [y1472.1], y1472.2.2.2, a1496, c1497, a1477, c1478, s1453, s1454, rfl, rfl, rfl, h1536, hs1538⟩ (Nat.lt_succ_self _)
              · have h1539 := ifF hc1514 h1513
                refine WL.val (R.neqT (k := .i64) (a := y1472.1) (b := x1500 + (2 * (4 + (p0 % 13)))) un2 rfl rfl hc1514) rfl ?_
                refine WL.val (R.move (v := Value.bool true) rfl) rfl ?_
                refine WL.guardN (e := 93) (v := .bool true) rfl rfl rfl rfl ?_
                refine WL.guardN (e := 93) (v := .bool true) rfl rfl rfl rfl ?_
                refine WL.guardN (e := 93) (v := .bool true) rfl rfl rfl rfl ?_
                refine WL.val (R.pickT (v := Value.bool true) rfl rfl) rfl ?_
                refine WL.val (R.move (v := Value.bool true) rfl) rfl ?_
                refine WL.guardN (e := 98) (v := .bool true) rfl rfl rfl rfl ?_
                refine WL.guardN (e := 98) (v := .bool true) rfl rfl rfl rfl ?_
                refine WL.guardN (e := 98) (v := .bool true) rfl rfl rfl rfl ?_
                refine WL.guardN (e := 101) (v := undef) rfl rfl rfl rfl ?_
                refine WL.guardN (e := 101) (v := undef) rfl rfl rfl rfl ?_
                refine WL.guardN (e := 101) (v := undef) rfl rfl rfl rfl ?_
                refine WL.guardN (e := 101) (v := undef) rfl rfl rfl rfl ?_
                refine WL.guardN (e := 98) (v := .bool true) rfl rfl rfl rfl ?_
                refine WL.val (R.pickT (v := Value.bool true) rfl rfl) rfl ?_
                refine WL.nil ?_
                refine thenN ?_
                refine WC.condT rfl rfl ?_
                refine WC.seq ?_
                refine WC.region ?_
                refine WL.val (R.assign (v := Value.bool false) rfl) rfl ?_
                refine WL.nil ?_
                refine thenN ?_
                refine WC.ret ?_
                have ht1540 := (hs1499.here).perm (L' := []) (G := [blk b823 216 [Value.int .i64 y1472.2.2.1, Value.slice a1477 y1472.2.2.2.length c1478], gslU 2 i64E (Value.slice a1477 y1472.2.2.2.length c1478) y1472.2.2.2, gsl 2 i64E (Value.slice a1496 ((l1436 ++ [y1472.1]).length) c1497) (l1436 ++ [y1472.1]), blk b1482 2 [Value.int .i64 y1472.1]]) ((List.Perm.refl _))
                have hs1541 := hs1499.trans ht1540
                obtain rfl := Option.some.inj (show some false = some r from h1539)
                exact ret1 (P := Try.prog) (n := 110) (fn := Try.f29) (R := fun v w' => v = Value.bool false ∧ St [] w w' []) (t := 4) (v := Value.bool false) rfl rfl rfl ⟨rfl, hs1541⟩
            · have h1542 := ifF hc1460 h1459
              refine WL.val (R.lssF (k := .i64) (a := i1434) (b := 5 * (4 + (p0 % 13))) un3 rfl rfl hc1460) rfl ?_
              refine WL.nil ?_
              refine thenN ?_
              refine WC.condF rfl rfl ?_
              refine WC.exit ?_
              refine thenE ?_
              refine thenE ?_
              refine blockHit ?_
              have ht1543 := (hs1447.here).perm (L' := []) (G := [blk b823 216 [Value.int .i64 i1435, Value.slice a1440 l1439.length c1441], gsl 2 i64E (Value.slice a1437 l1436.length c1438) l1436, gslU 2 i64E (Value.slice a1440 l1439.length c1441) l1439]) ((List.Perm.refl _))
              have hs1544 := hs1447.trans ht1543
              exact joinI ⟨h1542, hs1544⟩
          · rintro σ1450 w1449 ⟨h1545, hs1451⟩
            subst hK1443
            refine thenN ?_
            refine WC.seq ?_
            refine WC.region ?_
            obtain ⟨y1546, hx1547, h1548⟩ := ob (o := lives16 ) h1545
            refine WL.call (lives16_ok _ (In ok w [] [])   hx1547) (R.call (vs := []) (caps := []) bo95 rfl rfl) rfl ?_
            rintro v1551 w1552 ⟨rfl, ht1549⟩
            have ht1550 := hs1451.call (N := []) (M := []) (List.Perm.refl _) ht1549
            have hs1553 := hs1451.trans ht1550
            refine WL.val (R.assign (v := Value.bool y1546) rfl) rfl ?_
            refine WL.nil ?_
            refine thenN ?_
            refine WC.ret ?_
            obtain rfl := Option.some.inj (show some y1546 = some r from h1548)
            exact ret1 (P := Try.prog) (n := 110) (fn := Try.f29) (R := fun v w' => v = Value.bool y1546 ∧ St [] w w' []) (t := 4) (v := Value.bool y1546) rfl rfl rfl ⟨rfl, hs1553⟩
      · have h1554 := ifF hc829 h129
        refine WL.val (R.neqT (k := .i64) (a := y119.2) (b := 0) un66 rfl rfl hc829) rfl ?_
        refine WL.nil ?_
        refine thenN ?_
        refine WC.condT rfl rfl ?_
        refine WC.seq ?_
        refine WC.region ?_
        refine WL.val (R.assign (v := Value.bool false) rfl) rfl ?_
        refine WL.nil ?_
        refine thenN ?_
        refine WC.ret ?_
        have ht1555 := (hs828.here).perm (L' := []) (G := [blk b823 216 [Value.int .i64 q130.1, Value.slice a824 q130.2.length c825], gslU 2 i64E (Value.slice a824 q130.2.length c825) q130.2]) ((List.Perm.refl _))
        have hs1556 := hs828.trans ht1555
        obtain rfl := Option.some.inj (show some false = some r from h1554)
        exact ret1 (P := Try.prog) (n := 110) (fn := Try.f29) (R := fun v w' => v = Value.bool false ∧ St [] w w' []) (t := 4) (v := Value.bool false) rfl rfl rfl ⟨rfl, hs1556⟩

end Go.Proofs.Ytckcldimnelklaa
