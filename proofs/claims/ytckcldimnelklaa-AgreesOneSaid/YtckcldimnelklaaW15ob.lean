/- The functions come to what their twins answer: group 15o. -/
import Derived.Test.YtckcldimnelklaaW15a
import Derived.Test.YtckcldimnelklaaTQ
import Derived.Test.YtckcldimnelklaaD15o
import Derived.Test.YtckcldimnelklaaW15oa
namespace Go.Proofs.Ytckcldimnelklaa
open Go
set_option linter.unusedVariables false
set_option linter.unusedSimpArgs false
set_option maxRecDepth 100000
set_option maxHeartbeats 4000000

theorem one15_ok (w : World) (ok : Nat → Prop) (p0 : Int × Int) (p1 : List Cl) (p2 : (List Rw) × (List Hd)) (a1 : Option Addr) (c1 : Nat) (he1 : elems cellW w ok a1 p1) (hc1 : p1.length ≤ c1) (a2 : Option Addr) (c2 : Nat) (he2 : elems rowW w ok a2 p2.1) (hc2 : p2.1.length ≤ c2) (a2a : Option Addr) (c2a : Nat) (he2a : elems heldW w ok a2a p2.2) (hc2a : p2.2.length ≤ c2a) {r : Bool} (h : one15 p0 p1 p2 = some r) :
    Ret Try.prog 4 [Value.agg (List.toArray [Value.int .u8 p0.1, Value.int .u8 p0.2]), Value.slice a1 p1.length c1, Value.agg (List.toArray [Value.slice a2 p2.1.length c2, Value.slice a2a p2.2.length c2a])] w (fun v w' => v = Value.bool r ∧ St [] w w' []) := by
  rw [one15] at h
  have hs100 : St [] w w [] := St.start w
  have he1001 := el0 (L0 := []) (fun b _ => out_nil b) he1
  have he1002 := el0 (L0 := []) (fun b _ => out_nil b) he2
  have he1002a := el0 (L0 := []) (fun b _ => out_nil b) he2a
  refine enter (n := 178) Try.func4 rfl rfl rfl ?_
  refine WC.seq ?_
  refine WC.region ?_
  refine WL.new (L' := fun b104 => [blk b104 40 [Value.int .u8 p0.1, Value.int .u8 p0.2]]) (f := fun b104 => Value.pointer (some ⟨b104, 0, none⟩)) (X.box (v := Value.agg (List.toArray [Value.int .u8 p0.1, Value.int .u8 p0.2])) (c := [Value.int .u8 p0.1, Value.int .u8 p0.2]) (hs100.here) rfl rfl (fun _ => rfl)) rfl ?_
  intro b104 w105 ht110 he107 hz108
  have hs111 := hs100.trans ht110
  refine WL.new (L' := fun b112 => [blk b104 40 [Value.int .u8 p0.1, Value.int .u8 p0.2], blk b112 43 [Value.slice a2 p2.1.length c2, Value.slice a2a p2.2.length c2a]]) (f := fun b112 => Value.pointer (some ⟨b112, 0, none⟩)) (X.box (v := Value.agg (List.toArray [Value.slice a2 p2.1.length c2, Value.slice a2a p2.2.length c2a])) (c := [Value.slice a2 p2.1.length c2, Value.slice a2a p2.2.length c2a]) (hs111.here) rfl rfl (fun _ => rfl)) rfl ?_
  intro b112 w113 ht118 he115 hz116
  have hs119 := hs111.trans ht118
  refine WL.val (R.assign (v := Value.bool false) rfl) rfl ?_
  refine WL.nil ?_
  refine thenN ?_
  refine WC.seq ?_
  refine WC.seq ?_
  refine WC.region ?_
  refine WL.val (R.move (v := Value.slice a1 p1.length c1) rfl) rfl ?_
  refine WL.val (R.len (a := a1) (n := p1.length) (c := c1) un41 rfl) rfl ?_
  by_cases hc120 : 40 < ((p1.length : Nat) : Int)
  · have h121 := ifT hc120 h
    refine WL.val (R.gtrT (k := .i64) (a := ((p1.length : Nat) : Int)) (b := 40) un3 rfl rfl hc120) rfl ?_
    refine WL.val (R.move (v := Value.bool true) rfl) rfl ?_
    refine WL.guardN (e := 22) (v := .bool true) rfl rfl rfl rfl ?_
    refine WL.guardN (e := 22) (v := .bool true) rfl rfl rfl rfl ?_
    refine WL.guardN (e := 22) (v := .bool true) rfl rfl rfl rfl ?_
    refine WL.guardN (e := 22) (v := .bool true) rfl rfl rfl rfl ?_
    refine WL.val (R.pickT (v := Value.bool true) rfl rfl) rfl ?_
    refine WL.val (R.move (v := Value.bool true) rfl) rfl ?_
    refine WL.guardN (e := 28) (v := .bool true) rfl rfl rfl rfl ?_
    refine WL.guardN (e := 28) (v := .bool true) rfl rfl rfl rfl ?_
    refine WL.guardN (e := 28) (v := .bool true) rfl rfl rfl rfl ?_
    refine WL.guardN (e := 28) (v := .bool true) rfl rfl rfl rfl ?_
    refine WL.val (R.pickT (v := Value.bool true) rfl rfl) rfl ?_
    refine WL.nil ?_
    refine thenN ?_
    refine WC.condT rfl rfl ?_
    refine WC.seq ?_
    refine WC.region ?_
    obtain ⟨y122, hx123, h124⟩ := ob (o := lives15 ) h121
    refine WL.call (lives15_ok _ (In (fun _ => False) w [] [blk b104 40 [Value.int .u8 p0.1, Value.int .u8 p0.2], blk b112 43 [Value.slice a2 p2.1.length c2, Value.slice a2a p2.2.length c2a]])   hx123) (R.call (vs := []) (caps := []) bo31 rfl rfl) rfl ?_
    rintro v127 w128 ⟨rfl, ht125⟩
    have ht126 := hs119.call (N := [blk b104 40 [Value.int .u8 p0.1, Value.int .u8 p0.2], blk b112 43 [Value.slice a2 p2.1.length c2, Value.slice a2a p2.2.length c2a]]) (M := []) (List.Perm.refl _) ht125
    have hs129 := hs119.trans ht126
    refine WL.val (R.assign (v := Value.bool y122) rfl) rfl ?_
    refine WL.nil ?_
    refine thenN ?_
    refine WC.ret ?_
    have ht130 := (hs129.here).perm (L' := []) (G := [blk b104 40 [Value.int .u8 p0.1, Value.int .u8 p0.2], blk b112 43 [Value.slice a2 p2.1.length c2, Value.slice a2a p2.2.length c2a]]) ((List.Perm.refl _))
    have hs131 := hs129.trans ht130
    obtain rfl := Option.some.inj (show some y122 = some r from h124)
    exact ret1 (P := Try.prog) (n := 178) (fn := Try.f4) (R := fun v w' => v = Value.bool y122 ∧ St [] w w' []) (t := 6) (v := Value.bool y122) rfl rfl rfl ⟨rfl, hs131⟩
  · have h132 := ifF hc120 h
    refine WL.val (R.gtrF (k := .i64) (a := ((p1.length : Nat) : Int)) (b := 40) un3 rfl rfl hc120) rfl ?_
    refine WL.val (R.move (v := Value.bool false) rfl) rfl ?_
    refine WL.guardY (e := 22) rfl rfl rfl ?_
    refine WL.val (R.fieldAddr (o := 0) (o' := 0) fa43_0 rfl rfl) rfl ?_
    refine WL.guardY (e := 22) rfl rfl rfl ?_
    refine WL.val (R.loadL (v := Value.slice a2 p2.1.length c2) lf22 rfl (hs119.at (i := 1) (off := 0) (n := 1) (cs := [Value.slice a2 p2.1.length c2]) rfl rfl rfl)) rfl ?_
    refine WL.guardY (e := 22) rfl rfl rfl ?_
    refine WL.val (R.len (a := a2) (n := p2.1.length) (c := c2) un22 rfl) rfl ?_
    refine WL.guardY (e := 22) rfl rfl rfl ?_
    by_cases hc133 : 40 < ((p2.1.length : Nat) : Int)
    · have h134 := ifT hc133 h132
      refine WL.val (R.gtrT (k := .i64) (a := ((p2.1.length : Nat) : Int)) (b := 40) un3 rfl rfl hc133) rfl ?_
      refine WL.val (R.pickF (v := Value.bool true) rfl rfl) rfl ?_
      refine WL.val (R.move (v := Value.bool true) rfl) rfl ?_
      refine WL.guardN (e := 28) (v := .bool true) rfl rfl rfl rfl ?_
      refine WL.guardN (e := 28) (v := .bool true) rfl rfl rfl rfl ?_
      refine WL.guardN (e := 28) (v := .bool true) rfl rfl rfl rfl ?_
      refine WL.guardN (e := 28) (v := .bool true) rfl rfl rfl rfl ?_
      refine WL.val (R.pickT (v := Value.bool true) rfl rfl) rfl ?_
      refine WL.nil ?_
      refine thenN ?_
      refine WC.condT rfl rfl ?_
      refine WC.seq ?_
      refine WC.region ?_
      obtain ⟨y135, hx136, h137⟩ := ob (o := lives15 ) h134
      refine WL.call (lives15_ok _ (In (fun _ => False) w [] [blk b104 40 [Value.int .u8 p0.1, Value.int .u8 p0.2], blk b112 43 [Value.slice a2 p2.1.length c2, Value.slice a2a p2.2.length c2a]])   hx136) (R.call (vs := []) (caps := []) bo31 rfl rfl) rfl ?_
      rintro v140 w141 ⟨rfl, ht138⟩
      have ht139 := hs119.call (N := [blk b104 40 [Value.int .u8 p0.1, Value.int .u8 p0.2], blk b112 43 [Value.slice a2 p2.1.length c2, Value.slice a2a p2.2.length c2a]]) (M := []) (List.Perm.refl _) ht138
      have hs142 := hs119.trans ht139
      refine WL.val (R.assign (v := Value.bool y135) rfl) rfl ?_
      refine WL.nil ?_
      refine thenN ?_
      refine WC.ret ?_
      have ht143 := (hs142.here).perm (L' := []) (G := [blk b104 40 [Value.int .u8 p0.1, Value.int .u8 p0.2], blk b112 43 [Value.slice a2 p2.1.length c2, Value.slice a2a p2.2.length c2a]]) ((List.Perm.refl _))
      have hs144 := hs142.trans ht143
      obtain rfl := Option.some.inj (show some y135 = some r from h137)
      exact ret1 (P := Try.prog) (n := 178) (fn := Try.f4) (R := fun v w' => v = Value.bool y135 ∧ St [] w w' []) (t := 6) (v := Value.bool y135) rfl rfl rfl ⟨rfl, hs144⟩
    · have h145 := ifF hc133 h132
      refine WL.val (R.gtrF (k := .i64) (a := ((p2.1.length : Nat) : Int)) (b := 40) un3 rfl rfl hc133) rfl ?_
      refine WL.val (R.pickF (v := Value.bool false) rfl rfl) rfl ?_
      refine WL.val (R.move (v := Value.bool false) rfl) rfl ?_
      refine WL.guardY (e := 28) rfl rfl rfl ?_
      refine WL.val (R.fieldAddr (o := 0) (o' := 1) fa43_1 rfl rfl) rfl ?_
      refine WL.guardY (e := 28) rfl rfl rfl ?_
      refine WL.val (R.loadL (v := Value.slice a2a p2.2.length c2a) lf28 rfl (hs119.at (i := 1) (off := 1) (n := 1) (cs := [Value.slice a2a p2.2.length c2a]) rfl rfl rfl)) rfl ?_
      refine WL.guardY (e := 28) rfl rfl rfl ?_
      refine WL.val (R.len (a := a2a) (n := p2.2.length) (c := c2a) un28 rfl) rfl ?_
      refine WL.guardY (e := 28) rfl rfl rfl ?_
      by_cases hc146 : 40 < ((p2.2.length : Nat) : Int)
      · have h147 := ifT hc146 h145
        refine WL.val (R.gtrT (k := .i64) (a := ((p2.2.length : Nat) : Int)) (b := 40) un3 rfl rfl hc146) rfl ?_
        refine WL.val (R.pickF (v := Value.bool true) rfl rfl) rfl ?_
        refine WL.nil ?_
        refine thenN ?_
        refine WC.condT rfl rfl ?_
        refine WC.seq ?_
        refine WC.region ?_
        obtain ⟨y148, hx149, h150⟩ := ob (o := lives15 ) h147
        refine WL.call (lives15_ok _ (In (fun _ => False) w [] [blk b104 40 [Value.int .u8 p0.1, Value.int .u8 p0.2], blk b112 43 [Value.slice a2 p2.1.length c2, Value.slice a2a p2.2.length c2a]])   hx149) (R.call (vs := []) (caps := []) bo31 rfl rfl) rfl ?_
        rintro v153 w154 ⟨rfl, ht151⟩
        have ht152 := hs119.call (N := [blk b104 40 [Value.int .u8 p0.1, Value.int .u8 p0.2], blk b112 43 [Value.slice a2 p2.1.length c2, Value.slice a2a p2.2.length c2a]]) (M := []) (List.Perm.refl _) ht151
        have hs155 := hs119.trans ht152
        refine WL.val (R.assign (v := Value.bool y148) rfl) rfl ?_
        refine WL.nil ?_
        refine thenN ?_
        refine WC.ret ?_
        have ht156 := (hs155.here).perm (L' := []) (G := [blk b104 40 [Value.int .u8 p0.1, Value.int .u8 p0.2], blk b112 43 [Value.slice a2 p2.1.length c2, Value.slice a2a p2.2.length c2a]]) ((List.Perm.refl _))
        have hs157 := hs155.trans ht156
        obtain rfl := Option.some.inj (show some y148 = some r from h150)
        exact ret1 (P := Try.prog) (n := 178) (fn := Try.f4) (R := fun v w' => v = Value.bool y148 ∧ St [] w w' []) (t := 6) (v := Value.bool y148) rfl rfl rfl ⟨rfl, hs157⟩
      · have h158 := ifF hc146 h145
        refine WL.val (R.gtrF (k := .i64) (a := ((p2.2.length : Nat) : Int)) (b := 40) un3 rfl rfl hc146) rfl ?_
        refine WL.val (R.pickF (v := Value.bool false) rfl rfl) rfl ?_
        refine WL.nil ?_
        refine thenN ?_
        refine WC.condF rfl rfl ?_
        refine WC.skip ?_
        refine thenN ?_
        refine WC.seq ?_
        refine WC.region ?_
        refine WL.val (R.indexA (n := 1) (m := 0) (b := b104) (o := 0) (z := 0) un40 lf5.size rfl rfl rfl (by decide)) rfl ?_
        refine WL.val (R.loadL (v := Value.int .u8 p0.1) lf5 rfl (hs119.at (i := 0) (off := 0) (n := 1) (cs := [Value.int .u8 p0.1]) rfl rfl rfl)) rfl ?_
        obtain ⟨hg159, h160⟩ := ckE (c := -9223372036854775808 ≤ p0.1 ∧ p0.1 ≤ 9223372036854775807) h158
        refine WL.val (R.convII (n := p0.1) (z := p0.1) un5 un3 rfl (w64 hg159.1 hg159.2)) rfl ?_
        obtain ⟨hg161, h162⟩ := ckE (c := 0 ≤ p0.1 ∧ 0 < (13 : Int) ∧ (13 : Int) ≤ 9223372036854775807) h160
        refine WL.val (R.remG (a := p0.1) (b := 13) rfl rfl hg161 (by decide)) rfl ?_
        obtain ⟨hg163, h164⟩ := ckE (c := -9223372036854775808 ≤ 4 + (p0.1 % 13) ∧ 4 + (p0.1 % 13) ≤ 9223372036854775807) h162
        refine WL.val (R.add (a := 4) (b := p0.1 % 13) (z := 4 + (p0.1 % 13)) rfl rfl (w64e rfl hg163.1 hg163.2)) rfl ?_
        refine WL.val (R.assign (v := Value.int .i64 (4 + (p0.1 % 13))) rfl) rfl ?_
        refine WL.nil ?_
        refine thenN ?_
        refine WC.seq ?_
        refine WC.region ?_
        refine WL.val (R.indexA (n := 1) (m := 1) (b := b104) (o := 0) (z := 1) un40 lf5.size rfl rfl rfl (by decide)) rfl ?_
        refine WL.val (R.loadL (v := Value.int .u8 p0.2) lf5 rfl (hs119.at (i := 0) (off := 1) (n := 1) (cs := [Value.int .u8 p0.2]) rfl rfl rfl)) rfl ?_
        obtain ⟨hg165, h166⟩ := ckE (c := -9223372036854775808 ≤ p0.2 ∧ p0.2 ≤ 9223372036854775807) h164
        refine WL.val (R.convII (n := p0.2) (z := p0.2) un5 un3 rfl (w64 hg165.1 hg165.2)) rfl ?_
        refine WL.val (R.move (v := Value.int .i64 (4 + (p0.1 % 13))) rfl) rfl ?_
        obtain ⟨hg167, h168⟩ := ckE (c := 0 ≤ p0.2 ∧ 0 < (4 + (p0.1 % 13) : Int) ∧ (4 + (p0.1 % 13) : Int) ≤ 9223372036854775807) h166
        refine WL.val (R.remG (a := p0.2) (b := 4 + (p0.1 % 13)) rfl rfl hg167 (by decide)) rfl ?_
        refine WL.val (R.assign (v := Value.int .i64 (p0.2 % (4 + (p0.1 % 13)))) rfl) rfl ?_
        refine WL.nil ?_
        refine thenN ?_
        refine WC.seq ?_
        refine WC.region ?_
        refine WL.val (R.move (v := Value.int .i64 (4 + (p0.1 % 13))) rfl) rfl ?_
        obtain ⟨hg169, h170⟩ := ckE (c := 0 ≤ 4 + (p0.1 % 13) ∧ 4 + (p0.1 % 13) < 1000000) h168
        refine WL.new (L' := fun b171 => [blk b104 40 [Value.int .u8 p0.1, Value.int .u8 p0.2], blk b112 43 [Value.slice a2 p2.1.length c2, Value.slice a2a p2.2.length c2a], gsl 60 heldE (Value.slice (some ⟨b171, 0, none⟩) ((List.replicate (4 + (p0.1 % 13)).toNat Hd.none).length) ((4 + (p0.1 % 13)).toNat)) (List.replicate (4 + (p0.1 % 13)).toNat Hd.none)]) (f := fun b171 => Value.slice (some ⟨b171, 0, none⟩) ((List.replicate (4 + (p0.1 % 13)).toNat Hd.none).length) ((4 + (p0.1 % 13)).toNat)) (X.makeSliceN (e := heldE) (z := Hd.none) (hs119.here) sl28 rfl rfl rfl hg169 (by decide) List.length_replicate (fun _ => rfl)) rfl ?_
        intro b171 w172 ht176 he173 hz174
        have hs177 := hs119.trans ht176
        refine WL.val (R.assign (v := Value.slice (some ⟨b171, 0, none⟩) ((List.replicate (4 + (p0.1 % 13)).toNat Hd.none).length) ((4 + (p0.1 % 13)).toNat)) rfl) rfl ?_
        refine WL.nil ?_
        refine thenN ?_
        refine WC.seq ?_
        refine WC.seq ?_
        refine WC.region ?_
        refine WL.val (R.assign (v := Value.int .i64 0) rfl) rfl ?_
        refine WL.nil ?_
        refine thenN ?_
        have ht287 := (hs177.here).perm (L' := [blk b112 43 [Value.slice a2 p2.1.length c2, Value.slice a2a p2.2.length c2a], gsl 60 heldE (Value.slice (some ⟨b171, 0, none⟩) ((List.replicate (4 + (p0.1 % 13)).toNat Hd.none).length) ((4 + (p0.1 % 13)).toNat)) (List.replicate (4 + (p0.1 % 13)).toNat Hd.none)]) (G := [blk b104 40 [Value.int .u8 p0.1, Value.int .u8 p0.2]]) (((List.perm_middle (l₁ := [blk b104 40 [Value.int .u8 p0.1, Value.int .u8 p0.2]]) (a := blk b112 43 [Value.slice a2 p2.1.length c2, Value.slice a2a p2.2.length c2a]) (l₂ := [gsl 60 heldE (Value.slice (some ⟨b171, 0, none⟩) ((List.replicate (4 + (p0.1 % 13)).toNat Hd.none).length) ((4 + (p0.1 % 13)).toNat)) (List.replicate (4 + (p0.1 % 13)).toNat Hd.none)])).trans (List.Perm.cons _ ((List.perm_middle (l₁ := [blk b104 40 [Value.int .u8 p0.1, Value.int .u8 p0.2]]) (a := gsl 60 heldE (Value.slice (some ⟨b171, 0, none⟩) ((List.replicate (4 + (p0.1 % 13)).toNat Hd.none).length) ((4 + (p0.1 % 13)).toNat)) (List.replicate (4 + (p0.1 % 13)).toNat Hd.none)) (l₂ := [])).trans (List.Perm.cons _ (List.Perm.refl _))))))
        have hs288 := hs177.trans ht287
        have hr289 := elT (((ht110.trans ht118).trans ht176).trans ht287) he1001
        have hr290 := elT (((ht110.trans ht118).trans ht176).trans ht287) he1002
        have hr291 := elT (((ht110.trans ht118).trans ht176).trans ht287) he1002a
        obtain ⟨K277, hK278, h279⟩ := kE (G := fun K277 => one15_l1 p0 p1 K277 1000000 0 (List.replicate (4 + (p0.1 % 13)).toNat Hd.none)) h170
        refine WC.join (fun σ293 w292 => ∃ l274 : List Hd, ∃ a275, ∃ c276, σ293 5 = (Value.pointer (some ⟨b112, 0, none⟩)) ∧ σ293 7 = (Value.int .i64 (4 + (p0.1 % 13))) ∧ σ293 8 = (Value.int .i64 (p0.2 % (4 + (p0.1 % 13)))) ∧ σ293 9 = (Value.slice a275 l274.length c276) ∧ elems rowW w292 (In ok w [] [blk b112 43 [Value.slice a2 p2.1.length c2, Value.slice a2a p2.2.length c2a], gsl 60 heldE (Value.slice a275 l274.length c276) l274]) a2 p2.1 ∧ elems heldW w292 (In ok w [] [blk b112 43 [Value.slice a2 p2.1.length c2, Value.slice a2a p2.2.length c2a], gsl 60 heldE (Value.slice a275 l274.length c276) l274]) a2a p2.2 ∧ K277 l274 = some r ∧ St [] w w292 [blk b112 43 [Value.slice a2 p2.1.length c2, Value.slice a2a p2.2.length c2a], gsl 60 heldE (Value.slice a275 l274.length c276) l274]) ?_ ?_
        · refine WC.block ?_
          refine WC.loop (T := Nat) (fun k283 σ281 w280 => ∃ i270 : Int, ∃ l271 : List Hd, ∃ a272, ∃ c273, σ281 1 = (Value.slice a1 p1.length c1) ∧ σ281 5 = (Value.pointer (some ⟨b112, 0, none⟩)) ∧ σ281 7 = (Value.int .i64 (4 + (p0.1 % 13))) ∧ σ281 8 = (Value.int .i64 (p0.2 % (4 + (p0.1 % 13)))) ∧ σ281 9 = (Value.slice a272 l271.length c273) ∧ σ281 10 = (Value.int .i64 i270) ∧ elems cellW w280 (In ok w [] [blk b112 43 [Value.slice a2 p2.1.length c2, Value.slice a2a p2.2.length c2a], gsl 60 heldE (Value.slice a272 l271.length c273) l271]) a1 p1 ∧ elems rowW w280 (In ok w [] [blk b112 43 [Value.slice a2 p2.1.length c2, Value.slice a2a p2.2.length c2a], gsl 60 heldE (Value.slice a272 l271.length c273) l271]) a2 p2.1 ∧ elems heldW w280 (In ok w [] [blk b112 43 [Value.slice a2 p2.1.length c2, Value.slice a2a p2.2.length c2a], gsl 60 heldE (Value.slice a272 l271.length c273) l271]) a2a p2.2 ∧ one15_l1 p0 p1 K277 k283 i270 l271 = some r ∧ St [] w w280 [blk b112 43 [Value.slice a2 p2.1.length c2, Value.slice a2a p2.2.length c2a], gsl 60 heldE (Value.slice a272 l271.length c273) l271]) (fun k283 => k283) 1000000 ⟨0, List.replicate (4 + (p0.1 % 13)).toNat Hd.none, (some ⟨b171, 0, none⟩), (4 + (p0.1 % 13)).toNat, rfl, rfl, rfl, rfl, rfl, rfl, hr289, hr290, hr291, h279, hs288⟩ ?_
          rintro k283 σ281 w280 ⟨i270, l271, a272, c273, s298, s299, s300, s301, s302, s303, he284, he285, he286, h297, hs282⟩
          rcases k283 with _ | k283
          · rw [one15_l1] at h297; cases h297
          rw [one15_l1] at h297
          refine WC.seq ?_
          refine WC.seq ?_
          refine WC.region ?_
          refine WL.val (R.move (v := Value.int .i64 i270) (by exact s303)) rfl ?_
          refine WL.val (R.move (v := Value.int .i64 (4 + (p0.1 % 13))) (by exact s300)) rfl ?_
          by_cases hc304 : i270 < (4 + (p0.1 % 13))
          · have h305 := ifT hc304 h297
            refine WL.val (R.lssT (k := .i64) (a := i270) (b := 4 + (p0.1 % 13)) un3 rfl rfl hc304) rfl ?_
            refine WL.val (R.move (v := Value.bool true) rfl) rfl ?_
            refine WL.guardY (e := 50) rfl rfl rfl ?_
            refine WL.val (R.move (v := Value.slice a1 p1.length c1) (by exact s298)) rfl ?_
            refine WL.guardY (e := 50) rfl rfl rfl ?_
            refine WL.val (R.len (a := a1) (n := p1.length) (c := c1) un41 rfl) rfl ?_
            refine WL.guardY (e := 50) rfl rfl rfl ?_
            by_cases hc306 : 0 < ((p1.length : Nat) : Int)
            · have h307 := ifT hc306 h305
              refine WL.val (R.gtrT (k := .i64) (a := ((p1.length : Nat) : Int)) (b := 0) un3 rfl rfl hc306) rfl ?_
              refine WL.val (R.pickT (v := Value.bool true) rfl rfl) rfl ?_
              refine WL.nil ?_
              refine thenN ?_
              refine WC.condT rfl rfl ?_
              refine WC.skip ?_
              refine thenN ?_
              refine WC.seq ?_
              refine WC.block ?_
              refine WC.region ?_
              refine WL.val (R.move (v := Value.slice a272 l271.length c273) (by exact s302)) rfl ?_
              refine WL.val (R.move (v := Value.int .i64 i270) (by exact s303)) rfl ?_
              refine WL.val (R.move (v := Value.slice a1 p1.length c1) (by exact s298)) rfl ?_
              refine WL.val (R.move (v := Value.int .i64 i270) (by exact s303)) rfl ?_
              refine WL.val (R.move (v := Value.slice a1 p1.length c1) (by exact s298)) rfl ?_
              refine WL.val (R.len (a := a1) (n := p1.length) (c := c1) un41 rfl) rfl ?_
              obtain ⟨hg308, h309⟩ := ckE (c := 0 ≤ i270 ∧ 0 < (((p1.length : Nat) : Int) : Int) ∧ (((p1.length : Nat) : Int) : Int) ≤ 9223372036854775807) h307
              refine WL.val (R.remG (a := i270) (b := ((p1.length : Nat) : Int)) rfl rfl hg308 (by decide)) rfl ?_
              obtain ⟨x310, hx311, h312⟩ := ob (o := rd p1 (i270 % ((p1.length : Nat) : Int))) h309
              obtain ⟨h0313, hx314, hl315, hm316⟩ := rdE hx311
              obtain ⟨ad317, e322, ha318, hp319, hat320, hrd321⟩ := he284 _ _ hx314
              obtain ⟨-, rfl⟩ := hrd321
              refine WL.val (R.indexS (n := 55) (m := (i270 % ((p1.length : Nat) : Int)).toNat) (a := a1) (ad := ad317) (len := p1.length) (cap := c1) (z := i270 % ((p1.length : Nat) : Int)) un41 ag58.size rfl ha318 rfl hm316 hl315 hp319) rfl ?_
              refine WL.val (R.loadA (cs := encC x310) (n := 55) ag58 rfl hat320 rfl) rfl ?_
              have hd324 : ∀ w, (Instr.build 60 #[(0, Value.bool true), (1, Value.agg (List.toArray (encC x310)))]).run Try.prog w = .ok (Value.agg (List.toArray (encH (⟨true, x310⟩ : Hd)))) w := fun _ => by kernel_rfl
              refine WL.val (R.build (vs := [(0, Value.bool true), (1, Value.agg (List.toArray (encC x310)))]) rfl hd324) rfl ?_
              obtain ⟨x325, hx326, h327⟩ := ob (o := rd l271 i270) h312
              obtain ⟨h0328, hx329, hl330, hm331⟩ := rdE hx326
              obtain ⟨b332, c333, hv334, _⟩ := hs282.gslAt (i := 1) rfl hx329
              refine WL.val (R.indexS (n := 56) (m := (i270).toNat) (ad := ⟨b332, 0, none⟩) (len := (l271).length) (cap := c333) (z := i270) un28 ag60.size (Eq.trans (show _ = Value.slice a272 l271.length c273 from rfl) hv334) rfl rfl hm331 hl330 rfl) rfl ?_
              refine WL.sto (L' := [blk b112 43 [Value.slice a2 p2.1.length c2, Value.slice a2a p2.2.length c2a], gsl 60 heldE (Value.slice a272 l271.length c273) ((l271).set (i270).toNat (⟨true, x310⟩ : Hd))]) (X.storeEl (i := 1) (j := (i270).toNat) (off := 0) (n := 56) (x := x325) (y := (⟨true, x310⟩ : Hd)) (vs := encH (⟨true, x310⟩ : Hd)) (u := Value.agg (List.toArray (encH (⟨true, x310⟩ : Hd)))) (hs282.here) rfl hx329 hv334 ag60.size rfl rfl rfl rfl rfl rfl (by decide) (rfl) rfl) rfl rfl ?_
              intro w335 ht336
              have hs337 := hs282.trans ht336
              have hs338 : St [] w w335 [blk b112 43 [Value.slice a2 p2.1.length c2, Value.slice a2a p2.2.length c2a], gsl 60 heldE (Value.slice a272 (((l271).set (i270).toNat (⟨true, x310⟩ : Hd)).length) c273) ((l271).set (i270).toNat (⟨true, x310⟩ : Hd))] := by first | (simpa only [List.length_set] using hs337) | (simp only [List.length_set]; exact hs337)
              have ht339 : St [blk b112 43 [Value.slice a2 p2.1.length c2, Value.slice a2a p2.2.length c2a], gsl 60 heldE (Value.slice a272 l271.length c273) l271] w280 w335 [blk b112 43 [Value.slice a2 p2.1.length c2, Value.slice a2a p2.2.length c2a], gsl 60 heldE (Value.slice a272 (((l271).set (i270).toNat (⟨true, x310⟩ : Hd)).length) c273) ((l271).set (i270).toNat (⟨true, x310⟩ : Hd))] := by first | (simpa only [List.length_set, List.nil_append, List.cons_append] using ht336) | (simp only [List.length_set]; exact ht336)
              refine WL.nil ?_
              refine blockN ?_
              refine thenN ?_
              refine WC.region ?_
              refine WL.val (R.move (v := Value.int .i64 i270) (by exact s303)) rfl ?_
              obtain ⟨hg340, h341⟩ := ckE (c := -9223372036854775808 ≤ i270 + 1 ∧ i270 + 1 ≤ 9223372036854775807) h327
              refine WL.val (R.add (a := i270) (b := 1) (z := i270 + 1) rfl rfl (w64e rfl hg340.1 hg340.2)) rfl ?_
              refine WL.val (R.assign (v := Value.int .i64 (i270 + 1)) rfl) rfl ?_
              refine WL.nil ?_
              have hr342 := elT ht339 he284
              have hr343 := elT ht339 he285
              have hr344 := elT ht339 he286
              exact roundEnd (s := k283) ⟨i270 + 1, (l271).set (i270).toNat (⟨true, x310⟩ : Hd), a272, c273, s298, s299, s300, s301, (Eq.trans (show _ = Value.slice a272 l271.length c273 from s302) (by simp only [List.length_set])), rfl, hr342, hr343, hr344, h341, hs338⟩ (Nat.lt_succ_self _)
            · have h345 := ifF hc306 h305
              refine WL.val (R.gtrF (k := .i64) (a := ((p1.length : Nat) : Int)) (b := 0) un3 rfl rfl hc306) rfl ?_
              refine WL.val (R.pickT (v := Value.bool false) rfl rfl) rfl ?_
              refine WL.nil ?_
              refine thenN ?_
              refine WC.condF rfl rfl ?_
              refine WC.exit ?_
              refine thenE ?_
              refine thenE ?_
              refine blockHit ?_
              exact joinI ⟨l271, a272, c273, s299, s300, s301, s302, he285, he286, h345, hs282⟩
          · have h346 := ifF hc304 h297
            refine WL.val (R.lssF (k := .i64) (a := i270) (b := 4 + (p0.1 % 13)) un3 rfl rfl hc304) rfl ?_
            refine WL.val (R.move (v := Value.bool false) rfl) rfl ?_
            refine WL.guardN (e := 50) (v := .bool false) rfl rfl rfl rfl ?_
            refine WL.guardN (e := 50) (v := .bool false) rfl rfl rfl rfl ?_
            refine WL.guardN (e := 50) (v := .bool false) rfl rfl rfl rfl ?_
            refine WL.val (R.pickF (v := Value.bool false) rfl rfl) rfl ?_
            refine WL.nil ?_
            refine thenN ?_
            refine WC.condF rfl rfl ?_
            refine WC.exit ?_
            refine thenE ?_
            refine thenE ?_
            refine blockHit ?_
            exact joinI ⟨l271, a272, c273, s299, s300, s301, s302, he285, he286, h346, hs282⟩
        · rintro σ293 w292 ⟨l274, a275, c276, s348, s349, s350, s351, he295, he296, h347, hs294⟩
          subst hK278
          refine thenN ?_
          refine WC.seq ?_
          refine WC.region ?_
          refine WL.val (R.assign (v := Value.slice none 0 0) rfl) rfl ?_
          refine WL.nil ?_
          refine thenN ?_
          refine WC.seq ?_
          refine WC.seq ?_
          refine WC.region ?_
          refine WL.val (R.assign (v := Value.int .i64 0) rfl) rfl ?_
          refine WL.nil ?_
          refine thenN ?_
          have ht642 := (hs294.here).addNil 62 (rawE 57) rfl
          have hs644 := hs294.trans ht642
          have hr645 : readsL (n := 57) rowW w292 (In (fun _ => False) w [] [blk b112 43 [Value.slice a2 p2.1.length c2, Value.slice a2a p2.2.length c2a], gsl 60 heldE (Value.slice a275 l274.length c276) l274, gsl 62 (rawE 57) (Value.slice none 0 0) []]) [] [] := readsL_nil
          obtain ⟨a1242, c1243, hv1244, hl1245, he1246⟩ := el_freeze (k := heldW) (ok := fun _ => False) hs644 ((List.perm_middle (l₁ := [blk b112 43 [Value.slice a2 p2.1.length c2, Value.slice a2a p2.2.length c2a]]) (a := gsl 60 heldE (Value.slice a275 l274.length c276) l274) (l₂ := [gsl 62 (rawE 57) (Value.slice none 0 0) []])).trans (List.Perm.cons _ (List.Perm.refl _))) rfl (fun _ _ _ => ⟨trivial, rfl⟩)
          obtain ⟨rfl, rfl⟩ : a275 = a1242 ∧ c276 = c1243 := ⟨(Value.slice.inj hv1244).1, (Value.slice.inj hv1244).2.2⟩
          have ht1247 := (hs644.here).perm (L' := [blk b112 43 [Value.slice a2 p2.1.length c2, Value.slice a2a p2.2.length c2a], gsl 62 (rawE 57) (Value.slice none 0 0) []]) (G := [gsl 60 heldE (Value.slice a275 l274.length c276) l274]) ((List.Perm.cons _ ((List.perm_middle (l₁ := [gsl 60 heldE (Value.slice a275 l274.length c276) l274]) (a := gsl 62 (rawE 57) (Value.slice none 0 0) []) (l₂ := [])).trans (List.Perm.cons _ (List.Perm.refl _)))))
          have hs1248 := hs644.trans ht1247
          have hr1250 := elT (ht642.trans ht1247) he295
          have hr1251 := elT (ht642.trans ht1247) he296
          have hr1252 := rlT ht1247 hr645
          obtain ⟨K1230, hK1231, h1232⟩ := kE (G := fun K1230 => one15_l2 p0 p2 K1230 1000000 l274 0 ([] : List Rw)) h347
          refine WC.join (fun σ1254 w1253 => ∃ l1223 : List Hd, ∃ l1226 : List Rw, ∃ a1224, ∃ c1225, ∃ rs1227, ∃ a1228, ∃ c1229, σ1254 5 = (Value.pointer (some ⟨b112, 0, none⟩)) ∧ σ1254 7 = (Value.int .i64 (4 + (p0.1 % 13))) ∧ σ1254 8 = (Value.int .i64 (p0.2 % (4 + (p0.1 % 13)))) ∧ σ1254 9 = (Value.slice a1224 l1223.length c1225) ∧ σ1254 11 = (Value.slice a1228 l1226.length c1229) ∧ l1223.length ≤ c1225 ∧ elems heldW w1253 (In (fun _ => False) w [] [blk b112 43 [Value.slice a2 p2.1.length c2, Value.slice a2a p2.2.length c2a], gsl 62 (rawE 57) (Value.slice a1228 l1226.length c1229) rs1227]) a1224 l1223 ∧ elems rowW w1253 (In ok w [] [blk b112 43 [Value.slice a2 p2.1.length c2, Value.slice a2a p2.2.length c2a], gsl 62 (rawE 57) (Value.slice a1228 l1226.length c1229) rs1227]) a2 p2.1 ∧ elems heldW w1253 (In ok w [] [blk b112 43 [Value.slice a2 p2.1.length c2, Value.slice a2a p2.2.length c2a], gsl 62 (rawE 57) (Value.slice a1228 l1226.length c1229) rs1227]) a2a p2.2 ∧ readsL rowW w1253 (In (fun _ => False) w [] [blk b112 43 [Value.slice a2 p2.1.length c2, Value.slice a2a p2.2.length c2a], gsl 62 (rawE 57) (Value.slice a1228 l1226.length c1229) rs1227]) l1226 rs1227 ∧ K1230 l1223 l1226 = some r ∧ St [] w w1253 [blk b112 43 [Value.slice a2 p2.1.length c2, Value.slice a2a p2.2.length c2a], gsl 62 (rawE 57) (Value.slice a1228 l1226.length c1229) rs1227]) ?_ ?_
          · refine WC.block ?_
            refine WC.loop (T := Nat) (fun k1236 σ1234 w1233 => ∃ l1215 : List Hd, ∃ i1218 : Int, ∃ l1219 : List Rw, ∃ a1216, ∃ c1217, ∃ rs1220, ∃ a1221, ∃ c1222, σ1234 5 = (Value.pointer (some ⟨b112, 0, none⟩)) ∧ σ1234 7 = (Value.int .i64 (4 + (p0.1 % 13))) ∧ σ1234 8 = (Value.int .i64 (p0.2 % (4 + (p0.1 % 13)))) ∧ σ1234 9 = (Value.slice a1216 l1215.length c1217) ∧ σ1234 11 = (Value.slice a1221 l1219.length c1222) ∧ σ1234 12 = (Value.int .i64 i1218) ∧ l1215.length ≤ c1217 ∧ elems heldW w1233 (In (fun _ => False) w [] [blk b112 43 [Value.slice a2 p2.1.length c2, Value.slice a2a p2.2.length c2a], gsl 62 (rawE 57) (Value.slice a1221 l1219.length c1222) rs1220]) a1216 l1215 ∧ elems rowW w1233 (In ok w [] [blk b112 43 [Value.slice a2 p2.1.length c2, Value.slice a2a p2.2.length c2a], gsl 62 (rawE 57) (Value.slice a1221 l1219.length c1222) rs1220]) a2 p2.1 ∧ elems heldW w1233 (In ok w [] [blk b112 43 [Value.slice a2 p2.1.length c2, Value.slice a2a p2.2.length c2a], gsl 62 (rawE 57) (Value.slice a1221 l1219.length c1222) rs1220]) a2a p2.2 ∧ readsL rowW w1233 (In (fun _ => False) w [] [blk b112 43 [Value.slice a2 p2.1.length c2, Value.slice a2a p2.2.length c2a], gsl 62 (rawE 57) (Value.slice a1221 l1219.length c1222) rs1220]) l1219 rs1220 ∧ one15_l2 p0 p2 K1230 k1236 l1215 i1218 l1219 = some r ∧ St [] w w1233 [blk b112 43 [Value.slice a2 p2.1.length c2, Value.slice a2a p2.2.length c2a], gsl 62 (rawE 57) (Value.slice a1221 l1219.length c1222) rs1220]) (fun k1236 => k1236) 1000000 ⟨l274, 0, ([] : List Rw), a275, c276, [], none, 0, s348, s349, s350, s351, rfl, rfl, hl1245, he1246, hr1250, hr1251, hr1252, h1232, hs1248⟩ ?_
            rintro k1236 σ1234 w1233 ⟨l1215, i1218, l1219, a1216, c1217, rs1220, a1221, c1222, s1262, s1263, s1264, s1265, s1266, s1267, hl1238, he1237, he1239, he1240, hr1241, h1261, hs1235⟩
            rcases k1236 with _ | k1236
            · rw [one15_l2] at h1261; cases h1261
            rw [one15_l2] at h1261
            refine WC.seq ?_
            refine WC.seq ?_
            refine WC.region ?_
            refine WL.val (R.move (v := Value.int .i64 i1218) (by exact s1267)) rfl ?_
            refine WL.val (R.move (v := Value.int .i64 (4 + (p0.1 % 13))) (by exact s1263)) rfl ?_
            by_cases hc1268 : i1218 < (4 + (p0.1 % 13))
            · have h1269 := ifT hc1268 h1261
              refine WL.val (R.lssT (k := .i64) (a := i1218) (b := 4 + (p0.1 % 13)) un3 rfl rfl hc1268) rfl ?_
              refine WL.nil ?_
              refine thenN ?_
              refine WC.condT rfl rfl ?_
              refine WC.skip ?_
              refine thenN ?_
              refine WC.seq ?_
              refine WC.block ?_
              obtain ⟨J1332, hJ1333, h1334⟩ := jnE h1269
              refine WC.seq ?_
              refine WC.join (fun σ1336 w1335 => ∃ d1329 : Cl, ∃ b1328, ∃ a1330, ∃ c1331, σ1336 5 = (Value.pointer (some ⟨b112, 0, none⟩)) ∧ σ1336 7 = (Value.int .i64 (4 + (p0.1 % 13))) ∧ σ1336 8 = (Value.int .i64 (p0.2 % (4 + (p0.1 % 13)))) ∧ σ1336 9 = (Value.slice a1216 l1215.length c1217) ∧ σ1336 11 = (Value.slice a1221 l1219.length c1222) ∧ σ1336 12 = (Value.int .i64 i1218) ∧ σ1336 13 = (Value.pointer (some ⟨b1328, 0, none⟩)) ∧ elems heldW w1335 (In (fun _ => False) w [] [blk b112 43 [Value.slice a2 p2.1.length c2, Value.slice a2a p2.2.length c2a], gsl 62 (rawE 57) (Value.slice a1221 l1219.length c1222) rs1220, blk b1328 62 ((Value.bool true) :: ((encC d1329) ++ ((Value.slice a1330 l1215.length c1331) :: []))), gsl 60 heldE (Value.slice a1330 l1215.length c1331) l1215]) a1216 l1215 ∧ elems rowW w1335 (In ok w [] [blk b112 43 [Value.slice a2 p2.1.length c2, Value.slice a2a p2.2.length c2a], gsl 62 (rawE 57) (Value.slice a1221 l1219.length c1222) rs1220, blk b1328 62 ((Value.bool true) :: ((encC d1329) ++ ((Value.slice a1330 l1215.length c1331) :: []))), gsl 60 heldE (Value.slice a1330 l1215.length c1331) l1215]) a2 p2.1 ∧ elems heldW w1335 (In ok w [] [blk b112 43 [Value.slice a2 p2.1.length c2, Value.slice a2a p2.2.length c2a], gsl 62 (rawE 57) (Value.slice a1221 l1219.length c1222) rs1220, blk b1328 62 ((Value.bool true) :: ((encC d1329) ++ ((Value.slice a1330 l1215.length c1331) :: []))), gsl 60 heldE (Value.slice a1330 l1215.length c1331) l1215]) a2a p2.2 ∧ readsL rowW w1335 (In (fun _ => False) w [] [blk b112 43 [Value.slice a2 p2.1.length c2, Value.slice a2a p2.2.length c2a], gsl 62 (rawE 57) (Value.slice a1221 l1219.length c1222) rs1220, blk b1328 62 ((Value.bool true) :: ((encC d1329) ++ ((Value.slice a1330 l1215.length c1331) :: []))), gsl 60 heldE (Value.slice a1330 l1215.length c1331) l1215]) l1219 rs1220 ∧ J1332 d1329 = some r ∧ St [] w w1335 [blk b112 43 [Value.slice a2 p2.1.length c2, Value.slice a2a p2.2.length c2a], gsl 62 (rawE 57) (Value.slice a1221 l1219.length c1222) rs1220, blk b1328 62 ((Value.bool true) :: ((encC d1329) ++ ((Value.slice a1330 l1215.length c1331) :: []))), gsl 60 heldE (Value.slice a1330 l1215.length c1331) l1215]) ?_ ?_
              · refine WC.drawE mixed (NP.join (NP.then (NP.block (NP.then (NP.then (NP.block (NP.join (NP.then NP.rq)))))))) ?_
                have ht1342 := (hs1235.here).ext (Ext.drew _)
                have hs1343 := hs1235.trans ht1342
                refine WE.take 0 rfl (by decide +kernel) (by decide +kernel) (by decide +kernel) (by decide +kernel) rfl rfl (fun wq hq => R.move (v := Value.slice a1216 l1215.length c1217) (by exact s1265)) ?_
                refine WE.take 1 rfl (by decide +kernel) (by decide +kernel) (by decide +kernel) (by decide +kernel) rfl rfl (fun wq hq => R.move (v := Value.int .i64 i1218) (by exact s1267)) ?_
                obtain ⟨x1344, hx1345, h1346⟩ := ob (o := rd l1215 i1218) h1334
                obtain ⟨h01347, hx1348, hl1349, hm1350⟩ := rdE hx1345
                have hr1351 := elT ht1342 he1237
                obtain ⟨ad1352, e1357, ha1353, hp1354, hat1355, hrd1356⟩ := hr1351 _ _ hx1348
                obtain ⟨-, rfl⟩ := hrd1356
                refine WE.take 2 rfl (by decide +kernel) (by decide +kernel) (by decide +kernel) (by decide +kernel) rfl rfl (fun wq hq => R.indexS (n := 56) (m := (i1218).toNat) (a := a1216) (ad := ad1352) (len := l1215.length) (cap := c1217) (z := i1218) un28 ag60.size rfl ha1353 rfl hm1350 hl1349 hp1354) ?_
                refine WE.take 3 rfl (by decide +kernel) (by decide +kernel) (by decide +kernel) (by decide +kernel) rfl rfl (fun wq hq => R.fieldAddr (o := ad1352.off + (i1218).toNat * 56) (o' := ad1352.off + (i1218).toNat * 56 + 1) fa60_1 rfl rfl) ?_
                refine WE.take 4 rfl (by decide +kernel) (by decide +kernel) (by decide +kernel) (by decide +kernel) rfl rfl (fun wq hq => R.loadA (cs := encC x1344.cell) (n := 55) ag58 rfl (At.sub (a := ⟨ad1352.block, ad1352.off + (i1218).toNat * 56, none⟩) (off := 1) (n := 55) (cs := encH x1344) (ds := encC x1344.cell) (At.exT hq hat1355) rfl rfl) rfl) ?_
                refine WE.take 5 rfl (by decide +kernel) (by decide +kernel) (by decide +kernel) (by decide +kernel) rfl rfl (fun wq hq => R.move (v := Value.slice a1216 l1215.length c1217) (by exact s1265)) ?_
                refine WE.two 6 8 (by decide +kernel) ?_ ?_
                · obtain ⟨hg1359, h1360⟩ := ckE (c := l1215.length < 1000000) h1346
                  refine WI.fresh (N := fun v1361 => [gsl 60 heldE v1361 l1215]) 6 hs1343 rfl rfl rfl (X.appendFresh (k := heldW) (e := heldE) (ys := l1215) (c := c1217) (a := a1216) sl28 rfl rfl rfl rfl (fun h => h.2) (fun _ => rfl) hr1351 (Nat.le_trans (Nat.mul_le_mul_right _ (by have := hg1359; omega)) (show 1000000 * _ ≤ _ by decide)) (by have := hg1359; omega)) ?_
                  intro v1361 w1362 ht1363
                  obtain ⟨a1364, c1365, hv1366⟩ := gsl_sl (ht1363.get (i := 0) rfl)
                  subst hv1366
                  have hs1367 := hs1343.trans ht1363
                  have hd1368 : ∀ w, (Instr.build 62 #[(0, Value.bool true), (1, Value.agg (List.toArray (encC x1344.cell))), (2, Value.slice a1364 ((l1215).length) c1365)]).run Try.prog w = .ok (Value.agg (List.toArray ((Value.bool true) :: ((encC x1344.cell) ++ ((Value.slice a1364 ((l1215).length) c1365) :: []))))) w := fun _ => by kernel_rfl
                  refine WE.take 7 rfl (by decide +kernel) (by decide +kernel) (by decide +kernel) (by decide +kernel) rfl rfl (fun wq hq => R.build (vs := [(0, Value.bool true), (1, Value.agg (List.toArray (encC x1344.cell))), (2, Value.slice a1364 ((l1215).length) c1365)]) rfl hd1368) ?_
                  refine WE.new (L' := fun b1369 => [gsl 60 heldE (Value.slice a1364 ((l1215).length) c1365) l1215, blk b112 43 [Value.slice a2 p2.1.length c2, Value.slice a2a p2.2.length c2a], gsl 62 (rawE 57) (Value.slice a1221 l1219.length c1222) rs1220, blk b1369 62 (encR Rw.none (Value.slice none 0 0))]) (f := fun b1369 => Value.pointer (some ⟨b1369, 0, none⟩)) 8 (by decide +kernel) rfl rfl rfl (X.alloc (c := encR Rw.none (Value.slice none 0 0)) (hs1367.here) zr62 rfl (fun _ => rfl)) ?_
                  intro b1369 w1370 ht1374 he1372 hz1373
                  have hs1375 := hs1367.trans ht1374
                  refine WE.sto (L' := [gsl 60 heldE (Value.slice a1364 ((l1215).length) c1365) l1215, blk b112 43 [Value.slice a2 p2.1.length c2, Value.slice a2a p2.2.length c2a], gsl 62 (rawE 57) (Value.slice a1221 l1219.length c1222) rs1220, blk b1369 62 ((Value.bool true) :: ((encC x1344.cell) ++ ((Value.slice a1364 ((l1215).length) c1365) :: [])))]) 9 (by decide +kernel) (by decide +kernel) rfl rfl rfl rfl (X.store (i := 3) (n := 57) (b := b1369) (off := 0) (c := encR Rw.none (Value.slice none 0 0)) (U := 62) (vs := (Value.bool true) :: ((encC x1344.cell) ++ ((Value.slice a1364 ((l1215).length) c1365) :: []))) (v := Value.agg (List.toArray ((Value.bool true) :: ((encC x1344.cell) ++ ((Value.slice a1364 ((l1215).length) c1365) :: []))))) (c' := (Value.bool true) :: ((encC x1344.cell) ++ ((Value.slice a1364 ((l1215).length) c1365) :: []))) (hs1375.here) rfl ag62.size rfl rfl rfl rfl rfl rfl rfl rfl) ?_
                  intro w1376 ht1377
                  have hs1378 := hs1375.trans ht1377
                  refine WE.done (by decide +kernel) ?_
                  have ht1379 := (hs1378.here).perm (L' := [blk b112 43 [Value.slice a2 p2.1.length c2, Value.slice a2a p2.2.length c2a], gsl 62 (rawE 57) (Value.slice a1221 l1219.length c1222) rs1220, blk b1369 62 ((Value.bool true) :: ((encC x1344.cell) ++ ((Value.slice a1364 ((l1215).length) c1365) :: []))), gsl 60 heldE (Value.slice a1364 ((l1215).length) c1365) l1215]) (G := []) (((List.perm_middle (l₁ := [gsl 60 heldE (Value.slice a1364 ((l1215).length) c1365) l1215]) (a := blk b112 43 [Value.slice a2 p2.1.length c2, Value.slice a2a p2.2.length c2a]) (l₂ := [gsl 62 (rawE 57) (Value.slice a1221 l1219.length c1222) rs1220, blk b1369 62 ((Value.bool true) :: ((encC x1344.cell) ++ ((Value.slice a1364 ((l1215).length) c1365) :: [])))])).trans (List.Perm.cons _ ((List.perm_middle (l₁ := [gsl 60 heldE (Value.slice a1364 ((l1215).length) c1365) l1215]) (a := gsl 62 (rawE 57) (Value.slice a1221 l1219.length c1222) rs1220) (l₂ := [blk b1369 62 ((Value.bool true) :: ((encC x1344.cell) ++ ((Value.slice a1364 ((l1215).length) c1365) :: [])))])).trans (List.Perm.cons _ ((List.perm_middle (l₁ := [gsl 60 heldE (Value.slice a1364 ((l1215).length) c1365) l1215]) (a := blk b1369 62 ((Value.bool true) :: ((encC x1344.cell) ++ ((Value.slice a1364 ((l1215).length) c1365) :: [])))) (l₂ := [])).trans (List.Perm.cons _ (List.Perm.refl _))))))))
                  have hs1380 := hs1378.trans ht1379
                  have hr1381 := elT (((ht1363.trans ht1374).trans ht1377).trans ht1379) hr1351
                  have hr1382 := elT ((((ht1342.trans ht1363).trans ht1374).trans ht1377).trans ht1379) he1239
                  have hr1383 := elT ((((ht1342.trans ht1363).trans ht1374).trans ht1377).trans ht1379) he1240
                  have hr1384 := rlT ((((ht1342.trans ht1363).trans ht1374).trans ht1377).trans ht1379) hr1241
                  exact joinI ⟨x1344.cell, b1369, a1364, c1365, s1262, s1263, s1264, s1265, s1266, s1267, rfl, hr1381, hr1382, hr1383, hr1384, h1360, hs1380⟩
                · refine WI.new (L' := fun b1385 => [blk b112 43 [Value.slice a2 p2.1.length c2, Value.slice a2a p2.2.length c2a], gsl 62 (rawE 57) (Value.slice a1221 l1219.length c1222) rs1220, blk b1385 62 (encR Rw.none (Value.slice none 0 0))]) (f := fun b1385 => Value.pointer (some ⟨b1385, 0, none⟩)) 8 rfl rfl rfl (X.alloc (c := encR Rw.none (Value.slice none 0 0)) (hs1343.here) zr62 rfl (fun _ => rfl)) ?_
                  intro b1385 w1386 ht1390 he1388 hz1389
                  have hs1391 := hs1343.trans ht1390
                  obtain ⟨hg1392, h1393⟩ := ckE (c := l1215.length < 1000000) h1346
                  have hr1400 := elT ht1390 hr1351
                  refine WE.fresh (N := fun v1394 => [gsl 60 heldE v1394 l1215]) 6 hs1391 (by decide +kernel) rfl rfl rfl (X.appendFresh (k := heldW) (e := heldE) (ys := l1215) (c := c1217) (a := a1216) sl28 rfl rfl rfl rfl (fun h => h.2) (fun _ => rfl) hr1400 (Nat.le_trans (Nat.mul_le_mul_right _ (by have := hg1392; omega)) (show 1000000 * _ ≤ _ by decide)) (by have := hg1392; omega)) ?_
                  intro v1394 w1395 ht1396
                  obtain ⟨a1397, c1398, hv1399⟩ := gsl_sl (ht1396.get (i := 0) rfl)
                  subst hv1399
                  have hs1401 := hs1391.trans ht1396
                  have hd1402 : ∀ w, (Instr.build 62 #[(0, Value.bool true), (1, Value.agg (List.toArray (encC x1344.cell))), (2, Value.slice a1397 ((l1215).length) c1398)]).run Try.prog w = .ok (Value.agg (List.toArray ((Value.bool true) :: ((encC x1344.cell) ++ ((Value.slice a1397 ((l1215).length) c1398) :: []))))) w := fun _ => by kernel_rfl
                  refine WE.take 7 rfl (by decide +kernel) (by decide +kernel) (by decide +kernel) (by decide +kernel) rfl rfl (fun wq hq => R.build (vs := [(0, Value.bool true), (1, Value.agg (List.toArray (encC x1344.cell))), (2, Value.slice a1397 ((l1215).length) c1398)]) rfl hd1402) ?_
                  refine WE.sto (L' := [gsl 60 heldE (Value.slice a1397 ((l1215).length) c1398) l1215, blk b112 43 [Value.slice a2 p2.1.length c2, Value.slice a2a p2.2.length c2a], gsl 62 (rawE 57) (Value.slice a1221 l1219.length c1222) rs1220, blk b1385 62 ((Value.bool true) :: ((encC x1344.cell) ++ ((Value.slice a1397 ((l1215).length) c1398) :: [])))]) 9 (by decide +kernel) (by decide +kernel) rfl rfl rfl rfl (X.store (i := 3) (n := 57) (b := b1385) (off := 0) (c := encR Rw.none (Value.slice none 0 0)) (U := 62) (vs := (Value.bool true) :: ((encC x1344.cell) ++ ((Value.slice a1397 ((l1215).length) c1398) :: []))) (v := Value.agg (List.toArray ((Value.bool true) :: ((encC x1344.cell) ++ ((Value.slice a1397 ((l1215).length) c1398) :: []))))) (c' := (Value.bool true) :: ((encC x1344.cell) ++ ((Value.slice a1397 ((l1215).length) c1398) :: []))) (hs1401.here) rfl ag62.size rfl rfl rfl rfl rfl rfl rfl rfl) ?_
                  intro w1403 ht1404
                  have hs1405 := hs1401.trans ht1404
                  refine WE.done (by decide +kernel) ?_
                  have ht1406 := (hs1405.here).perm (L' := [blk b112 43 [Value.slice a2 p2.1.length c2, Value.slice a2a p2.2.length c2a], gsl 62 (rawE 57) (Value.slice a1221 l1219.length c1222) rs1220, blk b1385 62 ((Value.bool true) :: ((encC x1344.cell) ++ ((Value.slice a1397 ((l1215).length) c1398) :: []))), gsl 60 heldE (Value.slice a1397 ((l1215).length) c1398) l1215]) (G := []) (((List.perm_middle (l₁ := [gsl 60 heldE (Value.slice a1397 ((l1215).length) c1398) l1215]) (a := blk b112 43 [Value.slice a2 p2.1.length c2, Value.slice a2a p2.2.length c2a]) (l₂ := [gsl 62 (rawE 57) (Value.slice a1221 l1219.length c1222) rs1220, blk b1385 62 ((Value.bool true) :: ((encC x1344.cell) ++ ((Value.slice a1397 ((l1215).length) c1398) :: [])))])).trans (List.Perm.cons _ ((List.perm_middle (l₁ := [gsl 60 heldE (Value.slice a1397 ((l1215).length) c1398) l1215]) (a := gsl 62 (rawE 57) (Value.slice a1221 l1219.length c1222) rs1220) (l₂ := [blk b1385 62 ((Value.bool true) :: ((encC x1344.cell) ++ ((Value.slice a1397 ((l1215).length) c1398) :: [])))])).trans (List.Perm.cons _ ((List.perm_middle (l₁ := [gsl 60 heldE (Value.slice a1397 ((l1215).length) c1398) l1215]) (a := blk b1385 62 ((Value.bool true) :: ((encC x1344.cell) ++ ((Value.slice a1397 ((l1215).length) c1398) :: [])))) (l₂ := [])).trans (List.Perm.cons _ (List.Perm.refl _))))))))
                  have hs1407 := hs1405.trans ht1406
                  have hr1408 := elT ((ht1396.trans ht1404).trans ht1406) hr1400
                  have hr1409 := elT ((((ht1342.trans ht1390).trans ht1396).trans ht1404).trans ht1406) he1239
                  have hr1410 := elT ((((ht1342.trans ht1390).trans ht1396).trans ht1404).trans ht1406) he1240
                  have hr1411 := rlT ((((ht1342.trans ht1390).trans ht1396).trans ht1404).trans ht1406) hr1241
                  exact joinI ⟨x1344.cell, b1385, a1397, c1398, s1262, s1263, s1264, s1265, s1266, s1267, rfl, hr1408, hr1409, hr1410, hr1411, h1393, hs1407⟩
              · rintro σ1336 w1335 ⟨d1329, b1328, a1330, c1331, s1413, s1414, s1415, s1416, s1417, s1418, s1419, he1338, he1339, he1340, hr1341, h1412, hs1337⟩
                subst hJ1333
                refine thenN ?_
                refine WC.seq ?_
                refine WC.region ?_
                refine WL.val (R.fieldAddr (o := 0) (o' := 56) fa62_2 (by exact s1419) rfl) rfl ?_
                refine WL.val (R.loadL (v := Value.slice a1330 l1215.length c1331) lf28 rfl (hs1337.at (i := 2) (off := 56) (n := 1) (cs := [Value.slice a1330 l1215.length c1331]) rfl rfl rfl)) rfl ?_
                refine WL.val (R.move (v := Value.int .i64 (p0.2 % (4 + (p0.1 % 13)))) (by exact s1415)) rfl ?_
                have hd1420 : ∀ w, (Instr.build 60 #[]).run Try.prog w = .ok (Value.agg (List.toArray (encH Hd.none))) w := fun _ => by kernel_rfl
                refine WL.val (R.build (vs := []) rfl hd1420) rfl ?_
                obtain ⟨x1421, hx1422, h1423⟩ := ob (o := rd l1215 (p0.2 % (4 + (p0.1 % 13)))) h1412
                obtain ⟨h01424, hx1425, hl1426, hm1427⟩ := rdE hx1422
                obtain ⟨b1428, c1429, hv1430, _⟩ := hs1337.gslAt (i := 3) rfl hx1425
                refine WL.val (R.indexS (n := 56) (m := (p0.2 % (4 + (p0.1 % 13))).toNat) (ad := ⟨b1428, 0, none⟩) (len := (l1215).length) (cap := c1429) (z := p0.2 % (4 + (p0.1 % 13))) un28 ag60.size (Eq.trans (show _ = Value.slice a1330 l1215.length c1331 from rfl) hv1430) rfl rfl hm1427 hl1426 rfl) rfl ?_
                refine WL.sto (L' := [blk b112 43 [Value.slice a2 p2.1.length c2, Value.slice a2a p2.2.length c2a], gsl 62 (rawE 57) (Value.slice a1221 l1219.length c1222) rs1220, blk b1328 62 ((Value.bool true) :: ((encC d1329) ++ ((Value.slice a1330 l1215.length c1331) :: []))), gsl 60 heldE (Value.slice a1330 l1215.length c1331) ((l1215).set (p0.2 % (4 + (p0.1 % 13))).toNat Hd.none)]) (X.storeEl (i := 3) (j := (p0.2 % (4 + (p0.1 % 13))).toNat) (off := 0) (n := 56) (x := x1421) (y := Hd.none) (vs := encH Hd.none) (u := Value.agg (List.toArray (encH Hd.none))) (hs1337.here) rfl hx1425 hv1430 ag60.size rfl rfl rfl rfl rfl rfl (by decide) (rfl) rfl) rfl rfl ?_
                intro w1431 ht1432
                have hs1433 := hs1337.trans ht1432
                have hs1434 : St [] w w1431 [blk b112 43 [Value.slice a2 p2.1.length c2, Value.slice a2a p2.2.length c2a], gsl 62 (rawE 57) (Value.slice a1221 l1219.length c1222) rs1220, blk b1328 62 ((Value.bool true) :: ((encC d1329) ++ ((Value.slice a1330 (((l1215).set (p0.2 % (4 + (p0.1 % 13))).toNat Hd.none).length) c1331) :: []))), gsl 60 heldE (Value.slice a1330 (((l1215).set (p0.2 % (4 + (p0.1 % 13))).toNat Hd.none).length) c1331) ((l1215).set (p0.2 % (4 + (p0.1 % 13))).toNat Hd.none)] := by first | (simpa only [List.length_set] using hs1433) | (simp only [List.length_set]; exact hs1433)
                have ht1435 : St [blk b112 43 [Value.slice a2 p2.1.length c2, Value.slice a2a p2.2.length c2a], gsl 62 (rawE 57) (Value.slice a1221 l1219.length c1222) rs1220, blk b1328 62 ((Value.bool true) :: ((encC d1329) ++ ((Value.slice a1330 l1215.length c1331) :: []))), gsl 60 heldE (Value.slice a1330 l1215.length c1331) l1215] w1335 w1431 [blk b112 43 [Value.slice a2 p2.1.length c2, Value.slice a2a p2.2.length c2a], gsl 62 (rawE 57) (Value.slice a1221 l1219.length c1222) rs1220, blk b1328 62 ((Value.bool true) :: ((encC d1329) ++ ((Value.slice a1330 (((l1215).set (p0.2 % (4 + (p0.1 % 13))).toNat Hd.none).length) c1331) :: []))), gsl 60 heldE (Value.slice a1330 (((l1215).set (p0.2 % (4 + (p0.1 % 13))).toNat Hd.none).length) c1331) ((l1215).set (p0.2 % (4 + (p0.1 % 13))).toNat Hd.none)] := by first | (simpa only [List.length_set, List.nil_append, List.cons_append] using ht1432) | (simp only [List.length_set]; exact ht1432)
                refine WL.nil ?_
                refine thenN ?_
                refine WC.seq ?_
                refine WC.seq ?_
                refine WC.region ?_
                refine WL.val (R.fieldAddr (o := 0) (o' := 1) fa43_1 (by exact s1413) rfl) rfl ?_
                refine WL.val (R.loadL (v := Value.slice a2a p2.2.length c2a) lf28 rfl (hs1434.at (i := 0) (off := 1) (n := 1) (cs := [Value.slice a2a p2.2.length c2a]) rfl rfl rfl)) rfl ?_
                refine WL.val (R.len (a := a2a) (n := p2.2.length) (c := c2a) un28 rfl) rfl ?_
                by_cases hc1436 : 0 < ((p2.2.length : Nat) : Int)
                · have h1437 := ifT hc1436 h1423
                  refine WL.val (R.gtrT (k := .i64) (a := ((p2.2.length : Nat) : Int)) (b := 0) un3 rfl rfl hc1436) rfl ?_
                  refine WL.nil ?_
                  refine thenN ?_
                  refine WC.condT rfl rfl ?_
                  refine WC.drawE mixed (NP.then (NP.block (NP.then (NP.then (NP.block (NP.join (NP.then NP.rq))))))) ?_
                  have ht1438 := (hs1434.here).ext (Ext.drew _)
                  have hs1439 := hs1434.trans ht1438
                  refine WE.take 0 rfl (by decide +kernel) (by decide +kernel) (by decide +kernel) (by decide +kernel) rfl rfl (fun wq hq => R.fieldAddr (o := 0) (o' := 56) fa62_2 (by exact s1419) rfl) ?_
                  refine WE.take 1 rfl (by decide +kernel) (by decide +kernel) (by decide +kernel) (by decide +kernel) rfl rfl (fun wq hq => R.loadL (v := Value.slice a1330 (((l1215).set (p0.2 % (4 + (p0.1 % 13))).toNat Hd.none).length) c1331) lf28 rfl ((hs1439.ext hq).at (i := 2) (off := 56) (n := 1) (cs := [Value.slice a1330 (((l1215).set (p0.2 % (4 + (p0.1 % 13))).toNat Hd.none).length) c1331]) rfl rfl rfl)) ?_
                  refine WE.take 2 rfl (by decide +kernel) (by decide +kernel) (by decide +kernel) (by decide +kernel) rfl rfl (fun wq hq => R.move (v := Value.int .i64 (p0.2 % (4 + (p0.1 % 13)))) (by exact s1415)) ?_
                  refine WE.take 3 rfl (by decide +kernel) (by decide +kernel) (by decide +kernel) (by decide +kernel) rfl rfl (fun wq hq => R.fieldAddr (o := 0) (o' := 1) fa43_1 (by exact s1413) rfl) ?_
                  refine WE.take 4 rfl (by decide +kernel) (by decide +kernel) (by decide +kernel) (by decide +kernel) rfl rfl (fun wq hq => R.loadL (v := Value.slice a2a p2.2.length c2a) lf28 rfl ((hs1439.ext hq).at (i := 0) (off := 1) (n := 1) (cs := [Value.slice a2a p2.2.length c2a]) rfl rfl rfl)) ?_
                  refine WE.take 5 rfl (by decide +kernel) (by decide +kernel) (by decide +kernel) (by decide +kernel) rfl rfl (fun wq hq => R.move (v := Value.int .i64 i1218) (by exact s1418)) ?_
                  refine WE.take 6 rfl (by decide +kernel) (by decide +kernel) (by decide +kernel) (by decide +kernel) rfl rfl (fun wq hq => R.fieldAddr (o := 0) (o' := 1) fa43_1 (by exact s1413) rfl) ?_
                  refine WE.take 7 rfl (by decide +kernel) (by decide +kernel) (by decide +kernel) (by decide +kernel) rfl rfl (fun wq hq => R.loadL (v := Value.slice a2a p2.2.length c2a) lf28 rfl ((hs1439.ext hq).at (i := 0) (off := 1) (n := 1) (cs := [Value.slice a2a p2.2.length c2a]) rfl rfl rfl)) ?_
                  refine WE.take 8 rfl (by decide +kernel) (by decide +kernel) (by decide +kernel) (by decide +kernel) rfl rfl (fun wq hq => R.len (a := a2a) (n := p2.2.length) (c := c2a) un28 rfl) ?_
                  obtain ⟨hg1440, h1441⟩ := ckE (c := 0 ≤ i1218 ∧ 0 < (((p2.2.length : Nat) : Int) : Int) ∧ (((p2.2.length : Nat) : Int) : Int) ≤ 9223372036854775807) h1437
                  refine WE.take 9 rfl (by decide +kernel) (by decide +kernel) (by decide +kernel) (by decide +kernel) rfl rfl (fun wq hq => R.remG (a := i1218) (b := ((p2.2.length : Nat) : Int)) rfl rfl hg1440 (by decide)) ?_
                  obtain ⟨x1442, hx1443, h1444⟩ := ob (o := rd p2.2 (i1218 % ((p2.2.length : Nat) : Int))) h1441
                  obtain ⟨h01445, hx1446, hl1447, hm1448⟩ := rdE hx1443
                  have hr1449 := elT (ht1435.trans ht1438) he1340
                  obtain ⟨ad1450, e1455, ha1451, hp1452, hat1453, hrd1454⟩ := hr1449 _ _ hx1446
                  obtain ⟨-, rfl⟩ := hrd1454
                  refine WE.take 10 rfl (by decide +kernel) (by decide +kernel) (by decide +kernel) (by decide +kernel) rfl rfl (fun wq hq => R.indexS (n := 56) (m := (i1218 % ((p2.2.length : Nat) : Int)).toNat) (a := a2a) (ad := ad1450) (len := p2.2.length) (cap := c2a) (z := i1218 % ((p2.2.length : Nat) : Int)) un28 ag60.size rfl ha1451 rfl hm1448 hl1447 hp1452) ?_
                  refine WE.take 11 rfl (by decide +kernel) (by decide +kernel) (by decide +kernel) (by decide +kernel) rfl rfl (fun wq hq => R.loadA (cs := encH x1442) (n := 56) ag60 rfl (At.exT hq hat1453) rfl) ?_
                  obtain ⟨x1457, hx1458, h1459⟩ := ob (o := rd ((l1215).set (p0.2 % (4 + (p0.1 % 13))).toNat Hd.none) (p0.2 % (4 + (p0.1 % 13)))) h1444
                  obtain ⟨h01460, hx1461, hl1462, hm1463⟩ := rdE hx1458
                  obtain ⟨b1464, c1465, hv1466, _⟩ := hs1439.gslAt (i := 3) rfl hx1461
                  refine WE.take 12 rfl (by decide +kernel) (by decide +kernel) (by decide +kernel) (by decide +kernel) rfl rfl (fun wq hq => R.indexS (n := 56) (m := (p0.2 % (4 + (p0.1 % 13))).toNat) (ad := ⟨b1464, 0, none⟩) (len := ((l1215).set (p0.2 % (4 + (p0.1 % 13))).toNat Hd.none).length) (cap := c1465) (z := p0.2 % (4 + (p0.1 % 13))) un28 ag60.size (Eq.trans (show _ = Value.slice a1330 (((l1215).set (p0.2 % (4 + (p0.1 % 13))).toNat Hd.none).length) c1331 from rfl) hv1466) rfl rfl hm1463 hl1462 rfl) ?_
                  refine WE.sto (L' := [blk b112 43 [Value.slice a2 p2.1.length c2, Value.slice a2a p2.2.length c2a], gsl 62 (rawE 57) (Value.slice a1221 l1219.length c1222) rs1220, blk b1328 62 ((Value.bool true) :: ((encC d1329) ++ ((Value.slice a1330 (((l1215).set (p0.2 % (4 + (p0.1 % 13))).toNat Hd.none).length) c1331) :: []))), gsl 60 heldE (Value.slice a1330 (((l1215).set (p0.2 % (4 + (p0.1 % 13))).toNat Hd.none).length) c1331) (((l1215).set (p0.2 % (4 + (p0.1 % 13))).toNat Hd.none).set (p0.2 % (4 + (p0.1 % 13))).toNat x1442)]) 13 (by decide +kernel) (by decide +kernel) rfl rfl rfl rfl (X.storeEl (i := 3) (j := (p0.2 % (4 + (p0.1 % 13))).toNat) (off := 0) (n := 56) (x := x1457) (y := x1442) (vs := encH x1442) (u := Value.agg (List.toArray (encH x1442))) (hs1439.here) rfl hx1461 hv1466 ag60.size rfl rfl rfl rfl rfl rfl (by decide) (rfl) rfl) ?_
                  intro w1467 ht1468
                  have hs1469 := hs1439.trans ht1468
                  have hs1470 : St [] w w1467 [blk b112 43 [Value.slice a2 p2.1.length c2, Value.slice a2a p2.2.length c2a], gsl 62 (rawE 57) (Value.slice a1221 l1219.length c1222) rs1220, blk b1328 62 ((Value.bool true) :: ((encC d1329) ++ ((Value.slice a1330 ((((l1215).set (p0.2 % (4 + (p0.1 % 13))).toNat Hd.none).set (p0.2 % (4 + (p0.1 % 13))).toNat x1442).length) c1331) :: []))), gsl 60 heldE (Value.slice a1330 ((((l1215).set (p0.2 % (4 + (p0.1 % 13))).toNat Hd.none).set (p0.2 % (4 + (p0.1 % 13))).toNat x1442).length) c1331) (((l1215).set (p0.2 % (4 + (p0.1 % 13))).toNat Hd.none).set (p0.2 % (4 + (p0.1 % 13))).toNat x1442)] := by first | (simpa only [List.length_set] using hs1469) | (simp only [List.length_set]; exact hs1469)
                  have ht1471 : St [blk b112 43 [Value.slice a2 p2.1.length c2, Value.slice a2a p2.2.length c2a], gsl 62 (rawE 57) (Value.slice a1221 l1219.length c1222) rs1220, blk b1328 62 ((Value.bool true) :: ((encC d1329) ++ ((Value.slice a1330 (((l1215).set (p0.2 % (4 + (p0.1 % 13))).toNat Hd.none).length) c1331) :: []))), gsl 60 heldE (Value.slice a1330 (((l1215).set (p0.2 % (4 + (p0.1 % 13))).toNat Hd.none).length) c1331) ((l1215).set (p0.2 % (4 + (p0.1 % 13))).toNat Hd.none)] ((w1431).drew) w1467 [blk b112 43 [Value.slice a2 p2.1.length c2, Value.slice a2a p2.2.length c2a], gsl 62 (rawE 57) (Value.slice a1221 l1219.length c1222) rs1220, blk b1328 62 ((Value.bool true) :: ((encC d1329) ++ ((Value.slice a1330 ((((l1215).set (p0.2 % (4 + (p0.1 % 13))).toNat Hd.none).set (p0.2 % (4 + (p0.1 % 13))).toNat x1442).length) c1331) :: []))), gsl 60 heldE (Value.slice a1330 ((((l1215).set (p0.2 % (4 + (p0.1 % 13))).toNat Hd.none).set (p0.2 % (4 + (p0.1 % 13))).toNat x1442).length) c1331) (((l1215).set (p0.2 % (4 + (p0.1 % 13))).toNat Hd.none).set (p0.2 % (4 + (p0.1 % 13))).toNat x1442)] := by first | (simpa only [List.length_set, List.nil_append, List.cons_append] using ht1468) | (simp only [List.length_set]; exact ht1468)
                  refine WE.done (by decide +kernel) ?_
                  refine thenN ?_
                  refine WC.region ?_
                  refine WL.val (R.move (v := Value.slice a1221 l1219.length c1222) (by exact s1417)) rfl ?_
                  refine WL.val (R.loadA (cs := (Value.bool true) :: ((encC d1329) ++ ((Value.slice a1330 ((((l1215).set (p0.2 % (4 + (p0.1 % 13))).toNat Hd.none).set (p0.2 % (4 + (p0.1 % 13))).toNat x1442).length) c1331) :: []))) (n := 57) ag62 (by exact s1419) (hs1470.at (i := 2) (off := 0) (n := 57) (cs := (Value.bool true) :: ((encC d1329) ++ ((Value.slice a1330 ((((l1215).set (p0.2 % (4 + (p0.1 % 13))).toNat Hd.none).set (p0.2 % (4 + (p0.1 % 13))).toNat x1442).length) c1331) :: []))) rfl rfl rfl) rfl) rfl ?_
                  have hd1477 : ∀ w : World, (Instr.buildSlice 22 1 #[(0, Value.agg (List.toArray ((Value.bool true) :: ((encC d1329) ++ ((Value.slice a1330 ((((l1215).set (p0.2 % (4 + (p0.1 % 13))).toNat Hd.none).set (p0.2 % (4 + (p0.1 % 13))).toNat x1442).length) c1331) :: [])))))]).run Try.prog w = .ok (.slice (some ⟨w.heap.size, 0, none⟩) 1 1) { w with heap := w.heap.push (.cells (List.toArray ((Value.bool true) :: ((encC d1329) ++ ((Value.slice a1330 ((((l1215).set (p0.2 % (4 + (p0.1 % 13))).toNat Hd.none).set (p0.2 % (4 + (p0.1 % 13))).toNat x1442).length) c1331) :: [])))) 62) } := fun _ => by kernel_rfl
                  refine WL.new (L' := fun b1472 => [blk b112 43 [Value.slice a2 p2.1.length c2, Value.slice a2a p2.2.length c2a], gsl 62 (rawE 57) (Value.slice a1221 l1219.length c1222) rs1220, blk b1328 62 ((Value.bool true) :: ((encC d1329) ++ ((Value.slice a1330 ((((l1215).set (p0.2 % (4 + (p0.1 % 13))).toNat Hd.none).set (p0.2 % (4 + (p0.1 % 13))).toNat x1442).length) c1331) :: []))), gsl 60 heldE (Value.slice a1330 ((((l1215).set (p0.2 % (4 + (p0.1 % 13))).toNat Hd.none).set (p0.2 % (4 + (p0.1 % 13))).toNat x1442).length) c1331) (((l1215).set (p0.2 % (4 + (p0.1 % 13))).toNat Hd.none).set (p0.2 % (4 + (p0.1 % 13))).toNat x1442), blk b1472 62 ((Value.bool true) :: ((encC d1329) ++ ((Value.slice a1330 ((((l1215).set (p0.2 % (4 + (p0.1 % 13))).toNat Hd.none).set (p0.2 % (4 + (p0.1 % 13))).toNat x1442).length) c1331) :: [])))]) (f := fun b1472 => Value.slice (some ⟨b1472, 0, none⟩) 1 1) (X.buildSlice (c := ((Value.bool true) :: ((encC d1329) ++ ((Value.slice a1330 ((((l1215).set (p0.2 % (4 + (p0.1 % 13))).toNat Hd.none).set (p0.2 % (4 + (p0.1 % 13))).toNat x1442).length) c1331) :: [])))) (vs := [(0, Value.agg (List.toArray ((Value.bool true) :: ((encC d1329) ++ ((Value.slice a1330 ((((l1215).set (p0.2 % (4 + (p0.1 % 13))).toNat Hd.none).set (p0.2 % (4 + (p0.1 % 13))).toNat x1442).length) c1331) :: [])))))]) (hs1470.here) rfl hd1477 (fun _ => rfl)) rfl ?_
                  intro b1472 w1473 ht1479 he1475 hz1476
                  have hs1480 := hs1470.trans ht1479
                  obtain ⟨a1481, c1482, hv1483, hl1484, he1485⟩ := el_freeze (k := heldW) (ok := fun _ => False) hs1480 ((List.perm_middle (l₁ := [blk b112 43 [Value.slice a2 p2.1.length c2, Value.slice a2a p2.2.length c2a], gsl 62 (rawE 57) (Value.slice a1221 l1219.length c1222) rs1220, blk b1328 62 ((Value.bool true) :: ((encC d1329) ++ ((Value.slice a1330 ((((l1215).set (p0.2 % (4 + (p0.1 % 13))).toNat Hd.none).set (p0.2 % (4 + (p0.1 % 13))).toNat x1442).length) c1331) :: [])))]) (a := gsl 60 heldE (Value.slice a1330 ((((l1215).set (p0.2 % (4 + (p0.1 % 13))).toNat Hd.none).set (p0.2 % (4 + (p0.1 % 13))).toNat x1442).length) c1331) (((l1215).set (p0.2 % (4 + (p0.1 % 13))).toNat Hd.none).set (p0.2 % (4 + (p0.1 % 13))).toNat x1442)) (l₂ := [blk b1472 62 ((Value.bool true) :: ((encC d1329) ++ ((Value.slice a1330 ((((l1215).set (p0.2 % (4 + (p0.1 % 13))).toNat Hd.none).set (p0.2 % (4 + (p0.1 % 13))).toNat x1442).length) c1331) :: [])))])).trans (List.Perm.cons _ (List.Perm.refl _))) rfl (fun _ _ _ => ⟨trivial, rfl⟩)
                  obtain ⟨rfl, rfl⟩ : a1330 = a1481 ∧ c1331 = c1482 := ⟨(Value.slice.inj hv1483).1, (Value.slice.inj hv1483).2.2⟩
                  have ht1486 := (hs1480.here).perm (L' := [blk b112 43 [Value.slice a2 p2.1.length c2, Value.slice a2a p2.2.length c2a], gsl 62 (rawE 57) (Value.slice a1221 l1219.length c1222) rs1220, blk b1328 62 ((Value.bool true) :: ((encC d1329) ++ ((Value.slice a1330 ((((l1215).set (p0.2 % (4 + (p0.1 % 13))).toNat Hd.none).set (p0.2 % (4 + (p0.1 % 13))).toNat x1442).length) c1331) :: []))), blk b1472 62 ((Value.bool true) :: ((encC d1329) ++ ((Value.slice a1330 ((((l1215).set (p0.2 % (4 + (p0.1 % 13))).toNat Hd.none).set (p0.2 % (4 + (p0.1 % 13))).toNat x1442).length) c1331) :: [])))]) (G := [gsl 60 heldE (Value.slice a1330 ((((l1215).set (p0.2 % (4 + (p0.1 % 13))).toNat Hd.none).set (p0.2 % (4 + (p0.1 % 13))).toNat x1442).length) c1331) (((l1215).set (p0.2 % (4 + (p0.1 % 13))).toNat Hd.none).set (p0.2 % (4 + (p0.1 % 13))).toNat x1442)]) ((List.Perm.cons _ (List.Perm.cons _ (List.Perm.cons _ ((List.perm_middle (l₁ := [gsl 60 heldE (Value.slice a1330 ((((l1215).set (p0.2 % (4 + (p0.1 % 13))).toNat Hd.none).set (p0.2 % (4 + (p0.1 % 13))).toNat x1442).length) c1331) (((l1215).set (p0.2 % (4 + (p0.1 % 13))).toNat Hd.none).set (p0.2 % (4 + (p0.1 % 13))).toNat x1442)]) (a := blk b1472 62 ((Value.bool true) :: ((encC d1329) ++ ((Value.slice a1330 ((((l1215).set (p0.2 % (4 + (p0.1 % 13))).toNat Hd.none).set (p0.2 % (4 + (p0.1 % 13))).toNat x1442).length) c1331) :: [])))) (l₂ := [])).trans (List.Perm.cons _ (List.Perm.refl _)))))))
                  have hs1487 := hs1480.trans ht1486
                  have hr1489 := rlT ((((ht1435.trans ht1438).trans ht1471).trans ht1479).trans ht1486) hr1341
                  obtain ⟨r1490, hr1491, hr1492⟩ := readsL_snoc hr1489 (cs := ((Value.bool true) :: ((encC d1329) ++ ((Value.slice a1330 ((((l1215).set (p0.2 % (4 + (p0.1 % 13))).toNat Hd.none).set (p0.2 % (4 + (p0.1 % 13))).toNat x1442).length) c1331) :: [])))) (x := (⟨true, d1329, ((l1215).set (p0.2 % (4 + (p0.1 % 13))).toNat Hd.none).set (p0.2 % (4 + (p0.1 % 13))).toNat x1442⟩ : Rw)) ⟨_, rfl, ⟨_, _, rfl, hl1484, he1485⟩⟩ rfl
                  obtain ⟨hg1493, h1494⟩ := ckE (c := l1219.length < 1000000) h1459
                  refine WL.grow (L' := fun v1495 => [blk b112 43 [Value.slice a2 p2.1.length c2, Value.slice a2a p2.2.length c2a], gsl 62 (rawE 57) v1495 (rs1220 ++ [r1490]), blk b1328 62 ((Value.bool true) :: ((encC d1329) ++ ((Value.slice a1330 ((((l1215).set (p0.2 % (4 + (p0.1 % 13))).toNat Hd.none).set (p0.2 % (4 + (p0.1 % 13))).toNat x1442).length) c1331) :: []))), blk b1472 62 ((Value.bool true) :: ((encC d1329) ++ ((Value.slice a1330 ((((l1215).set (p0.2 % (4 + (p0.1 % 13))).toNat Hd.none).set (p0.2 % (4 + (p0.1 % 13))).toNat x1442).length) c1331) :: [])))]) (X.append (i := 1) (e := (rawE 57)) (xs := rs1220) (ys := [r1490]) (ad := ⟨b1472, 0, none⟩) (m := 1) (c := 1) (hs1487.here) sl22 rfl rfl rfl rfl (show At _ (fun _ => True) _ (flat (rawE 57) [r1490]) from by rw [flat_raw hr1491]; exact ((hs1487.here).at (i := 3) (off := 0) (n := 57) (cs := (Value.bool true) :: ((encC d1329) ++ ((Value.slice a1330 ((((l1215).set (p0.2 % (4 + (p0.1 % 13))).toNat Hd.none).set (p0.2 % (4 + (p0.1 % 13))).toNat x1442).length) c1331) :: []))) rfl rfl rfl)) rfl (by rw [flat_raw hr1491]; exact rfl) (roomL (n := 1) (hr1489).1 hg1493 rfl (by decide)) (roomL63 (n := 1) (hr1489).1 hg1493 rfl (by decide)) (fun _ => rfl)) rfl ?_
                  intro v1495 w1496 ht1497
                  obtain ⟨a1498, c1499, hv1500⟩ := gsl_slK (ht1497.get (i := 1) rfl) (hr1492).1
                  subst hv1500
                  have hs1502 := hs1487.trans ht1497
                  refine WL.val (R.assign (v := Value.slice a1498 ((l1219 ++ [(⟨true, d1329, ((l1215).set (p0.2 % (4 + (p0.1 % 13))).toNat Hd.none).set (p0.2 % (4 + (p0.1 % 13))).toNat x1442⟩ : Rw)]).length) c1499) rfl) rfl ?_
                  refine WL.nil ?_
                  refine blockN ?_
                  refine thenN ?_
                  refine WC.region ?_
                  refine WL.val (R.move (v := Value.int .i64 i1218) (by exact s1418)) rfl ?_
                  obtain ⟨hg1503, h1504⟩ := ckE (c := -9223372036854775808 ≤ i1218 + 1 ∧ i1218 + 1 ≤ 9223372036854775807) h1494
                  refine WL.val (R.add (a := i1218) (b := 1) (z := i1218 + 1) rfl rfl (w64e rfl hg1503.1 hg1503.2)) rfl ?_
                  refine WL.val (R.assign (v := Value.int .i64 (i1218 + 1)) rfl) rfl ?_
                  refine WL.nil ?_
                  have ht1505 := (hs1502.here).perm (L' := [blk b112 43 [Value.slice a2 p2.1.length c2, Value.slice a2a p2.2.length c2a], gsl 62 (rawE 57) (Value.slice a1498 ((l1219 ++ [(⟨true, d1329, ((l1215).set (p0.2 % (4 + (p0.1 % 13))).toNat Hd.none).set (p0.2 % (4 + (p0.1 % 13))).toNat x1442⟩ : Rw)]).length) c1499) (rs1220 ++ [r1490])]) (G := [blk b1328 62 ((Value.bool true) :: ((encC d1329) ++ ((Value.slice a1330 ((((l1215).set (p0.2 % (4 + (p0.1 % 13))).toNat Hd.none).set (p0.2 % (4 + (p0.1 % 13))).toNat x1442).length) c1331) :: []))), blk b1472 62 ((Value.bool true) :: ((encC d1329) ++ ((Value.slice a1330 ((((l1215).set (p0.2 % (4 + (p0.1 % 13))).toNat Hd.none).set (p0.2 % (4 + (p0.1 % 13))).toNat x1442).length) c1331) :: [])))]) ((List.Perm.refl _))
                  have hs1506 := hs1502.trans ht1505
                  have hr1507 := elT ((((((ht1435.trans ht1438).trans ht1471).trans ht1479).trans ht1486).trans ht1497).trans ht1505) he1338
                  have hr1508 := elT ((((((ht1435.trans ht1438).trans ht1471).trans ht1479).trans ht1486).trans ht1497).trans ht1505) he1339
                  have hr1509 := elT ((((ht1471.trans ht1479).trans ht1486).trans ht1497).trans ht1505) hr1449
                  have hr1510 := rlT (ht1497.trans ht1505) hr1492
                  exact roundEnd (s := k1236) ⟨l1215, i1218 + 1, l1219 ++ [(⟨true, d1329, ((l1215).set (p0.2 % (4 + (p0.1 % 13))).toNat Hd.none).set (p0.2 % (4 + (p0.1 % 13))).toNat x1442⟩ : Rw)], a1216, c1217, rs1220 ++ [r1490], a1498, c1499, s1413, s1414, s1415, s1416, rfl, rfl, hl1238, hr1507, hr1508, hr1509, hr1510, h1504, hs1506⟩ (Nat.lt_succ_self _)
                · have h1511 := ifF hc1436 h1423
                  refine WL.val (R.gtrF (k := .i64) (a := ((p2.2.length : Nat) : Int)) (b := 0) un3 rfl rfl hc1436) rfl ?_
                  refine WL.nil ?_
                  refine thenN ?_
                  refine WC.condF rfl rfl ?_
                  refine WC.skip ?_
                  refine thenN ?_
                  refine WC.region ?_
                  refine WL.val (R.move (v := Value.slice a1221 l1219.length c1222) (by exact s1417)) rfl ?_
                  refine WL.val (R.loadA (cs := (Value.bool true) :: ((encC d1329) ++ ((Value.slice a1330 (((l1215).set (p0.2 % (4 + (p0.1 % 13))).toNat Hd.none).length) c1331) :: []))) (n := 57) ag62 (by exact s1419) (hs1434.at (i := 2) (off := 0) (n := 57) (cs := (Value.bool true) :: ((encC d1329) ++ ((Value.slice a1330 (((l1215).set (p0.2 % (4 + (p0.1 % 13))).toNat Hd.none).length) c1331) :: []))) rfl rfl rfl) rfl) rfl ?_
                  have hd1517 : ∀ w : World, (Instr.buildSlice 22 1 #[(0, Value.agg (List.toArray ((Value.bool true) :: ((encC d1329) ++ ((Value.slice a1330 (((l1215).set (p0.2 % (4 + (p0.1 % 13))).toNat Hd.none).length) c1331) :: [])))))]).run Try.prog w = .ok (.slice (some ⟨w.heap.size, 0, none⟩) 1 1) { w with heap := w.heap.push (.cells (List.toArray ((Value.bool true) :: ((encC d1329) ++ ((Value.slice a1330 (((l1215).set (p0.2 % (4 + (p0.1 % 13))).toNat Hd.none).length) c1331) :: [])))) 62) } := fun _ => by kernel_rfl
                  refine WL.new (L' := fun b1512 => [blk b112 43 [Value.slice a2 p2.1.length c2, Value.slice a2a p2.2.length c2a], gsl 62 (rawE 57) (Value.slice a1221 l1219.length c1222) rs1220, blk b1328 62 ((Value.bool true) :: ((encC d1329) ++ ((Value.slice a1330 (((l1215).set (p0.2 % (4 + (p0.1 % 13))).toNat Hd.none).length) c1331) :: []))), gsl 60 heldE (Value.slice a1330 (((l1215).set (p0.2 % (4 + (p0.1 % 13))).toNat Hd.none).length) c1331) ((l1215).set (p0.2 % (4 + (p0.1 % 13))).toNat Hd.none), blk b1512 62 ((Value.bool true) :: ((encC d1329) ++ ((Value.slice a1330 (((l1215).set (p0.2 % (4 + (p0.1 % 13))).toNat Hd.none).length) c1331) :: [])))]) (f := fun b1512 => Value.slice (some ⟨b1512, 0, none⟩) 1 1) (X.buildSlice (c := ((Value.bool true) :: ((encC d1329) ++ ((Value.slice a1330 (((l1215).set (p0.2 % (4 + (p0.1 % 13))).toNat Hd.none).length) c1331) :: [])))) (vs := [(0, Value.agg (List.toArray ((Value.bool true) :: ((encC d1329) ++ ((Value.slice a1330 (((l1215).set (p0.2 % (4 + (p0.1 % 13))).toNat Hd.none).length) c1331) :: [])))))]) (hs1434.here) rfl hd1517 (fun _ => rfl)) rfl ?_
                  intro b1512 w1513 ht1519 he1515 hz1516
                  have hs1520 := hs1434.trans ht1519
                  obtain ⟨a1521, c1522, hv1523, hl1524, he1525⟩ := el_freeze (k := heldW) (ok := fun _ => False) hs1520 ((List.perm_middle (l₁ := [blk b112 43 [Value.slice a2 p2.1.length c2, Value.slice a2a p2.2.length c2a], gsl 62 (rawE 57) (Value.slice a1221 l1219.length c1222) rs1220, blk b1328 62 ((Value.bool true) :: ((encC d1329) ++ ((Value.slice a1330 (((l1215).set (p0.2 % (4 + (p0.1 % 13))).toNat Hd.none).length) c1331) :: [])))]) (a := gsl 60 heldE (Value.slice a1330 (((l1215).set (p0.2 % (4 + (p0.1 % 13))).toNat Hd.none).length) c1331) ((l1215).set (p0.2 % (4 + (p0.1 % 13))).toNat Hd.none)) (l₂ := [blk b1512 62 ((Value.bool true) :: ((encC d1329) ++ ((Value.slice a1330 (((l1215).set (p0.2 % (4 + (p0.1 % 13))).toNat Hd.none).length) c1331) :: [])))])).trans (List.Perm.cons _ (List.Perm.refl _))) rfl (fun _ _ _ => ⟨trivial, rfl⟩)
                  obtain ⟨rfl, rfl⟩ : a1330 = a1521 ∧ c1331 = c1522 := ⟨(Value.slice.inj hv1523).1, (Value.slice.inj hv1523).2.2⟩
                  have ht1526 := (hs1520.here).perm (L' := [blk b112 43 [Value.slice a2 p2.1.length c2, Value.slice a2a p2.2.length c2a], gsl 62 (rawE 57) (Value.slice a1221 l1219.length c1222) rs1220, blk b1328 62 ((Value.bool true) :: ((encC d1329) ++ ((Value.slice a1330 (((l1215).set (p0.2 % (4 + (p0.1 % 13))).toNat Hd.none).length) c1331) :: []))), blk b1512 62 ((Value.bool true) :: ((encC d1329) ++ ((Value.slice a1330 (((l1215).set (p0.2 % (4 + (p0.1 % 13))).toNat Hd.none).length) c1331) :: [])))]) (G := [gsl 60 heldE (Value.slice a1330 (((l1215).set (p0.2 % (4 + (p0.1 % 13))).toNat Hd.none).length) c1331) ((l1215).set (p0.2 % (4 + (p0.1 % 13))).toNat Hd.none)]) ((List.Perm.cons _ (List.Perm.cons _ (List.Perm.cons _ ((List.perm_middle (l₁ := [gsl 60 heldE (Value.slice a1330 (((l1215).set (p0.2 % (4 + (p0.1 % 13))).toNat Hd.none).length) c1331) ((l1215).set (p0.2 % (4 + (p0.1 % 13))).toNat Hd.none)]) (a := blk b1512 62 ((Value.bool true) :: ((encC d1329) ++ ((Value.slice a1330 (((l1215).set (p0.2 % (4 + (p0.1 % 13))).toNat Hd.none).length) c1331) :: [])))) (l₂ := [])).trans (List.Perm.cons _ (List.Perm.refl _)))))))
                  have hs1527 := hs1520.trans ht1526
                  have hr1529 := rlT ((ht1435.trans ht1519).trans ht1526) hr1341
                  obtain ⟨r1530, hr1531, hr1532⟩ := readsL_snoc hr1529 (cs := ((Value.bool true) :: ((encC d1329) ++ ((Value.slice a1330 (((l1215).set (p0.2 % (4 + (p0.1 % 13))).toNat Hd.none).length) c1331) :: [])))) (x := (⟨true, d1329, (l1215).set (p0.2 % (4 + (p0.1 % 13))).toNat Hd.none⟩ : Rw)) ⟨_, rfl, ⟨_, _, rfl, hl1524, he1525⟩⟩ rfl
                  obtain ⟨hg1533, h1534⟩ := ckE (c := l1219.length < 1000000) h1511
                  refine WL.grow (L' := fun v1535 => [blk b112 43 [Value.slice a2 p2.1.length c2, Value.slice a2a p2.2.length c2a], gsl 62 (rawE 57) v1535 (rs1220 ++ [r1530]), blk b1328 62 ((Value.bool true) :: ((encC d1329) ++ ((Value.slice a1330 (((l1215).set (p0.2 % (4 + (p0.1 % 13))).toNat Hd.none).length) c1331) :: []))), blk b1512 62 ((Value.bool true) :: ((encC d1329) ++ ((Value.slice a1330 (((l1215).set (p0.2 % (4 + (p0.1 % 13))).toNat Hd.none).length) c1331) :: [])))]) (X.append (i := 1) (e := (rawE 57)) (xs := rs1220) (ys := [r1530]) (ad := ⟨b1512, 0, none⟩) (m := 1) (c := 1) (hs1527.here) sl22 rfl rfl rfl rfl (show At _ (fun _ => True) _ (flat (rawE 57) [r1530]) from by rw [flat_raw hr1531]; exact ((hs1527.here).at (i := 3) (off := 0) (n := 57) (cs := (Value.bool true) :: ((encC d1329) ++ ((Value.slice a1330 (((l1215).set (p0.2 % (4 + (p0.1 % 13))).toNat Hd.none).length) c1331) :: []))) rfl rfl rfl)) rfl (by rw [flat_raw hr1531]; exact rfl) (roomL (n := 1) (hr1529).1 hg1533 rfl (by decide)) (roomL63 (n := 1) (hr1529).1 hg1533 rfl (by decide)) (fun _ => rfl)) rfl ?_
                  intro v1535 w1536 ht1537
                  obtain ⟨a1538, c1539, hv1540⟩ := gsl_slK (ht1537.get (i := 1) rfl) (hr1532).1
                  subst hv1540
                  have hs1542 := hs1527.trans ht1537
                  refine WL.val (R.assign (v := Value.slice a1538 ((l1219 ++ [(⟨true, d1329, (l1215).set (p0.2 % (4 + (p0.1 % 13))).toNat Hd.none⟩ : Rw)]).length) c1539) rfl) rfl ?_
                  refine WL.nil ?_
                  refine blockN ?_
                  refine thenN ?_
                  refine WC.region ?_
                  refine WL.val (R.move (v := Value.int .i64 i1218) (by exact s1418)) rfl ?_
                  obtain ⟨hg1543, h1544⟩ := ckE (c := -9223372036854775808 ≤ i1218 + 1 ∧ i1218 + 1 ≤ 9223372036854775807) h1534
                  refine WL.val (R.add (a := i1218) (b := 1) (z := i1218 + 1) rfl rfl (w64e rfl hg1543.1 hg1543.2)) rfl ?_
                  refine WL.val (R.assign (v := Value.int .i64 (i1218 + 1)) rfl) rfl ?_
                  refine WL.nil ?_
                  have ht1545 := (hs1542.here).perm (L' := [blk b112 43 [Value.slice a2 p2.1.length c2, Value.slice a2a p2.2.length c2a], gsl 62 (rawE 57) (Value.slice a1538 ((l1219 ++ [(⟨true, d1329, (l1215).set (p0.2 % (4 + (p0.1 % 13))).toNat Hd.none⟩ : Rw)]).length) c1539) (rs1220 ++ [r1530])]) (G := [blk b1328 62 ((Value.bool true) :: ((encC d1329) ++ ((Value.slice a1330 (((l1215).set (p0.2 % (4 + (p0.1 % 13))).toNat Hd.none).length) c1331) :: []))), blk b1512 62 ((Value.bool true) :: ((encC d1329) ++ ((Value.slice a1330 (((l1215).set (p0.2 % (4 + (p0.1 % 13))).toNat Hd.none).length) c1331) :: [])))]) ((List.Perm.refl _))
                  have hs1546 := hs1542.trans ht1545
                  have hr1547 := elT ((((ht1435.trans ht1519).trans ht1526).trans ht1537).trans ht1545) he1338
                  have hr1548 := elT ((((ht1435.trans ht1519).trans ht1526).trans ht1537).trans ht1545) he1339
                  have hr1549 := elT ((((ht1435.trans ht1519).trans ht1526).trans ht1537).trans ht1545) he1340
                  have hr1550 := rlT (ht1537.trans ht1545) hr1532
                  exact roundEnd (s := k1236) ⟨l1215, i1218 + 1, l1219 ++ [(⟨true, d1329, (l1215).set (p0.2 % (4 + (p0.1 % 13))).toNat Hd.none⟩ : Rw)], a1216, c1217, rs1220 ++ [r1530], a1538, c1539, s1413, s1414, s1415, s1416, rfl, rfl, hl1238, hr1547, hr1548, hr1549, hr1550, h1544, hs1546⟩ (Nat.lt_succ_self _)
            · have h1551 := ifF hc1268 h1261
              refine WL.val (R.lssF (k := .i64) (a := i1218) (b := 4 + (p0.1 % 13)) un3 rfl rfl hc1268) rfl ?_
              refine WL.nil ?_
              refine thenN ?_
              refine WC.condF rfl rfl ?_
              refine WC.exit ?_
              refine thenE ?_
              refine thenE ?_
              refine blockHit ?_
              exact joinI ⟨l1215, l1219, a1216, c1217, rs1220, a1221, c1222, s1262, s1263, s1264, s1265, s1266, hl1238, he1237, he1239, he1240, hr1241, h1551, hs1235⟩
          · rintro σ1254 w1253 ⟨l1223, l1226, a1224, c1225, rs1227, a1228, c1229, s1553, s1554, s1555, s1556, s1557, hl1257, he1256, he1258, he1259, hr1260, h1552, hs1255⟩
            subst hK1231
            refine thenN ?_
            refine WC.seq ?_
            refine WC.region ?_
            refine WL.val (R.assign (v := Value.slice none 0 0) rfl) rfl ?_
            refine WL.nil ?_
            refine thenN ?_
            refine WC.seq ?_
            refine WC.seq ?_
            refine WC.region ?_
            refine WL.val (R.assign (v := Value.int .i64 0) rfl) rfl ?_
            refine WL.nil ?_
            refine thenN ?_
            obtain ⟨a2604, c2605, hv2606, hl2607, he2608⟩ := el_freezeR hs1255 ((List.perm_middle (l₁ := [blk b112 43 [Value.slice a2 p2.1.length c2, Value.slice a2a p2.2.length c2a]]) (a := gsl 62 (rawE 57) (Value.slice a1228 l1226.length c1229) rs1227) (l₂ := [])).trans (List.Perm.cons _ (List.Perm.refl _))) rfl hr1260
            obtain ⟨rfl, rfl⟩ : a1228 = a2604 ∧ c1229 = c2605 := ⟨(Value.slice.inj hv2606).1, (Value.slice.inj hv2606).2.2⟩
            have ht2609 := (hs1255.here).perm (L' := [blk b112 43 [Value.slice a2 p2.1.length c2, Value.slice a2a p2.2.length c2a]]) (G := [gsl 62 (rawE 57) (Value.slice a1228 l1226.length c1229) rs1227]) ((List.Perm.refl _))
            have hs2610 := hs1255.trans ht2609
            have hr2612 := elT ht2609 he1256
            have hr2613 := elT ht2609 he1258
            have hr2614 := elT ht2609 he1259
            obtain ⟨K2589, hK2590, h2591⟩ := kE (G := fun K2589 => one15_l3 p0 l1223 p2 K2589 1000000 l1226 [] 0) h1552
            refine WC.join (fun σ2616 w2615 => K2589 () = some r ∧ St [] w w2615 []) ?_ ?_
            · refine WC.block ?_
              refine WC.loop (T := Nat) (fun k2595 σ2593 w2592 => ∃ l2582 : List Rw, ∃ l2585 : List Hd, ∃ i2588 : Int, ∃ a2583, ∃ c2584, ∃ a2586, ∃ c2587, σ2593 5 = (Value.pointer (some ⟨b112, 0, none⟩)) ∧ σ2593 7 = (Value.int .i64 (4 + (p0.1 % 13))) ∧ σ2593 8 = (Value.int .i64 (p0.2 % (4 + (p0.1 % 13)))) ∧ σ2593 9 = (Value.slice a1224 l1223.length c1225) ∧ σ2593 11 = (Value.slice a2583 l2582.length c2584) ∧ σ2593 14 = (Value.slice a2586 l2585.length c2587) ∧ σ2593 15 = (Value.int .i64 i2588) ∧ elems heldW w2592 (In (fun _ => False) w [] [blk b112 43 [Value.slice a2 p2.1.length c2, Value.slice a2a p2.2.length c2a]]) a1224 l1223 ∧ l2582.length ≤ c2584 ∧ elems rowW w2592 (In (fun _ => False) w [] [blk b112 43 [Value.slice a2 p2.1.length c2, Value.slice a2a p2.2.length c2a]]) a2583 l2582 ∧ l2585.length ≤ c2587 ∧ elems heldW w2592 (In ok w [] [blk b112 43 [Value.slice a2 p2.1.length c2, Value.slice a2a p2.2.length c2a]]) a2586 l2585 ∧ (l2585 = [] → a2586 = none) ∧ elems rowW w2592 (In ok w [] [blk b112 43 [Value.slice a2 p2.1.length c2, Value.slice a2a p2.2.length c2a]]) a2 p2.1 ∧ elems heldW w2592 (In ok w [] [blk b112 43 [Value.slice a2 p2.1.length c2, Value.slice a2a p2.2.length c2a]]) a2a p2.2 ∧ one15_l3 p0 l1223 p2 K2589 k2595 l2582 l2585 i2588 = some r ∧ St [] w w2592 [blk b112 43 [Value.slice a2 p2.1.length c2, Value.slice a2a p2.2.length c2a]]) (fun k2595 => k2595) 1000000 ⟨l1226, [], 0, a1228, c1229, none, 0, s1553, s1554, s1555, s1556, s1557, rfl, rfl, hr2612, hl2607, he2608, (Nat.le_refl _), elems_nil, (fun _ => rfl), hr2613, hr2614, h2591, hs2610⟩ ?_
              rintro k2595 σ2593 w2592 ⟨l2582, l2585, i2588, a2583, c2584, a2586, c2587, s2619, s2620, s2621, s2622, s2623, s2624, s2625, he2596, hl2598, he2597, hl2600, he2599, hn2601, he2602, he2603, h2618, hs2594⟩
              rcases k2595 with _ | k2595
              · rw [one15_l3] at h2618; cases h2618
              rw [one15_l3] at h2618
              refine WC.seq ?_
              refine WC.seq ?_
              refine WC.region ?_
              refine WL.val (R.move (v := Value.int .i64 i2588) (by exact s2625)) rfl ?_
              refine WL.val (R.move (v := Value.int .i64 (4 + (p0.1 % 13))) (by exact s2620)) rfl ?_
              by_cases hc2626 : i2588 < (4 + (p0.1 % 13))
              · have h2627 := ifT hc2626 h2618
                refine WL.val (R.lssT (k := .i64) (a := i2588) (b := 4 + (p0.1 % 13)) un3 rfl rfl hc2626) rfl ?_
                refine WL.nil ?_
                refine thenN ?_
                refine WC.condT rfl rfl ?_
                refine WC.skip ?_
                refine thenN ?_
                refine WC.seq ?_
                refine WC.block ?_
                refine WC.seq ?_
                refine WC.seq ?_
                refine WC.region ?_
                refine WL.val (R.move (v := Value.int .i64 i2588) (by exact s2625)) rfl ?_
                refine WL.val (R.move (v := Value.int .i64 (p0.2 % (4 + (p0.1 % 13)))) (by exact s2621)) rfl ?_
                by_cases hc2628 : i2588 = (p0.2 % (4 + (p0.1 % 13)))
                · have h2629 := ifT hc2628 h2627
                  refine WL.val (R.eqlT (k := .i64) (a := i2588) (b := p0.2 % (4 + (p0.1 % 13))) un3 rfl rfl hc2628) rfl ?_
                  refine WL.nil ?_
                  refine thenN ?_
                  refine WC.condT rfl rfl ?_
                  refine WC.exit ?_
                  refine thenE ?_
                  refine blockHit ?_
                  refine thenN ?_
                  refine WC.region ?_
                  refine WL.val (R.move (v := Value.int .i64 i2588) (by exact s2625)) rfl ?_
                  obtain ⟨hg2630, h2631⟩ := ckE (c := -9223372036854775808 ≤ i2588 + 1 ∧ i2588 + 1 ≤ 9223372036854775807) h2629
                  refine WL.val (R.add (a := i2588) (b := 1) (z := i2588 + 1) rfl rfl (w64e rfl hg2630.1 hg2630.2)) rfl ?_
                  refine WL.val (R.assign (v := Value.int .i64 (i2588 + 1)) rfl) rfl ?_
                  refine WL.nil ?_
                  exact roundEnd (s := k2595) ⟨l2582, l2585, i2588 + 1, a2583, c2584, a2586, c2587, s2619, s2620, s2621, s2622, s2623, s2624, rfl, he2596, hl2598, he2597, hl2600, he2599, hn2601, he2602, he2603, h2631, hs2594⟩ (Nat.lt_succ_self _)
                · have h2632 := ifF hc2628 h2627
                  refine WL.val (R.eqlF (k := .i64) (a := i2588) (b := p0.2 % (4 + (p0.1 % 13))) un3 rfl rfl hc2628) rfl ?_
                  refine WL.nil ?_
                  refine thenN ?_
                  refine WC.condF rfl rfl ?_
                  refine WC.skip ?_
                  refine thenN ?_
                  refine WC.seq ?_
                  refine WC.region ?_
                  refine WL.val (R.move (v := Value.slice a2583 l2582.length c2584) (by exact s2623)) rfl ?_
                  have ht2633 := (hs2594.here).addNil 62 (rawE 57) rfl
                  have hs2635 := hs2594.trans ht2633
                  have hr2636 : readsL (n := 57) rowW w2592 (In (fun _ => False) w [] [blk b112 43 [Value.slice a2 p2.1.length c2, Value.slice a2a p2.2.length c2a], gsl 62 (rawE 57) (Value.slice none 0 0) []]) [] [] := readsL_nil
                  obtain ⟨hg2638, h2639⟩ := ckE (c := ([] : List Rw).length + l2582.length < 1000000) h2632
                  have hr2643 := elT ht2633 he2597
                  obtain ⟨qs2640, hr2641, he2642⟩ := elems_raw (n := 57) rfl hr2643
                  have hr2644 := readsL_append hr2636 hr2641
                  refine WL.grow (L' := fun v2645 => [blk b112 43 [Value.slice a2 p2.1.length c2, Value.slice a2a p2.2.length c2a], gsl 62 (rawE 57) v2645 ([] ++ qs2640)]) (X.appendRd (k := rawKd 57) (i := 1) (e := (rawE 57)) (xs := []) (ys := qs2640) (c := c2584) (a := a2583) (hs2635.here) sl22 rfl rfl rfl (by rw [← (hr2641).1]; exact rfl) rfl (fun h => h) (raw_leaf 57) he2642 (roomK hr2636 hr2641 hg2638 (by decide)) (roomK63 hr2636 hr2641 hg2638) (fun _ => rfl)) rfl ?_
                  intro v2645 w2646 ht2647
                  obtain ⟨a2648, c2649, hv2650⟩ := gsl_slK (ht2647.get (i := 1) rfl) (hr2644).1
                  subst hv2650
                  have hs2652 := hs2635.trans ht2647
                  refine WL.val (R.assign (v := Value.slice a2648 ((([] : List Rw) ++ l2582).length) c2649) rfl) rfl ?_
                  refine WL.nil ?_
                  refine thenN ?_
                  refine WC.seq ?_
                  refine WC.region ?_
                  refine WL.val (R.move (v := Value.slice a2648 ((([] : List Rw) ++ l2582).length) c2649) rfl) rfl ?_
                  refine WL.val (R.move (v := Value.int .i64 (p0.2 % (4 + (p0.1 % 13)))) (by exact s2621)) rfl ?_
                  have hd2653 : ∀ w, (Instr.build 62 #[]).run Try.prog w = .ok (Value.agg (List.toArray (encR Rw.none (Value.slice none 0 0)))) w := fun _ => by kernel_rfl
                  refine WL.val (R.build (vs := []) rfl hd2653) rfl ?_
                  obtain ⟨x2654, hx2655, h2656⟩ := ob (o := rd (([] : List Rw) ++ l2582) (p0.2 % (4 + (p0.1 % 13)))) h2639
                  obtain ⟨h02657, hx2658, hl2659, hm2660⟩ := rdE hx2655
                  have hr2669 := rlT ht2647 hr2644
                  obtain ⟨⟨cs2667, hp2668⟩, hr2665, hk2666⟩ := readsL_at hr2669 hx2658
                  obtain ⟨t2670, rfl, a2672, c2673, he2676, hl2674, he2675⟩ := hk2666
                  cases he2676
                  obtain ⟨b2661, c2662, hv2663, _⟩ := hs2652.gslAt (i := 1) rfl hr2665
                  refine WL.val (R.indexS (n := 57) (m := (p0.2 % (4 + (p0.1 % 13))).toNat) (ad := ⟨b2661, 0, none⟩) (len := ([] ++ qs2640).length) (cap := c2662) (z := p0.2 % (4 + (p0.1 % 13))) un22 ag62.size (Eq.trans (show _ = Value.slice a2648 ((([] : List Rw) ++ l2582).length) c2649 from rfl) hv2663) rfl rfl hm2660 ((hr2669).1 ▸ hl2659) rfl) rfl ?_
                  obtain ⟨r2678, hr2679, hr2680⟩ := readsL_set (j := (p0.2 % (4 + (p0.1 % 13))).toNat) hr2669 (cs := (encR Rw.none (Value.slice none 0 0))) ⟨_, rfl, ⟨_, _, rfl, Nat.le_refl _, elems_nil⟩⟩ rfl
                  refine WL.sto (L' := [blk b112 43 [Value.slice a2 p2.1.length c2, Value.slice a2a p2.2.length c2a], gsl 62 (rawE 57) (Value.slice a2648 ((([] : List Rw) ++ l2582).length) c2649) (([] ++ qs2640).set (p0.2 % (4 + (p0.1 % 13))).toNat r2678)]) (X.storeEl (i := 1) (j := (p0.2 % (4 + (p0.1 % 13))).toNat) (off := 0) (n := 57) (x := _) (y := r2678) (vs := encR Rw.none (Value.slice none 0 0)) (u := Value.agg (List.toArray (encR Rw.none (Value.slice none 0 0)))) (hs2652.here) rfl hr2665 hv2663 ag62.size rfl rfl rfl rfl rfl rfl (by decide) ((show splice _ _ _ = r2678.1 from by rw [hr2679]; rfl)) rfl) rfl rfl ?_
                  intro w2682 ht2683
                  have hs2684 := hs2652.trans ht2683
                  have hs2685 : St [] w w2682 [blk b112 43 [Value.slice a2 p2.1.length c2, Value.slice a2a p2.2.length c2a], gsl 62 (rawE 57) (Value.slice a2648 (((([] : List Rw) ++ l2582).set (p0.2 % (4 + (p0.1 % 13))).toNat Rw.none).length) c2649) (([] ++ qs2640).set (p0.2 % (4 + (p0.1 % 13))).toNat r2678)] := by first | (simpa only [List.length_set] using hs2684) | (simp only [List.length_set]; exact hs2684)
                  have ht2686 : St [blk b112 43 [Value.slice a2 p2.1.length c2, Value.slice a2a p2.2.length c2a], gsl 62 (rawE 57) (Value.slice a2648 ((([] : List Rw) ++ l2582).length) c2649) ([] ++ qs2640)] w2646 w2682 [blk b112 43 [Value.slice a2 p2.1.length c2, Value.slice a2a p2.2.length c2a], gsl 62 (rawE 57) (Value.slice a2648 (((([] : List Rw) ++ l2582).set (p0.2 % (4 + (p0.1 % 13))).toNat Rw.none).length) c2649) (([] ++ qs2640).set (p0.2 % (4 + (p0.1 % 13))).toNat r2678)] := by first | (simpa only [List.length_set, List.nil_append, List.cons_append] using ht2683) | (simp only [List.length_set]; exact ht2683)
                  refine WL.nil ?_
                  refine thenN ?_
                  obtain ⟨J2754, hJ2755, h2756⟩ := jnE h2656
                  refine WC.seq ?_
                  refine WC.join (fun σ2758 w2757 => ∃ l2750 : List Rw, ∃ rs2751, ∃ a2752, ∃ c2753, σ2758 5 = (Value.pointer (some ⟨b112, 0, none⟩)) ∧ σ2758 7 = (Value.int .i64 (4 + (p0.1 % 13))) ∧ σ2758 8 = (Value.int .i64 (p0.2 % (4 + (p0.1 % 13)))) ∧ σ2758 9 = (Value.slice a1224 l1223.length c1225) ∧ σ2758 11 = (Value.slice a2583 l2582.length c2584) ∧ σ2758 14 = (Value.slice a2586 l2585.length c2587) ∧ σ2758 15 = (Value.int .i64 i2588) ∧ σ2758 16 = (Value.slice a2752 l2750.length c2753) ∧ elems heldW w2757 (In (fun _ => False) w [] [blk b112 43 [Value.slice a2 p2.1.length c2, Value.slice a2a p2.2.length c2a], gsl 62 (rawE 57) (Value.slice a2752 l2750.length c2753) rs2751]) a1224 l1223 ∧ elems rowW w2757 (In (fun _ => False) w [] [blk b112 43 [Value.slice a2 p2.1.length c2, Value.slice a2a p2.2.length c2a], gsl 62 (rawE 57) (Value.slice a2752 l2750.length c2753) rs2751]) a2583 l2582 ∧ elems heldW w2757 (In ok w [] [blk b112 43 [Value.slice a2 p2.1.length c2, Value.slice a2a p2.2.length c2a], gsl 62 (rawE 57) (Value.slice a2752 l2750.length c2753) rs2751]) a2586 l2585 ∧ elems rowW w2757 (In ok w [] [blk b112 43 [Value.slice a2 p2.1.length c2, Value.slice a2a p2.2.length c2a], gsl 62 (rawE 57) (Value.slice a2752 l2750.length c2753) rs2751]) a2 p2.1 ∧ elems heldW w2757 (In ok w [] [blk b112 43 [Value.slice a2 p2.1.length c2, Value.slice a2a p2.2.length c2a], gsl 62 (rawE 57) (Value.slice a2752 l2750.length c2753) rs2751]) a2a p2.2 ∧ readsL rowW w2757 (In ok w [] [blk b112 43 [Value.slice a2 p2.1.length c2, Value.slice a2a p2.2.length c2a], gsl 62 (rawE 57) (Value.slice a2752 l2750.length c2753) rs2751]) l2750 rs2751 ∧ J2754 l2750 = some r ∧ St [] w w2757 [blk b112 43 [Value.slice a2 p2.1.length c2, Value.slice a2a p2.2.length c2a], gsl 62 (rawE 57) (Value.slice a2752 l2750.length c2753) rs2751]) ?_ ?_
                  · refine WC.seq ?_
                    refine WC.region ?_
                    refine WL.val (R.fieldAddr (o := 0) (o' := 0) fa43_0 (by exact s2619) rfl) rfl ?_
                    refine WL.val (R.loadL (v := Value.slice a2 p2.1.length c2) lf22 rfl (hs2685.at (i := 0) (off := 0) (n := 1) (cs := [Value.slice a2 p2.1.length c2]) rfl rfl rfl)) rfl ?_
                    refine WL.val (R.len (a := a2) (n := p2.1.length) (c := c2) un22 rfl) rfl ?_
                    by_cases hc2766 : 0 < ((p2.1.length : Nat) : Int)
                    · have h2767 := ifT hc2766 h2756
                      refine WL.val (R.gtrT (k := .i64) (a := ((p2.1.length : Nat) : Int)) (b := 0) un3 rfl rfl hc2766) rfl ?_
                      refine WL.nil ?_
                      refine thenN ?_
                      refine WC.condT rfl rfl ?_
                      refine WC.drawE mixed (NP.join (NP.then (NP.block (NP.then (NP.then (NP.block (NP.join (NP.then NP.rq)))))))) ?_
                      have ht2768 := (hs2685.here).ext (Ext.drew _)
                      have hs2769 := hs2685.trans ht2768
                      refine WE.take 0 rfl (by decide +kernel) (by decide +kernel) (by decide +kernel) (by decide +kernel) rfl rfl (fun wq hq => R.move (v := Value.slice a2648 (((([] : List Rw) ++ l2582).set (p0.2 % (4 + (p0.1 % 13))).toNat Rw.none).length) c2649) (by exact (Eq.trans (show _ = Value.slice a2648 ((([] : List Rw) ++ l2582).length) c2649 from rfl) (by simp only [List.length_set])))) ?_
                      refine WE.take 1 rfl (by decide +kernel) (by decide +kernel) (by decide +kernel) (by decide +kernel) rfl rfl (fun wq hq => R.move (v := Value.int .i64 (p0.2 % (4 + (p0.1 % 13)))) (by exact s2621)) ?_
                      refine WE.take 2 rfl (by decide +kernel) (by decide +kernel) (by decide +kernel) (by decide +kernel) rfl rfl (fun wq hq => R.fieldAddr (o := 0) (o' := 0) fa43_0 (by exact s2619) rfl) ?_
                      refine WE.take 3 rfl (by decide +kernel) (by decide +kernel) (by decide +kernel) (by decide +kernel) rfl rfl (fun wq hq => R.loadL (v := Value.slice a2 p2.1.length c2) lf22 rfl ((hs2769.ext hq).at (i := 0) (off := 0) (n := 1) (cs := [Value.slice a2 p2.1.length c2]) rfl rfl rfl)) ?_
                      refine WE.take 4 rfl (by decide +kernel) (by decide +kernel) (by decide +kernel) (by decide +kernel) rfl rfl (fun wq hq => R.move (v := Value.int .i64 i2588) (by exact s2625)) ?_
                      refine WE.take 5 rfl (by decide +kernel) (by decide +kernel) (by decide +kernel) (by decide +kernel) rfl rfl (fun wq hq => R.fieldAddr (o := 0) (o' := 0) fa43_0 (by exact s2619) rfl) ?_
                      refine WE.take 6 rfl (by decide +kernel) (by decide +kernel) (by decide +kernel) (by decide +kernel) rfl rfl (fun wq hq => R.loadL (v := Value.slice a2 p2.1.length c2) lf22 rfl ((hs2769.ext hq).at (i := 0) (off := 0) (n := 1) (cs := [Value.slice a2 p2.1.length c2]) rfl rfl rfl)) ?_
                      refine WE.take 7 rfl (by decide +kernel) (by decide +kernel) (by decide +kernel) (by decide +kernel) rfl rfl (fun wq hq => R.len (a := a2) (n := p2.1.length) (c := c2) un22 rfl) ?_
                      obtain ⟨hg2770, h2771⟩ := ckE (c := 0 ≤ i2588 ∧ 0 < (((p2.1.length : Nat) : Int) : Int) ∧ (((p2.1.length : Nat) : Int) : Int) ≤ 9223372036854775807) h2767
                      refine WE.take 8 rfl (by decide +kernel) (by decide +kernel) (by decide +kernel) (by decide +kernel) rfl rfl (fun wq hq => R.remG (a := i2588) (b := ((p2.1.length : Nat) : Int)) rfl rfl hg2770 (by decide)) ?_
                      obtain ⟨x2772, hx2773, h2774⟩ := ob (o := rd p2.1 (i2588 % ((p2.1.length : Nat) : Int))) h2771
                      obtain ⟨h02775, hx2776, hl2777, hm2778⟩ := rdE hx2773
                      have hr2779 := elT (((ht2633.trans ht2647).trans ht2686).trans ht2768) he2602
                      obtain ⟨ad2780, e2785, ha2781, hp2782, hat2783, hrd2784⟩ := hr2779 _ _ hx2776
                      obtain ⟨t2786, rfl, a2788, c2789, he2792, hl2790, he2791⟩ := hrd2784
                      cases he2792
                      refine WE.take 9 rfl (by decide +kernel) (by decide +kernel) (by decide +kernel) (by decide +kernel) rfl rfl (fun wq hq => R.indexS (n := 57) (m := (i2588 % ((p2.1.length : Nat) : Int)).toNat) (a := a2) (ad := ad2780) (len := p2.1.length) (cap := c2) (z := i2588 % ((p2.1.length : Nat) : Int)) un22 ag62.size rfl ha2781 rfl hm2778 hl2777 hp2782) ?_
                      refine WE.take 10 rfl (by decide +kernel) (by decide +kernel) (by decide +kernel) (by decide +kernel) rfl rfl (fun wq hq => R.loadA (cs := encR x2772 (Value.slice a2788 x2772.table.length c2789)) (n := 57) ag62 rfl (At.exT hq hat2783) rfl) ?_
                      obtain ⟨x2795, hx2796, h2797⟩ := ob (o := rd ((([] : List Rw) ++ l2582).set (p0.2 % (4 + (p0.1 % 13))).toNat Rw.none) (p0.2 % (4 + (p0.1 % 13)))) h2774
                      obtain ⟨h02798, hx2799, hl2800, hm2801⟩ := rdE hx2796
                      have hr2810 := rlT (ht2686.trans ht2768) hr2680
                      obtain ⟨⟨cs2808, hp2809⟩, hr2806, hk2807⟩ := readsL_at hr2810 hx2799
                      obtain ⟨t2811, rfl, a2813, c2814, he2817, hl2815, he2816⟩ := hk2807
                      cases he2817
                      obtain ⟨b2802, c2803, hv2804, _⟩ := hs2769.gslAt (i := 1) rfl hr2806
                      refine WE.take 11 rfl (by decide +kernel) (by decide +kernel) (by decide +kernel) (by decide +kernel) rfl rfl (fun wq hq => R.indexS (n := 57) (m := (p0.2 % (4 + (p0.1 % 13))).toNat) (ad := ⟨b2802, 0, none⟩) (len := (([] ++ qs2640).set (p0.2 % (4 + (p0.1 % 13))).toNat r2678).length) (cap := c2803) (z := p0.2 % (4 + (p0.1 % 13))) un22 ag62.size (Eq.trans (show _ = Value.slice a2648 (((([] : List Rw) ++ l2582).set (p0.2 % (4 + (p0.1 % 13))).toNat Rw.none).length) c2649 from rfl) hv2804) rfl rfl hm2801 ((hr2810).1 ▸ hl2800) rfl) ?_
                      obtain ⟨r2819, hr2820, hr2821⟩ := readsL_set (j := (p0.2 % (4 + (p0.1 % 13))).toNat) (rlN (ok' := ok) hr2810) (cs := (encR x2772 (Value.slice a2788 x2772.table.length c2789))) ⟨_, rfl, ⟨_, _, rfl, hl2790, he2791⟩⟩ rfl
                      refine WE.sto (L' := [blk b112 43 [Value.slice a2 p2.1.length c2, Value.slice a2a p2.2.length c2a], gsl 62 (rawE 57) (Value.slice a2648 (((([] : List Rw) ++ l2582).set (p0.2 % (4 + (p0.1 % 13))).toNat Rw.none).length) c2649) ((([] ++ qs2640).set (p0.2 % (4 + (p0.1 % 13))).toNat r2678).set (p0.2 % (4 + (p0.1 % 13))).toNat r2819)]) 12 (by decide +kernel) (by decide +kernel) rfl rfl rfl rfl (X.storeEl (i := 1) (j := (p0.2 % (4 + (p0.1 % 13))).toNat) (off := 0) (n := 57) (x := _) (y := r2819) (vs := encR x2772 (Value.slice a2788 x2772.table.length c2789)) (u := Value.agg (List.toArray (encR x2772 (Value.slice a2788 x2772.table.length c2789)))) (hs2769.here) rfl hr2806 hv2804 ag62.size rfl rfl rfl rfl rfl rfl (by decide) ((show splice _ _ _ = r2819.1 from by rw [hr2820]; rfl)) rfl) ?_
                      intro w2823 ht2824
                      have hs2825 := hs2769.trans ht2824
                      have hs2826 : St [] w w2823 [blk b112 43 [Value.slice a2 p2.1.length c2, Value.slice a2a p2.2.length c2a], gsl 62 (rawE 57) (Value.slice a2648 ((((([] : List Rw) ++ l2582).set (p0.2 % (4 + (p0.1 % 13))).toNat Rw.none).set (p0.2 % (4 + (p0.1 % 13))).toNat x2772).length) c2649) ((([] ++ qs2640).set (p0.2 % (4 + (p0.1 % 13))).toNat r2678).set (p0.2 % (4 + (p0.1 % 13))).toNat r2819)] := by first | (simpa only [List.length_set] using hs2825) | (simp only [List.length_set]; exact hs2825)
                      have ht2827 : St [blk b112 43 [Value.slice a2 p2.1.length c2, Value.slice a2a p2.2.length c2a], gsl 62 (rawE 57) (Value.slice a2648 (((([] : List Rw) ++ l2582).set (p0.2 % (4 + (p0.1 % 13))).toNat Rw.none).length) c2649) (([] ++ qs2640).set (p0.2 % (4 + (p0.1 % 13))).toNat r2678)] ((w2682).drew) w2823 [blk b112 43 [Value.slice a2 p2.1.length c2, Value.slice a2a p2.2.length c2a], gsl 62 (rawE 57) (Value.slice a2648 ((((([] : List Rw) ++ l2582).set (p0.2 % (4 + (p0.1 % 13))).toNat Rw.none).set (p0.2 % (4 + (p0.1 % 13))).toNat x2772).length) c2649) ((([] ++ qs2640).set (p0.2 % (4 + (p0.1 % 13))).toNat r2678).set (p0.2 % (4 + (p0.1 % 13))).toNat r2819)] := by first | (simpa only [List.length_set, List.nil_append, List.cons_append] using ht2824) | (simp only [List.length_set]; exact ht2824)
                      refine WE.done (by decide +kernel) ?_
                      have hr2828 := elT ((((ht2633.trans ht2647).trans ht2686).trans ht2768).trans ht2827) he2596
                      have hr2829 := elT (((ht2647.trans ht2686).trans ht2768).trans ht2827) hr2643
                      have hr2830 := elT ((((ht2633.trans ht2647).trans ht2686).trans ht2768).trans ht2827) he2599
                      have hr2831 := elT ht2827 hr2779
                      have hr2832 := elT ((((ht2633.trans ht2647).trans ht2686).trans ht2768).trans ht2827) he2603
                      have hr2833 := rlT ht2827 hr2821
                      exact joinI ⟨((([] : List Rw) ++ l2582).set (p0.2 % (4 + (p0.1 % 13))).toNat Rw.none).set (p0.2 % (4 + (p0.1 % 13))).toNat x2772, (([] ++ qs2640).set (p0.2 % (4 + (p0.1 % 13))).toNat r2678).set (p0.2 % (4 + (p0.1 % 13))).toNat r2819, a2648, c2649, s2619, s2620, s2621, s2622, s2623, s2624, s2625, (Eq.trans (show _ = Value.slice a2648 (((([] : List Rw) ++ l2582).set (p0.2 % (4 + (p0.1 % 13))).toNat Rw.none).length) c2649 from (Eq.trans (show _ = Value.slice a2648 ((([] : List Rw) ++ l2582).length) c2649 from rfl) (by simp only [List.length_set]))) (by simp only [List.length_set])), hr2828, hr2829, hr2830, hr2831, hr2832, hr2833, h2797, hs2826⟩
                    · have h2834 := ifF hc2766 h2756
                      refine WL.val (R.gtrF (k := .i64) (a := ((p2.1.length : Nat) : Int)) (b := 0) un3 rfl rfl hc2766) rfl ?_
                      refine WL.nil ?_
                      refine thenN ?_
                      refine WC.condF rfl rfl ?_
                      refine WC.skip ?_
                      have hr2835 := elT ((ht2633.trans ht2647).trans ht2686) he2596
                      have hr2836 := elT (ht2647.trans ht2686) hr2643
                      have hr2837 := elT ((ht2633.trans ht2647).trans ht2686) he2599
                      have hr2838 := elT ((ht2633.trans ht2647).trans ht2686) he2602
                      have hr2839 := elT ((ht2633.trans ht2647).trans ht2686) he2603
                      have hr2840 := rlT ht2686 hr2680
                      exact joinI ⟨(([] : List Rw) ++ l2582).set (p0.2 % (4 + (p0.1 % 13))).toNat Rw.none, ([] ++ qs2640).set (p0.2 % (4 + (p0.1 % 13))).toNat r2678, a2648, c2649, s2619, s2620, s2621, s2622, s2623, s2624, s2625, (Eq.trans (show _ = Value.slice a2648 ((([] : List Rw) ++ l2582).length) c2649 from rfl) (by simp only [List.length_set])), hr2835, hr2836, hr2837, hr2838, hr2839, (rlN (ok' := ok) hr2840), h2834, hs2685⟩
                  · rintro σ2758 w2757 ⟨l2750, rs2751, a2752, c2753, s2842, s2843, s2844, s2845, s2846, s2847, s2848, s2849, he2760, he2761, he2762, he2763, he2764, hr2765, h2841, hs2759⟩
                    subst hJ2755
                    refine thenN ?_
                    refine WC.seq ?_
                    refine WC.region ?_
                    refine WL.val (R.move (v := Value.int .i64 (4 + (p0.1 % 13))) (by exact s2843)) rfl ?_
                    refine WL.val (R.move (v := Value.slice a2752 l2750.length c2753) (by exact s2849)) rfl ?_
                    obtain ⟨a2850, c2851, hv2852, hl2853, he2854⟩ := el_freezeR hs2759 ((List.perm_middle (l₁ := [blk b112 43 [Value.slice a2 p2.1.length c2, Value.slice a2a p2.2.length c2a]]) (a := gsl 62 (rawE 57) (Value.slice a2752 l2750.length c2753) rs2751) (l₂ := [])).trans (List.Perm.cons _ (List.Perm.refl _))) rfl hr2765
                    obtain ⟨rfl, rfl⟩ : a2752 = a2850 ∧ c2753 = c2851 := ⟨(Value.slice.inj hv2852).1, (Value.slice.inj hv2852).2.2⟩
                    have ht2855 := (hs2759.here).perm (L' := [blk b112 43 [Value.slice a2 p2.1.length c2, Value.slice a2a p2.2.length c2a]]) (G := [gsl 62 (rawE 57) (Value.slice a2752 l2750.length c2753) rs2751]) ((List.Perm.refl _))
                    have hs2856 := hs2759.trans ht2855
                    obtain ⟨y2858, hx2859, h2860⟩ := ob (o := agree15 (4 + (p0.1 % 13)) l2750) h2841
                    refine WL.call (agree15_ok _ _ (4 + (p0.1 % 13)) l2750 _ _ he2854 hl2853 hx2859) (R.call (vs := [Value.int .i64 (4 + (p0.1 % 13)), Value.slice a2752 l2750.length c2753]) (caps := []) bo34 rfl rfl) rfl ?_
                    rintro v2867 w2868 ⟨a2863, c2864, rfl, hl2865, he2866, ht2861⟩
                    have ht2862 := hs2856.call (N := [blk b112 43 [Value.slice a2 p2.1.length c2, Value.slice a2a p2.2.length c2a]]) (M := []) (List.Perm.refl _) ht2861
                    have he2869 := elC hs2856 (M := []) (List.Perm.refl _) ht2861 he2866
                    have hs2870 := hs2856.trans ht2862
                    refine WL.val (R.assign (v := Value.slice a2863 y2858.length c2864) rfl) rfl ?_
                    refine WL.nil ?_
                    refine thenN ?_
                    refine WC.seq ?_
                    refine WC.seq ?_
                    refine WC.region ?_
                    refine WL.val (R.move (v := Value.slice a2863 y2858.length c2864) rfl) rfl ?_
                    refine WL.val (R.len (a := a2863) (n := y2858.length) (c := c2864) un28 rfl) rfl ?_
                    refine WL.val (R.move (v := Value.int .i64 (4 + (p0.1 % 13))) (by exact s2843)) rfl ?_
                    by_cases hc2872 : ((y2858.length : Nat) : Int) = (4 + (p0.1 % 13))
                    · have h2873 := ifT hc2872 h2860
                      refine WL.val (R.neqF (k := .i64) (a := ((y2858.length : Nat) : Int)) (b := 4 + (p0.1 % 13)) un3 rfl rfl (not_not_intro hc2872)) rfl ?_
                      refine WL.nil ?_
                      refine thenN ?_
                      refine WC.condF rfl rfl ?_
                      refine WC.skip ?_
                      refine thenN ?_
                      obtain ⟨J2881, hJ2882, h2883⟩ := jnE h2873
                      refine WC.seq ?_
                      refine WC.join (fun σ2885 w2884 => ∃ l2878 : List Hd, ∃ a2879, ∃ c2880, σ2885 5 = (Value.pointer (some ⟨b112, 0, none⟩)) ∧ σ2885 7 = (Value.int .i64 (4 + (p0.1 % 13))) ∧ σ2885 8 = (Value.int .i64 (p0.2 % (4 + (p0.1 % 13)))) ∧ σ2885 9 = (Value.slice a1224 l1223.length c1225) ∧ σ2885 11 = (Value.slice a2583 l2582.length c2584) ∧ σ2885 14 = (Value.slice a2879 l2878.length c2880) ∧ σ2885 15 = (Value.int .i64 i2588) ∧ σ2885 17 = (Value.slice a2863 y2858.length c2864) ∧ elems heldW w2884 (In (fun _ => False) w [] [blk b112 43 [Value.slice a2 p2.1.length c2, Value.slice a2a p2.2.length c2a]]) a1224 l1223 ∧ elems rowW w2884 (In (fun _ => False) w [] [blk b112 43 [Value.slice a2 p2.1.length c2, Value.slice a2a p2.2.length c2a]]) a2583 l2582 ∧ l2878.length ≤ c2880 ∧ elems heldW w2884 (In ok w [] [blk b112 43 [Value.slice a2 p2.1.length c2, Value.slice a2a p2.2.length c2a]]) a2879 l2878 ∧ (l2878 = [] → a2879 = none) ∧ elems heldW w2884 (In ok w [] [blk b112 43 [Value.slice a2 p2.1.length c2, Value.slice a2a p2.2.length c2a]]) a2863 y2858 ∧ elems rowW w2884 (In ok w [] [blk b112 43 [Value.slice a2 p2.1.length c2, Value.slice a2a p2.2.length c2a]]) a2 p2.1 ∧ elems heldW w2884 (In ok w [] [blk b112 43 [Value.slice a2 p2.1.length c2, Value.slice a2a p2.2.length c2a]]) a2a p2.2 ∧ J2881 l2878 = some r ∧ St [] w w2884 [blk b112 43 [Value.slice a2 p2.1.length c2, Value.slice a2a p2.2.length c2a]]) ?_ ?_
                      · refine WC.seq ?_
                        refine WC.region ?_
                        refine WL.val (R.move (v := Value.slice a2586 l2585.length c2587) (by exact s2847)) rfl ?_
                        by_cases hc2895 : l2585 = []
                        · have h2896 := ifT hc2895 h2883
                          refine WL.val (R.nilSl (b := true) un28 rfl rfl (Option.isNone_iff_eq_none.2 (hn2601 hc2895))) rfl ?_
                          refine WL.nil ?_
                          refine thenN ?_
                          refine WC.condT rfl rfl ?_
                          refine WC.region ?_
                          refine WL.val (R.move (v := Value.slice a2863 y2858.length c2864) rfl) rfl ?_
                          refine WL.val (R.assign (v := Value.slice a2863 y2858.length c2864) rfl) rfl ?_
                          refine WL.nil ?_
                          have hr2897 := elT (ht2855.trans ht2862) he2760
                          have hr2898 := elT (ht2855.trans ht2862) he2761
                          have hr2899 := elT (ht2855.trans ht2862) he2763
                          have hr2900 := elT (ht2855.trans ht2862) he2764
                          exact joinI ⟨y2858, a2863, c2864, s2842, s2843, s2844, s2845, s2846, rfl, s2848, rfl, hr2897, hr2898, hl2865, he2869, (fun h0 => by have h1 := hc2872; rw [h0] at h1; simp only [List.length_nil] at h1; omega), he2869, hr2899, hr2900, h2896, hs2870⟩
                        · have h2901 := ifF hc2895 h2883
                          have hr2902 := elT (ht2855.trans ht2862) he2762
                          refine WL.val (R.nilSl (b := false) un28 rfl rfl (elems_some hr2902 hc2895)) rfl ?_
                          refine WL.nil ?_
                          refine thenN ?_
                          refine WC.condF rfl rfl ?_
                          refine WC.skip ?_
                          have hr2903 := elT (ht2855.trans ht2862) he2760
                          have hr2904 := elT (ht2855.trans ht2862) he2761
                          have hr2905 := elT (ht2855.trans ht2862) he2763
                          have hr2906 := elT (ht2855.trans ht2862) he2764
                          exact joinI ⟨l2585, a2586, c2587, s2842, s2843, s2844, s2845, s2846, s2847, s2848, rfl, hr2903, hr2904, hl2600, hr2902, hn2601, he2869, hr2905, hr2906, h2901, hs2870⟩
                      · rintro σ2885 w2884 ⟨l2878, a2879, c2880, s2908, s2909, s2910, s2911, s2912, s2913, s2914, s2915, he2887, he2888, hl2890, he2889, hn2891, he2892, he2893, he2894, h2907, hs2886⟩
                        subst hJ2882
                        refine thenN ?_
                        refine WC.seq ?_
                        refine WC.region ?_
                        refine WL.val (R.assign (v := Value.int .i64 0) rfl) rfl ?_
                        refine WL.nil ?_
                        refine thenN ?_
                        obtain ⟨K3056, hK3057, h3058⟩ := kE (G := fun K3056 => one15_l4 p0 y2858 l2878 l1223 K3056 1000000 0) h2907
                        refine WC.join (fun σ3070 w3069 => σ3070 5 = (Value.pointer (some ⟨b112, 0, none⟩)) ∧ σ3070 7 = (Value.int .i64 (4 + (p0.1 % 13))) ∧ σ3070 8 = (Value.int .i64 (p0.2 % (4 + (p0.1 % 13)))) ∧ σ3070 9 = (Value.slice a1224 l1223.length c1225) ∧ σ3070 11 = (Value.slice a2583 l2582.length c2584) ∧ σ3070 14 = (Value.slice a2879 l2878.length c2880) ∧ σ3070 15 = (Value.int .i64 i2588) ∧ elems heldW w3069 (In (fun _ => False) w [] [blk b112 43 [Value.slice a2 p2.1.length c2, Value.slice a2a p2.2.length c2a]]) a1224 l1223 ∧ elems rowW w3069 (In (fun _ => False) w [] [blk b112 43 [Value.slice a2 p2.1.length c2, Value.slice a2a p2.2.length c2a]]) a2583 l2582 ∧ elems heldW w3069 (In ok w [] [blk b112 43 [Value.slice a2 p2.1.length c2, Value.slice a2a p2.2.length c2a]]) a2879 l2878 ∧ elems rowW w3069 (In ok w [] [blk b112 43 [Value.slice a2 p2.1.length c2, Value.slice a2a p2.2.length c2a]]) a2 p2.1 ∧ elems heldW w3069 (In ok w [] [blk b112 43 [Value.slice a2 p2.1.length c2, Value.slice a2a p2.2.length c2a]]) a2a p2.2 ∧ K3056 () = some r ∧ St [] w w3069 [blk b112 43 [Value.slice a2 p2.1.length c2, Value.slice a2a p2.2.length c2a]]) ?_ ?_
                        · refine WC.block ?_
                          refine WC.loop (T := Nat) (fun k3062 σ3060 w3059 => ∃ i3055 : Int, σ3060 5 = (Value.pointer (some ⟨b112, 0, none⟩)) ∧ σ3060 7 = (Value.int .i64 (4 + (p0.1 % 13))) ∧ σ3060 8 = (Value.int .i64 (p0.2 % (4 + (p0.1 % 13)))) ∧ σ3060 9 = (Value.slice a1224 l1223.length c1225) ∧ σ3060 11 = (Value.slice a2583 l2582.length c2584) ∧ σ3060 14 = (Value.slice a2879 l2878.length c2880) ∧ σ3060 15 = (Value.int .i64 i2588) ∧ σ3060 17 = (Value.slice a2863 y2858.length c2864) ∧ σ3060 18 = (Value.int .i64 i3055) ∧ elems heldW w3059 (In (fun _ => False) w [] [blk b112 43 [Value.slice a2 p2.1.length c2, Value.slice a2a p2.2.length c2a]]) a1224 l1223 ∧ elems rowW w3059 (In (fun _ => False) w [] [blk b112 43 [Value.slice a2 p2.1.length c2, Value.slice a2a p2.2.length c2a]]) a2583 l2582 ∧ elems heldW w3059 (In ok w [] [blk b112 43 [Value.slice a2 p2.1.length c2, Value.slice a2a p2.2.length c2a]]) a2879 l2878 ∧ elems heldW w3059 (In ok w [] [blk b112 43 [Value.slice a2 p2.1.length c2, Value.slice a2a p2.2.length c2a]]) a2863 y2858 ∧ elems rowW w3059 (In ok w [] [blk b112 43 [Value.slice a2 p2.1.length c2, Value.slice a2a p2.2.length c2a]]) a2 p2.1 ∧ elems heldW w3059 (In ok w [] [blk b112 43 [Value.slice a2 p2.1.length c2, Value.slice a2a p2.2.length c2a]]) a2a p2.2 ∧ one15_l4 p0 y2858 l2878 l1223 K3056 k3062 i3055 = some r ∧ St [] w w3059 [blk b112 43 [Value.slice a2 p2.1.length c2, Value.slice a2a p2.2.length c2a]]) (fun k3062 => k3062) 1000000 ⟨0, s2908, s2909, s2910, s2911, s2912, s2913, s2914, s2915, rfl, he2887, he2888, he2889, he2892, he2893, he2894, h3058, hs2886⟩ ?_
                          rintro k3062 σ3060 w3059 ⟨i3055, s3078, s3079, s3080, s3081, s3082, s3083, s3084, s3085, s3086, he3063, he3064, he3065, he3066, he3067, he3068, h3077, hs3061⟩
                          rcases k3062 with _ | k3062
                          · rw [one15_l4] at h3077; cases h3077
                          rw [one15_l4] at h3077
                          refine WC.seq ?_
                          refine WC.seq ?_
                          refine WC.region ?_
                          refine WL.val (R.move (v := Value.int .i64 i3055) (by exact s3086)) rfl ?_
                          refine WL.val (R.move (v := Value.int .i64 (4 + (p0.1 % 13))) (by exact s3079)) rfl ?_
                          by_cases hc3087 : i3055 < (4 + (p0.1 % 13))
                          · have h3088 := ifT hc3087 h3077
                            refine WL.val (R.lssT (k := .i64) (a := i3055) (b := 4 + (p0.1 % 13)) un3 rfl rfl hc3087) rfl ?_
                            refine WL.nil ?_
                            refine thenN ?_
                            refine WC.condT rfl rfl ?_
                            refine WC.skip ?_
                            refine thenN ?_
                            refine WC.seq ?_
                            refine WC.block ?_
                            refine WC.seq ?_
                            refine WC.drawE mixed (NP.then (NP.block (NP.then (NP.then (NP.block (NP.join (NP.block (NP.then (NP.then (NP.block (NP.join (NP.then NP.rq)))))))))))) ?_
                            have ht3089 := (hs3061.here).ext (Ext.drew _)
                            have hs3090 := hs3061.trans ht3089
                            refine WE.take 0 rfl (by decide +kernel) (by decide +kernel) (by decide +kernel) (by decide +kernel) rfl rfl (fun wq hq => R.move (v := Value.slice a2863 y2858.length c2864) (by exact s3085)) ?_
                            refine WE.take 1 rfl (by decide +kernel) (by decide +kernel) (by decide +kernel) (by decide +kernel) rfl rfl (fun wq hq => R.move (v := Value.int .i64 i3055) (by exact s3086)) ?_
                            obtain ⟨x3091, hx3092, h3093⟩ := ob (o := rd y2858 i3055) h3088
                            obtain ⟨h03094, hx3095, hl3096, hm3097⟩ := rdE hx3092
                            have hr3098 := elT ht3089 he3066
                            obtain ⟨ad3099, e3104, ha3100, hp3101, hat3102, hrd3103⟩ := hr3098 _ _ hx3095
                            obtain ⟨-, rfl⟩ := hrd3103
                            refine WE.take 2 rfl (by decide +kernel) (by decide +kernel) (by decide +kernel) (by decide +kernel) rfl rfl (fun wq hq => R.indexS (n := 56) (m := (i3055).toNat) (a := a2863) (ad := ad3099) (len := y2858.length) (cap := c2864) (z := i3055) un28 ag60.size rfl ha3100 rfl hm3097 hl3096 hp3101) ?_
                            refine WE.take 3 rfl (by decide +kernel) (by decide +kernel) (by decide +kernel) (by decide +kernel) rfl rfl (fun wq hq => R.loadA (cs := encH x3091) (n := 56) ag60 rfl (At.exT hq hat3102) rfl) ?_
                            refine WE.take 4 rfl (by decide +kernel) (by decide +kernel) (by decide +kernel) (by decide +kernel) rfl rfl (fun wq hq => R.move (v := Value.slice a2879 l2878.length c2880) (by exact s3083)) ?_
                            refine WE.take 5 rfl (by decide +kernel) (by decide +kernel) (by decide +kernel) (by decide +kernel) rfl rfl (fun wq hq => R.move (v := Value.int .i64 i3055) (by exact s3086)) ?_
                            obtain ⟨x3106, hx3107, h3108⟩ := ob (o := rd l2878 i3055) h3093
                            obtain ⟨h03109, hx3110, hl3111, hm3112⟩ := rdE hx3107
                            have hr3113 := elT ht3089 he3065
                            obtain ⟨ad3114, e3119, ha3115, hp3116, hat3117, hrd3118⟩ := hr3113 _ _ hx3110
                            obtain ⟨-, rfl⟩ := hrd3118
                            refine WE.take 6 rfl (by decide +kernel) (by decide +kernel) (by decide +kernel) (by decide +kernel) rfl rfl (fun wq hq => R.indexS (n := 56) (m := (i3055).toNat) (a := a2879) (ad := ad3114) (len := l2878.length) (cap := c2880) (z := i3055) un28 ag60.size rfl ha3115 rfl hm3112 hl3111 hp3116) ?_
                            refine WE.take 7 rfl (by decide +kernel) (by decide +kernel) (by decide +kernel) (by decide +kernel) rfl rfl (fun wq hq => R.loadA (cs := encH x3106) (n := 56) ag60 rfl (At.exT hq hat3117) rfl) ?_
                            refine WE.take 8 rfl (by decide +kernel) (by decide +kernel) (by decide +kernel) (by decide +kernel) rfl rfl (fun wq hq => R.neHeld (a := x3091) (b := x3106) rfl rfl) ?_
                            refine WE.take 9 rfl (by decide +kernel) (by decide +kernel) (by decide +kernel) (by decide +kernel) rfl rfl (fun wq hq => R.move (v := Value.bool (decide (¬ (x3091 = x3106)))) rfl) ?_
                            by_cases hc3121 : ¬ (x3091 = x3106)
                            · have h3122 := ifT hc3121 h3108
                              refine WE.takeN 10 (e := 161) (v := .bool true) rfl (by decide +kernel) (by decide +kernel) (by decide +kernel) (by decide +kernel) rfl rfl rfl (Eq.trans (show _ = Value.bool (decide (¬ (x3091 = x3106))) from rfl) (congrArg Value.bool (decide_eq_true hc3121))) rfl ?_
                              refine WE.takeN 11 (e := 161) (v := .bool true) rfl (by decide +kernel) (by decide +kernel) (by decide +kernel) (by decide +kernel) rfl rfl rfl (Eq.trans (show _ = Value.bool (decide (¬ (x3091 = x3106))) from rfl) (congrArg Value.bool (decide_eq_true hc3121))) rfl ?_
                              refine WE.takeN 12 (e := 161) (v := .bool true) rfl (by decide +kernel) (by decide +kernel) (by decide +kernel) (by decide +kernel) rfl rfl rfl (Eq.trans (show _ = Value.bool (decide (¬ (x3091 = x3106))) from rfl) (congrArg Value.bool (decide_eq_true hc3121))) rfl ?_
                              refine WE.takeN 13 (e := 161) (v := .bool true) rfl (by decide +kernel) (by decide +kernel) (by decide +kernel) (by decide +kernel) rfl rfl rfl (Eq.trans (show _ = Value.bool (decide (¬ (x3091 = x3106))) from rfl) (congrArg Value.bool (decide_eq_true hc3121))) rfl ?_
                              refine WE.takeN 14 (e := 165) (v := undef) rfl (by decide +kernel) (by decide +kernel) (by decide +kernel) (by decide +kernel) rfl rfl rfl rfl rfl ?_
                              refine WE.takeN 15 (e := 165) (v := undef) rfl (by decide +kernel) (by decide +kernel) (by decide +kernel) (by decide +kernel) rfl rfl rfl rfl rfl ?_
                              refine WE.takeN 16 (e := 165) (v := undef) rfl (by decide +kernel) (by decide +kernel) (by decide +kernel) (by decide +kernel) rfl rfl rfl rfl rfl ?_
                              refine WE.takeN 17 (e := 165) (v := undef) rfl (by decide +kernel) (by decide +kernel) (by decide +kernel) (by decide +kernel) rfl rfl rfl rfl rfl ?_
                              refine WE.takeN 18 (e := 165) (v := undef) rfl (by decide +kernel) (by decide +kernel) (by decide +kernel) (by decide +kernel) rfl rfl rfl rfl rfl ?_
                              refine WE.takeN 19 (e := 165) (v := undef) rfl (by decide +kernel) (by decide +kernel) (by decide +kernel) (by decide +kernel) rfl rfl rfl rfl rfl ?_
                              refine WE.takeN 20 (e := 165) (v := undef) rfl (by decide +kernel) (by decide +kernel) (by decide +kernel) (by decide +kernel) rfl rfl rfl rfl rfl ?_
                              refine WE.takeN 21 (e := 165) (v := undef) rfl (by decide +kernel) (by decide +kernel) (by decide +kernel) (by decide +kernel) rfl rfl rfl rfl rfl ?_
                              refine WE.takeN 22 (e := 165) (v := undef) rfl (by decide +kernel) (by decide +kernel) (by decide +kernel) (by decide +kernel) rfl rfl rfl rfl rfl ?_
                              refine WE.takeN 23 (e := 161) (v := .bool true) rfl (by decide +kernel) (by decide +kernel) (by decide +kernel) (by decide +kernel) rfl rfl rfl (Eq.trans (show _ = Value.bool (decide (¬ (x3091 = x3106))) from rfl) (congrArg Value.bool (decide_eq_true hc3121))) rfl ?_
                              refine WE.take 24 rfl (by decide +kernel) (by decide +kernel) (by decide +kernel) (by decide +kernel) rfl rfl (fun wq hq => R.pickT (v := Value.bool true) (Eq.trans (show _ = Value.bool (decide (¬ (x3091 = x3106))) from rfl) (congrArg Value.bool (decide_eq_true hc3121))) rfl) ?_
                              refine WE.done (by decide +kernel) ?_
                              refine thenN ?_
                              refine WC.condT rfl rfl ?_
                              refine WC.seq ?_
                              refine WC.region ?_
                              refine WL.val (R.assign (v := Value.bool false) rfl) rfl ?_
                              refine WL.nil ?_
                              refine thenN ?_
                              refine WC.ret ?_
                              have ht3123 := (hs3090.here).perm (L' := []) (G := [blk b112 43 [Value.slice a2 p2.1.length c2, Value.slice a2a p2.2.length c2a]]) ((List.Perm.refl _))
                              have hs3124 := hs3090.trans ht3123
                              obtain rfl := Option.some.inj (show some false = some r from h3122)
                              exact ret1 (P := Try.prog) (n := 178) (fn := Try.f4) (R := fun v w' => v = Value.bool false ∧ St [] w w' []) (t := 6) (v := Value.bool false) rfl rfl rfl ⟨rfl, hs3124⟩
                            · have h3125 := ifF hc3121 h3108
                              refine WE.takeY 10 (e := 161) rfl (by decide +kernel) (by decide +kernel) (by decide +kernel) (by decide +kernel) rfl rfl rfl rfl (Eq.trans (show _ = Value.bool (decide (¬ (x3091 = x3106))) from rfl) (congrArg Value.bool (decide_eq_false hc3121))) (fun wq hq => R.move (v := Value.int .i64 i3055) (by exact s3086)) ?_
                              refine WE.takeY 11 (e := 161) rfl (by decide +kernel) (by decide +kernel) (by decide +kernel) (by decide +kernel) rfl rfl rfl rfl (Eq.trans (show _ = Value.bool (decide (¬ (x3091 = x3106))) from rfl) (congrArg Value.bool (decide_eq_false hc3121))) (fun wq hq => R.move (v := Value.int .i64 (p0.2 % (4 + (p0.1 % 13)))) (by exact s3080)) ?_
                              by_cases hc3126 : i3055 = (p0.2 % (4 + (p0.1 % 13)))
                              · have h3127 := ifT hc3126 h3125
                                refine WE.takeY 12 (e := 161) rfl (by decide +kernel) (by decide +kernel) (by decide +kernel) (by decide +kernel) rfl rfl rfl rfl (Eq.trans (show _ = Value.bool (decide (¬ (x3091 = x3106))) from rfl) (congrArg Value.bool (decide_eq_false hc3121))) (fun wq hq => R.neqF (k := .i64) (a := i3055) (b := p0.2 % (4 + (p0.1 % 13))) un3 rfl rfl (not_not_intro hc3126)) ?_
                                refine WE.takeY 13 (e := 161) rfl (by decide +kernel) (by decide +kernel) (by decide +kernel) (by decide +kernel) rfl rfl rfl rfl (Eq.trans (show _ = Value.bool (decide (¬ (x3091 = x3106))) from rfl) (congrArg Value.bool (decide_eq_false hc3121))) (fun wq hq => R.move (v := Value.bool false) rfl) ?_
                                refine WE.takeN 14 (e := 165) (v := .bool false) rfl (by decide +kernel) (by decide +kernel) (by decide +kernel) (by decide +kernel) rfl rfl rfl rfl rfl ?_
                                refine WE.takeN 15 (e := 165) (v := .bool false) rfl (by decide +kernel) (by decide +kernel) (by decide +kernel) (by decide +kernel) rfl rfl rfl rfl rfl ?_
                                refine WE.takeN 16 (e := 165) (v := .bool false) rfl (by decide +kernel) (by decide +kernel) (by decide +kernel) (by decide +kernel) rfl rfl rfl rfl rfl ?_
                                refine WE.takeN 17 (e := 165) (v := .bool false) rfl (by decide +kernel) (by decide +kernel) (by decide +kernel) (by decide +kernel) rfl rfl rfl rfl rfl ?_
                                refine WE.takeN 18 (e := 165) (v := .bool false) rfl (by decide +kernel) (by decide +kernel) (by decide +kernel) (by decide +kernel) rfl rfl rfl rfl rfl ?_
                                refine WE.takeN 19 (e := 165) (v := .bool false) rfl (by decide +kernel) (by decide +kernel) (by decide +kernel) (by decide +kernel) rfl rfl rfl rfl rfl ?_
                                refine WE.takeN 20 (e := 165) (v := .bool false) rfl (by decide +kernel) (by decide +kernel) (by decide +kernel) (by decide +kernel) rfl rfl rfl rfl rfl ?_
                                refine WE.takeN 21 (e := 165) (v := .bool false) rfl (by decide +kernel) (by decide +kernel) (by decide +kernel) (by decide +kernel) rfl rfl rfl rfl rfl ?_
                                refine WE.takeN 22 (e := 165) (v := .bool false) rfl (by decide +kernel) (by decide +kernel) (by decide +kernel) (by decide +kernel) rfl rfl rfl rfl rfl ?_
                                refine WE.takeY 23 (e := 161) rfl (by decide +kernel) (by decide +kernel) (by decide +kernel) (by decide +kernel) rfl rfl rfl rfl (Eq.trans (show _ = Value.bool (decide (¬ (x3091 = x3106))) from rfl) (congrArg Value.bool (decide_eq_false hc3121))) (fun wq hq => R.pickF (v := Value.bool false) rfl rfl) ?_
                                refine WE.take 24 rfl (by decide +kernel) (by decide +kernel) (by decide +kernel) (by decide +kernel) rfl rfl (fun wq hq => R.pickF (v := Value.bool false) (Eq.trans (show _ = Value.bool (decide (¬ (x3091 = x3106))) from rfl) (congrArg Value.bool (decide_eq_false hc3121))) rfl) ?_
                                refine WE.done (by decide +kernel) ?_
                                refine thenN ?_
                                refine WC.condF rfl rfl ?_
                                refine WC.skip ?_
                                refine blockN ?_
                                refine thenN ?_
                                refine WC.region ?_
                                refine WL.val (R.move (v := Value.int .i64 i3055) (by exact s3086)) rfl ?_
                                obtain ⟨hg3128, h3129⟩ := ckE (c := -9223372036854775808 ≤ i3055 + 1 ∧ i3055 + 1 ≤ 9223372036854775807) h3127
                                refine WL.val (R.add (a := i3055) (b := 1) (z := i3055 + 1) rfl rfl (w64e rfl hg3128.1 hg3128.2)) rfl ?_
                                refine WL.val (R.assign (v := Value.int .i64 (i3055 + 1)) rfl) rfl ?_
                                refine WL.nil ?_
                                have hr3130 := elT ht3089 he3063
                                have hr3131 := elT ht3089 he3064
                                have hr3132 := elT ht3089 he3067
                                have hr3133 := elT ht3089 he3068
                                exact roundEnd (s := k3062) ⟨i3055 + 1, s3078, s3079, s3080, s3081, s3082, s3083, s3084, s3085, rfl, hr3130, hr3131, hr3113, hr3098, hr3132, hr3133, h3129, hs3090⟩ (Nat.lt_succ_self _)
                              · have h3134 := ifF hc3126 h3125
                                refine WE.takeY 12 (e := 161) rfl (by decide +kernel) (by decide +kernel) (by decide +kernel) (by decide +kernel) rfl rfl rfl rfl (Eq.trans (show _ = Value.bool (decide (¬ (x3091 = x3106))) from rfl) (congrArg Value.bool (decide_eq_false hc3121))) (fun wq hq => R.neqT (k := .i64) (a := i3055) (b := p0.2 % (4 + (p0.1 % 13))) un3 rfl rfl hc3126) ?_
                                refine WE.takeY 13 (e := 161) rfl (by decide +kernel) (by decide +kernel) (by decide +kernel) (by decide +kernel) rfl rfl rfl rfl (Eq.trans (show _ = Value.bool (decide (¬ (x3091 = x3106))) from rfl) (congrArg Value.bool (decide_eq_false hc3121))) (fun wq hq => R.move (v := Value.bool true) rfl) ?_
                                refine WE.takeY 14 (e := 165) rfl (by decide +kernel) (by decide +kernel) (by decide +kernel) (by decide +kernel) rfl rfl rfl rfl rfl (fun wq hq => R.move (v := Value.slice a2863 y2858.length c2864) (by exact s3085)) ?_
                                refine WE.takeY 15 (e := 165) rfl (by decide +kernel) (by decide +kernel) (by decide +kernel) (by decide +kernel) rfl rfl rfl rfl rfl (fun wq hq => R.move (v := Value.int .i64 i3055) (by exact s3086)) ?_
                                refine WE.takeY 16 (e := 165) rfl (by decide +kernel) (by decide +kernel) (by decide +kernel) (by decide +kernel) rfl rfl rfl rfl rfl (fun wq hq => R.indexS (n := 56) (m := (i3055).toNat) (a := a2863) (ad := ad3099) (len := y2858.length) (cap := c2864) (z := i3055) un28 ag60.size rfl ha3100 rfl hm3097 hl3096 hp3101) ?_
                                refine WE.takeY 17 (e := 165) rfl (by decide +kernel) (by decide +kernel) (by decide +kernel) (by decide +kernel) rfl rfl rfl rfl rfl (fun wq hq => R.loadA (cs := encH x3091) (n := 56) ag60 rfl (At.exT hq hat3102) rfl) ?_
                                refine WE.takeY 18 (e := 165) rfl (by decide +kernel) (by decide +kernel) (by decide +kernel) (by decide +kernel) rfl rfl rfl rfl rfl (fun wq hq => R.move (v := Value.slice a1224 l1223.length c1225) (by exact s3081)) ?_
                                refine WE.takeY 19 (e := 165) rfl (by decide +kernel) (by decide +kernel) (by decide +kernel) (by decide +kernel) rfl rfl rfl rfl rfl (fun wq hq => R.move (v := Value.int .i64 i3055) (by exact s3086)) ?_
                                obtain ⟨x3135, hx3136, h3137⟩ := ob (o := rd l1223 i3055) h3134
                                obtain ⟨h03138, hx3139, hl3140, hm3141⟩ := rdE hx3136
                                have hr3142 := elT ht3089 he3063
                                obtain ⟨ad3143, e3148, ha3144, hp3145, hat3146, hrd3147⟩ := hr3142 _ _ hx3139
                                obtain ⟨-, rfl⟩ := hrd3147
                                refine WE.takeY 20 (e := 165) rfl (by decide +kernel) (by decide +kernel) (by decide +kernel) (by decide +kernel) rfl rfl rfl rfl rfl (fun wq hq => R.indexS (n := 56) (m := (i3055).toNat) (a := a1224) (ad := ad3143) (len := l1223.length) (cap := c1225) (z := i3055) un28 ag60.size rfl ha3144 rfl hm3141 hl3140 hp3145) ?_
                                refine WE.takeY 21 (e := 165) rfl (by decide +kernel) (by decide +kernel) (by decide +kernel) (by decide +kernel) rfl rfl rfl rfl rfl (fun wq hq => R.loadA (cs := encH x3135) (n := 56) ag60 rfl (At.exT hq hat3146) rfl) ?_
                                refine WE.takeY 22 (e := 165) rfl (by decide +kernel) (by decide +kernel) (by decide +kernel) (by decide +kernel) rfl rfl rfl rfl rfl (fun wq hq => R.neHeld (a := x3091) (b := x3135) rfl rfl) ?_
                                refine WE.takeY 23 (e := 161) rfl (by decide +kernel) (by decide +kernel) (by decide +kernel) (by decide +kernel) rfl rfl rfl rfl (Eq.trans (show _ = Value.bool (decide (¬ (x3091 = x3106))) from rfl) (congrArg Value.bool (decide_eq_false hc3121))) (fun wq hq => R.pickT (v := Value.bool (decide (¬ (x3091 = x3135)))) rfl rfl) ?_
                                refine WE.take 24 rfl (by decide +kernel) (by decide +kernel) (by decide +kernel) (by decide +kernel) rfl rfl (fun wq hq => R.pickF (v := Value.bool (decide (¬ (x3091 = x3135)))) (Eq.trans (show _ = Value.bool (decide (¬ (x3091 = x3106))) from rfl) (congrArg Value.bool (decide_eq_false hc3121))) rfl) ?_
                                refine WE.done (by decide +kernel) ?_
                                refine thenN ?_
                                by_cases hc3150 : ¬ (x3091 = x3135)
                                · have h3151 := ifT hc3150 h3137
                                  refine WC.condT (Eq.trans (show _ = Value.bool (decide (¬ (x3091 = x3135))) from rfl) (congrArg Value.bool (decide_eq_true hc3150))) rfl ?_
                                  refine WC.seq ?_
                                  refine WC.region ?_
                                  refine WL.val (R.assign (v := Value.bool false) rfl) rfl ?_
                                  refine WL.nil ?_
                                  refine thenN ?_
                                  refine WC.ret ?_
                                  have ht3152 := (hs3090.here).perm (L' := []) (G := [blk b112 43 [Value.slice a2 p2.1.length c2, Value.slice a2a p2.2.length c2a]]) ((List.Perm.refl _))
                                  have hs3153 := hs3090.trans ht3152
                                  obtain rfl := Option.some.inj (show some false = some r from h3151)
                                  exact ret1 (P := Try.prog) (n := 178) (fn := Try.f4) (R := fun v w' => v = Value.bool false ∧ St [] w w' []) (t := 6) (v := Value.bool false) rfl rfl rfl ⟨rfl, hs3153⟩
                                · have h3154 := ifF hc3150 h3137
                                  refine WC.condF (Eq.trans (show _ = Value.bool (decide (¬ (x3091 = x3135))) from rfl) (congrArg Value.bool (decide_eq_false hc3150))) rfl ?_
                                  refine WC.skip ?_
                                  refine blockN ?_
                                  refine thenN ?_
                                  refine WC.region ?_
                                  refine WL.val (R.move (v := Value.int .i64 i3055) (by exact s3086)) rfl ?_
                                  obtain ⟨hg3155, h3156⟩ := ckE (c := -9223372036854775808 ≤ i3055 + 1 ∧ i3055 + 1 ≤ 9223372036854775807) h3154
                                  refine WL.val (R.add (a := i3055) (b := 1) (z := i3055 + 1) rfl rfl (w64e rfl hg3155.1 hg3155.2)) rfl ?_
                                  refine WL.val (R.assign (v := Value.int .i64 (i3055 + 1)) rfl) rfl ?_
                                  refine WL.nil ?_
                                  have hr3157 := elT ht3089 he3064
                                  have hr3158 := elT ht3089 he3067
                                  have hr3159 := elT ht3089 he3068
                                  exact roundEnd (s := k3062) ⟨i3055 + 1, s3078, s3079, s3080, s3081, s3082, s3083, s3084, s3085, rfl, hr3142, hr3157, hr3113, hr3098, hr3158, hr3159, h3156, hs3090⟩ (Nat.lt_succ_self _)
                          · have h3160 := ifF hc3087 h3077
                            refine WL.val (R.lssF (k := .i64) (a := i3055) (b := 4 + (p0.1 % 13)) un3 rfl rfl hc3087) rfl ?_
                            refine WL.nil ?_
                            refine thenN ?_
                            refine WC.condF rfl rfl ?_
                            refine WC.exit ?_
                            refine thenE ?_
                            refine thenE ?_
                            refine blockHit ?_
                            exact joinI ⟨s3078, s3079, s3080, s3081, s3082, s3083, s3084, he3063, he3064, he3065, he3067, he3068, h3160, hs3061⟩
                        · rintro σ3070 w3069 ⟨s3162, s3163, s3164, s3165, s3166, s3167, s3168, he3072, he3073, he3074, he3075, he3076, h3161, hs3071⟩
                          subst hK3057
                          refine blockN ?_
                          refine thenN ?_
                          refine WC.region ?_
                          refine WL.val (R.move (v := Value.int .i64 i2588) (by exact s3168)) rfl ?_
                          obtain ⟨hg3169, h3170⟩ := ckE (c := -9223372036854775808 ≤ i2588 + 1 ∧ i2588 + 1 ≤ 9223372036854775807) h3161
                          refine WL.val (R.add (a := i2588) (b := 1) (z := i2588 + 1) rfl rfl (w64e rfl hg3169.1 hg3169.2)) rfl ?_
                          refine WL.val (R.assign (v := Value.int .i64 (i2588 + 1)) rfl) rfl ?_
                          refine WL.nil ?_
                          exact roundEnd (s := k2595) ⟨l2582, l2878, i2588 + 1, a2583, c2584, a2879, c2880, s3162, s3163, s3164, s3165, s3166, s3167, rfl, he3072, hl2598, he3073, hl2890, he3074, hn2891, he3075, he3076, h3170, hs3071⟩ (Nat.lt_succ_self _)
                    · have h3171 := ifF hc2872 h2860
                      refine WL.val (R.neqT (k := .i64) (a := ((y2858.length : Nat) : Int)) (b := 4 + (p0.1 % 13)) un3 rfl rfl hc2872) rfl ?_
                      refine WL.nil ?_
                      refine thenN ?_
                      refine WC.condT rfl rfl ?_
                      refine WC.seq ?_
                      refine WC.region ?_
                      refine WL.val (R.assign (v := Value.bool false) rfl) rfl ?_
                      refine WL.nil ?_
                      refine thenN ?_
                      refine WC.ret ?_
                      have ht3172 := (hs2870.here).perm (L' := []) (G := [blk b112 43 [Value.slice a2 p2.1.length c2, Value.slice a2a p2.2.length c2a]]) ((List.Perm.refl _))
                      have hs3173 := hs2870.trans ht3172
                      obtain rfl := Option.some.inj (show some false = some r from h3171)
                      exact ret1 (P := Try.prog) (n := 178) (fn := Try.f4) (R := fun v w' => v = Value.bool false ∧ St [] w w' []) (t := 6) (v := Value.bool false) rfl rfl rfl ⟨rfl, hs3173⟩
              · have h3174 := ifF hc2626 h2618
                refine WL.val (R.lssF (k := .i64) (a := i2588) (b := 4 + (p0.1 % 13)) un3 rfl rfl hc2626) rfl ?_
                refine WL.nil ?_
                refine thenN ?_
                refine WC.condF rfl rfl ?_
                refine WC.exit ?_
                refine thenE ?_
                refine thenE ?_
                refine blockHit ?_
                have ht3175 := (hs2594.here).perm (L' := []) (G := [blk b112 43 [Value.slice a2 p2.1.length c2, Value.slice a2a p2.2.length c2a]]) ((List.Perm.refl _))
                have hs3176 := hs2594.trans ht3175
                exact joinI ⟨h3174, hs3176⟩
            · rintro σ2616 w2615 ⟨h3177, hs2617⟩
              subst hK2590
              refine thenN ?_
              refine WC.seq ?_
              refine WC.region ?_
              obtain ⟨y3178, hx3179, h3180⟩ := ob (o := lives15 ) h3177
              refine WL.call (lives15_ok _ (In (fun _ => False) w [] [])   hx3179) (R.call (vs := []) (caps := []) bo31 rfl rfl) rfl ?_
              rintro v3183 w3184 ⟨rfl, ht3181⟩
              have ht3182 := hs2617.call (N := []) (M := []) (List.Perm.refl _) ht3181
              have hs3185 := hs2617.trans ht3182
              refine WL.val (R.assign (v := Value.bool y3178) rfl) rfl ?_
              refine WL.nil ?_
              refine thenN ?_
              refine WC.ret ?_
              obtain rfl := Option.some.inj (show some y3178 = some r from h3180)
              exact ret1 (P := Try.prog) (n := 178) (fn := Try.f4) (R := fun v w' => v = Value.bool y3178 ∧ St [] w w' []) (t := 6) (v := Value.bool y3178) rfl rfl rfl ⟨rfl, hs3185⟩

end Go.Proofs.Ytckcldimnelklaa
