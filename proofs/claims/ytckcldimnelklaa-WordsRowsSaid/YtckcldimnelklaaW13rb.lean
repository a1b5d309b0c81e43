/- The functions come to what their twins answer: group 13r. -/
import Derived.Test.YtckcldimnelklaaW13ba
import Derived.Test.YtckcldimnelklaaW13e
import Derived.Test.YtckcldimnelklaaW13ta
import Derived.Test.YtckcldimnelklaaW13u
import Derived.Test.YtckcldimnelklaaW13o
import Derived.Test.YtckcldimnelklaaWT
import Derived.Test.YtckcldimnelklaaD13r
import Derived.Test.YtckcldimnelklaaW13ra
namespace Go.Proofs.Ytckcldimnelklaa
open Go
set_option linter.unusedVariables false
set_option linter.unusedSimpArgs false
set_option maxRecDepth 100000
set_option maxHeartbeats 4000000

theorem rows13_ok (w : World) (ok : Nat → Prop) (p0 : Int) (p1 : Rw) (p2 : Rw) (a1 : Option Addr) (c1 : Nat) (he1 : elems heldW w ok a1 p1.table) (hc1 : p1.table.length ≤ c1) (a2 : Option Addr) (c2 : Nat) (he2 : elems heldW w ok a2 p2.table) (hc2 : p2.table.length ≤ c2) {r : Bool} (h : rows13 p0 p1 p2 = some r) :
    Ret Try.prog 15 [Value.int .i64 p0, Value.agg (List.toArray (encR p1 (Value.slice a1 p1.table.length c1))), Value.agg (List.toArray (encR p2 (Value.slice a2 p2.table.length c2)))] w (fun v w' => v = Value.bool r ∧ St [] w w' []) := by
  rw [rows13] at h
  have hs100 : St [] w w [] := St.start w
  have he1001 := el0 (L0 := []) (fun b _ => out_nil b) he1
  have he1002 := el0 (L0 := []) (fun b _ => out_nil b) he2
  refine enter (n := 88) Try.func15 rfl rfl rfl ?_
  refine WC.seq ?_
  refine WC.region ?_
  refine WL.new (L' := fun b103 => [blk b103 62 (encR p1 (Value.slice a1 p1.table.length c1))]) (f := fun b103 => Value.pointer (some ⟨b103, 0, none⟩)) (X.box (v := Value.agg (List.toArray (encR p1 (Value.slice a1 p1.table.length c1)))) (c := encR p1 (Value.slice a1 p1.table.length c1)) (hs100.here) rfl rfl (fun _ => rfl)) rfl ?_
  intro b103 w104 ht109 he106 hz107
  have hs110 := hs100.trans ht109
  refine WL.new (L' := fun b111 => [blk b103 62 (encR p1 (Value.slice a1 p1.table.length c1)), blk b111 62 (encR p2 (Value.slice a2 p2.table.length c2))]) (f := fun b111 => Value.pointer (some ⟨b111, 0, none⟩)) (X.box (v := Value.agg (List.toArray (encR p2 (Value.slice a2 p2.table.length c2)))) (c := encR p2 (Value.slice a2 p2.table.length c2)) (hs110.here) rfl rfl (fun _ => rfl)) rfl ?_
  intro b111 w112 ht117 he114 hz115
  have hs118 := hs110.trans ht117
  refine WL.val (R.assign (v := Value.bool false) rfl) rfl ?_
  refine WL.nil ?_
  refine thenN ?_
  refine WC.seq ?_
  refine WC.seq ?_
  refine WC.region ?_
  refine WL.val (R.fieldAddr (o := 0) (o' := 56) fa62_2 rfl rfl) rfl ?_
  refine WL.val (R.loadL (v := Value.slice a1 p1.table.length c1) lf28 rfl (hs118.at (i := 0) (off := 56) (n := 1) (cs := [Value.slice a1 p1.table.length c1]) rfl rfl rfl)) rfl ?_
  refine WL.val (R.len (a := a1) (n := p1.table.length) (c := c1) un28 rfl) rfl ?_
  by_cases hc119 : 400 < ((p1.table.length : Nat) : Int)
  · have h120 := ifT hc119 h
    refine WL.val (R.gtrT (k := .i64) (a := ((p1.table.length : Nat) : Int)) (b := 400) un3 rfl rfl hc119) rfl ?_
    refine WL.val (R.move (v := Value.bool true) rfl) rfl ?_
    refine WL.guardN (e := 15) (v := .bool true) rfl rfl rfl rfl ?_
    refine WL.guardN (e := 15) (v := .bool true) rfl rfl rfl rfl ?_
    refine WL.guardN (e := 15) (v := .bool true) rfl rfl rfl rfl ?_
    refine WL.guardN (e := 15) (v := .bool true) rfl rfl rfl rfl ?_
    refine WL.val (R.pickT (v := Value.bool true) rfl rfl) rfl ?_
    refine WL.nil ?_
    refine thenN ?_
    refine WC.condT rfl rfl ?_
    refine WC.seq ?_
    refine WC.region ?_
    obtain ⟨y121, hx122, h123⟩ := ob (o := lives13 ) h120
    refine WL.call (lives13_ok _ (In ok w [] [blk b103 62 (encR p1 (Value.slice a1 p1.table.length c1)), blk b111 62 (encR p2 (Value.slice a2 p2.table.length c2))])   hx122) (R.call (vs := []) (caps := []) bo60 rfl rfl) rfl ?_
    rintro v126 w127 ⟨rfl, ht124⟩
    have ht125 := hs118.call (N := [blk b103 62 (encR p1 (Value.slice a1 p1.table.length c1)), blk b111 62 (encR p2 (Value.slice a2 p2.table.length c2))]) (M := []) (List.Perm.refl _) ht124
    have hs128 := hs118.trans ht125
    refine WL.val (R.assign (v := Value.bool y121) rfl) rfl ?_
    refine WL.nil ?_
    refine thenN ?_
    refine WC.ret ?_
    have ht129 := (hs128.here).perm (L' := []) (G := [blk b103 62 (encR p1 (Value.slice a1 p1.table.length c1)), blk b111 62 (encR p2 (Value.slice a2 p2.table.length c2))]) ((List.Perm.refl _))
    have hs130 := hs128.trans ht129
    obtain rfl := Option.some.inj (show some y121 = some r from h123)
    exact ret1 (P := Try.prog) (n := 88) (fn := Try.f15) (R := fun v w' => v = Value.bool y121 ∧ St [] w w' []) (t := 6) (v := Value.bool y121) rfl rfl rfl ⟨rfl, hs130⟩
  · have h131 := ifF hc119 h
    refine WL.val (R.gtrF (k := .i64) (a := ((p1.table.length : Nat) : Int)) (b := 400) un3 rfl rfl hc119) rfl ?_
    refine WL.val (R.move (v := Value.bool false) rfl) rfl ?_
    refine WL.guardY (e := 15) rfl rfl rfl ?_
    refine WL.val (R.fieldAddr (o := 0) (o' := 56) fa62_2 rfl rfl) rfl ?_
    refine WL.guardY (e := 15) rfl rfl rfl ?_
    refine WL.val (R.loadL (v := Value.slice a2 p2.table.length c2) lf28 rfl (hs118.at (i := 1) (off := 56) (n := 1) (cs := [Value.slice a2 p2.table.length c2]) rfl rfl rfl)) rfl ?_
    refine WL.guardY (e := 15) rfl rfl rfl ?_
    refine WL.val (R.len (a := a2) (n := p2.table.length) (c := c2) un28 rfl) rfl ?_
    refine WL.guardY (e := 15) rfl rfl rfl ?_
    by_cases hc132 : 400 < ((p2.table.length : Nat) : Int)
    · have h133 := ifT hc132 h131
      refine WL.val (R.gtrT (k := .i64) (a := ((p2.table.length : Nat) : Int)) (b := 400) un3 rfl rfl hc132) rfl ?_
      refine WL.val (R.pickF (v := Value.bool true) rfl rfl) rfl ?_
      refine WL.nil ?_
      refine thenN ?_
      refine WC.condT rfl rfl ?_
      refine WC.seq ?_
      refine WC.region ?_
      obtain ⟨y134, hx135, h136⟩ := ob (o := lives13 ) h133
      refine WL.call (lives13_ok _ (In ok w [] [blk b103 62 (encR p1 (Value.slice a1 p1.table.length c1)), blk b111 62 (encR p2 (Value.slice a2 p2.table.length c2))])   hx135) (R.call (vs := []) (caps := []) bo60 rfl rfl) rfl ?_
      rintro v139 w140 ⟨rfl, ht137⟩
      have ht138 := hs118.call (N := [blk b103 62 (encR p1 (Value.slice a1 p1.table.length c1)), blk b111 62 (encR p2 (Value.slice a2 p2.table.length c2))]) (M := []) (List.Perm.refl _) ht137
      have hs141 := hs118.trans ht138
      refine WL.val (R.assign (v := Value.bool y134) rfl) rfl ?_
      refine WL.nil ?_
      refine thenN ?_
      refine WC.ret ?_
      have ht142 := (hs141.here).perm (L' := []) (G := [blk b103 62 (encR p1 (Value.slice a1 p1.table.length c1)), blk b111 62 (encR p2 (Value.slice a2 p2.table.length c2))]) ((List.Perm.refl _))
      have hs143 := hs141.trans ht142
      obtain rfl := Option.some.inj (show some y134 = some r from h136)
      exact ret1 (P := Try.prog) (n := 88) (fn := Try.f15) (R := fun v w' => v = Value.bool y134 ∧ St [] w w' []) (t := 6) (v := Value.bool y134) rfl rfl rfl ⟨rfl, hs143⟩
    · have h144 := ifF hc132 h131
      refine WL.val (R.gtrF (k := .i64) (a := ((p2.table.length : Nat) : Int)) (b := 400) un3 rfl rfl hc132) rfl ?_
      refine WL.val (R.pickF (v := Value.bool false) rfl rfl) rfl ?_
      refine WL.nil ?_
      refine thenN ?_
      refine WC.condF rfl rfl ?_
      refine WC.skip ?_
      refine thenN ?_
      refine WC.seq ?_
      refine WC.region ?_
      refine WL.val (R.loadA (cs := encR p1 (Value.slice a1 p1.table.length c1)) (n := 57) ag62 rfl (hs118.at (i := 0) (off := 0) (n := 57) (cs := encR p1 (Value.slice a1 p1.table.length c1)) rfl rfl rfl) rfl) rfl ?_
      obtain ⟨y145, hx146, h147⟩ := ob (o := twin13 p1) h144
      have hr148 := elT (ht109.trans ht117) he1001
      refine WL.call (twin13_ok _ _ p1 _ _ hr148 hc1 hx146) (R.call (vs := [Value.agg (List.toArray (encR p1 (Value.slice a1 p1.table.length c1)))]) (caps := []) bo67 rfl rfl) rfl ?_
      rintro v157 w158 ⟨a151, c152, rfl, hl153, he154, ht155, hu156, ht149⟩
      have ht150 := hs118.call (N := [blk b103 62 (encR p1 (Value.slice a1 p1.table.length c1)), blk b111 62 (encR p2 (Value.slice a2 p2.table.length c2))]) (M := []) (List.Perm.refl _) ht149
      have he159 := elC hs118 (M := []) (List.Perm.refl _) ht149 he154
      have hu160 := elC hs118 (M := []) (List.Perm.refl _) ht149 hu156
      have hs161 := hs118.trans ht150
      refine WL.new (L' := fun b164 => [blk b103 62 (encR p1 (Value.slice a1 p1.table.length c1)), blk b111 62 (encR p2 (Value.slice a2 p2.table.length c2)), blk b164 62 (encR Rw.none (Value.slice none 0 0))]) (f := fun b164 => Value.pointer (some ⟨b164, 0, none⟩)) (X.alloc (c := encR Rw.none (Value.slice none 0 0)) (hs161.here) zr62 rfl (fun _ => rfl)) rfl ?_
      intro b164 w165 ht170 he167 hz168
      have hs171 := hs161.trans ht170
      refine WL.sto (L' := [blk b103 62 (encR p1 (Value.slice a1 p1.table.length c1)), blk b111 62 (encR p2 (Value.slice a2 p2.table.length c2)), blk b164 62 (encR y145 (Value.slice a151 y145.table.length c152))]) (X.store (i := 2) (n := 57) (b := b164) (off := 0) (c := encR Rw.none (Value.slice none 0 0)) (U := 62) (vs := encR y145 (Value.slice a151 y145.table.length c152)) (v := Value.agg (List.toArray (encR y145 (Value.slice a151 y145.table.length c152)))) (c' := encR y145 (Value.slice a151 y145.table.length c152)) (hs171.here) rfl ag62.size rfl rfl rfl rfl rfl rfl rfl rfl) rfl rfl ?_
      intro w172 ht173
      have hs174 := hs171.trans ht173
      refine WL.nil ?_
      refine thenN ?_
      refine WC.seq ?_
      refine WC.region ?_
      refine WL.val (R.loadA (cs := encR p2 (Value.slice a2 p2.table.length c2)) (n := 57) ag62 rfl (hs174.at (i := 1) (off := 0) (n := 57) (cs := encR p2 (Value.slice a2 p2.table.length c2)) rfl rfl rfl) rfl) rfl ?_
      obtain ⟨y175, hx176, h177⟩ := ob (o := twin13 p2) h147
      have hr178 := elT ((((ht109.trans ht117).trans ht150).trans ht170).trans ht173) he1002
      refine WL.call (twin13_ok _ _ p2 _ _ hr178 hc2 hx176) (R.call (vs := [Value.agg (List.toArray (encR p2 (Value.slice a2 p2.table.length c2)))]) (caps := []) bo67 rfl rfl) rfl ?_
      rintro v187 w188 ⟨a181, c182, rfl, hl183, he184, ht185, hu186, ht179⟩
      have ht180 := hs174.call (N := [blk b103 62 (encR p1 (Value.slice a1 p1.table.length c1)), blk b111 62 (encR p2 (Value.slice a2 p2.table.length c2)), blk b164 62 (encR y145 (Value.slice a151 y145.table.length c152))]) (M := []) (List.Perm.refl _) ht179
      have he189 := elC hs174 (M := []) (List.Perm.refl _) ht179 he184
      have hu190 := elC hs174 (M := []) (List.Perm.refl _) ht179 hu186
      have hs191 := hs174.trans ht180
      refine WL.new (L' := fun b194 => [blk b103 62 (encR p1 (Value.slice a1 p1.table.length c1)), blk b111 62 (encR p2 (Value.slice a2 p2.table.length c2)), blk b164 62 (encR y145 (Value.slice a151 y145.table.length c152)), blk b194 62 (encR Rw.none (Value.slice none 0 0))]) (f := fun b194 => Value.pointer (some ⟨b194, 0, none⟩)) (X.alloc (c := encR Rw.none (Value.slice none 0 0)) (hs191.here) zr62 rfl (fun _ => rfl)) rfl ?_
      intro b194 w195 ht200 he197 hz198
      have hs201 := hs191.trans ht200
      refine WL.sto (L' := [blk b103 62 (encR p1 (Value.slice a1 p1.table.length c1)), blk b111 62 (encR p2 (Value.slice a2 p2.table.length c2)), blk b164 62 (encR y145 (Value.slice a151 y145.table.length c152)), blk b194 62 (encR y175 (Value.slice a181 y175.table.length c182))]) (X.store (i := 3) (n := 57) (b := b194) (off := 0) (c := encR Rw.none (Value.slice none 0 0)) (U := 62) (vs := encR y175 (Value.slice a181 y175.table.length c182)) (v := Value.agg (List.toArray (encR y175 (Value.slice a181 y175.table.length c182)))) (c' := encR y175 (Value.slice a181 y175.table.length c182)) (hs201.here) rfl ag62.size rfl rfl rfl rfl rfl rfl rfl rfl) rfl rfl ?_
      intro w202 ht203
      have hs204 := hs201.trans ht203
      refine WL.nil ?_
      refine thenN ?_
      refine WC.seq ?_
      refine WC.region ?_
      refine WL.val (R.loadA (cs := encR y145 (Value.slice a151 y145.table.length c152)) (n := 57) ag62 rfl (hs204.at (i := 2) (off := 0) (n := 57) (cs := encR y145 (Value.slice a151 y145.table.length c152)) rfl rfl rfl) rfl) rfl ?_
      obtain ⟨y205, hx206, h207⟩ := ob (o := copy13 y145) h177
      have hr208 := elT ((((ht170.trans ht173).trans ht180).trans ht200).trans ht203) he159
      refine WL.call (copy13_ok _ (fun _ => True) y145 _ _ (elAll hr208) hl153 hx206) (R.call (vs := [Value.agg (List.toArray (encR y145 (Value.slice a151 y145.table.length c152)))]) (caps := []) bo68 rfl rfl) rfl ?_
      rintro v213 w214 ⟨a211, c212, rfl, ht209⟩
      have ht210 := hs204.call (N := [blk b103 62 (encR p1 (Value.slice a1 p1.table.length c1)), blk b111 62 (encR p2 (Value.slice a2 p2.table.length c2)), blk b164 62 (encR y145 (Value.slice a151 y145.table.length c152)), blk b194 62 (encR y175 (Value.slice a181 y175.table.length c182))]) (M := []) (List.Perm.refl _) ht209
      have hs216 := hs204.trans ht210
      refine WL.new (L' := fun b217 => [gslC 60 heldE (Value.slice a211 y205.table.length c212) y205.table, blk b103 62 (encR p1 (Value.slice a1 p1.table.length c1)), blk b111 62 (encR p2 (Value.slice a2 p2.table.length c2)), blk b164 62 (encR y145 (Value.slice a151 y145.table.length c152)), blk b194 62 (encR y175 (Value.slice a181 y175.table.length c182)), blk b217 62 (encR Rw.none (Value.slice none 0 0))]) (f := fun b217 => Value.pointer (some ⟨b217, 0, none⟩)) (X.alloc (c := encR Rw.none (Value.slice none 0 0)) (hs216.here) zr62 rfl (fun _ => rfl)) rfl ?_
      intro b217 w218 ht223 he220 hz221
      have hs224 := hs216.trans ht223
      refine WL.sto (L' := [gslC 60 heldE (Value.slice a211 y205.table.length c212) y205.table, blk b103 62 (encR p1 (Value.slice a1 p1.table.length c1)), blk b111 62 (encR p2 (Value.slice a2 p2.table.length c2)), blk b164 62 (encR y145 (Value.slice a151 y145.table.length c152)), blk b194 62 (encR y175 (Value.slice a181 y175.table.length c182)), blk b217 62 (encR y205 (Value.slice a211 y205.table.length c212))]) (X.store (i := 5) (n := 57) (b := b217) (off := 0) (c := encR Rw.none (Value.slice none 0 0)) (U := 62) (vs := encR y205 (Value.slice a211 y205.table.length c212)) (v := Value.agg (List.toArray (encR y205 (Value.slice a211 y205.table.length c212)))) (c' := encR y205 (Value.slice a211 y205.table.length c212)) (hs224.here) rfl ag62.size rfl rfl rfl rfl rfl rfl rfl rfl) rfl rfl ?_
      intro w225 ht226
      have hs227 := hs224.trans ht226
      refine WL.nil ?_
      refine thenN ?_
      refine WC.seq ?_
      refine WC.region ?_
      refine WL.val (R.move (v := Value.int .i64 p0) rfl) rfl ?_
      refine WL.val (R.loadA (cs := encR y145 (Value.slice a151 y145.table.length c152)) (n := 57) ag62 rfl (hs227.at (i := 3) (off := 0) (n := 57) (cs := encR y145 (Value.slice a151 y145.table.length c152)) rfl rfl rfl) rfl) rfl ?_
      obtain ⟨y228, hx229, h230⟩ := ob (o := plaino13 p0 y145) h207
      have hr231 := elT ((ht210.trans ht223).trans ht226) hr208
      refine WL.call (plaino13_ok _ (fun _ => True) p0 y145 _ _ (elAll hr231) hl153 hx229) (R.call (vs := [Value.int .i64 p0, Value.agg (List.toArray (encR y145 (Value.slice a151 y145.table.length c152)))]) (caps := []) bo69 rfl rfl) rfl ?_
      rintro v236 w237 ⟨a234, c235, rfl, ht232⟩
      have ht233 := hs227.call (N := [gslC 60 heldE (Value.slice a211 y205.table.length c212) y205.table, blk b103 62 (encR p1 (Value.slice a1 p1.table.length c1)), blk b111 62 (encR p2 (Value.slice a2 p2.table.length c2)), blk b164 62 (encR y145 (Value.slice a151 y145.table.length c152)), blk b194 62 (encR y175 (Value.slice a181 y175.table.length c182)), blk b217 62 (encR y205 (Value.slice a211 y205.table.length c212))]) (M := []) (List.Perm.refl _) ht232
      have hs239 := hs227.trans ht233
      refine WL.new (L' := fun b240 => [gsl 60 heldE (Value.slice a234 y228.table.length c235) y228.table, gslC 60 heldE (Value.slice a211 y205.table.length c212) y205.table, blk b103 62 (encR p1 (Value.slice a1 p1.table.length c1)), blk b111 62 (encR p2 (Value.slice a2 p2.table.length c2)), blk b164 62 (encR y145 (Value.slice a151 y145.table.length c152)), blk b194 62 (encR y175 (Value.slice a181 y175.table.length c182)), blk b217 62 (encR y205 (Value.slice a211 y205.table.length c212)), blk b240 62 (encR Rw.none (Value.slice none 0 0))]) (f := fun b240 => Value.pointer (some ⟨b240, 0, none⟩)) (X.alloc (c := encR Rw.none (Value.slice none 0 0)) (hs239.here) zr62 rfl (fun _ => rfl)) rfl ?_
      intro b240 w241 ht246 he243 hz244
      have hs247 := hs239.trans ht246
      refine WL.sto (L' := [gsl 60 heldE (Value.slice a234 y228.table.length c235) y228.table, gslC 60 heldE (Value.slice a211 y205.table.length c212) y205.table, blk b103 62 (encR p1 (Value.slice a1 p1.table.length c1)), blk b111 62 (encR p2 (Value.slice a2 p2.table.length c2)), blk b164 62 (encR y145 (Value.slice a151 y145.table.length c152)), blk b194 62 (encR y175 (Value.slice a181 y175.table.length c182)), blk b217 62 (encR y205 (Value.slice a211 y205.table.length c212)), blk b240 62 (encR y228 (Value.slice a234 y228.table.length c235))]) (X.store (i := 7) (n := 57) (b := b240) (off := 0) (c := encR Rw.none (Value.slice none 0 0)) (U := 62) (vs := encR y228 (Value.slice a234 y228.table.length c235)) (v := Value.agg (List.toArray (encR y228 (Value.slice a234 y228.table.length c235)))) (c' := encR y228 (Value.slice a234 y228.table.length c235)) (hs247.here) rfl ag62.size rfl rfl rfl rfl rfl rfl rfl rfl) rfl rfl ?_
      intro w248 ht249
      have hs250 := hs247.trans ht249
      refine WL.nil ?_
      refine thenN ?_
      refine WC.seq ?_
      refine WC.seq ?_
      refine WC.drawE mixed (NP.then (NP.then NP.rq)) ?_
      have ht251 := (hs250.here).ext (Ext.drew _)
      have hs252 := hs250.trans ht251
      refine WE.take 0 rfl (by decide +kernel) (by decide +kernel) (by decide +kernel) (by decide +kernel) rfl rfl (fun wq hq => R.loadA (cs := encR y205 (Value.slice a211 y205.table.length c212)) (n := 57) ag62 rfl ((hs252.ext hq).at (i := 6) (off := 0) (n := 57) (cs := encR y205 (Value.slice a211 y205.table.length c212)) rfl rfl rfl) rfl) ?_
      refine WE.take 2 rfl (by decide +kernel) (by decide +kernel) (by decide +kernel) (by decide +kernel) rfl rfl (fun wq hq => R.loadA (cs := encR p1 (Value.slice a1 p1.table.length c1)) (n := 57) ag62 rfl ((hs252.ext hq).at (i := 2) (off := 0) (n := 57) (cs := encR p1 (Value.slice a1 p1.table.length c1)) rfl rfl rfl) rfl) ?_
      obtain ⟨y253, hx254, h255⟩ := ob (o := othero13 y205) h230
      obtain ⟨-, hl256, he257⟩ := gslU_elems (k := heldW) (gslC_U (hs252.get (i := 1) rfl)) rfl (fun _ _ _ => ⟨trivial, rfl⟩)
      refine WE.call 1 (by decide +kernel) rfl rfl rfl (othero13_ok _ (fun _ => True) y205 _ _ (elAll he257) hl256 hx254) (R.call (vs := [Value.agg (List.toArray (encR y205 (Value.slice a211 y205.table.length c212)))]) (caps := []) bo71 rfl rfl) ?_
      rintro v262 w263 ⟨a260, c261, rfl, ht258⟩
      refine ⟨.inr (show Ext _ _ from ht258.kept), ?_⟩
      have ht259 := hs252.call (N := [gsl 60 heldE (Value.slice a234 y228.table.length c235) y228.table, gslC 60 heldE (Value.slice a211 y205.table.length c212) y205.table, blk b103 62 (encR p1 (Value.slice a1 p1.table.length c1)), blk b111 62 (encR p2 (Value.slice a2 p2.table.length c2)), blk b164 62 (encR y145 (Value.slice a151 y145.table.length c152)), blk b194 62 (encR y175 (Value.slice a181 y175.table.length c182)), blk b217 62 (encR y205 (Value.slice a211 y205.table.length c212)), blk b240 62 (encR y228 (Value.slice a234 y228.table.length c235))]) (M := []) (List.Perm.refl _) ht258
      have hs265 := hs252.trans ht259
      obtain ⟨y266, hx267, h268⟩ := ob (o := othero13 p1) h255
      have hr269 := elT (((((((((((((ht150.trans ht170).trans ht173).trans ht180).trans ht200).trans ht203).trans ht210).trans ht223).trans ht226).trans ht233).trans ht246).trans ht249).trans ht251).trans ht259) hr148
      refine WE.call 3 (by decide +kernel) rfl rfl rfl (othero13_ok _ (fun _ => True) p1 _ _ (elAll hr269) hc1 hx267) (R.call (vs := [Value.agg (List.toArray (encR p1 (Value.slice a1 p1.table.length c1)))]) (caps := []) bo71 rfl rfl) ?_
      rintro v274 w275 ⟨a272, c273, rfl, ht270⟩
      refine ⟨.inr (show Ext _ _ from ht270.kept), ?_⟩
      have ht271 := hs265.call (N := [gsl 202 heldE (Value.slice a260 y253.table.length c261) y253.table, gsl 60 heldE (Value.slice a234 y228.table.length c235) y228.table, gslC 60 heldE (Value.slice a211 y205.table.length c212) y205.table, blk b103 62 (encR p1 (Value.slice a1 p1.table.length c1)), blk b111 62 (encR p2 (Value.slice a2 p2.table.length c2)), blk b164 62 (encR y145 (Value.slice a151 y145.table.length c152)), blk b194 62 (encR y175 (Value.slice a181 y175.table.length c182)), blk b217 62 (encR y205 (Value.slice a211 y205.table.length c212)), blk b240 62 (encR y228 (Value.slice a234 y228.table.length c235))]) (M := []) (List.Perm.refl _) ht270
      have hs277 := hs265.trans ht271
      obtain ⟨y278, hx279, h280⟩ := ob (o := rsame13 y253 y266) h268
      obtain ⟨-, hl281, he282⟩ := gsl_elemsV (k := heldW) (hs277.get (i := 1) rfl) rfl (fun _ _ _ _ => ⟨trivial, rfl⟩)
      obtain ⟨-, hl283, he284⟩ := gsl_elemsV (k := heldW) (hs277.get (i := 0) rfl) rfl (fun _ _ _ _ => ⟨trivial, rfl⟩)
      refine WE.call 4 (by decide +kernel) rfl rfl rfl (rsame13_ok _ (fun _ => True) y253 y266 _ _ (elAll he282) hl281 _ _ (elAll he284) hl283 hx279) (R.call (vs := [Value.agg (List.toArray (encR y253 (Value.slice a260 y253.table.length c261))), Value.agg (List.toArray (encR y266 (Value.slice a272 y266.table.length c273)))]) (caps := []) bo70 rfl rfl) ?_
      rintro v287 w288 ⟨rfl, ht285⟩
      refine ⟨.inr (show Ext _ _ from ht285.kept), ?_⟩
      have ht286 := hs277.call (N := [gsl 202 heldE (Value.slice a272 y266.table.length c273) y266.table, gsl 202 heldE (Value.slice a260 y253.table.length c261) y253.table, gsl 60 heldE (Value.slice a234 y228.table.length c235) y228.table, gslC 60 heldE (Value.slice a211 y205.table.length c212) y205.table, blk b103 62 (encR p1 (Value.slice a1 p1.table.length c1)), blk b111 62 (encR p2 (Value.slice a2 p2.table.length c2)), blk b164 62 (encR y145 (Value.slice a151 y145.table.length c152)), blk b194 62 (encR y175 (Value.slice a181 y175.table.length c182)), blk b217 62 (encR y205 (Value.slice a211 y205.table.length c212)), blk b240 62 (encR y228 (Value.slice a234 y228.table.length c235))]) (M := []) (List.Perm.refl _) ht285
      have hs289 := hs277.trans ht286
      refine WE.take 5 rfl (by decide +kernel) (by decide +kernel) (by decide +kernel) (by decide +kernel) rfl rfl (fun wq hq => R.not (b := y278) rfl) ?_
      refine WE.take 6 rfl (by decide +kernel) (by decide +kernel) (by decide +kernel) (by decide +kernel) rfl rfl (fun wq hq => R.move (v := Value.bool (!y278)) rfl) ?_
      by_cases hc290 : y278 = true
      · have h291 := ifT hc290 h280
        have hk292 : (!y278) = false := by simp [hc290]
        refine WE.takeY 7 (e := 37) rfl (by decide +kernel) (by decide +kernel) (by decide +kernel) (by decide +kernel) rfl rfl rfl rfl (Eq.trans (show _ = Value.bool (!y278) from rfl) (congrArg Value.bool hk292)) (fun wq hq => R.loadA (cs := encR y228 (Value.slice a234 y228.table.length c235)) (n := 57) ag62 rfl ((hs289.ext hq).at (i := 9) (off := 0) (n := 57) (cs := encR y228 (Value.slice a234 y228.table.length c235)) rfl rfl rfl) rfl) ?_
        refine WE.takeY 9 (e := 37) rfl (by decide +kernel) (by decide +kernel) (by decide +kernel) (by decide +kernel) rfl rfl rfl rfl (Eq.trans (show _ = Value.bool (!y278) from rfl) (congrArg Value.bool hk292)) (fun wq hq => R.move (v := Value.int .i64 p0) rfl) ?_
        refine WE.takeY 10 (e := 37) rfl (by decide +kernel) (by decide +kernel) (by decide +kernel) (by decide +kernel) rfl rfl rfl rfl (Eq.trans (show _ = Value.bool (!y278) from rfl) (congrArg Value.bool hk292)) (fun wq hq => R.loadA (cs := encR p1 (Value.slice a1 p1.table.length c1)) (n := 57) ag62 rfl ((hs289.ext hq).at (i := 4) (off := 0) (n := 57) (cs := encR p1 (Value.slice a1 p1.table.length c1)) rfl rfl rfl) rfl) ?_
        obtain ⟨y293, hx294, h295⟩ := ob (o := othero13 y228) h291
        obtain ⟨-, hl296, he297⟩ := gsl_elemsV (k := heldW) (hs289.get (i := 2) rfl) rfl (fun _ _ _ _ => ⟨trivial, rfl⟩)
        refine WE.callY 8 (e := 37) (by decide +kernel) rfl rfl rfl rfl rfl (Eq.trans (show _ = Value.bool (!y278) from rfl) (congrArg Value.bool hk292)) (othero13_ok _ (fun _ => True) y228 _ _ (elAll he297) hl296 hx294) (R.call (vs := [Value.agg (List.toArray (encR y228 (Value.slice a234 y228.table.length c235)))]) (caps := []) bo71 rfl rfl) ?_
        rintro v302 w303 ⟨a300, c301, rfl, ht298⟩
        refine ⟨.inr (show Ext _ _ from ht298.kept), ?_⟩
        have ht299 := hs289.call (N := [gsl 202 heldE (Value.slice a272 y266.table.length c273) y266.table, gsl 202 heldE (Value.slice a260 y253.table.length c261) y253.table, gsl 60 heldE (Value.slice a234 y228.table.length c235) y228.table, gslC 60 heldE (Value.slice a211 y205.table.length c212) y205.table, blk b103 62 (encR p1 (Value.slice a1 p1.table.length c1)), blk b111 62 (encR p2 (Value.slice a2 p2.table.length c2)), blk b164 62 (encR y145 (Value.slice a151 y145.table.length c152)), blk b194 62 (encR y175 (Value.slice a181 y175.table.length c182)), blk b217 62 (encR y205 (Value.slice a211 y205.table.length c212)), blk b240 62 (encR y228 (Value.slice a234 y228.table.length c235))]) (M := []) (List.Perm.refl _) ht298
        have hs305 := hs289.trans ht299
        obtain ⟨y306, hx307, h308⟩ := ob (o := othero13 p1) h295
        have hr309 := elT ((ht271.trans ht286).trans ht299) hr269
        refine WE.callY 11 (e := 37) (by decide +kernel) rfl rfl rfl rfl rfl (Eq.trans (show _ = Value.bool (!y278) from rfl) (congrArg Value.bool hk292)) (othero13_ok _ (fun _ => True) p1 _ _ (elAll hr309) hc1 hx307) (R.call (vs := [Value.agg (List.toArray (encR p1 (Value.slice a1 p1.table.length c1)))]) (caps := []) bo71 rfl rfl) ?_
        rintro v314 w315 ⟨a312, c313, rfl, ht310⟩
        refine ⟨.inr (show Ext _ _ from ht310.kept), ?_⟩
        have ht311 := hs305.call (N := [gsl 202 heldE (Value.slice a300 y293.table.length c301) y293.table, gsl 202 heldE (Value.slice a272 y266.table.length c273) y266.table, gsl 202 heldE (Value.slice a260 y253.table.length c261) y253.table, gsl 60 heldE (Value.slice a234 y228.table.length c235) y228.table, gslC 60 heldE (Value.slice a211 y205.table.length c212) y205.table, blk b103 62 (encR p1 (Value.slice a1 p1.table.length c1)), blk b111 62 (encR p2 (Value.slice a2 p2.table.length c2)), blk b164 62 (encR y145 (Value.slice a151 y145.table.length c152)), blk b194 62 (encR y175 (Value.slice a181 y175.table.length c182)), blk b217 62 (encR y205 (Value.slice a211 y205.table.length c212)), blk b240 62 (encR y228 (Value.slice a234 y228.table.length c235))]) (M := []) (List.Perm.refl _) ht310
        have hs317 := hs305.trans ht311
        obtain ⟨y318, hx319, h320⟩ := ob (o := rplaino13 p0 y306) h308
        obtain ⟨-, hl321, he322⟩ := gsl_elemsV (k := heldW) (hs317.get (i := 0) rfl) rfl (fun _ _ _ _ => ⟨trivial, rfl⟩)
        refine WE.callY 12 (e := 37) (by decide +kernel) rfl rfl rfl rfl rfl (Eq.trans (show _ = Value.bool (!y278) from rfl) (congrArg Value.bool hk292)) (rplaino13_ok _ (fun _ => True) p0 y306 _ _ (elAll he322) hl321 hx319) (R.call (vs := [Value.int .i64 p0, Value.agg (List.toArray (encR y306 (Value.slice a312 y306.table.length c313)))]) (caps := []) bo72 rfl rfl) ?_
        rintro v327 w328 ⟨a325, c326, rfl, ht323⟩
        refine ⟨.inr (show Ext _ _ from ht323.kept), ?_⟩
        have ht324 := hs317.call (N := [gsl 202 heldE (Value.slice a312 y306.table.length c313) y306.table, gsl 202 heldE (Value.slice a300 y293.table.length c301) y293.table, gsl 202 heldE (Value.slice a272 y266.table.length c273) y266.table, gsl 202 heldE (Value.slice a260 y253.table.length c261) y253.table, gsl 60 heldE (Value.slice a234 y228.table.length c235) y228.table, gslC 60 heldE (Value.slice a211 y205.table.length c212) y205.table, blk b103 62 (encR p1 (Value.slice a1 p1.table.length c1)), blk b111 62 (encR p2 (Value.slice a2 p2.table.length c2)), blk b164 62 (encR y145 (Value.slice a151 y145.table.length c152)), blk b194 62 (encR y175 (Value.slice a181 y175.table.length c182)), blk b217 62 (encR y205 (Value.slice a211 y205.table.length c212)), blk b240 62 (encR y228 (Value.slice a234 y228.table.length c235))]) (M := []) (List.Perm.refl _) ht323
        have hs330 := hs317.trans ht324
        obtain ⟨y331, hx332, h333⟩ := ob (o := rsame13 y293 y318) h320
        obtain ⟨-, hl334, he335⟩ := gsl_elemsV (k := heldW) (hs330.get (i := 2) rfl) rfl (fun _ _ _ _ => ⟨trivial, rfl⟩)
        obtain ⟨-, hl336, he337⟩ := gsl_elemsV (k := heldW) (hs330.get (i := 0) rfl) rfl (fun _ _ _ _ => ⟨trivial, rfl⟩)
        refine WE.callY 13 (e := 37) (by decide +kernel) rfl rfl rfl rfl rfl (Eq.trans (show _ = Value.bool (!y278) from rfl) (congrArg Value.bool hk292)) (rsame13_ok _ (fun _ => True) y293 y318 _ _ (elAll he335) hl334 _ _ (elAll he337) hl336 hx332) (R.call (vs := [Value.agg (List.toArray (encR y293 (Value.slice a300 y293.table.length c301))), Value.agg (List.toArray (encR y318 (Value.slice a325 y318.table.length c326)))]) (caps := []) bo70 rfl rfl) ?_
        rintro v340 w341 ⟨rfl, ht338⟩
        refine ⟨.inr (show Ext _ _ from ht338.kept), ?_⟩
        have ht339 := hs330.call (N := [gsl 202 heldE (Value.slice a325 y318.table.length c326) y318.table, gsl 202 heldE (Value.slice a312 y306.table.length c313) y306.table, gsl 202 heldE (Value.slice a300 y293.table.length c301) y293.table, gsl 202 heldE (Value.slice a272 y266.table.length c273) y266.table, gsl 202 heldE (Value.slice a260 y253.table.length c261) y253.table, gsl 60 heldE (Value.slice a234 y228.table.length c235) y228.table, gslC 60 heldE (Value.slice a211 y205.table.length c212) y205.table, blk b103 62 (encR p1 (Value.slice a1 p1.table.length c1)), blk b111 62 (encR p2 (Value.slice a2 p2.table.length c2)), blk b164 62 (encR y145 (Value.slice a151 y145.table.length c152)), blk b194 62 (encR y175 (Value.slice a181 y175.table.length c182)), blk b217 62 (encR y205 (Value.slice a211 y205.table.length c212)), blk b240 62 (encR y228 (Value.slice a234 y228.table.length c235))]) (M := []) (List.Perm.refl _) ht338
        have hs342 := hs330.trans ht339
        refine WE.takeY 14 (e := 37) rfl (by decide +kernel) (by decide +kernel) (by decide +kernel) (by decide +kernel) rfl rfl rfl rfl (Eq.trans (show _ = Value.bool (!y278) from rfl) (congrArg Value.bool hk292)) (fun wq hq => R.not (b := y331) rfl) ?_
        refine WE.take 15 rfl (by decide +kernel) (by decide +kernel) (by decide +kernel) (by decide +kernel) rfl rfl (fun wq hq => R.pickF (v := Value.bool (!y331)) (Eq.trans (show _ = Value.bool (!y278) from rfl) (congrArg Value.bool hk292)) rfl) ?_
        refine WE.take 16 rfl (by decide +kernel) (by decide +kernel) (by decide +kernel) (by decide +kernel) rfl rfl (fun wq hq => R.move (v := Value.bool (!y331)) rfl) ?_
        by_cases hc343 : y331 = true
        · have h344 := ifT hc343 h333
          have hk345 : (!y331) = false := by simp [hc343]
          refine WE.takeY 17 (e := 47) rfl (by decide +kernel) (by decide +kernel) (by decide +kernel) (by decide +kernel) rfl rfl rfl rfl (Eq.trans (show _ = Value.bool (!y331) from rfl) (congrArg Value.bool hk345)) (fun wq hq => R.loadA (cs := encR y145 (Value.slice a151 y145.table.length c152)) (n := 57) ag62 rfl ((hs342.ext hq).at (i := 9) (off := 0) (n := 57) (cs := encR y145 (Value.slice a151 y145.table.length c152)) rfl rfl rfl) rfl) ?_
          refine WE.takeY 18 (e := 47) rfl (by decide +kernel) (by decide +kernel) (by decide +kernel) (by decide +kernel) rfl rfl rfl rfl (Eq.trans (show _ = Value.bool (!y331) from rfl) (congrArg Value.bool hk345)) (fun wq hq => R.loadA (cs := encR y175 (Value.slice a181 y175.table.length c182)) (n := 57) ag62 rfl ((hs342.ext hq).at (i := 10) (off := 0) (n := 57) (cs := encR y175 (Value.slice a181 y175.table.length c182)) rfl rfl rfl) rfl) ?_
          refine WE.takeY 20 (e := 47) rfl (by decide +kernel) (by decide +kernel) (by decide +kernel) (by decide +kernel) rfl rfl rfl rfl (Eq.trans (show _ = Value.bool (!y331) from rfl) (congrArg Value.bool hk345)) (fun wq hq => R.loadA (cs := encR p1 (Value.slice a1 p1.table.length c1)) (n := 57) ag62 rfl ((hs342.ext hq).at (i := 7) (off := 0) (n := 57) (cs := encR p1 (Value.slice a1 p1.table.length c1)) rfl rfl rfl) rfl) ?_
          refine WE.takeY 22 (e := 47) rfl (by decide +kernel) (by decide +kernel) (by decide +kernel) (by decide +kernel) rfl rfl rfl rfl (Eq.trans (show _ = Value.bool (!y331) from rfl) (congrArg Value.bool hk345)) (fun wq hq => R.loadA (cs := encR p2 (Value.slice a2 p2.table.length c2)) (n := 57) ag62 rfl ((hs342.ext hq).at (i := 8) (off := 0) (n := 57) (cs := encR p2 (Value.slice a2 p2.table.length c2)) rfl rfl rfl) rfl) ?_
          obtain ⟨y346, hx347, h348⟩ := ob (o := same13 y145 y175) h344
          have hr349 := elT ((((((((((ht233.trans ht246).trans ht249).trans ht251).trans ht259).trans ht271).trans ht286).trans ht299).trans ht311).trans ht324).trans ht339) hr231
          have hr350 := elT (((((((((((((((ht200.trans ht203).trans ht210).trans ht223).trans ht226).trans ht233).trans ht246).trans ht249).trans ht251).trans ht259).trans ht271).trans ht286).trans ht299).trans ht311).trans ht324).trans ht339) he189
          refine WE.callY 19 (e := 47) (by decide +kernel) rfl rfl rfl rfl rfl (Eq.trans (show _ = Value.bool (!y331) from rfl) (congrArg Value.bool hk345)) (same13_ok _ (fun _ => True) y145 y175 _ _ (elAll hr349) hl153 _ _ (elAll hr350) hl183 hx347) (R.call (vs := [Value.agg (List.toArray (encR y145 (Value.slice a151 y145.table.length c152))), Value.agg (List.toArray (encR y175 (Value.slice a181 y175.table.length c182)))]) (caps := []) bo65 rfl rfl) ?_
          rintro v353 w354 ⟨rfl, ht351⟩
          refine ⟨.inr (show Ext _ _ from ht351.kept), ?_⟩
          have ht352 := hs342.call (N := [gsl 202 heldE (Value.slice a325 y318.table.length c326) y318.table, gsl 202 heldE (Value.slice a312 y306.table.length c313) y306.table, gsl 202 heldE (Value.slice a300 y293.table.length c301) y293.table, gsl 202 heldE (Value.slice a272 y266.table.length c273) y266.table, gsl 202 heldE (Value.slice a260 y253.table.length c261) y253.table, gsl 60 heldE (Value.slice a234 y228.table.length c235) y228.table, gslC 60 heldE (Value.slice a211 y205.table.length c212) y205.table, blk b103 62 (encR p1 (Value.slice a1 p1.table.length c1)), blk b111 62 (encR p2 (Value.slice a2 p2.table.length c2)), blk b164 62 (encR y145 (Value.slice a151 y145.table.length c152)), blk b194 62 (encR y175 (Value.slice a181 y175.table.length c182)), blk b217 62 (encR y205 (Value.slice a211 y205.table.length c212)), blk b240 62 (encR y228 (Value.slice a234 y228.table.length c235))]) (M := []) (List.Perm.refl _) ht351
          have hs355 := hs342.trans ht352
          obtain ⟨y356, hx357, h358⟩ := ob (o := othero13 p1) h348
          have hr359 := elT (((ht311.trans ht324).trans ht339).trans ht352) hr309
          refine WE.callY 21 (e := 47) (by decide +kernel) rfl rfl rfl rfl rfl (Eq.trans (show _ = Value.bool (!y331) from rfl) (congrArg Value.bool hk345)) (othero13_ok _ (fun _ => True) p1 _ _ (elAll hr359) hc1 hx357) (R.call (vs := [Value.agg (List.toArray (encR p1 (Value.slice a1 p1.table.length c1)))]) (caps := []) bo71 rfl rfl) ?_
          rintro v364 w365 ⟨a362, c363, rfl, ht360⟩
          refine ⟨.inr (show Ext _ _ from ht360.kept), ?_⟩
          have ht361 := hs355.call (N := [gsl 202 heldE (Value.slice a325 y318.table.length c326) y318.table, gsl 202 heldE (Value.slice a312 y306.table.length c313) y306.table, gsl 202 heldE (Value.slice a300 y293.table.length c301) y293.table, gsl 202 heldE (Value.slice a272 y266.table.length c273) y266.table, gsl 202 heldE (Value.slice a260 y253.table.length c261) y253.table, gsl 60 heldE (Value.slice a234 y228.table.length c235) y228.table, gslC 60 heldE (Value.slice a211 y205.table.length c212) y205.table, blk b103 62 (encR p1 (Value.slice a1 p1.table.length c1)), blk b111 62 (encR p2 (Value.slice a2 p2.table.length c2)), blk b164 62 (encR y145 (Value.slice a151 y145.table.length c152)), blk b194 62 (encR y175 (Value.slice a181 y175.table.length c182)), blk b217 62 (encR y205 (Value.slice a211 y205.table.length c212)), blk b240 62 (encR y228 (Value.slice a234 y228.table.length c235))]) (M := []) (List.Perm.refl _) ht360
          have hs367 := hs355.trans ht361
          obtain ⟨y368, hx369, h370⟩ := ob (o := othero13 p2) h358
          have hr371 := elT ((((((((((((((((((ht180.trans ht200).trans ht203).trans ht210).trans ht223).trans ht226).trans ht233).trans ht246).trans ht249).trans ht251).trans ht259).trans ht271).trans ht286).trans ht299).trans ht311).trans ht324).trans ht339).trans ht352).trans ht361) hr178
          refine WE.callY 23 (e := 47) (by decide +kernel) rfl rfl rfl rfl rfl (Eq.trans (show _ = Value.bool (!y331) from rfl) (congrArg Value.bool hk345)) (othero13_ok _ (fun _ => True) p2 _ _ (elAll hr371) hc2 hx369) (R.call (vs := [Value.agg (List.toArray (encR p2 (Value.slice a2 p2.table.length c2)))]) (caps := []) bo71 rfl rfl) ?_
          rintro v376 w377 ⟨a374, c375, rfl, ht372⟩
          refine ⟨.inr (show Ext _ _ from ht372.kept), ?_⟩
          have ht373 := hs367.call (N := [gsl 202 heldE (Value.slice a362 y356.table.length c363) y356.table, gsl 202 heldE (Value.slice a325 y318.table.length c326) y318.table, gsl 202 heldE (Value.slice a312 y306.table.length c313) y306.table, gsl 202 heldE (Value.slice a300 y293.table.length c301) y293.table, gsl 202 heldE (Value.slice a272 y266.table.length c273) y266.table, gsl 202 heldE (Value.slice a260 y253.table.length c261) y253.table, gsl 60 heldE (Value.slice a234 y228.table.length c235) y228.table, gslC 60 heldE (Value.slice a211 y205.table.length c212) y205.table, blk b103 62 (encR p1 (Value.slice a1 p1.table.length c1)), blk b111 62 (encR p2 (Value.slice a2 p2.table.length c2)), blk b164 62 (encR y145 (Value.slice a151 y145.table.length c152)), blk b194 62 (encR y175 (Value.slice a181 y175.table.length c182)), blk b217 62 (encR y205 (Value.slice a211 y205.table.length c212)), blk b240 62 (encR y228 (Value.slice a234 y228.table.length c235))]) (M := []) (List.Perm.refl _) ht372
          have hs379 := hs367.trans ht373
          obtain ⟨y380, hx381, h382⟩ := ob (o := rsame13 y356 y368) h370
          obtain ⟨-, hl383, he384⟩ := gsl_elemsV (k := heldW) (hs379.get (i := 1) rfl) rfl (fun _ _ _ _ => ⟨trivial, rfl⟩)
          obtain ⟨-, hl385, he386⟩ := gsl_elemsV (k := heldW) (hs379.get (i := 0) rfl) rfl (fun _ _ _ _ => ⟨trivial, rfl⟩)
          refine WE.callY 24 (e := 47) (by decide +kernel) rfl rfl rfl rfl rfl (Eq.trans (show _ = Value.bool (!y331) from rfl) (congrArg Value.bool hk345)) (rsame13_ok _ (fun _ => True) y356 y368 _ _ (elAll he384) hl383 _ _ (elAll he386) hl385 hx381) (R.call (vs := [Value.agg (List.toArray (encR y356 (Value.slice a362 y356.table.length c363))), Value.agg (List.toArray (encR y368 (Value.slice a374 y368.table.length c375)))]) (caps := []) bo70 rfl rfl) ?_
          rintro v389 w390 ⟨rfl, ht387⟩
          refine ⟨.inr (show Ext _ _ from ht387.kept), ?_⟩
          have ht388 := hs379.call (N := [gsl 202 heldE (Value.slice a374 y368.table.length c375) y368.table, gsl 202 heldE (Value.slice a362 y356.table.length c363) y356.table, gsl 202 heldE (Value.slice a325 y318.table.length c326) y318.table, gsl 202 heldE (Value.slice a312 y306.table.length c313) y306.table, gsl 202 heldE (Value.slice a300 y293.table.length c301) y293.table, gsl 202 heldE (Value.slice a272 y266.table.length c273) y266.table, gsl 202 heldE (Value.slice a260 y253.table.length c261) y253.table, gsl 60 heldE (Value.slice a234 y228.table.length c235) y228.table, gslC 60 heldE (Value.slice a211 y205.table.length c212) y205.table, blk b103 62 (encR p1 (Value.slice a1 p1.table.length c1)), blk b111 62 (encR p2 (Value.slice a2 p2.table.length c2)), blk b164 62 (encR y145 (Value.slice a151 y145.table.length c152)), blk b194 62 (encR y175 (Value.slice a181 y175.table.length c182)), blk b217 62 (encR y205 (Value.slice a211 y205.table.length c212)), blk b240 62 (encR y228 (Value.slice a234 y228.table.length c235))]) (M := []) (List.Perm.refl _) ht387
          have hs391 := hs379.trans ht388
          by_cases hc392 : y346 = true
          · have h393 := ifT hc392 h382
            by_cases hc394 : y380 = true
            · have h395 := ifT hc394 h393
              refine WE.takeY 25 (e := 47) rfl (by decide +kernel) (by decide +kernel) (by decide +kernel) (by decide +kernel) rfl rfl rfl rfl (Eq.trans (show _ = Value.bool (!y331) from rfl) (congrArg Value.bool hk345)) (fun wq hq => R.neB (a := true) (b := true) un4 (Eq.trans (show _ = Value.bool y346 from rfl) (congrArg Value.bool hc392)) (Eq.trans (show _ = Value.bool y380 from rfl) (congrArg Value.bool hc394))) ?_
              refine WE.take 26 rfl (by decide +kernel) (by decide +kernel) (by decide +kernel) (by decide +kernel) rfl rfl (fun wq hq => R.pickF (v := Value.bool false) (Eq.trans (show _ = Value.bool (!y331) from rfl) (congrArg Value.bool hk345)) rfl) ?_
              refine WE.take 27 rfl (by decide +kernel) (by decide +kernel) (by decide +kernel) (by decide +kernel) rfl rfl (fun wq hq => R.move (v := Value.bool false) rfl) ?_
              refine WE.takeY 28 (e := 58) rfl (by decide +kernel) (by decide +kernel) (by decide +kernel) (by decide +kernel) rfl rfl rfl rfl rfl (fun wq hq => R.loadA (cs := encR y145 (Value.slice a151 y145.table.length c152)) (n := 57) ag62 rfl ((hs391.ext hq).at (i := 11) (off := 0) (n := 57) (cs := encR y145 (Value.slice a151 y145.table.length c152)) rfl rfl rfl) rfl) ?_
              refine WE.takeY 29 (e := 58) rfl (by decide +kernel) (by decide +kernel) (by decide +kernel) (by decide +kernel) rfl rfl rfl rfl rfl (fun wq hq => R.loadA (cs := encR y205 (Value.slice a211 y205.table.length c212)) (n := 57) ag62 rfl ((hs391.ext hq).at (i := 13) (off := 0) (n := 57) (cs := encR y205 (Value.slice a211 y205.table.length c212)) rfl rfl rfl) rfl) ?_
              obtain ⟨y396, hx397, h398⟩ := ob (o := same13 y145 y205) h395
              have hr399 := elT (((ht352.trans ht361).trans ht373).trans ht388) hr349
              obtain ⟨-, hl400, he401⟩ := gslU_elems (k := heldW) (gslC_U (hs391.get (i := 8) rfl)) rfl (fun _ _ _ => ⟨trivial, rfl⟩)
              refine WE.callY 30 (e := 58) (by decide +kernel) rfl rfl rfl rfl rfl rfl (same13_ok _ (fun _ => True) y145 y205 _ _ (elAll hr399) hl153 _ _ (elAll he401) hl400 hx397) (R.call (vs := [Value.agg (List.toArray (encR y145 (Value.slice a151 y145.table.length c152))), Value.agg (List.toArray (encR y205 (Value.slice a211 y205.table.length c212)))]) (caps := []) bo65 rfl rfl) ?_
              rintro v404 w405 ⟨rfl, ht402⟩
              refine ⟨.inr (show Ext _ _ from ht402.kept), ?_⟩
              have ht403 := hs391.call (N := [gsl 202 heldE (Value.slice a374 y368.table.length c375) y368.table, gsl 202 heldE (Value.slice a362 y356.table.length c363) y356.table, gsl 202 heldE (Value.slice a325 y318.table.length c326) y318.table, gsl 202 heldE (Value.slice a312 y306.table.length c313) y306.table, gsl 202 heldE (Value.slice a300 y293.table.length c301) y293.table, gsl 202 heldE (Value.slice a272 y266.table.length c273) y266.table, gsl 202 heldE (Value.slice a260 y253.table.length c261) y253.table, gsl 60 heldE (Value.slice a234 y228.table.length c235) y228.table, gslC 60 heldE (Value.slice a211 y205.table.length c212) y205.table, blk b103 62 (encR p1 (Value.slice a1 p1.table.length c1)), blk b111 62 (encR p2 (Value.slice a2 p2.table.length c2)), blk b164 62 (encR y145 (Value.slice a151 y145.table.length c152)), blk b194 62 (encR y175 (Value.slice a181 y175.table.length c182)), blk b217 62 (encR y205 (Value.slice a211 y205.table.length c212)), blk b240 62 (encR y228 (Value.slice a234 y228.table.length c235))]) (M := []) (List.Perm.refl _) ht402
              have hs406 := hs391.trans ht403
              refine WE.takeY 31 (e := 58) rfl (by decide +kernel) (by decide +kernel) (by decide +kernel) (by decide +kernel) rfl rfl rfl rfl rfl (fun wq hq => R.not (b := y396) rfl) ?_
              refine WE.take 32 rfl (by decide +kernel) (by decide +kernel) (by decide +kernel) (by decide +kernel) rfl rfl (fun wq hq => R.pickF (v := Value.bool (!y396)) rfl rfl) ?_
              refine WE.take 33 rfl (by decide +kernel) (by decide +kernel) (by decide +kernel) (by decide +kernel) rfl rfl (fun wq hq => R.move (v := Value.bool (!y396)) rfl) ?_
              by_cases hc407 : y396 = true
              · have h408 := ifT hc407 h398
                have hk409 : (!y396) = false := by simp [hc407]
                refine WE.takeY 34 (e := 64) rfl (by decide +kernel) (by decide +kernel) (by decide +kernel) (by decide +kernel) rfl rfl rfl rfl (Eq.trans (show _ = Value.bool (!y396) from rfl) (congrArg Value.bool hk409)) (fun wq hq => R.fieldAddr (o := 0) (o' := 1) fa62_1 rfl rfl) ?_
                refine WE.takeY 35 (e := 64) rfl (by decide +kernel) (by decide +kernel) (by decide +kernel) (by decide +kernel) rfl rfl rfl rfl (Eq.trans (show _ = Value.bool (!y396) from rfl) (congrArg Value.bool hk409)) (fun wq hq => R.loadA (cs := encC p1.cell) (n := 55) ag58 rfl ((hs406.ext hq).at (i := 9) (off := 1) (n := 55) (cs := encC p1.cell) rfl rfl rfl) rfl) ?_
                refine WE.takeY 37 (e := 64) rfl (by decide +kernel) (by decide +kernel) (by decide +kernel) (by decide +kernel) rfl rfl rfl rfl (Eq.trans (show _ = Value.bool (!y396) from rfl) (congrArg Value.bool hk409)) (fun wq hq => R.fieldAddr (o := 0) (o' := 1) fa62_1 rfl rfl) ?_
                refine WE.takeY 38 (e := 64) rfl (by decide +kernel) (by decide +kernel) (by decide +kernel) (by decide +kernel) rfl rfl rfl rfl (Eq.trans (show _ = Value.bool (!y396) from rfl) (congrArg Value.bool hk409)) (fun wq hq => R.loadA (cs := encC p1.cell) (n := 55) ag58 rfl ((hs406.ext hq).at (i := 9) (off := 1) (n := 55) (cs := encC p1.cell) rfl rfl rfl) rfl) ?_
                obtain ⟨y410, hx411, h412⟩ := ob (o := cell13 p1.cell) h408
                refine WE.callY 36 (e := 64) (by decide +kernel) rfl rfl rfl rfl rfl (Eq.trans (show _ = Value.bool (!y396) from rfl) (congrArg Value.bool hk409)) (cell13_ok _ (In ok w [] [gsl 202 heldE (Value.slice a374 y368.table.length c375) y368.table, gsl 202 heldE (Value.slice a362 y356.table.length c363) y356.table, gsl 202 heldE (Value.slice a325 y318.table.length c326) y318.table, gsl 202 heldE (Value.slice a312 y306.table.length c313) y306.table, gsl 202 heldE (Value.slice a300 y293.table.length c301) y293.table, gsl 202 heldE (Value.slice a272 y266.table.length c273) y266.table, gsl 202 heldE (Value.slice a260 y253.table.length c261) y253.table, gsl 60 heldE (Value.slice a234 y228.table.length c235) y228.table, gslC 60 heldE (Value.slice a211 y205.table.length c212) y205.table, blk b103 62 (encR p1 (Value.slice a1 p1.table.length c1)), blk b111 62 (encR p2 (Value.slice a2 p2.table.length c2)), blk b164 62 (encR y145 (Value.slice a151 y145.table.length c152)), blk b194 62 (encR y175 (Value.slice a181 y175.table.length c182)), blk b217 62 (encR y205 (Value.slice a211 y205.table.length c212)), blk b240 62 (encR y228 (Value.slice a234 y228.table.length c235))]) p1.cell  hx411) (R.call (vs := [Value.agg (List.toArray (encC p1.cell))]) (caps := []) bo73 rfl rfl) ?_
                rintro v415 w416 ⟨rfl, ht413⟩
                refine ⟨.inr (show Ext _ _ from ht413.kept), ?_⟩
                have ht414 := hs406.call (N := [gsl 202 heldE (Value.slice a374 y368.table.length c375) y368.table, gsl 202 heldE (Value.slice a362 y356.table.length c363) y356.table, gsl 202 heldE (Value.slice a325 y318.table.length c326) y318.table, gsl 202 heldE (Value.slice a312 y306.table.length c313) y306.table, gsl 202 heldE (Value.slice a300 y293.table.length c301) y293.table, gsl 202 heldE (Value.slice a272 y266.table.length c273) y266.table, gsl 202 heldE (Value.slice a260 y253.table.length c261) y253.table, gsl 60 heldE (Value.slice a234 y228.table.length c235) y228.table, gslC 60 heldE (Value.slice a211 y205.table.length c212) y205.table, blk b103 62 (encR p1 (Value.slice a1 p1.table.length c1)), blk b111 62 (encR p2 (Value.slice a2 p2.table.length c2)), blk b164 62 (encR y145 (Value.slice a151 y145.table.length c152)), blk b194 62 (encR y175 (Value.slice a181 y175.table.length c182)), blk b217 62 (encR y205 (Value.slice a211 y205.table.length c212)), blk b240 62 (encR y228 (Value.slice a234 y228.table.length c235))]) (M := []) (List.Perm.refl _) ht413
                have hs417 := hs406.trans ht414
                obtain ⟨y418, hx419, h420⟩ := ob (o := rcell13 p1.cell) h412
                refine WE.callY 39 (e := 64) (by decide +kernel) rfl rfl rfl rfl rfl (Eq.trans (show _ = Value.bool (!y396) from rfl) (congrArg Value.bool hk409)) (rcell13_ok _ (In ok w [] [gsl 202 heldE (Value.slice a374 y368.table.length c375) y368.table, gsl 202 heldE (Value.slice a362 y356.table.length c363) y356.table, gsl 202 heldE (Value.slice a325 y318.table.length c326) y318.table, gsl 202 heldE (Value.slice a312 y306.table.length c313) y306.table, gsl 202 heldE (Value.slice a300 y293.table.length c301) y293.table, gsl 202 heldE (Value.slice a272 y266.table.length c273) y266.table, gsl 202 heldE (Value.slice a260 y253.table.length c261) y253.table, gsl 60 heldE (Value.slice a234 y228.table.length c235) y228.table, gslC 60 heldE (Value.slice a211 y205.table.length c212) y205.table, blk b103 62 (encR p1 (Value.slice a1 p1.table.length c1)), blk b111 62 (encR p2 (Value.slice a2 p2.table.length c2)), blk b164 62 (encR y145 (Value.slice a151 y145.table.length c152)), blk b194 62 (encR y175 (Value.slice a181 y175.table.length c182)), blk b217 62 (encR y205 (Value.slice a211 y205.table.length c212)), blk b240 62 (encR y228 (Value.slice a234 y228.table.length c235))]) p1.cell  hx419) (R.call (vs := [Value.agg (List.toArray (encC p1.cell))]) (caps := []) bo74 rfl rfl) ?_
                rintro v423 w424 ⟨rfl, ht421⟩
                refine ⟨.inr (show Ext _ _ from ht421.kept), ?_⟩
                have ht422 := hs417.call (N := [gsl 202 heldE (Value.slice a374 y368.table.length c375) y368.table, gsl 202 heldE (Value.slice a362 y356.table.length c363) y356.table, gsl 202 heldE (Value.slice a325 y318.table.length c326) y318.table, gsl 202 heldE (Value.slice a312 y306.table.length c313) y306.table, gsl 202 heldE (Value.slice a300 y293.table.length c301) y293.table, gsl 202 heldE (Value.slice a272 y266.table.length c273) y266.table, gsl 202 heldE (Value.slice a260 y253.table.length c261) y253.table, gsl 60 heldE (Value.slice a234 y228.table.length c235) y228.table, gslC 60 heldE (Value.slice a211 y205.table.length c212) y205.table, blk b103 62 (encR p1 (Value.slice a1 p1.table.length c1)), blk b111 62 (encR p2 (Value.slice a2 p2.table.length c2)), blk b164 62 (encR y145 (Value.slice a151 y145.table.length c152)), blk b194 62 (encR y175 (Value.slice a181 y175.table.length c182)), blk b217 62 (encR y205 (Value.slice a211 y205.table.length c212)), blk b240 62 (encR y228 (Value.slice a234 y228.table.length c235))]) (M := []) (List.Perm.refl _) ht421
                have hs425 := hs417.trans ht422
                refine WE.takeY 40 (e := 64) rfl (by decide +kernel) (by decide +kernel) (by decide +kernel) (by decide +kernel) rfl rfl rfl rfl (Eq.trans (show _ = Value.bool (!y396) from rfl) (congrArg Value.bool hk409)) (fun wq hq => R.neCell (a := y410) (b := y418) rfl rfl) ?_
                refine WE.take 41 rfl (by decide +kernel) (by decide +kernel) (by decide +kernel) (by decide +kernel) rfl rfl (fun wq hq => R.pickF (v := Value.bool (decide (¬ (y410 = y418)))) (Eq.trans (show _ = Value.bool (!y396) from rfl) (congrArg Value.bool hk409)) rfl) ?_
                refine WE.done (by decide +kernel) ?_
                refine thenN ?_
                by_cases hc426 : ¬ (y410 = y418)
                · have h427 := ifT hc426 h420
                  refine WC.condT (Eq.trans (show _ = Value.bool (decide (¬ (y410 = y418))) from rfl) (congrArg Value.bool (decide_eq_true hc426))) rfl ?_
                  refine WC.seq ?_
                  refine WC.region ?_
                  refine WL.val (R.assign (v := Value.bool false) rfl) rfl ?_
                  refine WL.nil ?_
                  refine thenN ?_
                  refine WC.ret ?_
                  have ht428 := (hs425.here).perm (L' := []) (G := [gsl 202 heldE (Value.slice a374 y368.table.length c375) y368.table, gsl 202 heldE (Value.slice a362 y356.table.length c363) y356.table, gsl 202 heldE (Value.slice a325 y318.table.length c326) y318.table, gsl 202 heldE (Value.slice a312 y306.table.length c313) y306.table, gsl 202 heldE (Value.slice a300 y293.table.length c301) y293.table, gsl 202 heldE (Value.slice a272 y266.table.length c273) y266.table, gsl 202 heldE (Value.slice a260 y253.table.length c261) y253.table, gsl 60 heldE (Value.slice a234 y228.table.length c235) y228.table, gslC 60 heldE (Value.slice a211 y205.table.length c212) y205.table, blk b103 62 (encR p1 (Value.slice a1 p1.table.length c1)), blk b111 62 (encR p2 (Value.slice a2 p2.table.length c2)), blk b164 62 (encR y145 (Value.slice a151 y145.table.length c152)), blk b194 62 (encR y175 (Value.slice a181 y175.table.length c182)), blk b217 62 (encR y205 (Value.slice a211 y205.table.length c212)), blk b240 62 (encR y228 (Value.slice a234 y228.table.length c235))]) ((List.Perm.refl _))
                  have hs429 := hs425.trans ht428
                  obtain rfl := Option.some.inj (show some false = some r from h427)
                  exact ret1 (P := Try.prog) (n := 88) (fn := Try.f15) (R := fun v w' => v = Value.bool false ∧ St [] w w' []) (t := 6) (v := Value.bool false) rfl rfl rfl ⟨rfl, hs429⟩
                · have h430 := ifF hc426 h420
                  refine WC.condF (Eq.trans (show _ = Value.bool (decide (¬ (y410 = y418))) from rfl) (congrArg Value.bool (decide_eq_false hc426))) rfl ?_
                  refine WC.skip ?_
                  refine thenN ?_
                  refine WC.seq ?_
                  refine WC.region ?_
                  refine WL.val (R.loadA (cs := encR y205 (Value.slice a211 y205.table.length c212)) (n := 57) ag62 rfl (hs425.at (i := 13) (off := 0) (n := 57) (cs := encR y205 (Value.slice a211 y205.table.length c212)) rfl rfl rfl) rfl) rfl ?_
                  refine WL.call (spoil13_C _ y205 _ _ _ _ (show St [gslC 60 heldE (Value.slice a211 y205.table.length c212) y205.table] _ _ [gslC 60 heldE (Value.slice a211 y205.table.length c212) y205.table] from St.ofM (M := [gslC 60 heldE (Value.slice a211 y205.table.length c212) y205.table]) (N := [gsl 202 heldE (Value.slice a374 y368.table.length c375) y368.table, gsl 202 heldE (Value.slice a362 y356.table.length c363) y356.table, gsl 202 heldE (Value.slice a325 y318.table.length c326) y318.table, gsl 202 heldE (Value.slice a312 y306.table.length c313) y306.table, gsl 202 heldE (Value.slice a300 y293.table.length c301) y293.table, gsl 202 heldE (Value.slice a272 y266.table.length c273) y266.table, gsl 202 heldE (Value.slice a260 y253.table.length c261) y253.table, gsl 60 heldE (Value.slice a234 y228.table.length c235) y228.table, blk b103 62 (encR p1 (Value.slice a1 p1.table.length c1)), blk b111 62 (encR p2 (Value.slice a2 p2.table.length c2)), blk b164 62 (encR y145 (Value.slice a151 y145.table.length c152)), blk b194 62 (encR y175 (Value.slice a181 y175.table.length c182)), blk b217 62 (encR y205 (Value.slice a211 y205.table.length c212)), blk b240 62 (encR y228 (Value.slice a234 y228.table.length c235))]) hs425 (((List.perm_middle (l₁ := [gsl 202 heldE (Value.slice a374 y368.table.length c375) y368.table, gsl 202 heldE (Value.slice a362 y356.table.length c363) y356.table, gsl 202 heldE (Value.slice a325 y318.table.length c326) y318.table, gsl 202 heldE (Value.slice a312 y306.table.length c313) y306.table, gsl 202 heldE (Value.slice a300 y293.table.length c301) y293.table, gsl 202 heldE (Value.slice a272 y266.table.length c273) y266.table, gsl 202 heldE (Value.slice a260 y253.table.length c261) y253.table, gsl 60 heldE (Value.slice a234 y228.table.length c235) y228.table]) (a := gslC 60 heldE (Value.slice a211 y205.table.length c212) y205.table) (l₂ := [blk b103 62 (encR p1 (Value.slice a1 p1.table.length c1)), blk b111 62 (encR p2 (Value.slice a2 p2.table.length c2)), blk b164 62 (encR y145 (Value.slice a151 y145.table.length c152)), blk b194 62 (encR y175 (Value.slice a181 y175.table.length c182)), blk b217 62 (encR y205 (Value.slice a211 y205.table.length c212)), blk b240 62 (encR y228 (Value.slice a234 y228.table.length c235))])).trans (List.Perm.cons _ (List.Perm.refl _)))))) (R.call (vs := [Value.agg (List.toArray (encR y205 (Value.slice a211 y205.table.length c212)))]) (caps := []) bo64 rfl rfl) rfl ?_
                  rintro v433 w434 ⟨rfl, ht431⟩
                  have ht432 := hs425.call (M := [gslC 60 heldE (Value.slice a211 y205.table.length c212) y205.table]) (N := [gsl 202 heldE (Value.slice a374 y368.table.length c375) y368.table, gsl 202 heldE (Value.slice a362 y356.table.length c363) y356.table, gsl 202 heldE (Value.slice a325 y318.table.length c326) y318.table, gsl 202 heldE (Value.slice a312 y306.table.length c313) y306.table, gsl 202 heldE (Value.slice a300 y293.table.length c301) y293.table, gsl 202 heldE (Value.slice a272 y266.table.length c273) y266.table, gsl 202 heldE (Value.slice a260 y253.table.length c261) y253.table, gsl 60 heldE (Value.slice a234 y228.table.length c235) y228.table, blk b103 62 (encR p1 (Value.slice a1 p1.table.length c1)), blk b111 62 (encR p2 (Value.slice a2 p2.table.length c2)), blk b164 62 (encR y145 (Value.slice a151 y145.table.length c152)), blk b194 62 (encR y175 (Value.slice a181 y175.table.length c182)), blk b217 62 (encR y205 (Value.slice a211 y205.table.length c212)), blk b240 62 (encR y228 (Value.slice a234 y228.table.length c235))]) (((List.perm_middle (l₁ := [gsl 202 heldE (Value.slice a374 y368.table.length c375) y368.table, gsl 202 heldE (Value.slice a362 y356.table.length c363) y356.table, gsl 202 heldE (Value.slice a325 y318.table.length c326) y318.table, gsl 202 heldE (Value.slice a312 y306.table.length c313) y306.table, gsl 202 heldE (Value.slice a300 y293.table.length c301) y293.table, gsl 202 heldE (Value.slice a272 y266.table.length c273) y266.table, gsl 202 heldE (Value.slice a260 y253.table.length c261) y253.table, gsl 60 heldE (Value.slice a234 y228.table.length c235) y228.table]) (a := gslC 60 heldE (Value.slice a211 y205.table.length c212) y205.table) (l₂ := [blk b103 62 (encR p1 (Value.slice a1 p1.table.length c1)), blk b111 62 (encR p2 (Value.slice a2 p2.table.length c2)), blk b164 62 (encR y145 (Value.slice a151 y145.table.length c152)), blk b194 62 (encR y175 (Value.slice a181 y175.table.length c182)), blk b217 62 (encR y205 (Value.slice a211 y205.table.length c212)), blk b240 62 (encR y228 (Value.slice a234 y228.table.length c235))])).trans (List.Perm.cons _ (List.Perm.refl _)))) ht431
                  have hs435 := hs425.trans ht432
                  refine WL.nil ?_
                  refine thenN ?_
                  refine WC.seq ?_
                  refine WC.region ?_
                  refine WL.val (R.loadA (cs := encR y228 (Value.slice a234 y228.table.length c235)) (n := 57) ag62 rfl (hs435.at (i := 13) (off := 0) (n := 57) (cs := encR y228 (Value.slice a234 y228.table.length c235)) rfl rfl rfl) rfl) rfl ?_
                  refine WL.call (spoil13_G _ y228 _ _ _ _ (show St [gsl 60 heldE (Value.slice a234 y228.table.length c235) y228.table] _ _ [gsl 60 heldE (Value.slice a234 y228.table.length c235) y228.table] from St.ofM (M := [gsl 60 heldE (Value.slice a234 y228.table.length c235) y228.table]) (N := [gsl 202 heldE (Value.slice a374 y368.table.length c375) y368.table, gsl 202 heldE (Value.slice a362 y356.table.length c363) y356.table, gsl 202 heldE (Value.slice a325 y318.table.length c326) y318.table, gsl 202 heldE (Value.slice a312 y306.table.length c313) y306.table, gsl 202 heldE (Value.slice a300 y293.table.length c301) y293.table, gsl 202 heldE (Value.slice a272 y266.table.length c273) y266.table, gsl 202 heldE (Value.slice a260 y253.table.length c261) y253.table, blk b103 62 (encR p1 (Value.slice a1 p1.table.length c1)), blk b111 62 (encR p2 (Value.slice a2 p2.table.length c2)), blk b164 62 (encR y145 (Value.slice a151 y145.table.length c152)), blk b194 62 (encR y175 (Value.slice a181 y175.table.length c182)), blk b217 62 (encR y205 (Value.slice a211 y205.table.length c212)), blk b240 62 (encR y228 (Value.slice a234 y228.table.length c235))]) hs435 (((List.perm_middle (l₁ := [gsl 202 heldE (Value.slice a374 y368.table.length c375) y368.table, gsl 202 heldE (Value.slice a362 y356.table.length c363) y356.table, gsl 202 heldE (Value.slice a325 y318.table.length c326) y318.table, gsl 202 heldE (Value.slice a312 y306.table.length c313) y306.table, gsl 202 heldE (Value.slice a300 y293.table.length c301) y293.table, gsl 202 heldE (Value.slice a272 y266.table.length c273) y266.table, gsl 202 heldE (Value.slice a260 y253.table.length c261) y253.table]) (a := gsl 60 heldE (Value.slice a234 y228.table.length c235) y228.table) (l₂ := [blk b103 62 (encR p1 (Value.slice a1 p1.table.length c1)), blk b111 62 (encR p2 (Value.slice a2 p2.table.length c2)), blk b164 62 (encR y145 (Value.slice a151 y145.table.length c152)), blk b194 62 (encR y175 (Value.slice a181 y175.table.length c182)), blk b217 62 (encR y205 (Value.slice a211 y205.table.length c212)), blk b240 62 (encR y228 (Value.slice a234 y228.table.length c235))])).trans (List.Perm.cons _ (List.Perm.refl _)))))) (R.call (vs := [Value.agg (List.toArray (encR y228 (Value.slice a234 y228.table.length c235)))]) (caps := []) bo64 rfl rfl) rfl ?_
                  rintro v438 w439 ⟨rfl, ht436⟩
                  have ht437 := hs435.call (M := [gsl 60 heldE (Value.slice a234 y228.table.length c235) y228.table]) (N := [gsl 202 heldE (Value.slice a374 y368.table.length c375) y368.table, gsl 202 heldE (Value.slice a362 y356.table.length c363) y356.table, gsl 202 heldE (Value.slice a325 y318.table.length c326) y318.table, gsl 202 heldE (Value.slice a312 y306.table.length c313) y306.table, gsl 202 heldE (Value.slice a300 y293.table.length c301) y293.table, gsl 202 heldE (Value.slice a272 y266.table.length c273) y266.table, gsl 202 heldE (Value.slice a260 y253.table.length c261) y253.table, blk b103 62 (encR p1 (Value.slice a1 p1.table.length c1)), blk b111 62 (encR p2 (Value.slice a2 p2.table.length c2)), blk b164 62 (encR y145 (Value.slice a151 y145.table.length c152)), blk b194 62 (encR y175 (Value.slice a181 y175.table.length c182)), blk b217 62 (encR y205 (Value.slice a211 y205.table.length c212)), blk b240 62 (encR y228 (Value.slice a234 y228.table.length c235))]) (((List.perm_middle (l₁ := [gsl 202 heldE (Value.slice a374 y368.table.length c375) y368.table, gsl 202 heldE (Value.slice a362 y356.table.length c363) y356.table, gsl 202 heldE (Value.slice a325 y318.table.length c326) y318.table, gsl 202 heldE (Value.slice a312 y306.table.length c313) y306.table, gsl 202 heldE (Value.slice a300 y293.table.length c301) y293.table, gsl 202 heldE (Value.slice a272 y266.table.length c273) y266.table, gsl 202 heldE (Value.slice a260 y253.table.length c261) y253.table]) (a := gsl 60 heldE (Value.slice a234 y228.table.length c235) y228.table) (l₂ := [blk b103 62 (encR p1 (Value.slice a1 p1.table.length c1)), blk b111 62 (encR p2 (Value.slice a2 p2.table.length c2)), blk b164 62 (encR y145 (Value.slice a151 y145.table.length c152)), blk b194 62 (encR y175 (Value.slice a181 y175.table.length c182)), blk b217 62 (encR y205 (Value.slice a211 y205.table.length c212)), blk b240 62 (encR y228 (Value.slice a234 y228.table.length c235))])).trans (List.Perm.cons _ (List.Perm.refl _)))) ht436
                  have hs440 := hs435.trans ht437
                  refine WL.nil ?_
                  refine thenN ?_
                  refine WC.seq ?_
                  refine WC.region ?_
                  refine WL.val (R.loadA (cs := encR y145 (Value.slice a151 y145.table.length c152)) (n := 57) ag62 rfl (hs440.at (i := 9) (off := 0) (n := 57) (cs := encR y145 (Value.slice a151 y145.table.length c152)) rfl rfl rfl) rfl) rfl ?_
                  refine WL.val (R.loadA (cs := encR p1 (Value.slice a1 p1.table.length c1)) (n := 57) ag62 rfl (hs440.at (i := 7) (off := 0) (n := 57) (cs := encR p1 (Value.slice a1 p1.table.length c1)) rfl rfl rfl) rfl) rfl ?_
                  obtain ⟨y441, hx442, h443⟩ := ob (o := left13 y145 p1) h430
                  have hr444 := elT ((((ht403.trans ht414).trans ht422).trans ht432).trans ht437) hr399
                  have hr445 := elT (((((((ht361.trans ht373).trans ht388).trans ht403).trans ht414).trans ht422).trans ht432).trans ht437) hr359
                  have hr446 := elT (((((((((((((((((((((((((((ht170.trans ht173).trans ht180).trans ht200).trans ht203).trans ht210).trans ht223).trans ht226).trans ht233).trans ht246).trans ht249).trans ht251).trans ht259).trans ht271).trans ht286).trans ht299).trans ht311).trans ht324).trans ht339).trans ht352).trans ht361).trans ht373).trans ht388).trans ht403).trans ht414).trans ht422).trans ht432).trans ht437) hu160
                  refine WL.call (left13_ok _ (fun _ => True) y145 p1 _ _ (elAll hr444) hl153 _ _ (elAll hr445) hc1 ht155 (elAll hr446) hx442) (R.call (vs := [Value.agg (List.toArray (encR y145 (Value.slice a151 y145.table.length c152))), Value.agg (List.toArray (encR p1 (Value.slice a1 p1.table.length c1)))]) (caps := []) bo75 rfl rfl) rfl ?_
                  rintro v449 w450 ⟨rfl, ht447⟩
                  have ht448 := hs440.call (N := [gsl 202 heldE (Value.slice a374 y368.table.length c375) y368.table, gsl 202 heldE (Value.slice a362 y356.table.length c363) y356.table, gsl 202 heldE (Value.slice a325 y318.table.length c326) y318.table, gsl 202 heldE (Value.slice a312 y306.table.length c313) y306.table, gsl 202 heldE (Value.slice a300 y293.table.length c301) y293.table, gsl 202 heldE (Value.slice a272 y266.table.length c273) y266.table, gsl 202 heldE (Value.slice a260 y253.table.length c261) y253.table, blk b103 62 (encR p1 (Value.slice a1 p1.table.length c1)), blk b111 62 (encR p2 (Value.slice a2 p2.table.length c2)), blk b164 62 (encR y145 (Value.slice a151 y145.table.length c152)), blk b194 62 (encR y175 (Value.slice a181 y175.table.length c182)), blk b217 62 (encR y205 (Value.slice a211 y205.table.length c212)), blk b240 62 (encR y228 (Value.slice a234 y228.table.length c235))]) (M := []) (List.Perm.refl _) ht447
                  have hs451 := hs440.trans ht448
                  refine WL.val (R.move (v := Value.bool y441) rfl) rfl ?_
                  by_cases hc452 : y441 = true
                  · have h453 := ifT hc452 h443
                    refine WL.guardY (e := 80) (Eq.trans (show _ = Value.bool y441 from rfl) (congrArg Value.bool hc452)) rfl rfl ?_
                    refine WL.val (R.loadA (cs := encR y175 (Value.slice a181 y175.table.length c182)) (n := 57) ag62 rfl (hs451.at (i := 10) (off := 0) (n := 57) (cs := encR y175 (Value.slice a181 y175.table.length c182)) rfl rfl rfl) rfl) rfl ?_
                    refine WL.guardY (e := 80) (Eq.trans (show _ = Value.bool y441 from rfl) (congrArg Value.bool hc452)) rfl rfl ?_
                    refine WL.val (R.loadA (cs := encR p2 (Value.slice a2 p2.table.length c2)) (n := 57) ag62 rfl (hs451.at (i := 8) (off := 0) (n := 57) (cs := encR p2 (Value.slice a2 p2.table.length c2)) rfl rfl rfl) rfl) rfl ?_
                    refine WL.guardY (e := 80) (Eq.trans (show _ = Value.bool y441 from rfl) (congrArg Value.bool hc452)) rfl rfl ?_
                    obtain ⟨y454, hx455, h456⟩ := ob (o := left13 y175 p2) h453
                    have hr457 := elT (((((((((ht352.trans ht361).trans ht373).trans ht388).trans ht403).trans ht414).trans ht422).trans ht432).trans ht437).trans ht448) hr350
                    have hr458 := elT (((((((ht373.trans ht388).trans ht403).trans ht414).trans ht422).trans ht432).trans ht437).trans ht448) hr371
                    have hr459 := elT (((((((((((((((((((((((((ht200.trans ht203).trans ht210).trans ht223).trans ht226).trans ht233).trans ht246).trans ht249).trans ht251).trans ht259).trans ht271).trans ht286).trans ht299).trans ht311).trans ht324).trans ht339).trans ht352).trans ht361).trans ht373).trans ht388).trans ht403).trans ht414).trans ht422).trans ht432).trans ht437).trans ht448) hu190
                    refine WL.call (left13_ok _ (fun _ => True) y175 p2 _ _ (elAll hr457) hl183 _ _ (elAll hr458) hc2 ht185 (elAll hr459) hx455) (R.call (vs := [Value.agg (List.toArray (encR y175 (Value.slice a181 y175.table.length c182))), Value.agg (List.toArray (encR p2 (Value.slice a2 p2.table.length c2)))]) (caps := []) bo75 rfl rfl) rfl ?_
                    rintro v462 w463 ⟨rfl, ht460⟩
                    have ht461 := hs451.call (N := [gsl 202 heldE (Value.slice a374 y368.table.length c375) y368.table, gsl 202 heldE (Value.slice a362 y356.table.length c363) y356.table, gsl 202 heldE (Value.slice a325 y318.table.length c326) y318.table, gsl 202 heldE (Value.slice a312 y306.table.length c313) y306.table, gsl 202 heldE (Value.slice a300 y293.table.length c301) y293.table, gsl 202 heldE (Value.slice a272 y266.table.length c273) y266.table, gsl 202 heldE (Value.slice a260 y253.table.length c261) y253.table, blk b103 62 (encR p1 (Value.slice a1 p1.table.length c1)), blk b111 62 (encR p2 (Value.slice a2 p2.table.length c2)), blk b164 62 (encR y145 (Value.slice a151 y145.table.length c152)), blk b194 62 (encR y175 (Value.slice a181 y175.table.length c182)), blk b217 62 (encR y205 (Value.slice a211 y205.table.length c212)), blk b240 62 (encR y228 (Value.slice a234 y228.table.length c235))]) (M := []) (List.Perm.refl _) ht460
                    have hs464 := hs451.trans ht461
                    refine WL.val (R.pickT (v := Value.bool y454) (Eq.trans (show _ = Value.bool y441 from rfl) (congrArg Value.bool hc452)) rfl) rfl ?_
                    refine WL.val (R.move (v := Value.bool y454) rfl) rfl ?_
                    by_cases hc465 : y454 = true
                    · have h466 := ifT hc465 h456
                      refine WL.guardY (e := 85) (Eq.trans (show _ = Value.bool y454 from rfl) (congrArg Value.bool hc465)) rfl rfl ?_
                      obtain ⟨y467, hx468, h469⟩ := ob (o := lives13 ) h466
                      refine WL.call (lives13_ok _ (In ok w [] [gsl 202 heldE (Value.slice a374 y368.table.length c375) y368.table, gsl 202 heldE (Value.slice a362 y356.table.length c363) y356.table, gsl 202 heldE (Value.slice a325 y318.table.length c326) y318.table, gsl 202 heldE (Value.slice a312 y306.table.length c313) y306.table, gsl 202 heldE (Value.slice a300 y293.table.length c301) y293.table, gsl 202 heldE (Value.slice a272 y266.table.length c273) y266.table, gsl 202 heldE (Value.slice a260 y253.table.length c261) y253.table, blk b103 62 (encR p1 (Value.slice a1 p1.table.length c1)), blk b111 62 (encR p2 (Value.slice a2 p2.table.length c2)), blk b164 62 (encR y145 (Value.slice a151 y145.table.length c152)), blk b194 62 (encR y175 (Value.slice a181 y175.table.length c182)), blk b217 62 (encR y205 (Value.slice a211 y205.table.length c212)), blk b240 62 (encR y228 (Value.slice a234 y228.table.length c235))])   hx468) (R.call (vs := []) (caps := []) bo60 rfl rfl) rfl ?_
                      rintro v472 w473 ⟨rfl, ht470⟩
                      have ht471 := hs464.call (N := [gsl 202 heldE (Value.slice a374 y368.table.length c375) y368.table, gsl 202 heldE (Value.slice a362 y356.table.length c363) y356.table, gsl 202 heldE (Value.slice a325 y318.table.length c326) y318.table, gsl 202 heldE (Value.slice a312 y306.table.length c313) y306.table, gsl 202 heldE (Value.slice a300 y293.table.length c301) y293.table, gsl 202 heldE (Value.slice a272 y266.table.length c273) y266.table, gsl 202 heldE (Value.slice a260 y253.table.length c261) y253.table, blk b103 62 (encR p1 (Value.slice a1 p1.table.length c1)), blk b111 62 (encR p2 (Value.slice a2 p2.table.length c2)), blk b164 62 (encR y145 (Value.slice a151 y145.table.length c152)), blk b194 62 (encR y175 (Value.slice a181 y175.table.length c182)), blk b217 62 (encR y205 (Value.slice a211 y205.table.length c212)), blk b240 62 (encR y228 (Value.slice a234 y228.table.length c235))]) (M := []) (List.Perm.refl _) ht470
                      have hs474 := hs464.trans ht471
                      refine WL.val (R.pickT (v := Value.bool y467) (Eq.trans (show _ = Value.bool y454 from rfl) (congrArg Value.bool hc465)) rfl) rfl ?_
                      refine WL.val (R.assign (v := Value.bool y467) rfl) rfl ?_
                      refine WL.nil ?_
                      refine thenN ?_
                      refine WC.ret ?_
                      have ht475 := (hs474.here).perm (L' := []) (G := [gsl 202 heldE (Value.slice a374 y368.table.length c375) y368.table, gsl 202 heldE (Value.slice a362 y356.table.length c363) y356.table, gsl 202 heldE (Value.slice a325 y318.table.length c326) y318.table, gsl 202 heldE (Value.slice a312 y306.table.length c313) y306.table, gsl 202 heldE (Value.slice a300 y293.table.length c301) y293.table, gsl 202 heldE (Value.slice a272 y266.table.length c273) y266.table, gsl 202 heldE (Value.slice a260 y253.table.length c261) y253.table, blk b103 62 (encR p1 (Value.slice a1 p1.table.length c1)), blk b111 62 (encR p2 (Value.slice a2 p2.table.length c2)), blk b164 62 (encR y145 (Value.slice a151 y145.table.length c152)), blk b194 62 (encR y175 (Value.slice a181 y175.table.length c182)), blk b217 62 (encR y205 (Value.slice a211 y205.table.length c212)), blk b240 62 (encR y228 (Value.slice a234 y228.table.length c235))]) ((List.Perm.refl _))
                      have hs476 := hs474.trans ht475
                      obtain rfl := Option.some.inj (show some y467 = some r from h469)
                      exact ret1 (P := Try.prog) (n := 88) (fn := Try.f15) (R := fun v w' => v = Value.bool y467 ∧ St [] w w' []) (t := 6) (v := Value.bool y467) rfl rfl rfl ⟨rfl, hs476⟩
                    · have h477 := ifF hc465 h456
                      refine WL.guardN (e := 85) (v := .bool false) (Eq.trans (show _ = Value.bool y454 from rfl) (congrArg Value.bool (Bool.eq_false_iff.2 hc465))) rfl rfl rfl ?_
                      refine WL.val (R.pickF (v := Value.bool false) (Eq.trans (show _ = Value.bool y454 from rfl) (congrArg Value.bool (Bool.eq_false_iff.2 hc465))) rfl) rfl ?_
                      refine WL.val (R.assign (v := Value.bool false) rfl) rfl ?_
                      refine WL.nil ?_
                      refine thenN ?_
                      refine WC.ret ?_
                      have ht478 := (hs464.here).perm (L' := []) (G := [gsl 202 heldE (Value.slice a374 y368.table.length c375) y368.table, gsl 202 heldE (Value.slice a362 y356.table.length c363) y356.table, gsl 202 heldE (Value.slice a325 y318.table.length c326) y318.table, gsl 202 heldE (Value.slice a312 y306.table.length c313) y306.table, gsl 202 heldE (Value.slice a300 y293.table.length c301) y293.table, gsl 202 heldE (Value.slice a272 y266.table.length c273) y266.table, gsl 202 heldE (Value.slice a260 y253.table.length c261) y253.table, blk b103 62 (encR p1 (Value.slice a1 p1.table.length c1)), blk b111 62 (encR p2 (Value.slice a2 p2.table.length c2)), blk b164 62 (encR y145 (Value.slice a151 y145.table.length c152)), blk b194 62 (encR y175 (Value.slice a181 y175.table.length c182)), blk b217 62 (encR y205 (Value.slice a211 y205.table.length c212)), blk b240 62 (encR y228 (Value.slice a234 y228.table.length c235))]) ((List.Perm.refl _))
                      have hs479 := hs464.trans ht478
                      obtain rfl := Option.some.inj (show some false = some r from h477)
                      exact ret1 (P := Try.prog) (n := 88) (fn := Try.f15) (R := fun v w' => v = Value.bool false ∧ St [] w w' []) (t := 6) (v := Value.bool false) rfl rfl rfl ⟨rfl, hs479⟩
                  · have h480 := ifF hc452 h443
                    refine WL.guardN (e := 80) (v := .bool false) (Eq.trans (show _ = Value.bool y441 from rfl) (congrArg Value.bool (Bool.eq_false_iff.2 hc452))) rfl rfl rfl ?_
                    refine WL.guardN (e := 80) (v := .bool false) (Eq.trans (show _ = Value.bool y441 from rfl) (congrArg Value.bool (Bool.eq_false_iff.2 hc452))) rfl rfl rfl ?_
                    refine WL.guardN (e := 80) (v := .bool false) (Eq.trans (show _ = Value.bool y441 from rfl) (congrArg Value.bool (Bool.eq_false_iff.2 hc452))) rfl rfl rfl ?_
                    refine WL.val (R.pickF (v := Value.bool false) (Eq.trans (show _ = Value.bool y441 from rfl) (congrArg Value.bool (Bool.eq_false_iff.2 hc452))) rfl) rfl ?_
                    refine WL.val (R.move (v := Value.bool false) rfl) rfl ?_
                    refine WL.guardN (e := 85) (v := .bool false) rfl rfl rfl rfl ?_
                    refine WL.val (R.pickF (v := Value.bool false) rfl rfl) rfl ?_
                    refine WL.val (R.assign (v := Value.bool false) rfl) rfl ?_
                    refine WL.nil ?_
                    refine thenN ?_
                    refine WC.ret ?_
                    have ht481 := (hs451.here).perm (L' := []) (G := [gsl 202 heldE (Value.slice a374 y368.table.length c375) y368.table, gsl 202 heldE (Value.slice a362 y356.table.length c363) y356.table, gsl 202 heldE (Value.slice a325 y318.table.length c326) y318.table, gsl 202 heldE (Value.slice a312 y306.table.length c313) y306.table, gsl 202 heldE (Value.slice a300 y293.table.length c301) y293.table, gsl 202 heldE (Value.slice a272 y266.table.length c273) y266.table, gsl 202 heldE (Value.slice a260 y253.table.length c261) y253.table, blk b103 62 (encR p1 (Value.slice a1 p1.table.length c1)), blk b111 62 (encR p2 (Value.slice a2 p2.table.length c2)), blk b164 62 (encR y145 (Value.slice a151 y145.table.length c152)), blk b194 62 (encR y175 (Value.slice a181 y175.table.length c182)), blk b217 62 (encR y205 (Value.slice a211 y205.table.length c212)), blk b240 62 (encR y228 (Value.slice a234 y228.table.length c235))]) ((List.Perm.refl _))
                    have hs482 := hs451.trans ht481
                    obtain rfl := Option.some.inj (show some false = some r from h480)
                    exact ret1 (P := Try.prog) (n := 88) (fn := Try.f15) (R := fun v w' => v = Value.bool false ∧ St [] w w' []) (t := 6) (v := Value.bool false) rfl rfl rfl ⟨rfl, hs482⟩
              · have h483 := ifF hc407 h398
                have hk484 : (!y396) = true := by simp [hc407]
                refine WE.takeN 34 (e := 64) (v := .bool true) rfl (by decide +kernel) (by decide +kernel) (by decide +kernel) (by decide +kernel) rfl rfl rfl (Eq.trans (show _ = Value.bool (!y396) from rfl) (congrArg Value.bool hk484)) rfl ?_
                refine WE.takeN 35 (e := 64) (v := .bool true) rfl (by decide +kernel) (by decide +kernel) (by decide +kernel) (by decide +kernel) rfl rfl rfl (Eq.trans (show _ = Value.bool (!y396) from rfl) (congrArg Value.bool hk484)) rfl ?_
                refine WE.takeN 36 (e := 64) (v := .bool true) rfl (by decide +kernel) (by decide +kernel) (by decide +kernel) (by decide +kernel) rfl rfl rfl (Eq.trans (show _ = Value.bool (!y396) from rfl) (congrArg Value.bool hk484)) rfl ?_
                refine WE.takeN 37 (e := 64) (v := .bool true) rfl (by decide +kernel) (by decide +kernel) (by decide +kernel) (by decide +kernel) rfl rfl rfl (Eq.trans (show _ = Value.bool (!y396) from rfl) (congrArg Value.bool hk484)) rfl ?_
                refine WE.takeN 38 (e := 64) (v := .bool true) rfl (by decide +kernel) (by decide +kernel) (by decide +kernel) (by decide +kernel) rfl rfl rfl (Eq.trans (show _ = Value.bool (!y396) from rfl) (congrArg Value.bool hk484)) rfl ?_
                refine WE.takeN 39 (e := 64) (v := .bool true) rfl (by decide +kernel) (by decide +kernel) (by decide +kernel) (by decide +kernel) rfl rfl rfl (Eq.trans (show _ = Value.bool (!y396) from rfl) (congrArg Value.bool hk484)) rfl ?_
                refine WE.takeN 40 (e := 64) (v := .bool true) rfl (by decide +kernel) (by decide +kernel) (by decide +kernel) (by decide +kernel) rfl rfl rfl (Eq.trans (show _ = Value.bool (!y396) from rfl) (congrArg Value.bool hk484)) rfl ?_
                refine WE.take 41 rfl (by decide +kernel) (by decide +kernel) (by decide +kernel) (by decide +kernel) rfl rfl (fun wq hq => R.pickT (v := Value.bool true) (Eq.trans (show _ = Value.bool (!y396) from rfl) (congrArg Value.bool hk484)) rfl) ?_
                refine WE.done (by decide +kernel) ?_
                refine thenN ?_
                refine WC.condT rfl rfl ?_
                refine WC.seq ?_
                refine WC.region ?_
                refine WL.val (R.assign (v := Value.bool false) rfl) rfl ?_
                refine WL.nil ?_
                refine thenN ?_
                refine WC.ret ?_
                have ht485 := (hs406.here).perm (L' := []) (G := [gsl 202 heldE (Value.slice a374 y368.table.length c375) y368.table, gsl 202 heldE (Value.slice a362 y356.table.length c363) y356.table, gsl 202 heldE (Value.slice a325 y318.table.length c326) y318.table, gsl 202 heldE (Value.slice a312 y306.table.length c313) y306.table, gsl 202 heldE (Value.slice a300 y293.table.length c301) y293.table, gsl 202 heldE (Value.slice a272 y266.table.length c273) y266.table, gsl 202 heldE (Value.slice a260 y253.table.length c261) y253.table, gsl 60 heldE (Value.slice a234 y228.table.length c235) y228.table, gslC 60 heldE (Value.slice a211 y205.table.length c212) y205.table, blk b103 62 (encR p1 (Value.slice a1 p1.table.length c1)), blk b111 62 (encR p2 (Value.slice a2 p2.table.length c2)), blk b164 62 (encR y145 (Value.slice a151 y145.table.length c152)), blk b194 62 (encR y175 (Value.slice a181 y175.table.length c182)), blk b217 62 (encR y205 (Value.slice a211 y205.table.length c212)), blk b240 62 (encR y228 (Value.slice a234 y228.table.length c235))]) ((List.Perm.refl _))
                have hs486 := hs406.trans ht485
                obtain rfl := Option.some.inj (show some false = some r from h483)
                exact ret1 (P := Try.prog) (n := 88) (fn := Try.f15) (R := fun v w' => v = Value.bool false ∧ St [] w w' []) (t := 6) (v := Value.bool false) rfl rfl rfl ⟨rfl, hs486⟩
            · have h487 := ifF hc394 h393
              refine WE.takeY 25 (e := 47) rfl (by decide +kernel) (by decide +kernel) (by decide +kernel) (by decide +kernel) rfl rfl rfl rfl (Eq.trans (show _ = Value.bool (!y331) from rfl) (congrArg Value.bool hk345)) (fun wq hq => R.neB (a := true) (b := false) un4 (Eq.trans (show _ = Value.bool y346 from rfl) (congrArg Value.bool hc392)) (Eq.trans (show _ = Value.bool y380 from rfl) (congrArg Value.bool (Bool.eq_false_iff.2 hc394)))) ?_
              refine WE.take 26 rfl (by decide +kernel) (by decide +kernel) (by decide +kernel) (by decide +kernel) rfl rfl (fun wq hq => R.pickF (v := Value.bool true) (Eq.trans (show _ = Value.bool (!y331) from rfl) (congrArg Value.bool hk345)) rfl) ?_
              refine WE.take 27 rfl (by decide +kernel) (by decide +kernel) (by decide +kernel) (by decide +kernel) rfl rfl (fun wq hq => R.move (v := Value.bool true) rfl) ?_
              refine WE.takeN 28 (e := 58) (v := .bool true) rfl (by decide +kernel) (by decide +kernel) (by decide +kernel) (by decide +kernel) rfl rfl rfl rfl rfl ?_
              refine WE.takeN 29 (e := 58) (v := .bool true) rfl (by decide +kernel) (by decide +kernel) (by decide +kernel) (by decide +kernel) rfl rfl rfl rfl rfl ?_
              refine WE.takeN 30 (e := 58) (v := .bool true) rfl (by decide +kernel) (by decide +kernel) (by decide +kernel) (by decide +kernel) rfl rfl rfl rfl rfl ?_
              refine WE.takeN 31 (e := 58) (v := .bool true) rfl (by decide +kernel) (by decide +kernel) (by decide +kernel) (by decide +kernel) rfl rfl rfl rfl rfl ?_
              refine WE.take 32 rfl (by decide +kernel) (by decide +kernel) (by decide +kernel) (by decide +kernel) rfl rfl (fun wq hq => R.pickT (v := Value.bool true) rfl rfl) ?_
              refine WE.take 33 rfl (by decide +kernel) (by decide +kernel) (by decide +kernel) (by decide +kernel) rfl rfl (fun wq hq => R.move (v := Value.bool true) rfl) ?_
              refine WE.takeN 34 (e := 64) (v := .bool true) rfl (by decide +kernel) (by decide +kernel) (by decide +kernel) (by decide +kernel) rfl rfl rfl rfl rfl ?_
              refine WE.takeN 35 (e := 64) (v := .bool true) rfl (by decide +kernel) (by decide +kernel) (by decide +kernel) (by decide +kernel) rfl rfl rfl rfl rfl ?_
              refine WE.takeN 36 (e := 64) (v := .bool true) rfl (by decide +kernel) (by decide +kernel) (by decide +kernel) (by decide +kernel) rfl rfl rfl rfl rfl ?_
              refine WE.takeN 37 (e := 64) (v := .bool true) rfl (by decide +kernel) (by decide +kernel) (by decide +kernel) (by decide +kernel) rfl rfl rfl rfl rfl ?_
              refine WE.takeN 38 (e := 64) (v := .bool true) rfl (by decide +kernel) (by decide +kernel) (by decide +kernel) (by decide +kernel) rfl rfl rfl rfl rfl ?_
              refine WE.takeN 39 (e := 64) (v := .bool true) rfl (by decide +kernel) (by decide +kernel) (by decide +kernel) (by decide +kernel) rfl rfl rfl rfl rfl ?_
              refine WE.takeN 40 (e := 64) (v := .bool true) rfl (by decide +kernel) (by decide +kernel) (by decide +kernel) (by decide +kernel) rfl rfl rfl rfl rfl ?_
              refine WE.take 41 rfl (by decide +kernel) (by decide +kernel) (by decide +kernel) (by decide +kernel) rfl rfl (fun wq hq => R.pickT (v := Value.bool true) rfl rfl) ?_
              refine WE.done (by decide +kernel) ?_
              refine thenN ?_
              refine WC.condT rfl rfl ?_
              refine WC.seq ?_
              refine WC.region ?_
              refine WL.val (R.assign (v := Value.bool false) rfl) rfl ?_
              refine WL.nil ?_
              refine thenN ?_
              refine WC.ret ?_
              have ht488 := (hs391.here).perm (L' := []) (G := [gsl 202 heldE (Value.slice a374 y368.table.length c375) y368.table, gsl 202 heldE (Value.slice a362 y356.table.length c363) y356.table, gsl 202 heldE (Value.slice a325 y318.table.length c326) y318.table, gsl 202 heldE (Value.slice a312 y306.table.length c313) y306.table, gsl 202 heldE (Value.slice a300 y293.table.length c301) y293.table, gsl 202 heldE (Value.slice a272 y266.table.length c273) y266.table, gsl 202 heldE (Value.slice a260 y253.table.length c261) y253.table, gsl 60 heldE (Value.slice a234 y228.table.length c235) y228.table, gslC 60 heldE (Value.slice a211 y205.table.length c212) y205.table, blk b103 62 (encR p1 (Value.slice a1 p1.table.length c1)), blk b111 62 (encR p2 (Value.slice a2 p2.table.length c2)), blk b164 62 (encR y145 (Value.slice a151 y145.table.length c152)), blk b194 62 (encR y175 (Value.slice a181 y175.table.length c182)), blk b217 62 (encR y205 (Value.slice a211 y205.table.length c212)), blk b240 62 (encR y228 (Value.slice a234 y228.table.length c235))]) ((List.Perm.refl _))
              have hs489 := hs391.trans ht488
              obtain rfl := Option.some.inj (show some false = some r from h487)
              exact ret1 (P := Try.prog) (n := 88) (fn := Try.f15) (R := fun v w' => v = Value.bool false ∧ St [] w w' []) (t := 6) (v := Value.bool false) rfl rfl rfl ⟨rfl, hs489⟩
          · have h490 := ifF hc392 h382
            by_cases hc491 : y380 = true
            · have h492 := ifT hc491 h490
              refine WE.takeY 25 (e := 47) rfl (by decide +kernel) (by decide +kernel) (by decide +kernel) (by decide +kernel) rfl rfl rfl rfl (Eq.trans (show _ = Value.bool (!y331) from rfl) (congrArg Value.bool hk345)) (fun wq hq => R.neB (a := false) (b := true) un4 (Eq.trans (show _ = Value.bool y346 from rfl) (congrArg Value.bool (Bool.eq_false_iff.2 hc392))) (Eq.trans (show _ = Value.bool y380 from rfl) (congrArg Value.bool hc491))) ?_
              refine WE.take 26 rfl (by decide +kernel) (by decide +kernel) (by decide +kernel) (by decide +kernel) rfl rfl (fun wq hq => R.pickF (v := Value.bool true) (Eq.trans (show _ = Value.bool (!y331) from rfl) (congrArg Value.bool hk345)) rfl) ?_
              refine WE.take 27 rfl (by decide +kernel) (by decide +kernel) (by decide +kernel) (by decide +kernel) rfl rfl (fun wq hq => R.move (v := Value.bool true) rfl) ?_
              refine WE.takeN 28 (e := 58) (v := .bool true) rfl (by decide +kernel) (by decide +kernel) (by decide +kernel) (by decide +kernel) rfl rfl rfl rfl rfl ?_
              refine WE.takeN 29 (e := 58) (v := .bool true) rfl (by decide +kernel) (by decide +kernel) (by decide +kernel) (by decide +kernel) rfl rfl rfl rfl rfl ?_
              refine WE.takeN 30 (e := 58) (v := .bool true) rfl (by decide +kernel) (by decide +kernel) (by decide +kernel) (by decide +kernel) rfl rfl rfl rfl rfl ?_
              refine WE.takeN 31 (e := 58) (v := .bool true) rfl (by decide +kernel) (by decide +kernel) (by decide +kernel) (by decide +kernel) rfl rfl rfl rfl rfl ?_
              refine WE.take 32 rfl (by decide +kernel) (by decide +kernel) (by decide +kernel) (by decide +kernel) rfl rfl (fun wq hq => R.pickT (v := Value.bool true) rfl rfl) ?_
              refine WE.take 33 rfl (by decide +kernel) (by decide +kernel) (by decide +kernel) (by decide +kernel) rfl rfl (fun wq hq => R.move (v := Value.bool true) rfl) ?_
              refine WE.takeN 34 (e := 64) (v := .bool true) rfl (by decide +kernel) (by decide +kernel) (by decide +kernel) (by decide +kernel) rfl rfl rfl rfl rfl ?_
              refine WE.takeN 35 (e := 64) (v := .bool true) rfl (by decide +kernel) (by decide +kernel) (by decide +kernel) (by decide +kernel) rfl rfl rfl rfl rfl ?_
              refine WE.takeN 36 (e := 64) (v := .bool true) rfl (by decide +kernel) (by decide +kernel) (by decide +kernel) (by decide +kernel) rfl rfl rfl rfl rfl ?_
              refine WE.takeN 37 (e := 64) (v := .bool true) rfl (by decide +kernel) (by decide +kernel) (by decide +kernel) (by decide +kernel) rfl rfl rfl rfl rfl ?_
              refine WE.takeN 38 (e := 64) (v := .bool true) rfl (by decide +kernel) (by decide +kernel) (by decide +kernel) (by decide +kernel) rfl rfl rfl rfl rfl ?_
              refine WE.takeN 39 (e := 64) (v := .bool true) rfl (by decide +kernel) (by decide +kernel) (by decide +kernel) (by decide +kernel) rfl rfl rfl rfl rfl ?_
              refine WE.takeN 40 (e := 64) (v := .bool true) rfl (by decide +kernel) (by decide +kernel) (by decide +kernel) (by decide +kernel) rfl rfl rfl rfl rfl ?_
              refine WE.take 41 rfl (by decide +kernel) (by decide +kernel) (by decide +kernel) (by decide +kernel) rfl rfl (fun wq hq => R.pickT (v := Value.bool true) rfl rfl) ?_
              refine WE.done (by decide +kernel) ?_
              refine thenN ?_
              refine WC.condT rfl rfl ?_
              refine WC.seq ?_
              refine WC.region ?_
              refine WL.val (R.assign (v := Value.bool false) rfl) rfl ?_
              refine WL.nil ?_
              refine thenN ?_
              refine WC.ret ?_
              have ht493 := (hs391.here).perm (L' := []) (G := [gsl 202 heldE (Value.slice a374 y368.table.length c375) y368.table, gsl 202 heldE (Value.slice a362 y356.table.length c363) y356.table, gsl 202 heldE (Value.slice a325 y318.table.length c326) y318.table, gsl 202 heldE (Value.slice a312 y306.table.length c313) y306.table, gsl 202 heldE (Value.slice a300 y293.table.length c301) y293.table, gsl 202 heldE (Value.slice a272 y266.table.length c273) y266.table, gsl 202 heldE (Value.slice a260 y253.table.length c261) y253.table, gsl 60 heldE (Value.slice a234 y228.table.length c235) y228.table, gslC 60 heldE (Value.slice a211 y205.table.length c212) y205.table, blk b103 62 (encR p1 (Value.slice a1 p1.table.length c1)), blk b111 62 (encR p2 (Value.slice a2 p2.table.length c2)), blk b164 62 (encR y145 (Value.slice a151 y145.table.length c152)), blk b194 62 (encR y175 (Value.slice a181 y175.table.length c182)), blk b217 62 (encR y205 (Value.slice a211 y205.table.length c212)), blk b240 62 (encR y228 (Value.slice a234 y228.table.length c235))]) ((List.Perm.refl _))
              have hs494 := hs391.trans ht493
              obtain rfl := Option.some.inj (show some false = some r from h492)
              exact ret1 (P := Try.prog) (n := 88) (fn := Try.f15) (R := fun v w' => v = Value.bool false ∧ St [] w w' []) (t := 6) (v := Value.bool false) rfl rfl rfl ⟨rfl, hs494⟩
            · have h495 := ifF hc491 h490
              refine WE.takeY 25 (e := 47) rfl (by decide +kernel) (by decide +kernel) (by decide +kernel) (by decide +kernel) rfl rfl rfl rfl (Eq.trans (show _ = Value.bool (!y331) from rfl) (congrArg Value.bool hk345)) (fun wq hq => R.neB (a := false) (b := false) un4 (Eq.trans (show _ = Value.bool y346 from rfl) (congrArg Value.bool (Bool.eq_false_iff.2 hc392))) (Eq.trans (show _ = Value.bool y380 from rfl) (congrArg Value.bool (Bool.eq_false_iff.2 hc491)))) ?_
              refine WE.take 26 rfl (by decide +kernel) (by decide +kernel) (by decide +kernel) (by decide +kernel) rfl rfl (fun wq hq => R.pickF (v := Value.bool false) (Eq.trans (show _ = Value.bool (!y331) from rfl) (congrArg Value.bool hk345)) rfl) ?_
              refine WE.take 27 rfl (by decide +kernel) (by decide +kernel) (by decide +kernel) (by decide +kernel) rfl rfl (fun wq hq => R.move (v := Value.bool false) rfl) ?_
              refine WE.takeY 28 (e := 58) rfl (by decide +kernel) (by decide +kernel) (by decide +kernel) (by decide +kernel) rfl rfl rfl rfl rfl (fun wq hq => R.loadA (cs := encR y145 (Value.slice a151 y145.table.length c152)) (n := 57) ag62 rfl ((hs391.ext hq).at (i := 11) (off := 0) (n := 57) (cs := encR y145 (Value.slice a151 y145.table.length c152)) rfl rfl rfl) rfl) ?_
              refine WE.takeY 29 (e := 58) rfl (by decide +kernel) (by decide +kernel) (by decide +kernel) (by decide +kernel) rfl rfl rfl rfl rfl (fun wq hq => R.loadA (cs := encR y205 (Value.slice a211 y205.table.length c212)) (n := 57) ag62 rfl ((hs391.ext hq).at (i := 13) (off := 0) (n := 57) (cs := encR y205 (Value.slice a211 y205.table.length c212)) rfl rfl rfl) rfl) ?_
              obtain ⟨y496, hx497, h498⟩ := ob (o := same13 y145 y205) h495
              have hr499 := elT (((ht352.trans ht361).trans ht373).trans ht388) hr349
              obtain ⟨-, hl500, he501⟩ := gslU_elems (k := heldW) (gslC_U (hs391.get (i := 8) rfl)) rfl (fun _ _ _ => ⟨trivial, rfl⟩)
              refine WE.callY 30 (e := 58) (by decide +kernel) rfl rfl rfl rfl rfl rfl (same13_ok _ (fun _ => True) y145 y205 _ _ (elAll hr499) hl153 _ _ (elAll he501) hl500 hx497) (R.call (vs := [Value.agg (List.toArray (encR y145 (Value.slice a151 y145.table.length c152))), Value.agg (List.toArray (encR y205 (Value.slice a211 y205.table.length c212)))]) (caps := []) bo65 rfl rfl) ?_
              rintro v504 w505 ⟨rfl, ht502⟩
              refine ⟨.inr (show Ext _ _ from ht502.kept), ?_⟩
              have ht503 := hs391.call (N := [gsl 202 heldE (Value.slice a374 y368.table.length c375) y368.table, gsl 202 heldE (Value.slice a362 y356.table.length c363) y356.table, gsl 202 heldE (Value.slice a325 y318.table.length c326) y318.table, gsl 202 heldE (Value.slice a312 y306.table.length c313) y306.table, gsl 202 heldE (Value.slice a300 y293.table.length c301) y293.table, gsl 202 heldE (Value.slice a272 y266.table.length c273) y266.table, gsl 202 heldE (Value.slice a260 y253.table.length c261) y253.table, gsl 60 heldE (Value.slice a234 y228.table.length c235) y228.table, gslC 60 heldE (Value.slice a211 y205.table.length c212) y205.table, blk b103 62 (encR p1 (Value.slice a1 p1.table.length c1)), blk b111 62 (encR p2 (Value.slice a2 p2.table.length c2)), blk b164 62 (encR y145 (Value.slice a151 y145.table.length c152)), blk b194 62 (encR y175 (Value.slice a181 y175.table.length c182)), blk b217 62 (encR y205 (Value.slice a211 y205.table.length c212)), blk b240 62 (encR y228 (Value.slice a234 y228.table.length c235))]) (M := []) (List.Perm.refl _) ht502
              have hs506 := hs391.trans ht503
              refine WE.takeY 31 (e := 58) rfl (by decide +kernel) (by decide +kernel) (by decide +kernel) (by decide +kernel) rfl rfl rfl rfl rfl (fun wq hq => R.not (b := y496) rfl) ?_
              refine WE.take 32 rfl (by decide +kernel) (by decide +kernel) (by decide +kernel) (by decide +kernel) rfl rfl (fun wq hq => R.pickF (v := Value.bool (!y496)) rfl rfl) ?_
              refine WE.take 33 rfl (by decide +kernel) (by decide +kernel) (by decide +kernel) (by decide +kernel) rfl rfl (fun wq hq => R.move (v := Value.bool (!y496)) rfl) ?_
              by_cases hc507 : y496 = true
              · have h508 := ifT hc507 h498
                have hk509 : (!y496) = false := by simp [hc507]
                refine WE.takeY 34 (e := 64) rfl (by decide +kernel) (by decide +kernel) (by decide +kernel) (by decide +kernel) rfl rfl rfl rfl (Eq.trans (show _ = Value.bool (!y496) from rfl) (congrArg Value.bool hk509)) (fun wq hq => R.fieldAddr (o := 0) (o' := 1) fa62_1 rfl rfl) ?_
                refine WE.takeY 35 (e := 64) rfl (by decide +kernel) (by decide +kernel) (by decide +kernel) (by decide +kernel) rfl rfl rfl rfl (Eq.trans (show _ = Value.bool (!y496) from rfl) (congrArg Value.bool hk509)) (fun wq hq => R.loadA (cs := encC p1.cell) (n := 55) ag58 rfl ((hs506.ext hq).at (i := 9) (off := 1) (n := 55) (cs := encC p1.cell) rfl rfl rfl) rfl) ?_
                refine WE.takeY 37 (e := 64) rfl (by decide +kernel) (by decide +kernel) (by decide +kernel) (by decide +kernel) rfl rfl rfl rfl (Eq.trans (show _ = Value.bool (!y496) from rfl) (congrArg Value.bool hk509)) (fun wq hq => R.fieldAddr (o := 0) (o' := 1) fa62_1 rfl rfl) ?_
                refine WE.takeY 38 (e := 64) rfl (by decide +kernel) (by decide +kernel) (by decide +kernel) (by decide +kernel) rfl rfl rfl rfl (Eq.trans (show _ = Value.bool (!y496) from rfl) (congrArg Value.bool hk509)) (fun wq hq => R.loadA (cs := encC p1.cell) (n := 55) ag58 rfl ((hs506.ext hq).at (i := 9) (off := 1) (n := 55) (cs := encC p1.cell) rfl rfl rfl) rfl) ?_
                obtain ⟨y510, hx511, h512⟩ := ob (o := cell13 p1.cell) h508
                refine WE.callY 36 (e := 64) (by decide +kernel) rfl rfl rfl rfl rfl (Eq.trans (show _ = Value.bool (!y496) from rfl) (congrArg Value.bool hk509)) (cell13_ok _ (In ok w [] [gsl 202 heldE (Value.slice a374 y368.table.length c375) y368.table, gsl 202 heldE (Value.slice a362 y356.table.length c363) y356.table, gsl 202 heldE (Value.slice a325 y318.table.length c326) y318.table, gsl 202 heldE (Value.slice a312 y306.table.length c313) y306.table, gsl 202 heldE (Value.slice a300 y293.table.length c301) y293.table, gsl 202 heldE (Value.slice a272 y266.table.length c273) y266.table, gsl 202 heldE (Value.slice a260 y253.table.length c261) y253.table, gsl 60 heldE (Value.slice a234 y228.table.length c235) y228.table, gslC 60 heldE (Value.slice a211 y205.table.length c212) y205.table, blk b103 62 (encR p1 (Value.slice a1 p1.table.length c1)), blk b111 62 (encR p2 (Value.slice a2 p2.table.length c2)), blk b164 62 (encR y145 (Value.slice a151 y145.table.length c152)), blk b194 62 (encR y175 (Value.slice a181 y175.table.length c182)), blk b217 62 (encR y205 (Value.slice a211 y205.table.length c212)), blk b240 62 (encR y228 (Value.slice a234 y228.table.length c235))]) p1.cell  hx511) (R.call (vs := [Value.agg (List.toArray (encC p1.cell))]) (caps := []) bo73 rfl rfl) ?_
                rintro v515 w516 ⟨rfl, ht513⟩
                refine ⟨.inr (show Ext _ _ from ht513.kept), ?_⟩
                have ht514 := hs506.call (N := [gsl 202 heldE (Value.slice a374 y368.table.length c375) y368.table, gsl 202 heldE (Value.slice a362 y356.table.length c363) y356.table, gsl 202 heldE (Value.slice a325 y318.table.length c326) y318.table, gsl 202 heldE (Value.slice a312 y306.table.length c313) y306.table, gsl 202 heldE (Value.slice a300 y293.table.length c301) y293.table, gsl 202 heldE (Value.slice a272 y266.table.length c273) y266.table, gsl 202 heldE (Value.slice a260 y253.table.length c261) y253.table, gsl 60 heldE (Value.slice a234 y228.table.length c235) y228.table, gslC 60 heldE (Value.slice a211 y205.table.length c212) y205.table, blk b103 62 (encR p1 (Value.slice a1 p1.table.length c1)), blk b111 62 (encR p2 (Value.slice a2 p2.table.length c2)), blk b164 62 (encR y145 (Value.slice a151 y145.table.length c152)), blk b194 62 (encR y175 (Value.slice a181 y175.table.length c182)), blk b217 62 (encR y205 (Value.slice a211 y205.table.length c212)), blk b240 62 (encR y228 (Value.slice a234 y228.table.length c235))]) (M := []) (List.Perm.refl _) ht513
                have hs517 := hs506.trans ht514
                obtain ⟨y518, hx519, h520⟩ := ob (o := rcell13 p1.cell) h512
                refine WE.callY 39 (e := 64) (by decide +kernel) rfl rfl rfl rfl rfl (Eq.trans (show _ = Value.bool (!y496) from rfl) (congrArg Value.bool hk509)) (rcell13_ok _ (In ok w [] [gsl 202 heldE (Value.slice a374 y368.table.length c375) y368.table, gsl 202 heldE (Value.slice a362 y356.table.length c363) y356.table, gsl 202 heldE (Value.slice a325 y318.table.length c326) y318.table, gsl 202 heldE (Value.slice a312 y306.table.length c313) y306.table, gsl 202 heldE (Value.slice a300 y293.table.length c301) y293.table, gsl 202 heldE (Value.slice a272 y266.table.length c273) y266.table, gsl 202 heldE (Value.slice a260 y253.table.length c261) y253.table, gsl 60 heldE (Value.slice a234 y228.table.length c235) y228.table, gslC 60 heldE (Value.slice a211 y205.table.length c212) y205.table, blk b103 62 (encR p1 (Value.slice a1 p1.table.length c1)), blk b111 62 (encR p2 (Value.slice a2 p2.table.length c2)), blk b164 62 (encR y145 (Value.slice a151 y145.table.length c152)), blk b194 62 (encR y175 (Value.slice a181 y175.table.length c182)), blk b217 62 (encR y205 (Value.slice a211 y205.table.length c212)), blk b240 62 (encR y228 (Value.slice a234 y228.table.length c235))]) p1.cell  hx519) (R.call (vs := [Value.agg (List.toArray (encC p1.cell))]) (caps := []) bo74 rfl rfl) ?_
                rintro v523 w524 ⟨rfl, ht521⟩
                refine ⟨.inr (show Ext _ _ from ht521.kept), ?_⟩
                have ht522 := hs517.call (N := [gsl 202 heldE (Value.slice a374 y368.table.length c375) y368.table, gsl 202 heldE (Value.slice a362 y356.table.length c363) y356.table, gsl 202 heldE (Value.slice a325 y318.table.length c326) y318.table, gsl 202 heldE (Value.slice a312 y306.table.length c313) y306.table, gsl 202 heldE (Value.slice a300 y293.table.length c301) y293.table, gsl 202 heldE (Value.slice a272 y266.table.length c273) y266.table, gsl 202 heldE (Value.slice a260 y253.table.length c261) y253.table, gsl 60 heldE (Value.slice a234 y228.table.length c235) y228.table, gslC 60 heldE (Value.slice a211 y205.table.length c212) y205.table, blk b103 62 (encR p1 (Value.slice a1 p1.table.length c1)), blk b111 62 (encR p2 (Value.slice a2 p2.table.length c2)), blk b164 62 (encR y145 (Value.slice a151 y145.table.length c152)), blk b194 62 (encR y175 (Value.slice a181 y175.table.length c182)), blk b217 62 (encR y205 (Value.slice a211 y205.table.length c212)), blk b240 62 (encR y228 (Value.slice a234 y228.table.length c235))]) (M := []) (List.Perm.refl _) ht521
                have hs525 := hs517.trans ht522
                refine WE.takeY 40 (e := 64) rfl (by decide +kernel) (by decide +kernel) (by decide +kernel) (by decide +kernel) rfl rfl rfl rfl (Eq.trans (show _ = Value.bool (!y496) from rfl) (congrArg Value.bool hk509)) (fun wq hq => R.neCell (a := y510) (b := y518) rfl rfl) ?_
                refine WE.take 41 rfl (by decide +kernel) (by decide +kernel) (by decide +kernel) (by decide +kernel) rfl rfl (fun wq hq => R.pickF (v := Value.bool (decide (¬ (y510 = y518)))) (Eq.trans (show _ = Value.bool (!y496) from rfl) (congrArg Value.bool hk509)) rfl) ?_
                refine WE.done (by decide +kernel) ?_
                refine thenN ?_
                by_cases hc526 : ¬ (y510 = y518)
                · have h527 := ifT hc526 h520
                  refine WC.condT (Eq.trans (show _ = Value.bool (decide (¬ (y510 = y518))) from rfl) (congrArg Value.bool (decide_eq_true hc526))) rfl ?_
                  refine WC.seq ?_
                  refine WC.region ?_
                  refine WL.val (R.assign (v := Value.bool false) rfl) rfl ?_
                  refine WL.nil ?_
                  refine thenN ?_
                  refine WC.ret ?_
                  have ht528 := (hs525.here).perm (L' := []) (G := [gsl 202 heldE (Value.slice a374 y368.table.length c375) y368.table, gsl 202 heldE (Value.slice a362 y356.table.length c363) y356.table, gsl 202 heldE (Value.slice a325 y318.table.length c326) y318.table, gsl 202 heldE (Value.slice a312 y306.table.length c313) y306.table, gsl 202 heldE (Value.slice a300 y293.table.length c301) y293.table, gsl 202 heldE (Value.slice a272 y266.table.length c273) y266.table, gsl 202 heldE (Value.slice a260 y253.table.length c261) y253.table, gsl 60 heldE (Value.slice a234 y228.table.length c235) y228.table, gslC 60 heldE (Value.slice a211 y205.table.length c212) y205.table, blk b103 62 (encR p1 (Value.slice a1 p1.table.length c1)), blk b111 62 (encR p2 (Value.slice a2 p2.table.length c2)), blk b164 62 (encR y145 (Value.slice a151 y145.table.length c152)), blk b194 62 (encR y175 (Value.slice a181 y175.table.length c182)), blk b217 62 (encR y205 (Value.slice a211 y205.table.length c212)), blk b240 62 (encR y228 (Value.slice a234 y228.table.length c235))]) ((List.Perm.refl _))
                  have hs529 := hs525.trans ht528
                  obtain rfl := Option.some.inj (show some false = some r from h527)
                  exact ret1 (P := Try.prog) (n := 88) (fn := Try.f15) (R := fun v w' => v = Value.bool false ∧ St [] w w' []) (t := 6) (v := Value.bool false) rfl rfl rfl ⟨rfl, hs529⟩
                · have h530 := ifF hc526 h520
                  refine WC.condF (Eq.trans (show _ = Value.bool (decide (¬ (y510 = y518))) from rfl) (congrArg Value.bool (decide_eq_false hc526))) rfl ?_
                  refine WC.skip ?_
                  refine thenN ?_
                  refine WC.seq ?_
                  refine WC.region ?_
                  refine WL.val (R.loadA (cs := encR y205 (Value.slice a211 y205.table.length c212)) (n := 57) ag62 rfl (hs525.at (i := 13) (off := 0) (n := 57) (cs := encR y205 (Value.slice a211 y205.table.length c212)) rfl rfl rfl) rfl) rfl ?_
                  refine WL.call (spoil13_C _ y205 _ _ _ _ (show St [gslC 60 heldE (Value.slice a211 y205.table.length c212) y205.table] _ _ [gslC 60 heldE (Value.slice a211 y205.table.length c212) y205.table] from St.ofM (M := [gslC 60 heldE (Value.slice a211 y205.table.length c212) y205.table]) (N := [gsl 202 heldE (Value.slice a374 y368.table.length c375) y368.table, gsl 202 heldE (Value.slice a362 y356.table.length c363) y356.table, gsl 202 heldE (Value.slice a325 y318.table.length c326) y318.table, gsl 202 heldE (Value.slice a312 y306.table.length c313) y306.table, gsl 202 heldE (Value.slice a300 y293.table.length c301) y293.table, gsl 202 heldE (Value.slice a272 y266.table.length c273) y266.table, gsl 202 heldE (Value.slice a260 y253.table.length c261) y253.table, gsl 60 heldE (Value.slice a234 y228.table.length c235) y228.table, blk b103 62 (encR p1 (Value.slice a1 p1.table.length c1)), blk b111 62 (encR p2 (Value.slice a2 p2.table.length c2)), blk b164 62 (encR y145 (Value.slice a151 y145.table.length c152)), blk b194 62 (encR y175 (Value.slice a181 y175.table.length c182)), blk b217 62 (encR y205 (Value.slice a211 y205.table.length c212)), blk b240 62 (encR y228 (Value.slice a234 y228.table.length c235))]) hs525 (((List.perm_middle (l₁ := [gsl 202 heldE (Value.slice a374 y368.table.length c375) y368.table, gsl 202 heldE (Value.slice a362 y356.table.length c363) y356.table, gsl 202 heldE (Value.slice a325 y318.table.length c326) y318.table, gsl 202 heldE (Value.slice a312 y306.table.length c313) y306.table, gsl 202 heldE (Value.slice a300 y293.table.length c301) y293.table, gsl 202 heldE (Value.slice a272 y266.table.length c273) y266.table, gsl 202 heldE (Value.slice a260 y253.table.length c261) y253.table, gsl 60 heldE (Value.slice a234 y228.table.length c235) y228.table]) (a := gslC 60 heldE (Value.slice a211 y205.table.length c212) y205.table) (l₂ := [blk b103 62 (encR p1 (Value.slice a1 p1.table.length c1)), blk b111 62 (encR p2 (Value.slice a2 p2.table.length c2)), blk b164 62 (encR y145 (Value.slice a151 y145.table.length c152)), blk b194 62 (encR y175 (Value.slice a181 y175.table.length c182)), blk b217 62 (encR y205 (Value.slice a211 y205.table.length c212)), blk b240 62 (encR y228 (Value.slice a234 y228.table.length c235))])).trans (List.Perm.cons _ (List.Perm.refl _)))))) (R.call (vs := [Value.agg (List.toArray (encR y205 (Value.slice a211 y205.table.length c212)))]) (caps := []) bo64 rfl rfl) rfl ?_
                  rintro v533 w534 ⟨rfl, ht531⟩
                  have ht532 := hs525.call (M := [gslC 60 heldE (Value.slice a211 y205.table.length c212) y205.table]) (N := [gsl 202 heldE (Value.slice a374 y368.table.length c375) y368.table, gsl 202 heldE (Value.slice a362 y356.table.length c363) y356.table, gsl 202 heldE (Value.slice a325 y318.table.length c326) y318.table, gsl 202 heldE (Value.slice a312 y306.table.length c313) y306.table, gsl 202 heldE (Value.slice a300 y293.table.length c301) y293.table, gsl 202 heldE (Value.slice a272 y266.table.length c273) y266.table, gsl 202 heldE (Value.slice a260 y253.table.length c261) y253.table, gsl 60 heldE (Value.slice a234 y228.table.length c235) y228.table, blk b103 62 (encR p1 (Value.slice a1 p1.table.length c1)), blk b111 62 (encR p2 (Value.slice a2 p2.table.length c2)), blk b164 62 (encR y145 (Value.slice a151 y145.table.length c152)), blk b194 62 (encR y175 (Value.slice a181 y175.table.length c182)), blk b217 62 (encR y205 (Value.slice a211 y205.table.length c212)), blk b240 62 (encR y228 (Value.slice a234 y228.table.length c235))]) (((List.perm_middle (l₁ := [gsl 202 heldE (Value.slice a374 y368.table.length c375) y368.table, gsl 202 heldE (Value.slice a362 y356.table.length c363) y356.table, gsl 202 heldE (Value.slice a325 y318.table.length c326) y318.table, gsl 202 heldE (Value.slice a312 y306.table.length c313) y306.table, gsl 202 heldE (Value.slice a300 y293.table.length c301) y293.table, gsl 202 heldE (Value.slice a272 y266.table.length c273) y266.table, gsl 202 heldE (Value.slice a260 y253.table.length c261) y253.table, gsl 60 heldE (Value.slice a234 y228.table.length c235) y228.table]) (a := gslC 60 heldE (Value.slice a211 y205.table.length c212) y205.table) (l₂ := [blk b103 62 (encR p1 (Value.slice a1 p1.table.length c1)), blk b111 62 (encR p2 (Value.slice a2 p2.table.length c2)), blk b164 62 (encR y145 (Value.slice a151 y145.table.length c152)), blk b194 62 (encR y175 (Value.slice a181 y175.table.length c182)), blk b217 62 (encR y205 (Value.slice a211 y205.table.length c212)), blk b240 62 (encR y228 (Value.slice a234 y228.table.length c235))])).trans (List.Perm.cons _ (List.Perm.refl _)))) ht531
                  have hs535 := hs525.trans ht532
                  refine WL.nil ?_
                  refine thenN ?_
                  refine WC.seq ?_
                  refine WC.region ?_
                  refine WL.val (R.loadA (cs := encR y228 (Value.slice a234 y228.table.length c235)) (n := 57) ag62 rfl (hs535.at (i := 13) (off := 0) (n := 57) (cs := encR y228 (Value.slice a234 y228.table.length c235)) rfl rfl rfl) rfl) rfl ?_
                  refine WL.call (spoil13_G _ y228 _ _ _ _ (show St [gsl 60 heldE (Value.slice a234 y228.table.length c235) y228.table] _ _ [gsl 60 heldE (Value.slice a234 y228.table.length c235) y228.table] from St.ofM (M := [gsl 60 heldE (Value.slice a234 y228.table.length c235) y228.table]) (N := [gsl 202 heldE (Value.slice a374 y368.table.length c375) y368.table, gsl 202 heldE (Value.slice a362 y356.table.length c363) y356.table, gsl 202 heldE (Value.slice a325 y318.table.length c326) y318.table, gsl 202 heldE (Value.slice a312 y306.table.length c313) y306.table, gsl 202 heldE (Value.slice a300 y293.table.length c301) y293.table, gsl 202 heldE (Value.slice a272 y266.table.length c273) y266.table, gsl 202 heldE (Value.slice a260 y253.table.length c261) y253.table, blk b103 62 (encR p1 (Value.slice a1 p1.table.length c1)), blk b111 62 (encR p2 (Value.slice a2 p2.table.length c2)), blk b164 62 (encR y145 (Value.slice a151 y145.table.length c152)), blk b194 62 (encR y175 (Value.slice a181 y175.table.length c182)), blk b217 62 (encR y205 (Value.slice a211 y205.table.length c212)), blk b240 62 (encR y228 (Value.slice a234 y228.table.length c235))]) hs535 (((List.perm_middle (l₁ := [gsl 202 heldE (Value.slice a374 y368.table.length c375) y368.table, gsl 202 heldE (Value.slice a362 y356.table.length c363) y356.table, gsl 202 heldE (Value.slice a325 y318.table.length c326) y318.table, gsl 202 heldE (Value.slice a312 y306.table.length c313) y306.table, gsl 202 heldE (Value.slice a300 y293.table.length c301) y293.table, gsl 202 heldE (Value.slice a272 y266.table.length c273) y266.table, gsl 202 heldE (Value.slice a260 y253.table.length c261) y253.table]) (a := gsl 60 heldE (Value.slice a234 y228.table.length c235) y228.table) (l₂ := [blk b103 62 (encR p1 (Value.slice a1 p1.table.length c1)), blk b111 62 (encR p2 (Value.slice a2 p2.table.length c2)), blk b164 62 (encR y145 (Value.slice a151 y145.table.length c152)), blk b194 62 (encR y175 (Value.slice a181 y175.table.length c182)), blk b217 62 (encR y205 (Value.slice a211 y205.table.length c212)), blk b240 62 (encR y228 (Value.slice a234 y228.table.length c235))])).trans (List.Perm.cons _ (List.Perm.refl _)))))) (R.call (vs := [Value.agg (List.toArray (encR y228 (Value.slice a234 y228.table.length c235)))]) (caps := []) bo64 rfl rfl) rfl ?_
                  rintro v538 w539 ⟨rfl, ht536⟩
                  have ht537 := hs535.call (M := [gsl 60 heldE (Value.slice a234 y228.table.length c235) y228.table]) (N := [gsl 202 heldE (Value.slice a374 y368.table.length c375) y368.table, gsl 202 heldE (Value.slice a362 y356.table.length c363) y356.table, gsl 202 heldE (Value.slice a325 y318.table.length c326) y318.table, gsl 202 heldE (Value.slice a312 y306.table.length c313) y306.table, gsl 202 heldE (Value.slice a300 y293.table.length c301) y293.table, gsl 202 heldE (Value.slice a272 y266.table.length c273) y266.table, gsl 202 heldE (Value.slice a260 y253.table.length c261) y253.table, blk b103 62 (encR p1 (Value.slice a1 p1.table.length c1)), blk b111 62 (encR p2 (Value.slice a2 p2.table.length c2)), blk b164 62 (encR y145 (Value.slice a151 y145.table.length c152)), blk b194 62 (encR y175 (Value.slice a181 y175.table.length c182)), blk b217 62 (encR y205 (Value.slice a211 y205.table.length c212)), blk b240 62 (encR y228 (Value.slice a234 y228.table.length c235))]) (((List.perm_middle (l₁ := [gsl 202 heldE (Value.slice a374 y368.table.length c375) y368.table, gsl 202 heldE (Value.slice a362 y356.table.length c363) y356.table, gsl 202 heldE (Value.slice a325 y318.table.length c326) y318.table, gsl 202 heldE (Value.slice a312 y306.table.length c313) y306.table, gsl 202 heldE (Value.slice a300 y293.table.length c301) y293.table, gsl 202 heldE (Value.slice a272 y266.table.length c273) y266.table, gsl 202 heldE (Value.slice a260 y253.table.length c261) y253.table]) (a := gsl 60 heldE (Value.slice a234 y228.table.length c235) y228.table) (l₂ := [blk b103 62 (encR p1 (Value.slice a1 p1.table.length c1)), blk b111 62 (encR p2 (Value.slice a2 p2.table.length c2)), blk b164 62 (encR y145 (Value.slice a151 y145.table.length c152)), blk b194 62 (encR y175 (Value.slice a181 y175.table.length c182)), blk b217 62 (encR y205 (Value.slice a211 y205.table.length c212)), blk b240 62 (encR y228 (Value.slice a234 y228.table.length c235))])).trans (List.Perm.cons _ (List.Perm.refl _)))) ht536
                  have hs540 := hs535.trans ht537
                  refine WL.nil ?_
                  refine thenN ?_
                  refine WC.seq ?_
                  refine WC.region ?_
                  refine WL.val (R.loadA (cs := encR y145 (Value.slice a151 y145.table.length c152)) (n := 57) ag62 rfl (hs540.at (i := 9) (off := 0) (n := 57) (cs := encR y145 (Value.slice a151 y145.table.length c152)) rfl rfl rfl) rfl) rfl ?_
                  refine WL.val (R.loadA (cs := encR p1 (Value.slice a1 p1.table.length c1)) (n := 57) ag62 rfl (hs540.at (i := 7) (off := 0) (n := 57) (cs := encR p1 (Value.slice a1 p1.table.length c1)) rfl rfl rfl) rfl) rfl ?_
                  obtain ⟨y541, hx542, h543⟩ := ob (o := left13 y145 p1) h530
                  have hr544 := elT ((((ht503.trans ht514).trans ht522).trans ht532).trans ht537) hr499
                  have hr545 := elT (((((((ht361.trans ht373).trans ht388).trans ht503).trans ht514).trans ht522).trans ht532).trans ht537) hr359
                  have hr546 := elT (((((((((((((((((((((((((((ht170.trans ht173).trans ht180).trans ht200).trans ht203).trans ht210).trans ht223).trans ht226).trans ht233).trans ht246).trans ht249).trans ht251).trans ht259).trans ht271).trans ht286).trans ht299).trans ht311).trans ht324).trans ht339).trans ht352).trans ht361).trans ht373).trans ht388).trans ht503).trans ht514).trans ht522).trans ht532).trans ht537) hu160
                  refine WL.call (left13_ok _ (fun _ => True) y145 p1 _ _ (elAll hr544) hl153 _ _ (elAll hr545) hc1 ht155 (elAll hr546) hx542) (R.call (vs := [Value.agg (List.toArray (encR y145 (Value.slice a151 y145.table.length c152))), Value.agg (List.toArray (encR p1 (Value.slice a1 p1.table.length c1)))]) (caps := []) bo75 rfl rfl) rfl ?_
                  rintro v549 w550 ⟨rfl, ht547⟩
                  have ht548 := hs540.call (N := [gsl 202 heldE (Value.slice a374 y368.table.length c375) y368.table, gsl 202 heldE (Value.slice a362 y356.table.length c363) y356.table, gsl 202 heldE (Value.slice a325 y318.table.length c326) y318.table, gsl 202 heldE (Value.slice a312 y306.table.length c313) y306.table, gsl 202 heldE (Value.slice a300 y293.table.length c301) y293.table, gsl 202 heldE (Value.slice a272 y266.table.length c273) y266.table, gsl 202 heldE (Value.slice a260 y253.table.length c261) y253.table, blk b103 62 (encR p1 (Value.slice a1 p1.table.length c1)), blk b111 62 (encR p2 (Value.slice a2 p2.table.length c2)), blk b164 62 (encR y145 (Value.slice a151 y145.table.length c152)), blk b194 62 (encR y175 (Value.slice a181 y175.table.length c182)), blk b217 62 (encR y205 (Value.slice a211 y205.table.length c212)), blk b240 62 (encR y228 (Value.slice a234 y228.table.length c235))]) (M := []) (List.Perm.refl _) ht547
                  have hs551 := hs540.trans ht548
                  refine WL.val (R.move (v := Value.bool y541) rfl) rfl ?_
                  by_cases hc552 : y541 = true
                  · have h553 := ifT hc552 h543
                    refine WL.guardY (e := 80) (Eq.trans (show _ = Value.bool y541 from rfl) (congrArg Value.bool hc552)) rfl rfl ?_
                    refine WL.val (R.loadA (cs := encR y175 (Value.slice a181 y175.table.length c182)) (n := 57) ag62 rfl (hs551.at (i := 10) (off := 0) (n := 57) (cs := encR y175 (Value.slice a181 y175.table.length c182)) rfl rfl rfl) rfl) rfl ?_
                    refine WL.guardY (e := 80) (Eq.trans (show _ = Value.bool y541 from rfl) (congrArg Value.bool hc552)) rfl rfl ?_
                    refine WL.val (R.loadA (cs := encR p2 (Value.slice a2 p2.table.length c2)) (n := 57) ag62 rfl (hs551.at (i := 8) (off := 0) (n := 57) (cs := encR p2 (Value.slice a2 p2.table.length c2)) rfl rfl rfl) rfl) rfl ?_
                    refine WL.guardY (e := 80) (Eq.trans (show _ = Value.bool y541 from rfl) (congrArg Value.bool hc552)) rfl rfl ?_
                    obtain ⟨y554, hx555, h556⟩ := ob (o := left13 y175 p2) h553
                    have hr557 := elT (((((((((ht352.trans ht361).trans ht373).trans ht388).trans ht503).trans ht514).trans ht522).trans ht532).trans ht537).trans ht548) hr350
                    have hr558 := elT (((((((ht373.trans ht388).trans ht503).trans ht514).trans ht522).trans ht532).trans ht537).trans ht548) hr371
                    have hr559 := elT (((((((((((((((((((((((((ht200.trans ht203).trans ht210).trans ht223).trans ht226).trans ht233).trans ht246).trans ht249).trans ht251).trans ht259).trans ht271).trans ht286).trans ht299).trans ht311).trans ht324).trans ht339).trans ht352).trans ht361).trans ht373).trans ht388).trans ht503).trans ht514).trans ht522).trans ht532).trans ht537).trans ht548) hu190
                    refine WL.call (left13_ok _ (fun _ => True) y175 p2 _ _ (elAll hr557) hl183 _ _ (elAll hr558) hc2 ht185 (elAll hr559) hx555) (R.call (vs := [Value.agg (List.toArray (encR y175 (Value.slice a181 y175.table.length c182))), Value.agg (List.toArray (encR p2 (Value.slice a2 p2.table.length c2)))]) (caps := []) bo75 rfl rfl) rfl ?_
                    rintro v562 w563 ⟨rfl, ht560⟩
                    have ht561 := hs551.call (N := [gsl 202 heldE (Value.slice a374 y368.table.length c375) y368.table, gsl 202 heldE (Value.slice a362 y356.table.length c363) y356.table, gsl 202 heldE (Value.slice a325 y318.table.length c326) y318.table, gsl 202 heldE (Value.slice a312 y306.table.length c313) y306.table, gsl 202 heldE (Value.slice a300 y293.table.length c301) y293.table, gsl 202 heldE (Value.slice a272 y266.table.length c273) y266.table, gsl 202 heldE (Value.slice a260 y253.table.length c261) y253.table, blk b103 62 (encR p1 (Value.slice a1 p1.table.length c1)), blk b111 62 (encR p2 (Value.slice a2 p2.table.length c2)), blk b164 62 (encR y145 (Value.slice a151 y145.table.length c152)), blk b194 62 (encR y175 (Value.slice a181 y175.table.length c182)), blk b217 62 (encR y205 (Value.slice a211 y205.table.length c212)), blk b240 62 (encR y228 (Value.slice a234 y228.table.length c235))]) (M := []) (List.Perm.refl _) ht560
                    have hs564 := hs551.trans ht561
                    refine WL.val (R.pickT (v := Value.bool y554) (Eq.trans (show _ = Value.bool y541 from rfl) (congrArg Value.bool hc552)) rfl) rfl ?_
                    refine WL.val (R.move (v := Value.bool y554) rfl) rfl ?_
                    by_cases hc565 : y554 = true
                    · have h566 := ifT hc565 h556
                      refine WL.guardY (e := 85) (Eq.trans (show _ = Value.bool y554 from rfl) (congrArg Value.bool hc565)) rfl rfl ?_
                      obtain ⟨y567, hx568, h569⟩ := ob (o := lives13 ) h566
                      refine WL.call (lives13_ok _ (In ok w [] [gsl 202 heldE (Value.slice a374 y368.table.length c375) y368.table, gsl 202 heldE (Value.slice a362 y356.table.length c363) y356.table, gsl 202 heldE (Value.slice a325 y318.table.length c326) y318.table, gsl 202 heldE (Value.slice a312 y306.table.length c313) y306.table, gsl 202 heldE (Value.slice a300 y293.table.length c301) y293.table, gsl 202 heldE (Value.slice a272 y266.table.length c273) y266.table, gsl 202 heldE (Value.slice a260 y253.table.length c261) y253.table, blk b103 62 (encR p1 (Value.slice a1 p1.table.length c1)), blk b111 62 (encR p2 (Value.slice a2 p2.table.length c2)), blk b164 62 (encR y145 (Value.slice a151 y145.table.length c152)), blk b194 62 (encR y175 (Value.slice a181 y175.table.length c182)), blk b217 62 (encR y205 (Value.slice a211 y205.table.length c212)), blk b240 62 (encR y228 (Value.slice a234 y228.table.length c235))])   hx568) (R.call (vs := []) (caps := []) bo60 rfl rfl) rfl ?_
                      rintro v572 w573 ⟨rfl, ht570⟩
                      have ht571 := hs564.call (N := [gsl 202 heldE (Value.slice a374 y368.table.length c375) y368.table, gsl 202 heldE (Value.slice a362 y356.table.length c363) y356.table, gsl 202 heldE (Value.slice a325 y318.table.length c326) y318.table, gsl 202 heldE (Value.slice a312 y306.table.length c313) y306.table, gsl 202 heldE (Value.slice a300 y293.table.length c301) y293.table, gsl 202 heldE (Value.slice a272 y266.table.length c273) y266.table, gsl 202 heldE (Value.slice a260 y253.table.length c261) y253.table, blk b103 62 (encR p1 (Value.slice a1 p1.table.length c1)), blk b111 62 (encR p2 (Value.slice a2 p2.table.length c2)), blk b164 62 (encR y145 (Value.slice a151 y145.table.length c152)), blk b194 62 (encR y175 (Value.slice a181 y175.table.length c182)), blk b217 62 (encR y205 (Value.slice a211 y205.table.length c212)), blk b240 62 (encR y228 (Value.slice a234 y228.table.length c235))]) (M := []) (List.Perm.refl _) ht570
                      have hs574 := hs564.trans ht571
                      refine WL.val (R.pickT (v := Value.bool y567) (Eq.trans (show _ = Value.bool y554 from rfl) (congrArg Value.bool hc565)) rfl) rfl ?_
                      refine WL.val (R.assign (v := Value.bool y567) rfl) rfl ?_
                      refine WL.nil ?_
                      refine thenN ?_
                      refine WC.ret ?_
                      have ht575 := (hs574.here).perm (L' := []) (G := [gsl 202 heldE (Value.slice a374 y368.table.length c375) y368.table, gsl 202 heldE (Value.slice a362 y356.table.length c363) y356.table, gsl 202 heldE (Value.slice a325 y318.table.length c326) y318.table, gsl 202 heldE (Value.slice a312 y306.table.length c313) y306.table, gsl 202 heldE (Value.slice a300 y293.table.length c301) y293.table, gsl 202 heldE (Value.slice a272 y266.table.length c273) y266.table, gsl 202 heldE (Value.slice a260 y253.table.length c261) y253.table, blk b103 62 (encR p1 (Value.slice a1 p1.table.length c1)), blk b111 62 (encR p2 (Value.slice a2 p2.table.length c2)), blk b164 62 (encR y145 (Value.slice a151 y145.table.length c152)), blk b194 62 (encR y175 (Value.slice a181 y175.table.length c182)), blk b217 62 (encR y205 (Value.slice a211 y205.table.length c212)), blk b240 62 (encR y228 (Value.slice a234 y228.table.length c235))]) ((List.Perm.refl _))
                      have hs576 := hs574.trans ht575
                      obtain rfl := Option.some.inj (show some y567 = some r from h569)
                      exact ret1 (P := Try.prog) (n := 88) (fn := Try.f15) (R := fun v w' => v = Value.bool y567 ∧ St [] w w' []) (t := 6) (v := Value.bool y567) rfl rfl rfl ⟨rfl, hs576⟩
                    · have h577 := ifF hc565 h556
                      refine WL.guardN (e := 85) (v := .bool false) (Eq.trans (show _ = Value.bool y554 from rfl) (congrArg Value.bool (Bool.eq_false_iff.2 hc565))) rfl rfl rfl ?_
                      refine WL.val (R.pickF (v := Value.bool false) (Eq.trans (show _ = Value.bool y554 from rfl) (congrArg Value.bool (Bool.eq_false_iff.2 hc565))) rfl) rfl ?_
                      refine WL.val (R.assign (v := Value.bool false) rfl) rfl ?_
                      refine WL.nil ?_
                      refine thenN ?_
                      refine WC.ret ?_
                      have ht578 := (hs564.here).perm (L' := []) (G := [gsl 202 heldE (Value.slice a374 y368.table.length c375) y368.table, gsl 202 heldE (Value.slice a362 y356.table.length c363) y356.table, gsl 202 heldE (Value.slice a325 y318.table.length c326) y318.table, gsl 202 heldE (Value.slice a312 y306.table.length c313) y306.table, gsl 202 heldE (Value.slice a300 y293.table.length c301) y293.table, gsl 202 heldE (Value.slice a272 y266.table.length c273) y266.table, gsl 202 heldE (Value.slice a260 y253.table.length c261) y253.table, blk b103 62 (encR p1 (Value.slice a1 p1.table.length c1)), blk b111 62 (encR p2 (Value.slice a2 p2.table.length c2)), blk b164 62 (encR y145 (Value.slice a151 y145.table.length c152)), blk b194 62 (encR y175 (Value.slice a181 y175.table.length c182)), blk b217 62 (encR y205 (Value.slice a211 y205.table.length c212)), blk b240 62 (encR y228 (Value.slice a234 y228.table.length c235))]) ((List.Perm.refl _))
                      have hs579 := hs564.trans ht578
                      obtain rfl := Option.some.inj (show some false = some r from h577)
                      exact ret1 (P := Try.prog) (n := 88) (fn := Try.f15) (R := fun v w' => v = Value.bool false ∧ St [] w w' []) (t := 6) (v := Value.bool false) rfl rfl rfl ⟨rfl, hs579⟩
                  · have h580 := ifF hc552 h543
                    refine WL.guardN (e := 80) (v := .bool false) (Eq.trans (show _ = Value.bool y541 from rfl) (congrArg Value.bool (Bool.eq_false_iff.2 hc552))) rfl rfl rfl ?_
                    refine WL.guardN (e := 80) (v := .bool false) (Eq.trans (show _ = Value.bool y541 from rfl) (congrArg Value.bool (Bool.eq_false_iff.2 hc552))) rfl rfl rfl ?_
                    refine WL.guardN (e := 80) (v := .bool false) (Eq.trans (show _ = Value.bool y541 from rfl) (congrArg Value.bool (Bool.eq_false_iff.2 hc552))) rfl rfl rfl ?_
                    refine WL.val (R.pickF (v := Value.bool false) (Eq.trans (show _ = Value.bool y541 from rfl) (congrArg Value.bool (Bool.eq_false_iff.2 hc552))) rfl) rfl ?_
                    refine WL.val (R.move (v := Value.bool false) rfl) rfl ?_
                    refine WL.guardN (e := 85) (v := .bool false) rfl rfl rfl rfl ?_
                    refine WL.val (R.pickF (v := Value.bool false) rfl rfl) rfl ?_
                    refine WL.val (R.assign (v := Value.bool false) rfl) rfl ?_
                    refine WL.nil ?_
                    refine thenN ?_
                    refine WC.ret ?_
                    have ht581 := (hs551.here).perm (L' := []) (G := [gsl 202 heldE (Value.slice a374 y368.table.length c375) y368.table, gsl 202 heldE (Value.slice a362 y356.table.length c363) y356.table, gsl 202 heldE (Value.slice a325 y318.table.length c326) y318.table, gsl 202 heldE (Value.slice a312 y306.table.length c313) y306.table, gsl 202 heldE (Value.slice a300 y293.table.length c301) y293.table, gsl 202 heldE (Value.slice a272 y266.table.length c273) y266.table, gsl 202 heldE (Value.slice a260 y253.table.length c261) y253.table, blk b103 62 (encR p1 (Value.slice a1 p1.table.length c1)), blk b111 62 (encR p2 (Value.slice a2 p2.table.length c2)), blk b164 62 (encR y145 (Value.slice a151 y145.table.length c152)), blk b194 62 (encR y175 (Value.slice a181 y175.table.length c182)), blk b217 62 (encR y205 (Value.slice a211 y205.table.length c212)), blk b240 62 (encR y228 (Value.slice a234 y228.table.length c235))]) ((List.Perm.refl _))
                    have hs582 := hs551.trans ht581
                    obtain rfl := Option.some.inj (show some false = some r from h580)
                    exact ret1 (P := Try.prog) (n := 88) (fn := Try.f15) (R := fun v w' => v = Value.bool false ∧ St [] w w' []) (t := 6) (v := Value.bool false) rfl rfl rfl ⟨rfl, hs582⟩
              · have h583 := ifF hc507 h498
                have hk584 : (!y496) = true := by simp [hc507]
                refine WE.takeN 34 (e := 64) (v := .bool true) rfl (by decide +kernel) (by decide +kernel) (by decide +kernel) (by decide +kernel) rfl rfl rfl (Eq.trans (show _ = Value.bool (!y496) from rfl) (congrArg Value.bool hk584)) rfl ?_
                refine WE.takeN 35 (e := 64) (v := .bool true) rfl (by decide +kernel) (by decide +kernel) (by decide +kernel) (by decide +kernel) rfl rfl rfl (Eq.trans (show _ = Value.bool (!y496) from rfl) (congrArg Value.bool hk584)) rfl ?_
                refine WE.takeN 36 (e := 64) (v := .bool true) rfl (by decide +kernel) (by decide +kernel) (by decide +kernel) (by decide +kernel) rfl rfl rfl (Eq.trans (show _ = Value.bool (!y496) from rfl) (congrArg Value.bool hk584)) rfl ?_
                refine WE.takeN 37 (e := 64) (v := .bool true) rfl (by decide +kernel) (by decide +kernel) (by decide +kernel) (by decide +kernel) rfl rfl rfl (Eq.trans (show _ = Value.bool (!y496) from rfl) (congrArg Value.bool hk584)) rfl ?_
                refine WE.takeN 38 (e := 64) (v := .bool true) rfl (by decide +kernel) (by decide +kernel) (by decide +kernel) (by decide +kernel) rfl rfl rfl (Eq.trans (show _ = Value.bool (!y496) from rfl) (congrArg Value.bool hk584)) rfl ?_
                refine WE.takeN 39 (e := 64) (v := .bool true) rfl (by decide +kernel) (by decide +kernel) (by decide +kernel) (by decide +kernel) rfl rfl rfl (Eq.trans (show _ = Value.bool (!y496) from rfl) (congrArg Value.bool hk584)) rfl ?_
                refine WE.takeN 40 (e := 64) (v := .bool true) rfl (by decide +kernel) (by decide +kernel) (by decide +kernel) (by decide +kernel) rfl rfl rfl (Eq.trans (show _ = Value.bool (!y496) from rfl) (congrArg Value.bool hk584)) rfl ?_
                refine WE.take 41 rfl (by decide +kernel) (by decide +kernel) (by decide +kernel) (by decide +kernel) rfl rfl (fun wq hq => R.pickT (v := Value.bool true) (Eq.trans (show _ = Value.bool (!y496) from rfl) (congrArg Value.bool hk584)) rfl) ?_
                refine WE.done (by decide +kernel) ?_
                refine thenN ?_
                refine WC.condT rfl rfl ?_
                refine WC.seq ?_
                refine WC.region ?_
                refine WL.val (R.assign (v := Value.bool false) rfl) rfl ?_
                refine WL.nil ?_
                refine thenN ?_
                refine WC.ret ?_
                have ht585 := (hs506.here).perm (L' := []) (G := [gsl 202 heldE (Value.slice a374 y368.table.length c375) y368.table, gsl 202 heldE (Value.slice a362 y356.table.length c363) y356.table, gsl 202 heldE (Value.slice a325 y318.table.length c326) y318.table, gsl 202 heldE (Value.slice a312 y306.table.length c313) y306.table, gsl 202 heldE (Value.slice a300 y293.table.length c301) y293.table, gsl 202 heldE (Value.slice a272 y266.table.length c273) y266.table, gsl 202 heldE (Value.slice a260 y253.table.length c261) y253.table, gsl 60 heldE (Value.slice a234 y228.table.length c235) y228.table, gslC 60 heldE (Value.slice a211 y205.table.length c212) y205.table, blk b103 62 (encR p1 (Value.slice a1 p1.table.length c1)), blk b111 62 (encR p2 (Value.slice a2 p2.table.length c2)), blk b164 62 (encR y145 (Value.slice a151 y145.table.length c152)), blk b194 62 (encR y175 (Value.slice a181 y175.table.length c182)), blk b217 62 (encR y205 (Value.slice a211 y205.table.length c212)), blk b240 62 (encR y228 (Value.slice a234 y228.table.length c235))]) ((List.Perm.refl _))
                have hs586 := hs506.trans ht585
                obtain rfl := Option.some.inj (show some false = some r from h583)
                exact ret1 (P := Try.prog) (n := 88) (fn := Try.f15) (R := fun v w' => v = Value.bool false ∧ St [] w w' []) (t := 6) (v := Value.bool false) rfl rfl rfl ⟨rfl, hs586⟩
        · have h587 := ifF hc343 h333
          have hk588 : (!y331) = true := by simp [hc343]
          refine WE.takeN 17 (e := 47) (v := .bool true) rfl (by decide +kernel) (by decide +kernel) (by decide +kernel) (by decide +kernel) rfl rfl rfl (Eq.trans (show _ = Value.bool (!y331) from rfl) (congrArg Value.bool hk588)) rfl ?_
          refine WE.takeN 18 (e := 47) (v := .bool true) rfl (by decide +kernel) (by decide +kernel) (by decide +kernel) (by decide +kernel) rfl rfl rfl (Eq.trans (show _ = Value.bool (!y331) from rfl) (congrArg Value.bool hk588)) rfl ?_
          refine WE.takeN 19 (e := 47) (v := .bool true) rfl (by decide +kernel) (by decide +kernel) (by decide +kernel) (by decide +kernel) rfl rfl rfl (Eq.trans (show _ = Value.bool (!y331) from rfl) (congrArg Value.bool hk588)) rfl ?_
          refine WE.takeN 20 (e := 47) (v := .bool true) rfl (by decide +kernel) (by decide +kernel) (by decide +kernel) (by decide +kernel) rfl rfl rfl (Eq.trans (show _ = Value.bool (!y331) from rfl) (congrArg Value.bool hk588)) rfl ?_
          refine WE.takeN 21 (e := 47) (v := .bool true) rfl (by decide +kernel) (by decide +kernel) (by decide +kernel) (by decide +kernel) rfl rfl rfl (Eq.trans (show _ = Value.bool (!y331) from rfl) (congrArg Value.bool hk588)) rfl ?_
          refine WE.takeN 22 (e := 47) (v := .bool true) rfl (by decide +kernel) (by decide +kernel) (by decide +kernel) (by decide +kernel) rfl rfl rfl (Eq.trans (show _ = Value.bool (!y331) from rfl) (congrArg Value.bool hk588)) rfl ?_
          refine WE.takeN 23 (e := 47) (v := .bool true) rfl (by decide +kernel) (by decide +kernel) (by decide +kernel) (by decide +kernel) rfl rfl rfl (Eq.trans (show _ = Value.bool (!y331) from rfl) (congrArg Value.bool hk588)) rfl ?_
          refine WE.takeN 24 (e := 47) (v := .bool true) rfl (by decide +kernel) (by decide +kernel) (by decide +kernel) (by decide +kernel) rfl rfl rfl (Eq.trans (show _ = Value.bool (!y331) from rfl) (congrArg Value.bool hk588)) rfl ?_
          refine WE.takeN 25 (e := 47) (v := .bool true) rfl (by decide +kernel) (by decide +kernel) (by decide +kernel) (by decide +kernel) rfl rfl rfl (Eq.trans (show _ = Value.bool (!y331) from rfl) (congrArg Value.bool hk588)) rfl ?_
          refine WE.take 26 rfl (by decide +kernel) (by decide +kernel) (by decide +kernel) (by decide +kernel) rfl rfl (fun wq hq => R.pickT (v := Value.bool true) (Eq.trans (show _ = Value.bool (!y331) from rfl) (congrArg Value.bool hk588)) rfl) ?_
          refine WE.take 27 rfl (by decide +kernel) (by decide +kernel) (by decide +kernel) (by decide +kernel) rfl rfl (fun wq hq => R.move (v := Value.bool true) rfl) ?_
          refine WE.takeN 28 (e := 58) (v := .bool true) rfl (by decide +kernel) (by decide +kernel) (by decide +kernel) (by decide +kernel) rfl rfl rfl rfl rfl ?_
          refine WE.takeN 29 (e := 58) (v := .bool true) rfl (by decide +kernel) (by decide +kernel) (by decide +kernel) (by decide +kernel) rfl rfl rfl rfl rfl ?_
          refine WE.takeN 30 (e := 58) (v := .bool true) rfl (by decide +kernel) (by decide +kernel) (by decide +kernel) (by decide +kernel) rfl rfl rfl rfl rfl ?_
          refine WE.takeN 31 (e := 58) (v := .bool true) rfl (by decide +kernel) (by decide +kernel) (by decide +kernel) (by decide +kernel) rfl rfl rfl rfl rfl ?_
          refine WE.take 32 rfl (by decide +kernel) (by decide +kernel) (by decide +kernel) (by decide +kernel) rfl rfl (fun wq hq => R.pickT (v := Value.bool true) rfl rfl) ?_
          refine WE.take 33 rfl (by decide +kernel) (by decide +kernel) (by decide +kernel) (by decide +kernel) rfl rfl (fun wq hq => R.move (v := Value.bool true) rfl) ?_
          refine WE.takeN 34 (e := 64) (v := .bool true) rfl (by decide +kernel) (by decide +kernel) (by decide +kernel) (by decide +kernel) rfl rfl rfl rfl rfl ?_
          refine WE.takeN 35 (e := 64) (v := .bool true) rfl (by decide +kernel) (by decide +kernel) (by decide +kernel) (by decide +kernel) rfl rfl rfl rfl rfl ?_
          refine WE.takeN 36 (e := 64) (v := .bool true) rfl (by decide +kernel) (by decide +kernel) (by decide +kernel) (by decide +kernel) rfl rfl rfl rfl rfl ?_
          refine WE.takeN 37 (e := 64) (v := .bool true) rfl (by decide +kernel) (by decide +kernel) (by decide +kernel) (by decide +kernel) rfl rfl rfl rfl rfl ?_
          refine WE.takeN 38 (e := 64) (v := .bool true) rfl (by decide +kernel) (by decide +kernel) (by decide +kernel) (by decide +kernel) rfl rfl rfl rfl rfl ?_
          refine WE.takeN 39 (e := 64) (v := .bool true) rfl (by decide +kernel) (by decide +kernel) (by decide +kernel) (by decide +kernel) rfl rfl rfl rfl rfl ?_
          refine WE.takeN 40 (e := 64) (v := .bool true) rfl (by decide +kernel) (by decide +kernel) (by decide +kernel) (by decide +kernel) rfl rfl rfl rfl rfl ?_
          refine WE.take 41 rfl (by decide +kernel) (by decide +kernel) (by decide +kernel) (by decide +kernel) rfl rfl (fun wq hq => R.pickT (v := Value.bool true) rfl rfl) ?_
          refine WE.done (by decide +kernel) ?_
          refine thenN ?_
          refine WC.condT rfl rfl ?_
          refine WC.seq ?_
          refine WC.region ?_
          refine WL.val (R.assign (v := Value.bool false) rfl) rfl ?_
          refine WL.nil ?_
          refine thenN ?_
          refine WC.ret ?_
          have ht589 := (hs342.here).perm (L' := []) (G := [gsl 202 heldE (Value.slice a325 y318.table.length c326) y318.table, gsl 202 heldE (Value.slice a312 y306.table.length c313) y306.table, gsl 202 heldE (Value.slice a300 y293.table.length c301) y293.table, gsl 202 heldE (Value.slice a272 y266.table.length c273) y266.table, gsl 202 heldE (Value.slice a260 y253.table.length c261) y253.table, gsl 60 heldE (Value.slice a234 y228.table.length c235) y228.table, gslC 60 heldE (Value.slice a211 y205.table.length c212) y205.table, blk b103 62 (encR p1 (Value.slice a1 p1.table.length c1)), blk b111 62 (encR p2 (Value.slice a2 p2.table.length c2)), blk b164 62 (encR y145 (Value.slice a151 y145.table.length c152)), blk b194 62 (encR y175 (Value.slice a181 y175.table.length c182)), blk b217 62 (encR y205 (Value.slice a211 y205.table.length c212)), blk b240 62 (encR y228 (Value.slice a234 y228.table.length c235))]) ((List.Perm.refl _))
          have hs590 := hs342.trans ht589
          obtain rfl := Option.some.inj (show some false = some r from h587)
          exact ret1 (P := Try.prog) (n := 88) (fn := Try.f15) (R := fun v w' => v = Value.bool false ∧ St [] w w' []) (t := 6) (v := Value.bool false) rfl rfl rfl ⟨rfl, hs590⟩
      · have h591 := ifF hc290 h280
        have hk592 : (!y278) = true := by simp [hc290]
        refine WE.takeN 7 (e := 37) (v := .bool true) rfl (by decide +kernel) (by decide +kernel) (by decide +kernel) (by decide +kernel) rfl rfl rfl (Eq.trans (show _ = Value.bool (!y278) from rfl) (congrArg Value.bool hk592)) rfl ?_
        refine WE.takeN 8 (e := 37) (v := .bool true) rfl (by decide +kernel) (by decide +kernel) (by decide +kernel) (by decide +kernel) rfl rfl rfl (Eq.trans (show _ = Value.bool (!y278) from rfl) (congrArg Value.bool hk592)) rfl ?_
        refine WE.takeN 9 (e := 37) (v := .bool true) rfl (by decide +kernel) (by decide +kernel) (by decide +kernel) (by decide +kernel) rfl rfl rfl (Eq.trans (show _ = Value.bool (!y278) from rfl) (congrArg Value.bool hk592)) rfl ?_
        refine WE.takeN 10 (e := 37) (v := .bool true) rfl (by decide +kernel) (by decide +kernel) (by decide +kernel) (by decide +kernel) rfl rfl rfl (Eq.trans (show _ = Value.bool (!y278) from rfl) (congrArg Value.bool hk592)) rfl ?_
        refine WE.takeN 11 (e := 37) (v := .bool true) rfl (by decide +kernel) (by decide +kernel) (by decide +kernel) (by decide +kernel) rfl rfl rfl (Eq.trans (show _ = Value.bool (!y278) from rfl) (congrArg Value.bool hk592)) rfl ?_
        refine WE.takeN 12 (e := 37) (v := .bool true) rfl (by decide +kernel) (by decide +kernel) (by decide +kernel) (by decide +kernel) rfl rfl rfl (Eq.trans (show _ = Value.bool (!y278) from rfl) (congrArg Value.bool hk592)) rfl ?_
        refine WE.takeN 13 (e := 37) (v := .bool true) rfl (by decide +kernel) (by decide +kernel) (by decide +kernel) (by decide +kernel) rfl rfl rfl (Eq.trans (show _ = Value.bool (!y278) from rfl) (congrArg Value.bool hk592)) rfl ?_
        refine WE.takeN 14 (e := 37) (v := .bool true) rfl (by decide +kernel) (by decide +kernel) (by decide +kernel) (by decide +kernel) rfl rfl rfl (Eq.trans (show _ = Value.bool (!y278) from rfl) (congrArg Value.bool hk592)) rfl ?_
        refine WE.take 15 rfl (by decide +kernel) (by decide +kernel) (by decide +kernel) (by decide +kernel) rfl rfl (fun wq hq => R.pickT (v := Value.bool true) (Eq.trans (show _ = Value.bool (!y278) from rfl) (congrArg Value.bool hk592)) rfl) ?_
        refine WE.take 16 rfl (by decide +kernel) (by decide +kernel) (by decide +kernel) (by decide +kernel) rfl rfl (fun wq hq => R.move (v := Value.bool true) rfl) ?_
        refine WE.takeN 17 (e := 47) (v := .bool true) rfl (by decide +kernel) (by decide +kernel) (by decide +kernel) (by decide +kernel) rfl rfl rfl rfl rfl ?_
        refine WE.takeN 18 (e := 47) (v := .bool true) rfl (by decide +kernel) (by decide +kernel) (by decide +kernel) (by decide +kernel) rfl rfl rfl rfl rfl ?_
        refine WE.takeN 19 (e := 47) (v := .bool true) rfl (by decide +kernel) (by decide +kernel) (by decide +kernel) (by decide +kernel) rfl rfl rfl rfl rfl ?_
        refine WE.takeN 20 (e := 47) (v := .bool true) rfl (by decide +kernel) (by decide +kernel) (by decide +kernel) (by decide +kernel) rfl rfl rfl rfl rfl ?_
        refine WE.takeN 21 (e := 47) (v := .bool true) rfl (by decide +kernel) (by decide +kernel) (by decide +kernel) (by decide +kernel) rfl rfl rfl rfl rfl ?_
        refine WE.takeN 22 (e := 47) (v := .bool true) rfl (by decide +kernel) (by decide +kernel) (by decide +kernel) (by decide +kernel) rfl rfl rfl rfl rfl ?_
        refine WE.takeN 23 (e := 47) (v := .bool true) rfl (by decide +kernel) (by decide +kernel) (by decide +kernel) (by decide +kernel) rfl rfl rfl rfl rfl ?_
        refine WE.takeN 24 (e := 47) (v := .bool true) rfl (by decide +kernel) (by decide +kernel) (by decide +kernel) (by decide +kernel) rfl rfl rfl rfl rfl ?_
        refine WE.takeN 25 (e := 47) (v := .bool true) rfl (by decide +kernel) (by decide +kernel) (by decide +kernel) (by decide +kernel) rfl rfl rfl rfl rfl ?_
        refine WE.take 26 rfl (by decide +kernel) (by decide +kernel) (by decide +kernel) (by decide +kernel) rfl rfl (fun wq hq => R.pickT (v := Value.bool true) rfl rfl) ?_
        refine WE.take 27 rfl (by decide +kernel) (by decide +kernel) (by decide +kernel) (by decide +kernel) rfl rfl (fun wq hq => R.move (v := Value.bool true) rfl) ?_
        refine WE.takeN 28 (e := 58) (v := .bool true) rfl (by decide +kernel) (by decide +kernel) (by decide +kernel) (by decide +kernel) rfl rfl rfl rfl rfl ?_
        refine WE.takeN 29 (e := 58) (v := .bool true) rfl (by decide +kernel) (by decide +kernel) (by decide +kernel) (by decide +kernel) rfl rfl rfl rfl rfl ?_
        refine WE.takeN 30 (e := 58) (v := .bool true) rfl (by decide +kernel) (by decide +kernel) (by decide +kernel) (by decide +kernel) rfl rfl rfl rfl rfl ?_
        refine WE.takeN 31 (e := 58) (v := .bool true) rfl (by decide +kernel) (by decide +kernel) (by decide +kernel) (by decide +kernel) rfl rfl rfl rfl rfl ?_
        refine WE.take 32 rfl (by decide +kernel) (by decide +kernel) (by decide +kernel) (by decide +kernel) rfl rfl (fun wq hq => R.pickT (v := Value.bool true) rfl rfl) ?_
        refine WE.take 33 rfl (by decide +kernel) (by decide +kernel) (by decide +kernel) (by decide +kernel) rfl rfl (fun wq hq => R.move (v := Value.bool true) rfl) ?_
        refine WE.takeN 34 (e := 64) (v := .bool true) rfl (by decide +kernel) (by decide +kernel) (by decide +kernel) (by decide +kernel) rfl rfl rfl rfl rfl ?_
        refine WE.takeN 35 (e := 64) (v := .bool true) rfl (by decide +kernel) (by decide +kernel) (by decide +kernel) (by decide +kernel) rfl rfl rfl rfl rfl ?_
        refine WE.takeN 36 (e := 64) (v := .bool true) rfl (by decide +kernel) (by decide +kernel) (by decide +kernel) (by decide +kernel) rfl rfl rfl rfl rfl ?_
        refine WE.takeN 37 (e := 64) (v := .bool true) rfl (by decide +kernel) (by decide +kernel) (by decide +kernel) (by decide +kernel) rfl rfl rfl rfl rfl ?_
        refine WE.takeN 38 (e := 64) (v := .bool true) rfl (by decide +kernel) (by decide +kernel) (by decide +kernel) (by decide +kernel) rfl rfl rfl rfl rfl ?_
        refine WE.takeN 39 (e := 64) (v := .bool true) rfl (by decide +kernel) (by decide +kernel) (by decide +kernel) (by decide +kernel) rfl rfl rfl rfl rfl ?_
        refine WE.takeN 40 (e := 64) (v := .bool true) rfl (by decide +kernel) (by decide +kernel) (by decide +kernel) (by decide +kernel) rfl rfl rfl rfl rfl ?_
        refine WE.take 41 rfl (by decide +kernel) (by decide +kernel) (by decide +kernel) (by decide +kernel) rfl rfl (fun wq hq => R.pickT (v := Value.bool true) rfl rfl) ?_
        refine WE.done (by decide +kernel) ?_
        refine thenN ?_
        refine WC.condT rfl rfl ?_
        refine WC.seq ?_
        refine WC.region ?_
        refine WL.val (R.assign (v := Value.bool false) rfl) rfl ?_
        refine WL.nil ?_
        refine thenN ?_
        refine WC.ret ?_
        have ht593 := (hs289.here).perm (L' := []) (G := [gsl 202 heldE (Value.slice a272 y266.table.length c273) y266.table, gsl 202 heldE (Value.slice a260 y253.table.length c261) y253.table, gsl 60 heldE (Value.slice a234 y228.table.length c235) y228.table, gslC 60 heldE (Value.slice a211 y205.table.length c212) y205.table, blk b103 62 (encR p1 (Value.slice a1 p1.table.length c1)), blk b111 62 (encR p2 (Value.slice a2 p2.table.length c2)), blk b164 62 (encR y145 (Value.slice a151 y145.table.length c152)), blk b194 62 (encR y175 (Value.slice a181 y175.table.length c182)), blk b217 62 (encR y205 (Value.slice a211 y205.table.length c212)), blk b240 62 (encR y228 (Value.slice a234 y228.table.length c235))]) ((List.Perm.refl _))
        have hs594 := hs289.trans ht593
        obtain rfl := Option.some.inj (show some false = some r from h591)
        exact ret1 (P := Try.prog) (n := 88) (fn := Try.f15) (R := fun v w' => v = Value.bool false ∧ St [] w w' []) (t := 6) (v := Value.bool false) rfl rfl rfl ⟨rfl, hs594⟩

end Go.Proofs.Ytckcldimnelklaa
