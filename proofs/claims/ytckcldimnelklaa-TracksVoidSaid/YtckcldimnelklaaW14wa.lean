/- The functions come to what their twins answer: group 14w. -/
import Derived.Test.YtckcldimnelklaaW14la
import Derived.Test.YtckcldimnelklaaTP
import Derived.Test.YtckcldimnelklaaD14w
namespace Go.Proofs.Ytckcldimnelklaa
open Go
set_option linter.unusedVariables false
set_option linter.unusedSimpArgs false
set_option maxRecDepth 100000
set_option maxHeartbeats 4000000

theorem sayR14_ok (w : World) (ok : Nat → Prop) (q0 : Int × Int × Int × Bool × (List (((List Rw) × (List Rw)) × ((List Rw) × (List Rw))))) (p1 : Rw) (a1 : Option Addr) (c1 : Nat) (he1 : elems heldW w ok a1 p1.table) (hc1 : p1.table.length ≤ c1) (b0r0 : Nat) (a0r0 : Option Addr) (c0r0a : Nat) (hr0 : At w ok ⟨b0r0, 0, none⟩ [Value.int .i64 q0.1, Value.int .i64 q0.2.1, Value.int .i64 q0.2.2.1, Value.bool q0.2.2.2.1, Value.slice a0r0 q0.2.2.2.2.length c0r0a]) (hrl0_0 : q0.2.2.2.2.length ≤ c0r0a) (hre0_0 : elems momU w ok a0r0 q0.2.2.2.2) {r : (List Rw) × (List Rw)} (h : sayR14 q0 p1 = some r) :
    Ret Try.prog 83 [Value.pointer (some ⟨b0r0, 0, none⟩), Value.agg (List.toArray (encR p1 (Value.slice a1 p1.table.length c1)))] w (fun v w' => ∃ ra0, ∃ rc0, ∃ ra1, ∃ rc1, v = Value.tuple #[Value.agg (List.toArray [Value.slice ra0 r.1.length rc0]), Value.agg (List.toArray [Value.slice ra1 r.2.length rc1])] ∧ r.1.length ≤ rc0 ∧ elems rowW w' (In (fun _ => False) w [] []) ra0 r.1 ∧ r.2.length ≤ rc1 ∧ elems rowW w' (In (fun _ => False) w [] []) ra1 r.2 ∧ St [] w w' []) := by
  rw [sayR14] at h
  have hs100 : St [] w w [] := St.start w
  have he1001 := el0 (L0 := []) (fun b _ => out_nil b) he1
  have hat102 := at0 (L0 := []) (fun b _ => out_nil b) hr0
  have he104 := el0 (L0 := []) (fun b _ => out_nil b) hre0_0
  refine enter (n := 73) Try.func83 rfl rfl rfl ?_
  refine WC.seq ?_
  refine WC.region ?_
  refine WL.new (L' := fun b106 => [blk b106 62 (encR p1 (Value.slice a1 p1.table.length c1))]) (f := fun b106 => Value.pointer (some ⟨b106, 0, none⟩)) (X.box (v := Value.agg (List.toArray (encR p1 (Value.slice a1 p1.table.length c1)))) (c := encR p1 (Value.slice a1 p1.table.length c1)) (hs100.here) rfl rfl (fun _ => rfl)) rfl ?_
  intro b106 w107 ht112 he109 hz110
  have hs113 := hs100.trans ht112
  refine WL.new (L' := fun b114 => [blk b106 62 (encR p1 (Value.slice a1 p1.table.length c1)), blk b114 25 [Value.slice none 0 0]]) (f := fun b114 => Value.pointer (some ⟨b114, 0, none⟩)) (X.alloc (c := [Value.slice none 0 0]) (hs113.here) zr25 rfl (fun _ => rfl)) rfl ?_
  intro b114 w115 ht120 he117 hz118
  have hs121 := hs113.trans ht120
  refine WL.new (L' := fun b122 => [blk b106 62 (encR p1 (Value.slice a1 p1.table.length c1)), blk b114 25 [Value.slice none 0 0], blk b122 25 [Value.slice none 0 0]]) (f := fun b122 => Value.pointer (some ⟨b122, 0, none⟩)) (X.alloc (c := [Value.slice none 0 0]) (hs121.here) zr25 rfl (fun _ => rfl)) rfl ?_
  intro b122 w123 ht128 he125 hz126
  have hs129 := hs121.trans ht128
  refine WL.nil ?_
  refine thenN ?_
  refine WC.seq ?_
  refine WC.seq ?_
  refine WC.region ?_
  refine WL.val (R.move (v := Value.pointer (some ⟨b0r0, 0, none⟩)) rfl) rfl ?_
  refine WL.val (R.ptrNil (a := ⟨b0r0, 0, none⟩) un151 rfl rfl) rfl ?_
  refine WL.val (R.move (v := Value.bool false) rfl) rfl ?_
  refine WL.guardY (e := 10) rfl rfl rfl ?_
  refine WL.val (R.move (v := Value.pointer (some ⟨b0r0, 0, none⟩)) rfl) rfl ?_
  refine WL.guardY (e := 10) rfl rfl rfl ?_
  refine WL.val (R.nilCheckP (a := ⟨b0r0, 0, none⟩) rfl) rfl ?_
  refine WL.guardY (e := 10) rfl rfl rfl ?_
  refine WL.val (R.fieldAddr (o := 0) (o' := 3) fa174_3 rfl rfl) rfl ?_
  refine WL.guardY (e := 10) rfl rfl rfl ?_
  have hr130 := At.trT ((ht112.trans ht120).trans ht128) hat102
  refine WL.val (R.loadL (v := Value.bool q0.2.2.2.1) lf4 rfl (At.sub (a := ⟨b0r0, 0, none⟩) (off := 3) (n := 1) (cs := [Value.int .i64 q0.1, Value.int .i64 q0.2.1, Value.int .i64 q0.2.2.1, Value.bool q0.2.2.2.1, Value.slice a0r0 q0.2.2.2.2.length c0r0a]) (ds := [Value.bool q0.2.2.2.1]) hr130 rfl rfl)) rfl ?_
  refine WL.guardY (e := 10) rfl rfl rfl ?_
  refine WL.val (R.not (b := q0.2.2.2.1) rfl) rfl ?_
  refine WL.val (R.pickF (v := Value.bool (!q0.2.2.2.1)) rfl rfl) rfl ?_
  refine WL.nil ?_
  refine thenN ?_
  by_cases hc131 : q0.2.2.2.1 = true
  · have h132 := ifT hc131 h
    have hk133 : (!q0.2.2.2.1) = false := by simp [hc131]
    refine WC.condF (Eq.trans (show _ = Value.bool (!q0.2.2.2.1) from rfl) (congrArg Value.bool hk133)) rfl ?_
    refine WC.skip ?_
    refine thenN ?_
    refine WC.seq ?_
    refine WC.region ?_
    cases h132
  · have h134 := ifF hc131 h
    have hk135 : (!q0.2.2.2.1) = true := by simp [hc131]
    refine WC.condT (Eq.trans (show _ = Value.bool (!q0.2.2.2.1) from rfl) (congrArg Value.bool hk135)) rfl ?_
    refine WC.seq ?_
    refine WC.drawM mixed (NP.then (NP.then NP.rq)) (fun x => St [blk b106 62 (encR p1 (Value.slice a1 p1.table.length c1)), blk b114 25 [Value.slice none 0 0], blk b122 25 [Value.slice none 0 0]] (w123).drew x [blk b106 62 (encR p1 (Value.slice a1 p1.table.length c1)), blk b114 25 [Value.slice none 0 0], blk b122 25 [Value.slice none 0 0]]) ?_
    have ht136 := (hs129.here).ext (Ext.drew _)
    have hs137 := hs129.trans ht136
    have hS138 : (fun x => St [blk b106 62 (encR p1 (Value.slice a1 p1.table.length c1)), blk b114 25 [Value.slice none 0 0], blk b122 25 [Value.slice none 0 0]] (w123).drew x [blk b106 62 (encR p1 (Value.slice a1 p1.table.length c1)), blk b114 25 [Value.slice none 0 0], blk b122 25 [Value.slice none 0 0]]) ((w123).drew) := (hs137.here)
    refine WM.take 0 rfl (by decide +kernel) (by decide +kernel) (by decide +kernel) (by decide +kernel) rfl rfl (fun wq hq => (by have hq2 := hq; exact R.loadA (cs := [Value.slice none 0 0]) (n := 1) ag25 rfl ((hs137.trans hq2).at (i := 1) (off := 0) (n := 1) (cs := [Value.slice none 0 0]) rfl rfl rfl) rfl)) hS138 ?_
    refine WM.take 1 rfl (by decide +kernel) (by decide +kernel) (by decide +kernel) (by decide +kernel) rfl rfl (fun wq hq => (by have hq2 := hq; exact R.loadA (cs := [Value.slice none 0 0]) (n := 1) ag25 rfl ((hs137.trans hq2).at (i := 2) (off := 0) (n := 1) (cs := [Value.slice none 0 0]) rfl rfl rfl) rfl)) hS138 ?_
    refine WM.stoS (L' := [blk b106 62 (encR p1 (Value.slice a1 p1.table.length c1)), blk b114 25 [Value.slice none 0 0], blk b122 25 [Value.slice none 0 0]]) 2 (by decide +kernel) rfl rfl rfl rfl (X.store (i := 1) (n := 1) (b := b114) (off := 0) (c := [Value.slice none 0 0]) (U := 25) (vs := [Value.slice none 0 0]) (v := Value.agg (List.toArray [Value.slice none 0 0])) (c' := [Value.slice none 0 0]) (hs137.here) rfl ag25.size rfl rfl rfl rfl rfl rfl rfl rfl) (fun _ h => by exact hS138.trans h) ?_
    intro w139 ht140
    have hS141 : (fun x => St [blk b106 62 (encR p1 (Value.slice a1 p1.table.length c1)), blk b114 25 [Value.slice none 0 0], blk b122 25 [Value.slice none 0 0]] (w123).drew x [blk b106 62 (encR p1 (Value.slice a1 p1.table.length c1)), blk b114 25 [Value.slice none 0 0], blk b122 25 [Value.slice none 0 0]]) w139 := hS138.trans ht140
    have hs142 := hs137.trans ht140
    refine WM.stoS (L' := [blk b106 62 (encR p1 (Value.slice a1 p1.table.length c1)), blk b114 25 [Value.slice none 0 0], blk b122 25 [Value.slice none 0 0]]) 3 (by decide +kernel) rfl rfl rfl rfl (X.store (i := 2) (n := 1) (b := b122) (off := 0) (c := [Value.slice none 0 0]) (U := 25) (vs := [Value.slice none 0 0]) (v := Value.agg (List.toArray [Value.slice none 0 0])) (c' := [Value.slice none 0 0]) (hs142.here) rfl ag25.size rfl rfl rfl rfl rfl rfl rfl rfl) (fun _ h => by exact hS141.trans h) ?_
    intro w143 ht144
    have hS145 : (fun x => St [blk b106 62 (encR p1 (Value.slice a1 p1.table.length c1)), blk b114 25 [Value.slice none 0 0], blk b122 25 [Value.slice none 0 0]] (w123).drew x [blk b106 62 (encR p1 (Value.slice a1 p1.table.length c1)), blk b114 25 [Value.slice none 0 0], blk b122 25 [Value.slice none 0 0]]) w143 := hS141.trans ht144
    have hs146 := hs142.trans ht144
    refine WM.done (by decide +kernel) ?_
    refine thenN ?_
    refine WC.ret ?_
    have hl147 := run_loadA (P := Try.prog) (n := 1) ag25 (hs146.at (i := 1) (off := 0) (n := 1) (cs := [Value.slice none 0 0]) rfl rfl rfl) rfl
    have hl148 := run_loadA (P := Try.prog) (n := 1) ag25 (hs146.at (i := 2) (off := 0) (n := 1) (cs := [Value.slice none 0 0]) rfl rfl rfl) rfl
    have ht149 := (hs146.here).perm (L' := []) (G := [blk b106 62 (encR p1 (Value.slice a1 p1.table.length c1)), blk b114 25 [Value.slice none 0 0], blk b122 25 [Value.slice none 0 0]]) ((List.Perm.refl _))
    have hs150 := hs146.trans ht149
    obtain rfl := Option.some.inj (show some ([], []) = some r from h134)
    exact retCell2 (P := Try.prog) (n := 73) (fn := Try.f83) (R := fun v w' => ∃ ra0, ∃ rc0, ∃ ra1, ∃ rc1, v = Value.tuple #[Value.agg (List.toArray [Value.slice ra0 ([], []).1.length rc0]), Value.agg (List.toArray [Value.slice ra1 ([], []).2.length rc1])] ∧ ([], []).1.length ≤ rc0 ∧ elems rowW w' (In (fun _ => False) w [] []) ra0 ([], []).1 ∧ ([], []).2.length ≤ rc1 ∧ elems rowW w' (In (fun _ => False) w [] []) ra1 ([], []).2 ∧ St [] w w' []) (t := 4) (u := 5) (v := Value.agg (List.toArray [Value.slice none 0 0])) (v' := Value.agg (List.toArray [Value.slice none 0 0])) rfl rfl rfl rfl rfl hl147 hl148 ⟨none, 0, none, 0, rfl, (Nat.le_refl _), elems_nil, (Nat.le_refl _), elems_nil, hs150⟩

theorem hearR14_ok (w : World) (ok : Nat → Prop) (q0 : Int × Int × Int × Bool × (List (((List Rw) × (List Rw)) × ((List Rw) × (List Rw))))) (p1 : (List Rw) × (List Rw) × (List Rw) × (List Rw)) (a1 : Option Addr) (c1 : Nat) (he1 : elems rowW w ok a1 p1.1) (hc1 : p1.1.length ≤ c1) (a1a : Option Addr) (c1a : Nat) (he1a : elems rowW w ok a1a p1.2.1) (hc1a : p1.2.1.length ≤ c1a) (a1b : Option Addr) (c1b : Nat) (he1b : elems rowW w ok a1b p1.2.2.1) (hc1b : p1.2.2.1.length ≤ c1b) (a1c : Option Addr) (c1c : Nat) (he1c : elems rowW w ok a1c p1.2.2.2) (hc1c : p1.2.2.2.length ≤ c1c) (b0r0 : Nat) (a0r0 : Option Addr) (c0r0a : Nat) (hr0 : At w ok ⟨b0r0, 0, none⟩ [Value.int .i64 q0.1, Value.int .i64 q0.2.1, Value.int .i64 q0.2.2.1, Value.bool q0.2.2.2.1, Value.slice a0r0 q0.2.2.2.2.length c0r0a]) (hrl0_0 : q0.2.2.2.2.length ≤ c0r0a) (hre0_0 : elems momU w ok a0r0 q0.2.2.2.2) {r : (List Rw)} (h : hearR14 q0 p1 = some r) :
    Ret Try.prog 80 [Value.pointer (some ⟨b0r0, 0, none⟩), Value.agg (List.toArray [Value.slice a1 p1.1.length c1, Value.slice a1a p1.2.1.length c1a, Value.slice a1b p1.2.2.1.length c1b, Value.slice a1c p1.2.2.2.length c1c])] w (fun v w' => ∃ ra0, ∃ rc0, v = Value.slice ra0 r.length rc0 ∧ r.length ≤ rc0 ∧ elems rowW w' (In (fun _ => False) w [] []) ra0 r ∧ St [] w w' []) := by
  rw [hearR14] at h
  have hs100 : St [] w w [] := St.start w
  have he1001 := el0 (L0 := []) (fun b _ => out_nil b) he1
  have he1001a := el0 (L0 := []) (fun b _ => out_nil b) he1a
  have he1001b := el0 (L0 := []) (fun b _ => out_nil b) he1b
  have he1001c := el0 (L0 := []) (fun b _ => out_nil b) he1c
  have hat105 := at0 (L0 := []) (fun b _ => out_nil b) hr0
  have he107 := el0 (L0 := []) (fun b _ => out_nil b) hre0_0
  refine enter (n := 82) Try.func80 rfl rfl rfl ?_
  refine WC.seq ?_
  refine WC.region ?_
  refine WL.new (L' := fun b109 => [blk b109 151 [Value.pointer (some ⟨b0r0, 0, none⟩)]]) (f := fun b109 => Value.pointer (some ⟨b109, 0, none⟩)) (X.box (v := Value.pointer (some ⟨b0r0, 0, none⟩)) (c := [Value.pointer (some ⟨b0r0, 0, none⟩)]) (hs100.here) rfl rfl (fun _ => rfl)) rfl ?_
  intro b109 w110 ht115 he112 hz113
  have hs116 := hs100.trans ht115
  refine WL.new (L' := fun b117 => [blk b109 151 [Value.pointer (some ⟨b0r0, 0, none⟩)], blk b117 158 [Value.slice a1 p1.1.length c1, Value.slice a1a p1.2.1.length c1a, Value.slice a1b p1.2.2.1.length c1b, Value.slice a1c p1.2.2.2.length c1c]]) (f := fun b117 => Value.pointer (some ⟨b117, 0, none⟩)) (X.box (v := Value.agg (List.toArray [Value.slice a1 p1.1.length c1, Value.slice a1a p1.2.1.length c1a, Value.slice a1b p1.2.2.1.length c1b, Value.slice a1c p1.2.2.2.length c1c])) (c := [Value.slice a1 p1.1.length c1, Value.slice a1a p1.2.1.length c1a, Value.slice a1b p1.2.2.1.length c1b, Value.slice a1c p1.2.2.2.length c1c]) (hs116.here) rfl rfl (fun _ => rfl)) rfl ?_
  intro b117 w118 ht123 he120 hz121
  have hs124 := hs116.trans ht123
  refine WL.val (R.assign (v := Value.slice none 0 0) rfl) rfl ?_
  refine WL.nil ?_
  refine thenN ?_
  refine WC.seq ?_
  refine WC.seq ?_
  refine WC.region ?_
  refine WL.val (R.loadL (v := Value.pointer (some ⟨b0r0, 0, none⟩)) lf151 rfl (hs124.at (i := 0) (off := 0) (n := 1) (cs := [Value.pointer (some ⟨b0r0, 0, none⟩)]) rfl rfl rfl)) rfl ?_
  refine WL.val (R.ptrNil (a := ⟨b0r0, 0, none⟩) un151 rfl rfl) rfl ?_
  refine WL.val (R.move (v := Value.bool false) rfl) rfl ?_
  refine WL.guardY (e := 11) rfl rfl rfl ?_
  refine WL.val (R.loadL (v := Value.pointer (some ⟨b0r0, 0, none⟩)) lf151 rfl (hs124.at (i := 0) (off := 0) (n := 1) (cs := [Value.pointer (some ⟨b0r0, 0, none⟩)]) rfl rfl rfl)) rfl ?_
  refine WL.guardY (e := 11) rfl rfl rfl ?_
  refine WL.val (R.nilCheckP (a := ⟨b0r0, 0, none⟩) rfl) rfl ?_
  refine WL.guardY (e := 11) rfl rfl rfl ?_
  refine WL.val (R.fieldAddr (o := 0) (o' := 0) fa174_0 rfl rfl) rfl ?_
  refine WL.guardY (e := 11) rfl rfl rfl ?_
  have hr125 := At.trT (ht115.trans ht123) hat105
  refine WL.val (R.loadL (v := Value.int .i64 q0.1) lf3 rfl (At.sub (a := ⟨b0r0, 0, none⟩) (off := 0) (n := 1) (cs := [Value.int .i64 q0.1, Value.int .i64 q0.2.1, Value.int .i64 q0.2.2.1, Value.bool q0.2.2.2.1, Value.slice a0r0 q0.2.2.2.2.length c0r0a]) (ds := [Value.int .i64 q0.1]) hr125 rfl rfl)) rfl ?_
  refine WL.guardY (e := 11) rfl rfl rfl ?_
  by_cases hc126 : q0.1 = 0
  · have h127 := ifT hc126 h
    refine WL.val (R.eqlT (k := .i64) (a := q0.1) (b := 0) un3 rfl rfl hc126) rfl ?_
    refine WL.val (R.pickF (v := Value.bool true) rfl rfl) rfl ?_
    refine WL.nil ?_
    refine thenN ?_
    refine WC.condT rfl rfl ?_
    refine WC.seq ?_
    refine WC.region ?_
    refine WL.val (R.assign (v := Value.slice none 0 0) rfl) rfl ?_
    refine WL.nil ?_
    refine thenN ?_
    refine WC.ret ?_
    have ht128 := (hs124.here).perm (L' := []) (G := [blk b109 151 [Value.pointer (some ⟨b0r0, 0, none⟩)], blk b117 158 [Value.slice a1 p1.1.length c1, Value.slice a1a p1.2.1.length c1a, Value.slice a1b p1.2.2.1.length c1b, Value.slice a1c p1.2.2.2.length c1c]]) ((List.Perm.refl _))
    have hs129 := hs124.trans ht128
    obtain rfl := Option.some.inj (show some [] = some r from h127)
    exact ret1 (P := Try.prog) (n := 82) (fn := Try.f80) (R := fun v w' => ∃ ra0, ∃ rc0, v = Value.slice ra0 [].length rc0 ∧ [].length ≤ rc0 ∧ elems rowW w' (In (fun _ => False) w [] []) ra0 [] ∧ St [] w w' []) (t := 4) (v := Value.slice none 0 0) rfl rfl rfl ⟨none, 0, rfl, (Nat.le_refl _), elems_nil, hs129⟩
  · have h130 := ifF hc126 h
    refine WL.val (R.eqlF (k := .i64) (a := q0.1) (b := 0) un3 rfl rfl hc126) rfl ?_
    refine WL.val (R.pickF (v := Value.bool false) rfl rfl) rfl ?_
    refine WL.nil ?_
    refine thenN ?_
    refine WC.condF rfl rfl ?_
    refine WC.skip ?_
    refine thenN ?_
    refine WC.seq ?_
    refine WC.region ?_
    cases h130

end Go.Proofs.Ytckcldimnelklaa
