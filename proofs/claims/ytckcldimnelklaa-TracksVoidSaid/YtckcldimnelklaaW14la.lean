/- The functions come to what their twins answer: group 14l. -/
import Derived.Test.YtckcldimnelklaaW14na
import Derived.Test.YtckcldimnelklaaW13e
import Derived.Test.YtckcldimnelklaaTQ
import Derived.Test.YtckcldimnelklaaTL
import Derived.Test.YtckcldimnelklaaD14l
namespace Go.Proofs.Ytckcldimnelklaa
open Go
set_option linter.unusedVariables false
set_option linter.unusedSimpArgs false
set_option maxRecDepth 100000
set_option maxHeartbeats 4000000

theorem lnew14_ok (w : World) (ok : Nat → Prop) (p0 : Int) (p1 : Int) {r : (Option (Int × Int × Int × Bool × (List (((List Rw) × (List Rw)) × ((List Rw) × (List Rw)))))) × Int} (h : lnew14 p0 p1 = some r) :
    Ret Try.prog 78 [Value.int .i64 p0, Value.int .i64 p1] w (fun v w' => ∃ rp0, ∃ rL0, v = Value.tuple #[rp0, Value.int .i64 r.2] ∧ objR (fun (b : Nat) (d : Int × Int × Int × Bool × (List (((List Rw) × (List Rw)) × ((List Rw) × (List Rw))))) (L : List Ent) => ∃ ra1 : Option Addr, ∃ rc2 : Nat, ∃ rrs3 : List (Raw 4), L = [blk b 174 [Value.int .i64 d.1, Value.int .i64 d.2.1, Value.int .i64 d.2.2.1, Value.bool d.2.2.2.1, Value.slice ra1 d.2.2.2.2.length rc2], gsl 249 (rawE 4) (Value.slice ra1 d.2.2.2.2.length rc2) rrs3] ∧ readsL momU w' (In ok w [] (rL0)) d.2.2.2.2 rrs3) r.1 rp0 rL0 ∧ St [] w w' (rL0)) := by
  rw [lnew14] at h
  have hs100 : St [] w w [] := St.start w
  refine enter (n := 28) Try.func78 rfl rfl rfl ?_
  refine WC.seq ?_
  refine WC.region ?_
  refine WL.val (R.assign (v := Value.pointer none) rfl) rfl ?_
  refine WL.val (R.assign (v := Value.int .i64 0) rfl) rfl ?_
  refine WL.nil ?_
  refine thenN ?_
  refine WC.seq ?_
  refine WC.seq ?_
  refine WC.region ?_
  refine WL.val (R.move (v := Value.int .i64 p0) rfl) rfl ?_
  by_cases hc101 : p0 < 4
  · have h102 := ifT hc101 h
    refine WL.val (R.lssT (k := .i64) (a := p0) (b := 4) un3 rfl rfl hc101) rfl ?_
    refine WL.val (R.move (v := Value.bool true) rfl) rfl ?_
    refine WL.guardN (e := 8) (v := .bool true) rfl rfl rfl rfl ?_
    refine WL.guardN (e := 8) (v := .bool true) rfl rfl rfl rfl ?_
    refine WL.val (R.pickT (v := Value.bool true) rfl rfl) rfl ?_
    refine WL.val (R.move (v := Value.bool true) rfl) rfl ?_
    refine WL.guardN (e := 12) (v := .bool true) rfl rfl rfl rfl ?_
    refine WL.guardN (e := 12) (v := .bool true) rfl rfl rfl rfl ?_
    refine WL.val (R.pickT (v := Value.bool true) rfl rfl) rfl ?_
    refine WL.val (R.move (v := Value.bool true) rfl) rfl ?_
    refine WL.guardN (e := 16) (v := .bool true) rfl rfl rfl rfl ?_
    refine WL.guardN (e := 16) (v := .bool true) rfl rfl rfl rfl ?_
    refine WL.guardN (e := 16) (v := .bool true) rfl rfl rfl rfl ?_
    refine WL.val (R.pickT (v := Value.bool true) rfl rfl) rfl ?_
    refine WL.nil ?_
    refine thenN ?_
    refine WC.condT rfl rfl ?_
    refine WC.seq ?_
    refine WC.region ?_
    refine WL.val (R.assign (v := Value.pointer none) rfl) rfl ?_
    refine WL.val (R.assign (v := Value.int .i64 1) rfl) rfl ?_
    refine WL.nil ?_
    refine thenN ?_
    refine WC.ret ?_
    obtain rfl := Option.some.inj (show some (none, 1) = some r from h102)
    exact ret2 (P := Try.prog) (n := 28) (fn := Try.f78) (R := fun v w' => ∃ rp0, ∃ rL0, v = Value.tuple #[rp0, Value.int .i64 (none, 1).2] ∧ objR (fun (b : Nat) (d : Int × Int × Int × Bool × (List (((List Rw) × (List Rw)) × ((List Rw) × (List Rw))))) (L : List Ent) => ∃ ra1 : Option Addr, ∃ rc2 : Nat, ∃ rrs3 : List (Raw 4), L = [blk b 174 [Value.int .i64 d.1, Value.int .i64 d.2.1, Value.int .i64 d.2.2.1, Value.bool d.2.2.2.1, Value.slice ra1 d.2.2.2.2.length rc2], gsl 249 (rawE 4) (Value.slice ra1 d.2.2.2.2.length rc2) rrs3] ∧ readsL momU w' (In ok w [] (rL0)) d.2.2.2.2 rrs3) (none, 1).1 rp0 rL0 ∧ St [] w w' (rL0)) (t := 4) (u := 5) (v := Value.pointer none) (v' := Value.int .i64 1) rfl rfl rfl rfl rfl ⟨(Value.pointer none), [], rfl, ⟨rfl, rfl⟩, hs100⟩
  · have h103 := ifF hc101 h
    refine WL.val (R.lssF (k := .i64) (a := p0) (b := 4) un3 rfl rfl hc101) rfl ?_
    refine WL.val (R.move (v := Value.bool false) rfl) rfl ?_
    refine WL.guardY (e := 8) rfl rfl rfl ?_
    refine WL.val (R.move (v := Value.int .i64 p0) rfl) rfl ?_
    refine WL.guardY (e := 8) rfl rfl rfl ?_
    by_cases hc104 : 16 < p0
    · have h105 := ifT hc104 h103
      refine WL.val (R.gtrT (k := .i64) (a := p0) (b := 16) un3 rfl rfl hc104) rfl ?_
      refine WL.val (R.pickF (v := Value.bool true) rfl rfl) rfl ?_
      refine WL.val (R.move (v := Value.bool true) rfl) rfl ?_
      refine WL.guardN (e := 12) (v := .bool true) rfl rfl rfl rfl ?_
      refine WL.guardN (e := 12) (v := .bool true) rfl rfl rfl rfl ?_
      refine WL.val (R.pickT (v := Value.bool true) rfl rfl) rfl ?_
      refine WL.val (R.move (v := Value.bool true) rfl) rfl ?_
      refine WL.guardN (e := 16) (v := .bool true) rfl rfl rfl rfl ?_
      refine WL.guardN (e := 16) (v := .bool true) rfl rfl rfl rfl ?_
      refine WL.guardN (e := 16) (v := .bool true) rfl rfl rfl rfl ?_
      refine WL.val (R.pickT (v := Value.bool true) rfl rfl) rfl ?_
      refine WL.nil ?_
      refine thenN ?_
      refine WC.condT rfl rfl ?_
      refine WC.seq ?_
      refine WC.region ?_
      refine WL.val (R.assign (v := Value.pointer none) rfl) rfl ?_
      refine WL.val (R.assign (v := Value.int .i64 1) rfl) rfl ?_
      refine WL.nil ?_
      refine thenN ?_
      refine WC.ret ?_
      obtain rfl := Option.some.inj (show some (none, 1) = some r from h105)
      exact ret2 (P := Try.prog) (n := 28) (fn := Try.f78) (R := fun v w' => ∃ rp0, ∃ rL0, v = Value.tuple #[rp0, Value.int .i64 (none, 1).2] ∧ objR (fun (b : Nat) (d : Int × Int × Int × Bool × (List (((List Rw) × (List Rw)) × ((List Rw) × (List Rw))))) (L : List Ent) => ∃ ra1 : Option Addr, ∃ rc2 : Nat, ∃ rrs3 : List (Raw 4), L = [blk b 174 [Value.int .i64 d.1, Value.int .i64 d.2.1, Value.int .i64 d.2.2.1, Value.bool d.2.2.2.1, Value.slice ra1 d.2.2.2.2.length rc2], gsl 249 (rawE 4) (Value.slice ra1 d.2.2.2.2.length rc2) rrs3] ∧ readsL momU w' (In ok w [] (rL0)) d.2.2.2.2 rrs3) (none, 1).1 rp0 rL0 ∧ St [] w w' (rL0)) (t := 4) (u := 5) (v := Value.pointer none) (v' := Value.int .i64 1) rfl rfl rfl rfl rfl ⟨(Value.pointer none), [], rfl, ⟨rfl, rfl⟩, hs100⟩
    · have h106 := ifF hc104 h103
      refine WL.val (R.gtrF (k := .i64) (a := p0) (b := 16) un3 rfl rfl hc104) rfl ?_
      refine WL.val (R.pickF (v := Value.bool false) rfl rfl) rfl ?_
      refine WL.val (R.move (v := Value.bool false) rfl) rfl ?_
      refine WL.guardY (e := 12) rfl rfl rfl ?_
      refine WL.val (R.move (v := Value.int .i64 p1) rfl) rfl ?_
      refine WL.guardY (e := 12) rfl rfl rfl ?_
      by_cases hc107 : p1 < 0
      · have h108 := ifT hc107 h106
        refine WL.val (R.lssT (k := .i64) (a := p1) (b := 0) un3 rfl rfl hc107) rfl ?_
        refine WL.val (R.pickF (v := Value.bool true) rfl rfl) rfl ?_
        refine WL.val (R.move (v := Value.bool true) rfl) rfl ?_
        refine WL.guardN (e := 16) (v := .bool true) rfl rfl rfl rfl ?_
        refine WL.guardN (e := 16) (v := .bool true) rfl rfl rfl rfl ?_
        refine WL.guardN (e := 16) (v := .bool true) rfl rfl rfl rfl ?_
        refine WL.val (R.pickT (v := Value.bool true) rfl rfl) rfl ?_
        refine WL.nil ?_
        refine thenN ?_
        refine WC.condT rfl rfl ?_
        refine WC.seq ?_
        refine WC.region ?_
        refine WL.val (R.assign (v := Value.pointer none) rfl) rfl ?_
        refine WL.val (R.assign (v := Value.int .i64 1) rfl) rfl ?_
        refine WL.nil ?_
        refine thenN ?_
        refine WC.ret ?_
        obtain rfl := Option.some.inj (show some (none, 1) = some r from h108)
        exact ret2 (P := Try.prog) (n := 28) (fn := Try.f78) (R := fun v w' => ∃ rp0, ∃ rL0, v = Value.tuple #[rp0, Value.int .i64 (none, 1).2] ∧ objR (fun (b : Nat) (d : Int × Int × Int × Bool × (List (((List Rw) × (List Rw)) × ((List Rw) × (List Rw))))) (L : List Ent) => ∃ ra1 : Option Addr, ∃ rc2 : Nat, ∃ rrs3 : List (Raw 4), L = [blk b 174 [Value.int .i64 d.1, Value.int .i64 d.2.1, Value.int .i64 d.2.2.1, Value.bool d.2.2.2.1, Value.slice ra1 d.2.2.2.2.length rc2], gsl 249 (rawE 4) (Value.slice ra1 d.2.2.2.2.length rc2) rrs3] ∧ readsL momU w' (In ok w [] (rL0)) d.2.2.2.2 rrs3) (none, 1).1 rp0 rL0 ∧ St [] w w' (rL0)) (t := 4) (u := 5) (v := Value.pointer none) (v' := Value.int .i64 1) rfl rfl rfl rfl rfl ⟨(Value.pointer none), [], rfl, ⟨rfl, rfl⟩, hs100⟩
      · have h109 := ifF hc107 h106
        refine WL.val (R.lssF (k := .i64) (a := p1) (b := 0) un3 rfl rfl hc107) rfl ?_
        refine WL.val (R.pickF (v := Value.bool false) rfl rfl) rfl ?_
        refine WL.val (R.move (v := Value.bool false) rfl) rfl ?_
        refine WL.guardY (e := 16) rfl rfl rfl ?_
        refine WL.val (R.move (v := Value.int .i64 p1) rfl) rfl ?_
        refine WL.guardY (e := 16) rfl rfl rfl ?_
        refine WL.val (R.move (v := Value.int .i64 p0) rfl) rfl ?_
        refine WL.guardY (e := 16) rfl rfl rfl ?_
        by_cases hc110 : p0 ≤ p1
        · have h111 := ifT hc110 h109
          refine WL.val (R.geqT (k := .i64) (a := p1) (b := p0) un3 rfl rfl hc110) rfl ?_
          refine WL.val (R.pickF (v := Value.bool true) rfl rfl) rfl ?_
          refine WL.nil ?_
          refine thenN ?_
          refine WC.condT rfl rfl ?_
          refine WC.seq ?_
          refine WC.region ?_
          refine WL.val (R.assign (v := Value.pointer none) rfl) rfl ?_
          refine WL.val (R.assign (v := Value.int .i64 1) rfl) rfl ?_
          refine WL.nil ?_
          refine thenN ?_
          refine WC.ret ?_
          obtain rfl := Option.some.inj (show some (none, 1) = some r from h111)
          exact ret2 (P := Try.prog) (n := 28) (fn := Try.f78) (R := fun v w' => ∃ rp0, ∃ rL0, v = Value.tuple #[rp0, Value.int .i64 (none, 1).2] ∧ objR (fun (b : Nat) (d : Int × Int × Int × Bool × (List (((List Rw) × (List Rw)) × ((List Rw) × (List Rw))))) (L : List Ent) => ∃ ra1 : Option Addr, ∃ rc2 : Nat, ∃ rrs3 : List (Raw 4), L = [blk b 174 [Value.int .i64 d.1, Value.int .i64 d.2.1, Value.int .i64 d.2.2.1, Value.bool d.2.2.2.1, Value.slice ra1 d.2.2.2.2.length rc2], gsl 249 (rawE 4) (Value.slice ra1 d.2.2.2.2.length rc2) rrs3] ∧ readsL momU w' (In ok w [] (rL0)) d.2.2.2.2 rrs3) (none, 1).1 rp0 rL0 ∧ St [] w w' (rL0)) (t := 4) (u := 5) (v := Value.pointer none) (v' := Value.int .i64 1) rfl rfl rfl rfl rfl ⟨(Value.pointer none), [], rfl, ⟨rfl, rfl⟩, hs100⟩
        · have h112 := ifF hc110 h109
          refine WL.val (R.geqF (k := .i64) (a := p1) (b := p0) un3 rfl rfl hc110) rfl ?_
          refine WL.val (R.pickF (v := Value.bool false) rfl rfl) rfl ?_
          refine WL.nil ?_
          refine thenN ?_
          refine WC.condF rfl rfl ?_
          refine WC.skip ?_
          refine thenN ?_
          refine WC.seq ?_
          refine WC.region ?_
          refine WL.val (R.move (v := Value.int .i64 p0) rfl) rfl ?_
          refine WL.val (R.move (v := Value.int .i64 p1) rfl) rfl ?_
          refine WL.val (R.move (v := Value.int .i64 p0) rfl) rfl ?_
          obtain ⟨hg113, h114⟩ := ckE (c := -9223372036854775808 ≤ p0 + 1 ∧ p0 + 1 ≤ 9223372036854775807) h112
          refine WL.val (R.add (a := p0) (b := 1) (z := p0 + 1) rfl rfl (w64e rfl hg113.1 hg113.2)) rfl ?_
          obtain ⟨hg115, h116⟩ := ckE (c := 0 ≤ p0 + 1 ∧ p0 + 1 < 1000000) h114
          refine WL.new (L' := fun b117 => [gsl 249 (rawE 4) (Value.slice (some ⟨b117, 0, none⟩) ((List.replicate (p0 + 1).toNat ((([], []), ([], [])) : ((List Rw) × (List Rw)) × ((List Rw) × (List Rw)))).length) ((p0 + 1).toNat)) (List.replicate (p0 + 1).toNat (⟨[Value.slice none 0 0, Value.slice none 0 0, Value.slice none 0 0, Value.slice none 0 0], rfl, rfl⟩ : Raw 4))]) (f := fun b117 => Value.slice (some ⟨b117, 0, none⟩) ((List.replicate (p0 + 1).toNat ((([], []), ([], [])) : ((List Rw) × (List Rw)) × ((List Rw) × (List Rw)))).length) ((p0 + 1).toNat)) (X.makeSliceN (e := (rawE 4)) (z := (⟨[Value.slice none 0 0, Value.slice none 0 0, Value.slice none 0 0, Value.slice none 0 0], rfl, rfl⟩ : Raw 4)) (hs100.here) sl172 rfl rfl rfl hg115 (by decide) List.length_replicate (fun _ => rfl)) rfl ?_
          intro b117 w118 ht122 he119 hz120
          have hs123 := hs100.trans ht122
          have hr124 : readsL momU w118 (In (fun _ => False) w [] [gsl 249 (rawE 4) (Value.slice (some ⟨b117, 0, none⟩) ((List.replicate (p0 + 1).toNat ((([], []), ([], [])) : ((List Rw) × (List Rw)) × ((List Rw) × (List Rw)))).length) ((p0 + 1).toNat)) (List.replicate (p0 + 1).toNat (⟨[Value.slice none 0 0, Value.slice none 0 0, Value.slice none 0 0, Value.slice none 0 0], rfl, rfl⟩ : Raw 4))]) (List.replicate (p0 + 1).toNat ((([], []), ([], [])) : ((List Rw) × (List Rw)) × ((List Rw) × (List Rw)))) (List.replicate (p0 + 1).toNat (⟨[Value.slice none 0 0, Value.slice none 0 0, Value.slice none 0 0, Value.slice none 0 0], rfl, rfl⟩ : Raw 4)) := readsL_rep (p0 + 1).toNat ⟨[Value.slice none 0 0, Value.slice none 0 0], _, rfl, ⟨[Value.slice none 0 0], _, rfl, ⟨_, _, _, rfl, Nat.zero_le _, elems_nil⟩, ⟨_, _, rfl, Nat.le_refl _, elems_nil⟩⟩, ⟨[Value.slice none 0 0], _, rfl, ⟨_, _, _, rfl, Nat.zero_le _, elems_nil⟩, ⟨_, _, rfl, Nat.le_refl _, elems_nil⟩⟩⟩
          have hd126 : ∀ w, (Instr.build 174 #[(0, Value.int .i64 p0), (1, Value.int .i64 p1), (4, Value.slice (some ⟨b117, 0, none⟩) ((List.replicate (p0 + 1).toNat ((([], []), ([], [])) : ((List Rw) × (List Rw)) × ((List Rw) × (List Rw)))).length) ((p0 + 1).toNat))]).run Try.prog w = .ok (Value.agg (List.toArray [Value.int .i64 p0, Value.int .i64 p1, Value.int .i64 0, Value.bool false, Value.slice (some ⟨b117, 0, none⟩) ((List.replicate (p0 + 1).toNat ((([], []), ([], [])) : ((List Rw) × (List Rw)) × ((List Rw) × (List Rw)))).length) ((p0 + 1).toNat)])) w := fun _ => by kernel_rfl
          refine WL.val (R.build (vs := [(0, Value.int .i64 p0), (1, Value.int .i64 p1), (4, Value.slice (some ⟨b117, 0, none⟩) ((List.replicate (p0 + 1).toNat ((([], []), ([], [])) : ((List Rw) × (List Rw)) × ((List Rw) × (List Rw)))).length) ((p0 + 1).toNat))]) rfl hd126) rfl ?_
          refine WL.new (L' := fun b127 => [gsl 249 (rawE 4) (Value.slice (some ⟨b117, 0, none⟩) ((List.replicate (p0 + 1).toNat ((([], []), ([], [])) : ((List Rw) × (List Rw)) × ((List Rw) × (List Rw)))).length) ((p0 + 1).toNat)) (List.replicate (p0 + 1).toNat (⟨[Value.slice none 0 0, Value.slice none 0 0, Value.slice none 0 0, Value.slice none 0 0], rfl, rfl⟩ : Raw 4)), blk b127 174 [Value.int .i64 p0, Value.int .i64 p1, Value.int .i64 0, Value.bool false, Value.slice (some ⟨b117, 0, none⟩) ((List.replicate (p0 + 1).toNat ((([], []), ([], [])) : ((List Rw) × (List Rw)) × ((List Rw) × (List Rw)))).length) ((p0 + 1).toNat)]]) (f := fun b127 => Value.pointer (some ⟨b127, 0, none⟩)) (X.box (v := Value.agg (List.toArray [Value.int .i64 p0, Value.int .i64 p1, Value.int .i64 0, Value.bool false, Value.slice (some ⟨b117, 0, none⟩) ((List.replicate (p0 + 1).toNat ((([], []), ([], [])) : ((List Rw) × (List Rw)) × ((List Rw) × (List Rw)))).length) ((p0 + 1).toNat)])) (c := [Value.int .i64 p0, Value.int .i64 p1, Value.int .i64 0, Value.bool false, Value.slice (some ⟨b117, 0, none⟩) ((List.replicate (p0 + 1).toNat ((([], []), ([], [])) : ((List Rw) × (List Rw)) × ((List Rw) × (List Rw)))).length) ((p0 + 1).toNat)]) (hs123.here) rfl rfl (fun _ => rfl)) rfl ?_
          intro b127 w128 ht133 he130 hz131
          have hs134 := hs123.trans ht133
          refine WL.val (R.assign (v := Value.pointer (some ⟨b127, 0, none⟩)) rfl) rfl ?_
          refine WL.val (R.assign (v := Value.int .i64 0) rfl) rfl ?_
          refine WL.nil ?_
          refine thenN ?_
          refine WC.ret ?_
          have ht135 := (hs134.here).perm (L' := [blk b127 174 [Value.int .i64 p0, Value.int .i64 p1, Value.int .i64 0, Value.bool false, Value.slice (some ⟨b117, 0, none⟩) ((List.replicate (p0 + 1).toNat ((([], []), ([], [])) : ((List Rw) × (List Rw)) × ((List Rw) × (List Rw)))).length) ((p0 + 1).toNat)], gsl 249 (rawE 4) (Value.slice (some ⟨b117, 0, none⟩) ((List.replicate (p0 + 1).toNat ((([], []), ([], [])) : ((List Rw) × (List Rw)) × ((List Rw) × (List Rw)))).length) ((p0 + 1).toNat)) (List.replicate (p0 + 1).toNat (⟨[Value.slice none 0 0, Value.slice none 0 0, Value.slice none 0 0, Value.slice none 0 0], rfl, rfl⟩ : Raw 4))]) (G := []) (((List.perm_middle (l₁ := [gsl 249 (rawE 4) (Value.slice (some ⟨b117, 0, none⟩) ((List.replicate (p0 + 1).toNat ((([], []), ([], [])) : ((List Rw) × (List Rw)) × ((List Rw) × (List Rw)))).length) ((p0 + 1).toNat)) (List.replicate (p0 + 1).toNat (⟨[Value.slice none 0 0, Value.slice none 0 0, Value.slice none 0 0, Value.slice none 0 0], rfl, rfl⟩ : Raw 4))]) (a := blk b127 174 [Value.int .i64 p0, Value.int .i64 p1, Value.int .i64 0, Value.bool false, Value.slice (some ⟨b117, 0, none⟩) ((List.replicate (p0 + 1).toNat ((([], []), ([], [])) : ((List Rw) × (List Rw)) × ((List Rw) × (List Rw)))).length) ((p0 + 1).toNat)]) (l₂ := [])).trans (List.Perm.cons _ (List.Perm.refl _))))
          have hs136 := hs134.trans ht135
          have hr137 := rlT (ht133.trans ht135) hr124
          obtain rfl := Option.some.inj (show some ((some (p0, p1, 0, false, List.replicate (p0 + 1).toNat ((([], []), ([], [])) : ((List Rw) × (List Rw)) × ((List Rw) × (List Rw))))), 0) = some r from h116)
          exact ret2 (P := Try.prog) (n := 28) (fn := Try.f78) (R := fun v w' => ∃ rp0, ∃ rL0, v = Value.tuple #[rp0, Value.int .i64 ((some (p0, p1, 0, false, List.replicate (p0 + 1).toNat ((([], []), ([], [])) : ((List Rw) × (List Rw)) × ((List Rw) × (List Rw))))), 0).2] ∧ objR (fun (b : Nat) (d : Int × Int × Int × Bool × (List (((List Rw) × (List Rw)) × ((List Rw) × (List Rw))))) (L : List Ent) => ∃ ra1 : Option Addr, ∃ rc2 : Nat, ∃ rrs3 : List (Raw 4), L = [blk b 174 [Value.int .i64 d.1, Value.int .i64 d.2.1, Value.int .i64 d.2.2.1, Value.bool d.2.2.2.1, Value.slice ra1 d.2.2.2.2.length rc2], gsl 249 (rawE 4) (Value.slice ra1 d.2.2.2.2.length rc2) rrs3] ∧ readsL momU w' (In ok w [] (rL0)) d.2.2.2.2 rrs3) ((some (p0, p1, 0, false, List.replicate (p0 + 1).toNat ((([], []), ([], [])) : ((List Rw) × (List Rw)) × ((List Rw) × (List Rw))))), 0).1 rp0 rL0 ∧ St [] w w' (rL0)) (t := 4) (u := 5) (v := Value.pointer (some ⟨b127, 0, none⟩)) (v' := Value.int .i64 0) rfl rfl rfl rfl rfl ⟨Value.pointer (some ⟨b127, 0, none⟩), _, rfl, ⟨_, rfl, (some ⟨b117, 0, none⟩), (p0 + 1).toNat, List.replicate (p0 + 1).toNat (⟨[Value.slice none 0 0, Value.slice none 0 0, Value.slice none 0 0, Value.slice none 0 0], rfl, rfl⟩ : Raw 4), rfl, (rlN (ok' := ok) hr137)⟩, hs136⟩

theorem dist14_ok (w : World) (ok : Nat → Prop) (q0 : Int × Int × Int × Bool × (List (((List Rw) × (List Rw)) × ((List Rw) × (List Rw))))) (p1 : Int) (p2 : Int) (b0r0 : Nat) (a0r0 : Option Addr) (c0r0a : Nat) (hr0 : At w ok ⟨b0r0, 0, none⟩ [Value.int .i64 q0.1, Value.int .i64 q0.2.1, Value.int .i64 q0.2.2.1, Value.bool q0.2.2.2.1, Value.slice a0r0 q0.2.2.2.2.length c0r0a]) (hrl0_0 : q0.2.2.2.2.length ≤ c0r0a) (hre0_0 : elems momU w ok a0r0 q0.2.2.2.2) {r : Int} (h : dist14 q0 p1 p2 = some r) :
    Ret Try.prog 137 [Value.pointer (some ⟨b0r0, 0, none⟩), Value.int .i64 p1, Value.int .i64 p2] w (fun v w' => v = Value.int .i64 r ∧ St [] w w' []) := by
  rw [dist14] at h
  have hs100 : St [] w w [] := St.start w
  have hat101 := at0 (L0 := []) (fun b _ => out_nil b) hr0
  have he103 := el0 (L0 := []) (fun b _ => out_nil b) hre0_0
  refine enter (n := 41) Try.func137 rfl rfl rfl ?_
  refine WC.seq ?_
  refine WC.region ?_
  refine WL.val (R.assign (v := Value.int .i64 0) rfl) rfl ?_
  refine WL.nil ?_
  refine thenN ?_
  refine WC.seq ?_
  refine WC.seq ?_
  refine WC.region ?_
  refine WL.val (R.move (v := Value.int .i64 p1) rfl) rfl ?_
  by_cases hc105 : p1 = 0
  · have h106 := ifT hc105 h
    refine WL.val (R.eqlT (k := .i64) (a := p1) (b := 0) un3 rfl rfl hc105) rfl ?_
    refine WL.nil ?_
    refine thenN ?_
    refine WC.condT rfl rfl ?_
    refine WC.seq ?_
    refine WC.drawE mixed (NP.then (NP.then NP.rq)) ?_
    have ht107 := (hs100.here).ext (Ext.drew _)
    have hs108 := hs100.trans ht107
    refine WE.take 0 rfl (by decide +kernel) (by decide +kernel) (by decide +kernel) (by decide +kernel) rfl rfl (fun wq hq => R.move (v := Value.pointer (some ⟨b0r0, 0, none⟩)) rfl) ?_
    refine WE.take 1 rfl (by decide +kernel) (by decide +kernel) (by decide +kernel) (by decide +kernel) rfl rfl (fun wq hq => R.nilCheckP (a := ⟨b0r0, 0, none⟩) rfl) ?_
    refine WE.take 2 rfl (by decide +kernel) (by decide +kernel) (by decide +kernel) (by decide +kernel) rfl rfl (fun wq hq => R.fieldAddr (o := 0) (o' := 1) fa174_1 rfl rfl) ?_
    have hr109 := At.trT ht107 hat101
    refine WE.take 3 rfl (by decide +kernel) (by decide +kernel) (by decide +kernel) (by decide +kernel) rfl rfl (fun wq hq => R.loadL (v := Value.int .i64 q0.2.1) lf3 rfl (At.sub (a := ⟨b0r0, 0, none⟩) (off := 1) (n := 1) (cs := [Value.int .i64 q0.1, Value.int .i64 q0.2.1, Value.int .i64 q0.2.2.1, Value.bool q0.2.2.2.1, Value.slice a0r0 q0.2.2.2.2.length c0r0a]) (ds := [Value.int .i64 q0.2.1]) (At.exT hq hr109) rfl rfl)) ?_
    refine WE.take 4 rfl (by decide +kernel) (by decide +kernel) (by decide +kernel) (by decide +kernel) rfl rfl (fun wq hq => R.move (v := Value.int .i64 p2) rfl) ?_
    obtain ⟨hg110, h111⟩ := ckE (c := -9223372036854775808 ≤ q0.2.1 - p2 ∧ q0.2.1 - p2 ≤ 9223372036854775807) h106
    refine WE.take 5 rfl (by decide +kernel) (by decide +kernel) (by decide +kernel) (by decide +kernel) rfl rfl (fun wq hq => R.sub (a := q0.2.1) (b := p2) (z := q0.2.1 - p2) rfl rfl (w64e rfl hg110.1 hg110.2)) ?_
    refine WE.take 6 rfl (by decide +kernel) (by decide +kernel) (by decide +kernel) (by decide +kernel) rfl rfl (fun wq hq => R.move (v := Value.pointer (some ⟨b0r0, 0, none⟩)) rfl) ?_
    refine WE.take 7 rfl (by decide +kernel) (by decide +kernel) (by decide +kernel) (by decide +kernel) rfl rfl (fun wq hq => R.nilCheckP (a := ⟨b0r0, 0, none⟩) rfl) ?_
    refine WE.take 8 rfl (by decide +kernel) (by decide +kernel) (by decide +kernel) (by decide +kernel) rfl rfl (fun wq hq => R.fieldAddr (o := 0) (o' := 0) fa174_0 rfl rfl) ?_
    refine WE.take 9 rfl (by decide +kernel) (by decide +kernel) (by decide +kernel) (by decide +kernel) rfl rfl (fun wq hq => R.loadL (v := Value.int .i64 q0.1) lf3 rfl (At.sub (a := ⟨b0r0, 0, none⟩) (off := 0) (n := 1) (cs := [Value.int .i64 q0.1, Value.int .i64 q0.2.1, Value.int .i64 q0.2.2.1, Value.bool q0.2.2.2.1, Value.slice a0r0 q0.2.2.2.2.length c0r0a]) (ds := [Value.int .i64 q0.1]) (At.exT hq hr109) rfl rfl)) ?_
    obtain ⟨hg112, h113⟩ := ckE (c := -9223372036854775808 ≤ (q0.2.1 - p2) + q0.1 ∧ (q0.2.1 - p2) + q0.1 ≤ 9223372036854775807) h111
    refine WE.take 10 rfl (by decide +kernel) (by decide +kernel) (by decide +kernel) (by decide +kernel) rfl rfl (fun wq hq => R.add (a := q0.2.1 - p2) (b := q0.1) (z := (q0.2.1 - p2) + q0.1) rfl rfl (w64e rfl hg112.1 hg112.2)) ?_
    refine WE.take 11 rfl (by decide +kernel) (by decide +kernel) (by decide +kernel) (by decide +kernel) rfl rfl (fun wq hq => R.move (v := Value.pointer (some ⟨b0r0, 0, none⟩)) rfl) ?_
    refine WE.take 12 rfl (by decide +kernel) (by decide +kernel) (by decide +kernel) (by decide +kernel) rfl rfl (fun wq hq => R.nilCheckP (a := ⟨b0r0, 0, none⟩) rfl) ?_
    refine WE.take 13 rfl (by decide +kernel) (by decide +kernel) (by decide +kernel) (by decide +kernel) rfl rfl (fun wq hq => R.fieldAddr (o := 0) (o' := 0) fa174_0 rfl rfl) ?_
    refine WE.take 14 rfl (by decide +kernel) (by decide +kernel) (by decide +kernel) (by decide +kernel) rfl rfl (fun wq hq => R.loadL (v := Value.int .i64 q0.1) lf3 rfl (At.sub (a := ⟨b0r0, 0, none⟩) (off := 0) (n := 1) (cs := [Value.int .i64 q0.1, Value.int .i64 q0.2.1, Value.int .i64 q0.2.2.1, Value.bool q0.2.2.2.1, Value.slice a0r0 q0.2.2.2.2.length c0r0a]) (ds := [Value.int .i64 q0.1]) (At.exT hq hr109) rfl rfl)) ?_
    obtain ⟨hg114, h115⟩ := ckE (c := 0 ≤ (q0.2.1 - p2) + q0.1 ∧ 0 < (q0.1 : Int) ∧ (q0.1 : Int) ≤ 9223372036854775807) h113
    refine WE.take 15 rfl (by decide +kernel) (by decide +kernel) (by decide +kernel) (by decide +kernel) rfl rfl (fun wq hq => R.remG (a := (q0.2.1 - p2) + q0.1) (b := q0.1) rfl rfl hg114 (by decide)) ?_
    refine WE.take 16 rfl (by decide +kernel) (by decide +kernel) (by decide +kernel) (by decide +kernel) rfl rfl (fun wq hq => R.assign (v := Value.int .i64 (((q0.2.1 - p2) + q0.1) % q0.1)) rfl) ?_
    refine WE.done (by decide +kernel) ?_
    refine thenN ?_
    refine WC.ret ?_
    obtain rfl := Option.some.inj (show some (((q0.2.1 - p2) + q0.1) % q0.1) = some r from h115)
    exact ret1 (P := Try.prog) (n := 41) (fn := Try.f137) (R := fun v w' => v = Value.int .i64 (((q0.2.1 - p2) + q0.1) % q0.1) ∧ St [] w w' []) (t := 6) (v := Value.int .i64 (((q0.2.1 - p2) + q0.1) % q0.1)) rfl rfl rfl ⟨rfl, hs108⟩
  · have h116 := ifF hc105 h
    refine WL.val (R.eqlF (k := .i64) (a := p1) (b := 0) un3 rfl rfl hc105) rfl ?_
    refine WL.nil ?_
    refine thenN ?_
    refine WC.condF rfl rfl ?_
    refine WC.skip ?_
    refine thenN ?_
    refine WC.seq ?_
    refine WC.drawE mixed (NP.then NP.rq) ?_
    have ht117 := (hs100.here).ext (Ext.drew _)
    have hs118 := hs100.trans ht117
    refine WE.take 0 rfl (by decide +kernel) (by decide +kernel) (by decide +kernel) (by decide +kernel) rfl rfl (fun wq hq => R.move (v := Value.int .i64 p2) rfl) ?_
    refine WE.take 1 rfl (by decide +kernel) (by decide +kernel) (by decide +kernel) (by decide +kernel) rfl rfl (fun wq hq => R.move (v := Value.pointer (some ⟨b0r0, 0, none⟩)) rfl) ?_
    refine WE.take 2 rfl (by decide +kernel) (by decide +kernel) (by decide +kernel) (by decide +kernel) rfl rfl (fun wq hq => R.nilCheckP (a := ⟨b0r0, 0, none⟩) rfl) ?_
    refine WE.take 3 rfl (by decide +kernel) (by decide +kernel) (by decide +kernel) (by decide +kernel) rfl rfl (fun wq hq => R.fieldAddr (o := 0) (o' := 1) fa174_1 rfl rfl) ?_
    have hr119 := At.trT ht117 hat101
    refine WE.take 4 rfl (by decide +kernel) (by decide +kernel) (by decide +kernel) (by decide +kernel) rfl rfl (fun wq hq => R.loadL (v := Value.int .i64 q0.2.1) lf3 rfl (At.sub (a := ⟨b0r0, 0, none⟩) (off := 1) (n := 1) (cs := [Value.int .i64 q0.1, Value.int .i64 q0.2.1, Value.int .i64 q0.2.2.1, Value.bool q0.2.2.2.1, Value.slice a0r0 q0.2.2.2.2.length c0r0a]) (ds := [Value.int .i64 q0.2.1]) (At.exT hq hr119) rfl rfl)) ?_
    obtain ⟨hg120, h121⟩ := ckE (c := -9223372036854775808 ≤ p2 - q0.2.1 ∧ p2 - q0.2.1 ≤ 9223372036854775807) h116
    refine WE.take 5 rfl (by decide +kernel) (by decide +kernel) (by decide +kernel) (by decide +kernel) rfl rfl (fun wq hq => R.sub (a := p2) (b := q0.2.1) (z := p2 - q0.2.1) rfl rfl (w64e rfl hg120.1 hg120.2)) ?_
    refine WE.take 6 rfl (by decide +kernel) (by decide +kernel) (by decide +kernel) (by decide +kernel) rfl rfl (fun wq hq => R.move (v := Value.pointer (some ⟨b0r0, 0, none⟩)) rfl) ?_
    refine WE.take 7 rfl (by decide +kernel) (by decide +kernel) (by decide +kernel) (by decide +kernel) rfl rfl (fun wq hq => R.nilCheckP (a := ⟨b0r0, 0, none⟩) rfl) ?_
    refine WE.take 8 rfl (by decide +kernel) (by decide +kernel) (by decide +kernel) (by decide +kernel) rfl rfl (fun wq hq => R.fieldAddr (o := 0) (o' := 0) fa174_0 rfl rfl) ?_
    refine WE.take 9 rfl (by decide +kernel) (by decide +kernel) (by decide +kernel) (by decide +kernel) rfl rfl (fun wq hq => R.loadL (v := Value.int .i64 q0.1) lf3 rfl (At.sub (a := ⟨b0r0, 0, none⟩) (off := 0) (n := 1) (cs := [Value.int .i64 q0.1, Value.int .i64 q0.2.1, Value.int .i64 q0.2.2.1, Value.bool q0.2.2.2.1, Value.slice a0r0 q0.2.2.2.2.length c0r0a]) (ds := [Value.int .i64 q0.1]) (At.exT hq hr119) rfl rfl)) ?_
    obtain ⟨hg122, h123⟩ := ckE (c := -9223372036854775808 ≤ (p2 - q0.2.1) + q0.1 ∧ (p2 - q0.2.1) + q0.1 ≤ 9223372036854775807) h121
    refine WE.take 10 rfl (by decide +kernel) (by decide +kernel) (by decide +kernel) (by decide +kernel) rfl rfl (fun wq hq => R.add (a := p2 - q0.2.1) (b := q0.1) (z := (p2 - q0.2.1) + q0.1) rfl rfl (w64e rfl hg122.1 hg122.2)) ?_
    refine WE.take 11 rfl (by decide +kernel) (by decide +kernel) (by decide +kernel) (by decide +kernel) rfl rfl (fun wq hq => R.move (v := Value.pointer (some ⟨b0r0, 0, none⟩)) rfl) ?_
    refine WE.take 12 rfl (by decide +kernel) (by decide +kernel) (by decide +kernel) (by decide +kernel) rfl rfl (fun wq hq => R.nilCheckP (a := ⟨b0r0, 0, none⟩) rfl) ?_
    refine WE.take 13 rfl (by decide +kernel) (by decide +kernel) (by decide +kernel) (by decide +kernel) rfl rfl (fun wq hq => R.fieldAddr (o := 0) (o' := 0) fa174_0 rfl rfl) ?_
    refine WE.take 14 rfl (by decide +kernel) (by decide +kernel) (by decide +kernel) (by decide +kernel) rfl rfl (fun wq hq => R.loadL (v := Value.int .i64 q0.1) lf3 rfl (At.sub (a := ⟨b0r0, 0, none⟩) (off := 0) (n := 1) (cs := [Value.int .i64 q0.1, Value.int .i64 q0.2.1, Value.int .i64 q0.2.2.1, Value.bool q0.2.2.2.1, Value.slice a0r0 q0.2.2.2.2.length c0r0a]) (ds := [Value.int .i64 q0.1]) (At.exT hq hr119) rfl rfl)) ?_
    obtain ⟨hg124, h125⟩ := ckE (c := 0 ≤ (p2 - q0.2.1) + q0.1 ∧ 0 < (q0.1 : Int) ∧ (q0.1 : Int) ≤ 9223372036854775807) h123
    refine WE.take 15 rfl (by decide +kernel) (by decide +kernel) (by decide +kernel) (by decide +kernel) rfl rfl (fun wq hq => R.remG (a := (p2 - q0.2.1) + q0.1) (b := q0.1) rfl rfl hg124 (by decide)) ?_
    refine WE.take 16 rfl (by decide +kernel) (by decide +kernel) (by decide +kernel) (by decide +kernel) rfl rfl (fun wq hq => R.assign (v := Value.int .i64 (((p2 - q0.2.1) + q0.1) % q0.1)) rfl) ?_
    refine WE.done (by decide +kernel) ?_
    refine thenN ?_
    refine WC.ret ?_
    obtain rfl := Option.some.inj (show some (((p2 - q0.2.1) + q0.1) % q0.1) = some r from h125)
    exact ret1 (P := Try.prog) (n := 41) (fn := Try.f137) (R := fun v w' => v = Value.int .i64 (((p2 - q0.2.1) + q0.1) % q0.1) ∧ St [] w w' []) (t := 6) (v := Value.int .i64 (((p2 - q0.2.1) + q0.1) % q0.1)) rfl rfl rfl ⟨rfl, hs118⟩

theorem side14_ok (w : World) (ok : Nat → Prop) (q0 : Int × Int × Int × Bool × (List (((List Rw) × (List Rw)) × ((List Rw) × (List Rw))))) (p1 : Int) (p2 : (List Rw)) (p3 : (List Rw)) (a2 : Option Addr) (c2 : Nat) (he2 : elems rowW w ok a2 p2) (hc2 : p2.length ≤ c2) (a3 : Option Addr) (c3 : Nat) (he3 : elems rowW w ok a3 p3) (hc3 : p3.length ≤ c3) (b0r0 : Nat) (a0r0 : Option Addr) (c0r0a : Nat) (hr0 : At w ok ⟨b0r0, 0, none⟩ [Value.int .i64 q0.1, Value.int .i64 q0.2.1, Value.int .i64 q0.2.2.1, Value.bool q0.2.2.2.1, Value.slice a0r0 q0.2.2.2.2.length c0r0a]) (hrl0_0 : q0.2.2.2.2.length ≤ c0r0a) (hre0_0 : elems momU w ok a0r0 q0.2.2.2.2) {r : ((List Rw) × (List Rw))} (h : side14 q0 p1 p2 p3 = some r) :
    Ret Try.prog 122 [Value.pointer (some ⟨b0r0, 0, none⟩), Value.int .i64 p1, Value.agg (List.toArray [Value.slice a2 p2.length c2]), Value.agg (List.toArray [Value.slice a3 p3.length c3])] w (fun v w' => ∃ ra0, ∃ rc0, ∃ ra1, ∃ rc1, ∃ rrs0, ∃ rrs1, v = Value.agg (List.toArray [Value.slice ra0 r.1.length rc0, Value.slice ra1 r.2.length rc1]) ∧ readsL rowW w' (In (fun _ => False) w [] [gsl 62 (rawE 57) (Value.slice ra0 r.1.length rc0) rrs0, gsl 62 (rawE 57) (Value.slice ra1 r.2.length rc1) rrs1]) r.1 rrs0 ∧ readsL rowW w' (In (fun _ => False) w [] [gsl 62 (rawE 57) (Value.slice ra0 r.1.length rc0) rrs0, gsl 62 (rawE 57) (Value.slice ra1 r.2.length rc1) rrs1]) r.2 rrs1 ∧ St [] w w' [gsl 62 (rawE 57) (Value.slice ra0 r.1.length rc0) rrs0, gsl 62 (rawE 57) (Value.slice ra1 r.2.length rc1) rrs1]) := by
  rw [side14] at h
  have hs100 : St [] w w [] := St.start w
  have he1002 := el0 (L0 := []) (fun b _ => out_nil b) he2
  have he1003 := el0 (L0 := []) (fun b _ => out_nil b) he3
  have hat103 := at0 (L0 := []) (fun b _ => out_nil b) hr0
  have he105 := el0 (L0 := []) (fun b _ => out_nil b) hre0_0
  refine enter (n := 67) Try.func122 rfl rfl rfl ?_
  refine WC.seq ?_
  refine WC.region ?_
  refine WL.new (L' := fun b107 => [blk b107 25 [Value.slice a2 p2.length c2]]) (f := fun b107 => Value.pointer (some ⟨b107, 0, none⟩)) (X.box (v := Value.agg (List.toArray [Value.slice a2 p2.length c2])) (c := [Value.slice a2 p2.length c2]) (hs100.here) rfl rfl (fun _ => rfl)) rfl ?_
  intro b107 w108 ht113 he110 hz111
  have hs114 := hs100.trans ht113
  refine WL.new (L' := fun b115 => [blk b107 25 [Value.slice a2 p2.length c2], blk b115 25 [Value.slice a3 p3.length c3]]) (f := fun b115 => Value.pointer (some ⟨b115, 0, none⟩)) (X.box (v := Value.agg (List.toArray [Value.slice a3 p3.length c3])) (c := [Value.slice a3 p3.length c3]) (hs114.here) rfl rfl (fun _ => rfl)) rfl ?_
  intro b115 w116 ht121 he118 hz119
  have hs122 := hs114.trans ht121
  refine WL.new (L' := fun b123 => [blk b107 25 [Value.slice a2 p2.length c2], blk b115 25 [Value.slice a3 p3.length c3], blk b123 246 [Value.slice none 0 0, Value.slice none 0 0]]) (f := fun b123 => Value.pointer (some ⟨b123, 0, none⟩)) (X.alloc (c := [Value.slice none 0 0, Value.slice none 0 0]) (hs122.here) zr246 rfl (fun _ => rfl)) rfl ?_
  intro b123 w124 ht129 he126 hz127
  have hs130 := hs122.trans ht129
  refine WL.nil ?_
  refine thenN ?_
  refine WC.seq ?_
  refine WC.drawE mixed (NP.then NP.rq) ?_
  have ht131 := (hs130.here).ext (Ext.drew _)
  have hs132 := hs130.trans ht131
  refine WE.take 0 rfl (by decide +kernel) (by decide +kernel) (by decide +kernel) (by decide +kernel) rfl rfl (fun wq hq => R.move (v := Value.pointer (some ⟨b0r0, 0, none⟩)) rfl) ?_
  refine WE.take 1 rfl (by decide +kernel) (by decide +kernel) (by decide +kernel) (by decide +kernel) rfl rfl (fun wq hq => R.nilCheckP (a := ⟨b0r0, 0, none⟩) rfl) ?_
  refine WE.take 2 rfl (by decide +kernel) (by decide +kernel) (by decide +kernel) (by decide +kernel) rfl rfl (fun wq hq => R.fieldAddr (o := 0) (o' := 0) fa174_0 rfl rfl) ?_
  have hr133 := At.trT (((ht113.trans ht121).trans ht129).trans ht131) hat103
  refine WE.take 3 rfl (by decide +kernel) (by decide +kernel) (by decide +kernel) (by decide +kernel) rfl rfl (fun wq hq => R.loadL (v := Value.int .i64 q0.1) lf3 rfl (At.sub (a := ⟨b0r0, 0, none⟩) (off := 0) (n := 1) (cs := [Value.int .i64 q0.1, Value.int .i64 q0.2.1, Value.int .i64 q0.2.2.1, Value.bool q0.2.2.2.1, Value.slice a0r0 q0.2.2.2.2.length c0r0a]) (ds := [Value.int .i64 q0.1]) (At.exT hq hr133) rfl rfl)) ?_
  refine WE.take 4 rfl (by decide +kernel) (by decide +kernel) (by decide +kernel) (by decide +kernel) rfl rfl (fun wq hq => R.loadA (cs := [Value.slice a2 p2.length c2]) (n := 1) ag25 rfl ((hs132.ext hq).at (i := 0) (off := 0) (n := 1) (cs := [Value.slice a2 p2.length c2]) rfl rfl rfl) rfl) ?_
  obtain ⟨y134, hx135, h136⟩ := ob (o := normn14 q0.1 p2) h
  have hr137 := elT (((ht113.trans ht121).trans ht129).trans ht131) he1002
  refine WE.call 5 (by decide +kernel) rfl rfl rfl (normn14_ok _ _ q0.1 p2 _ _ hr137 hc2 hx135) (R.call (vs := [Value.int .i64 q0.1, Value.agg (List.toArray [Value.slice a2 p2.length c2])]) (caps := []) bo61 rfl rfl) ?_
  rintro v144 w145 ⟨a140, c141, rs142, rfl, hr143, ht138⟩
  refine ⟨.inr (show Ext _ _ from ht138.kept), ?_⟩
  have ht139 := hs132.call (N := [blk b107 25 [Value.slice a2 p2.length c2], blk b115 25 [Value.slice a3 p3.length c3], blk b123 246 [Value.slice none 0 0, Value.slice none 0 0]]) (M := []) (List.Perm.refl _) ht138
  have hs147 := hs132.trans ht139
  have hr148 := rlCN hs132 (M := []) (List.Perm.refl _) ht138 hr143
  have hd150 : ∀ w, (Instr.field 25 (Value.agg (List.toArray [Value.slice a140 y134.length c141])) 0).run Try.prog w = .ok (Value.slice a140 y134.length c141) w := fun _ => by kernel_rfl
  refine WE.take 6 rfl (by decide +kernel) (by decide +kernel) (by decide +kernel) (by decide +kernel) rfl rfl (fun wq hq => R.fieldV rfl hd150) ?_
  refine WE.take 7 rfl (by decide +kernel) (by decide +kernel) (by decide +kernel) (by decide +kernel) rfl rfl (fun wq hq => R.fieldAddr (o := 0) (o' := 1) fa246_1 rfl rfl) ?_
  refine WE.sto (L' := [gsl 62 (rawE 57) (Value.slice a140 y134.length c141) rs142, blk b107 25 [Value.slice a2 p2.length c2], blk b115 25 [Value.slice a3 p3.length c3], blk b123 246 [Value.slice none 0 0, Value.slice a140 y134.length c141]]) 8 (by decide +kernel) (by decide +kernel) rfl rfl rfl rfl (X.store (i := 3) (n := 1) (b := b123) (off := 1) (c := [Value.slice none 0 0, Value.slice none 0 0]) (U := 246) (vs := [Value.slice a140 y134.length c141]) (v := Value.slice a140 y134.length c141) (c' := [Value.slice none 0 0, Value.slice a140 y134.length c141]) (hs147.here) rfl lf22.size rfl rfl rfl rfl rfl rfl rfl rfl) ?_
  intro w151 ht152
  have hs153 := hs147.trans ht152
  refine WE.done (by decide +kernel) ?_
  refine thenN ?_
  refine WC.seq ?_
  refine WC.drawE mixed (NP.then NP.rq) ?_
  have ht154 := (hs153.here).ext (Ext.drew _)
  have hs155 := hs153.trans ht154
  refine WE.take 0 rfl (by decide +kernel) (by decide +kernel) (by decide +kernel) (by decide +kernel) rfl rfl (fun wq hq => R.move (v := Value.pointer (some ⟨b0r0, 0, none⟩)) rfl) ?_
  refine WE.take 1 rfl (by decide +kernel) (by decide +kernel) (by decide +kernel) (by decide +kernel) rfl rfl (fun wq hq => R.nilCheckP (a := ⟨b0r0, 0, none⟩) rfl) ?_
  refine WE.take 2 rfl (by decide +kernel) (by decide +kernel) (by decide +kernel) (by decide +kernel) rfl rfl (fun wq hq => R.fieldAddr (o := 0) (o' := 0) fa174_0 rfl rfl) ?_
  have hr156 := At.trT ((ht139.trans ht152).trans ht154) hr133
  refine WE.take 3 rfl (by decide +kernel) (by decide +kernel) (by decide +kernel) (by decide +kernel) rfl rfl (fun wq hq => R.loadL (v := Value.int .i64 q0.1) lf3 rfl (At.sub (a := ⟨b0r0, 0, none⟩) (off := 0) (n := 1) (cs := [Value.int .i64 q0.1, Value.int .i64 q0.2.1, Value.int .i64 q0.2.2.1, Value.bool q0.2.2.2.1, Value.slice a0r0 q0.2.2.2.2.length c0r0a]) (ds := [Value.int .i64 q0.1]) (At.exT hq hr156) rfl rfl)) ?_
  refine WE.take 4 rfl (by decide +kernel) (by decide +kernel) (by decide +kernel) (by decide +kernel) rfl rfl (fun wq hq => R.loadA (cs := [Value.slice a3 p3.length c3]) (n := 1) ag25 rfl ((hs155.ext hq).at (i := 2) (off := 0) (n := 1) (cs := [Value.slice a3 p3.length c3]) rfl rfl rfl) rfl) ?_
  obtain ⟨y157, hx158, h159⟩ := ob (o := normn14 q0.1 p3) h136
  have hr160 := elT ((((((ht113.trans ht121).trans ht129).trans ht131).trans ht139).trans ht152).trans ht154) he1003
  refine WE.call 5 (by decide +kernel) rfl rfl rfl (normn14_ok _ _ q0.1 p3 _ _ hr160 hc3 hx158) (R.call (vs := [Value.int .i64 q0.1, Value.agg (List.toArray [Value.slice a3 p3.length c3])]) (caps := []) bo61 rfl rfl) ?_
  rintro v167 w168 ⟨a163, c164, rs165, rfl, hr166, ht161⟩
  refine ⟨.inr (show Ext _ _ from ht161.kept), ?_⟩
  have ht162 := hs155.call (N := [gsl 62 (rawE 57) (Value.slice a140 y134.length c141) rs142, blk b107 25 [Value.slice a2 p2.length c2], blk b115 25 [Value.slice a3 p3.length c3], blk b123 246 [Value.slice none 0 0, Value.slice a140 y134.length c141]]) (M := []) (List.Perm.refl _) ht161
  have hs170 := hs155.trans ht162
  have hr171 := rlCN hs155 (M := []) (List.Perm.refl _) ht161 hr166
  have hd173 : ∀ w, (Instr.field 25 (Value.agg (List.toArray [Value.slice a163 y157.length c164])) 0).run Try.prog w = .ok (Value.slice a163 y157.length c164) w := fun _ => by kernel_rfl
  refine WE.take 6 rfl (by decide +kernel) (by decide +kernel) (by decide +kernel) (by decide +kernel) rfl rfl (fun wq hq => R.fieldV rfl hd173) ?_
  refine WE.take 7 rfl (by decide +kernel) (by decide +kernel) (by decide +kernel) (by decide +kernel) rfl rfl (fun wq hq => R.fieldAddr (o := 0) (o' := 0) fa246_0 rfl rfl) ?_
  refine WE.sto (L' := [gsl 62 (rawE 57) (Value.slice a163 y157.length c164) rs165, gsl 62 (rawE 57) (Value.slice a140 y134.length c141) rs142, blk b107 25 [Value.slice a2 p2.length c2], blk b115 25 [Value.slice a3 p3.length c3], blk b123 246 [Value.slice a163 y157.length c164, Value.slice a140 y134.length c141]]) 8 (by decide +kernel) (by decide +kernel) rfl rfl rfl rfl (X.store (i := 4) (n := 1) (b := b123) (off := 0) (c := [Value.slice none 0 0, Value.slice a140 y134.length c141]) (U := 246) (vs := [Value.slice a163 y157.length c164]) (v := Value.slice a163 y157.length c164) (c' := [Value.slice a163 y157.length c164, Value.slice a140 y134.length c141]) (hs170.here) rfl lf22.size rfl rfl rfl rfl rfl rfl rfl rfl) ?_
  intro w174 ht175
  have hs176 := hs170.trans ht175
  refine WE.done (by decide +kernel) ?_
  refine thenN ?_
  refine WC.seq ?_
  refine WC.seq ?_
  refine WC.region ?_
  refine WL.val (R.move (v := Value.pointer (some ⟨b0r0, 0, none⟩)) rfl) rfl ?_
  refine WL.val (R.nilCheckP (a := ⟨b0r0, 0, none⟩) rfl) rfl ?_
  refine WL.val (R.fieldAddr (o := 0) (o' := 0) fa174_0 rfl rfl) rfl ?_
  have hr177 := At.trT (ht162.trans ht175) hr156
  refine WL.val (R.loadL (v := Value.int .i64 q0.1) lf3 rfl (At.sub (a := ⟨b0r0, 0, none⟩) (off := 0) (n := 1) (cs := [Value.int .i64 q0.1, Value.int .i64 q0.2.1, Value.int .i64 q0.2.2.1, Value.bool q0.2.2.2.1, Value.slice a0r0 q0.2.2.2.2.length c0r0a]) (ds := [Value.int .i64 q0.1]) hr177 rfl rfl)) rfl ?_
  refine WL.val (R.move (v := Value.int .i64 0) rfl) rfl ?_
  refine WL.nil ?_
  refine thenN ?_
  have ht605 := (hs176.here).perm (L' := [blk b123 246 [Value.slice a163 y157.length c164, Value.slice a140 y134.length c141], gsl 62 (rawE 57) (Value.slice a163 y157.length c164) rs165, gsl 62 (rawE 57) (Value.slice a140 y134.length c141) rs142]) (G := [blk b107 25 [Value.slice a2 p2.length c2], blk b115 25 [Value.slice a3 p3.length c3]]) (((List.perm_middle (l₁ := [gsl 62 (rawE 57) (Value.slice a163 y157.length c164) rs165, gsl 62 (rawE 57) (Value.slice a140 y134.length c141) rs142, blk b107 25 [Value.slice a2 p2.length c2], blk b115 25 [Value.slice a3 p3.length c3]]) (a := blk b123 246 [Value.slice a163 y157.length c164, Value.slice a140 y134.length c141]) (l₂ := [])).trans (List.Perm.cons _ (List.Perm.refl _))))
  have hs606 := hs176.trans ht605
  have hr607 := elT (((((((((ht113.trans ht121).trans ht129).trans ht131).trans ht139).trans ht152).trans ht154).trans ht162).trans ht175).trans ht605) he105
  have hr608 := At.trT ht605 hr177
  have hr609 := rlT (ht175.trans ht605) hr171
  have hr610 := rlT ((((ht152.trans ht154).trans ht162).trans ht175).trans ht605) hr148
  obtain ⟨K594, hK595, h596⟩ := kE (G := fun K594 => side14_l1 q0 p1 K594 1000000 0 y157 y134) h159
  refine WC.join (fun σ612 w611 => ∃ l586 : List Rw, ∃ l590 : List Rw, ∃ rs587, ∃ a588, ∃ c589, ∃ rs591, ∃ a592, ∃ c593, σ612 8 = (Value.pointer (some ⟨b123, 0, none⟩)) ∧ readsL rowW w611 (In (fun _ => False) w [] [blk b123 246 [Value.slice a588 l586.length c589, Value.slice a592 l590.length c593], gsl 62 (rawE 57) (Value.slice a588 l586.length c589) rs587, gsl 62 (rawE 57) (Value.slice a592 l590.length c593) rs591]) l586 rs587 ∧ readsL rowW w611 (In (fun _ => False) w [] [blk b123 246 [Value.slice a588 l586.length c589, Value.slice a592 l590.length c593], gsl 62 (rawE 57) (Value.slice a588 l586.length c589) rs587, gsl 62 (rawE 57) (Value.slice a592 l590.length c593) rs591]) l590 rs591 ∧ K594 l586 l590 = some r ∧ St [] w w611 [blk b123 246 [Value.slice a588 l586.length c589, Value.slice a592 l590.length c593], gsl 62 (rawE 57) (Value.slice a588 l586.length c589) rs587, gsl 62 (rawE 57) (Value.slice a592 l590.length c593) rs591]) ?_ ?_
  · refine WC.block ?_
    refine WC.loop (T := Nat) (fun k600 σ598 w597 => ∃ i577 : Int, ∃ l578 : List Rw, ∃ l582 : List Rw, ∃ rs579, ∃ a580, ∃ c581, ∃ rs583, ∃ a584, ∃ c585, σ598 0 = (Value.pointer (some ⟨b0r0, 0, none⟩)) ∧ σ598 1 = (Value.int .i64 p1) ∧ σ598 8 = (Value.pointer (some ⟨b123, 0, none⟩)) ∧ σ598 29 = (Value.int .i64 q0.1) ∧ σ598 30 = (Value.int .i64 i577) ∧ elems momU w597 (In ok w [] [blk b123 246 [Value.slice a580 l578.length c581, Value.slice a584 l582.length c585], gsl 62 (rawE 57) (Value.slice a580 l578.length c581) rs579, gsl 62 (rawE 57) (Value.slice a584 l582.length c585) rs583]) a0r0 q0.2.2.2.2 ∧ At w597 (In ok w [] [blk b123 246 [Value.slice a580 l578.length c581, Value.slice a584 l582.length c585], gsl 62 (rawE 57) (Value.slice a580 l578.length c581) rs579, gsl 62 (rawE 57) (Value.slice a584 l582.length c585) rs583]) ⟨b0r0, 0, none⟩ [Value.int .i64 q0.1, Value.int .i64 q0.2.1, Value.int .i64 q0.2.2.1, Value.bool q0.2.2.2.1, Value.slice a0r0 q0.2.2.2.2.length c0r0a] ∧ readsL rowW w597 (In (fun _ => False) w [] [blk b123 246 [Value.slice a580 l578.length c581, Value.slice a584 l582.length c585], gsl 62 (rawE 57) (Value.slice a580 l578.length c581) rs579, gsl 62 (rawE 57) (Value.slice a584 l582.length c585) rs583]) l578 rs579 ∧ readsL rowW w597 (In (fun _ => False) w [] [blk b123 246 [Value.slice a580 l578.length c581, Value.slice a584 l582.length c585], gsl 62 (rawE 57) (Value.slice a580 l578.length c581) rs579, gsl 62 (rawE 57) (Value.slice a584 l582.length c585) rs583]) l582 rs583 ∧ side14_l1 q0 p1 K594 k600 i577 l578 l582 = some r ∧ St [] w w597 [blk b123 246 [Value.slice a580 l578.length c581, Value.slice a584 l582.length c585], gsl 62 (rawE 57) (Value.slice a580 l578.length c581) rs579, gsl 62 (rawE 57) (Value.slice a584 l582.length c585) rs583]) (fun k600 => k600) 1000000 ⟨0, y157, y134, rs165, a163, c164, rs142, a140, c141, rfl, rfl, rfl, rfl, rfl, hr607, hr608, hr609, hr610, h596, hs606⟩ ?_
    rintro k600 σ598 w597 ⟨i577, l578, l582, rs579, a580, c581, rs583, a584, c585, s617, s618, s619, s620, s621, he601, hat602, hr603, hr604, h616, hs599⟩
    rcases k600 with _ | k600
    · rw [side14_l1] at h616; cases h616
    rw [side14_l1] at h616
    refine WC.seq ?_
    refine WC.region ?_
    by_cases hc622 : i577 < q0.1
    · have h623 := ifT hc622 h616
      refine WL.val (R.lssT (k := .i64) (a := i577) (b := q0.1) un3 (by exact s621) (by exact s620) hc622) rfl ?_
      refine WL.nil ?_
      refine thenN ?_
      refine WC.seq ?_
      refine WC.condT rfl rfl ?_
      refine WC.skip ?_
      refine thenN ?_
      refine WC.seq ?_
      refine WC.block ?_
      refine WC.seq ?_
      refine WC.region ?_
      refine WL.val (R.move (v := Value.int .i64 i577) (by exact s621)) rfl ?_
      refine WL.val (R.assign (v := Value.int .i64 i577) rfl) rfl ?_
      refine WL.nil ?_
      refine thenN ?_
      refine WC.seq ?_
      refine WC.region ?_
      refine WL.val (R.move (v := Value.pointer (some ⟨b0r0, 0, none⟩)) (by exact s617)) rfl ?_
      refine WL.val (R.move (v := Value.int .i64 p1) (by exact s618)) rfl ?_
      refine WL.val (R.move (v := Value.int .i64 i577) rfl) rfl ?_
      obtain ⟨y624, hx625, h626⟩ := ob (o := dist14 q0 p1 i577) h623
      refine WL.call (dist14_ok _ _ q0 p1 i577  b0r0 _ _ hat602 hrl0_0 he601 hx625) (R.call (vs := [Value.pointer (some ⟨b0r0, 0, none⟩), Value.int .i64 p1, Value.int .i64 i577]) (caps := []) bo137 rfl rfl) rfl ?_
      rintro v629 w630 ⟨rfl, ht627⟩
      have ht628 := hs599.call (N := [blk b123 246 [Value.slice a580 l578.length c581, Value.slice a584 l582.length c585], gsl 62 (rawE 57) (Value.slice a580 l578.length c581) rs579, gsl 62 (rawE 57) (Value.slice a584 l582.length c585) rs583]) (M := []) (List.Perm.refl _) ht627
      have hs631 := hs599.trans ht628
      refine WL.nil ?_
      refine thenN ?_
      refine WC.block ?_
      refine WC.seq ?_
      refine WC.region ?_
      by_cases hc632 : y624 = 0
      · have h633 := ifT hc632 h626
        refine WL.val (R.eqlT (k := .i64) (a := y624) (b := 0) un3 rfl rfl hc632) rfl ?_
        refine WL.val (R.assign (v := Value.bool true) rfl) rfl ?_
        refine WL.nil ?_
        refine thenN ?_
        refine WC.condT rfl rfl ?_
        have ht634 := (hs631.here).perm (L' := [gsl 62 (rawE 57) (Value.slice a580 l578.length c581) rs579, blk b123 246 [Value.slice a580 l578.length c581, Value.slice a584 l582.length c585], gsl 62 (rawE 57) (Value.slice a584 l582.length c585) rs583]) (G := []) (permE (((List.perm_middle (l₁ := [blk b123 246 [Value.slice a580 l578.length c581, Value.slice a584 l582.length c585]]) (a := gsl 62 (rawE 57) (Value.slice a580 l578.length c581) rs579) (l₂ := [gsl 62 (rawE 57) (Value.slice a584 l582.length c585) rs583])).trans (List.Perm.cons _ (List.Perm.refl _)))))
        have hs635 := hs631.trans ht634
        refine WC.drawK (L := [gsl 62 (rawE 57) (Value.slice a580 l578.length c581) rs579]) mixed (NP.block (NP.block (NP.then (NP.then (NP.block (NP.join (NP.then NP.rq))))))) ?_
        have ht636 := (hs635.here).ext (Ext.drew _)
        have hs637 := hs635.trans ht636
        refine WK.take 0 rfl (by decide +kernel) (by decide +kernel) (by decide +kernel) (by decide +kernel) rfl rfl (fun wq hq => R.fieldAddr (o := 0) (o' := 0) fa246_0 (by exact s619) rfl) ?_
        refine WK.take 1 rfl (by decide +kernel) (by decide +kernel) (by decide +kernel) (by decide +kernel) rfl rfl (fun wq hq => R.loadL (v := Value.slice a580 l578.length c581) lf22 rfl ((hs637.holeK hq).at (i := 1) (off := 0) (n := 1) (cs := [Value.slice a580 l578.length c581]) rfl rfl rfl)) ?_
        refine WK.take 2 rfl (by decide +kernel) (by decide +kernel) (by decide +kernel) (by decide +kernel) rfl rfl (fun wq hq => R.move (v := Value.int .i64 i577) rfl) ?_
        refine WK.take 3 rfl (by decide +kernel) (by decide +kernel) (by decide +kernel) (by decide +kernel) rfl rfl (fun wq hq => R.fieldAddr (o := 0) (o' := 1) fa246_1 (by exact s619) rfl) ?_
        refine WK.take 4 rfl (by decide +kernel) (by decide +kernel) (by decide +kernel) (by decide +kernel) rfl rfl (fun wq hq => R.loadL (v := Value.slice a584 l582.length c585) lf22 rfl ((hs637.holeK hq).at (i := 1) (off := 1) (n := 1) (cs := [Value.slice a584 l582.length c585]) rfl rfl rfl)) ?_
        refine WK.take 5 rfl (by decide +kernel) (by decide +kernel) (by decide +kernel) (by decide +kernel) rfl rfl (fun wq hq => R.move (v := Value.int .i64 i577) rfl) ?_
        have hd638 : ∀ w, (Instr.build 62 #[]).run Try.prog w = .ok (Value.agg (List.toArray (encR Rw.none (Value.slice none 0 0)))) w := fun _ => by kernel_rfl
        refine WK.take 6 rfl (by decide +kernel) (by decide +kernel) (by decide +kernel) (by decide +kernel) rfl rfl (fun wq hq => R.build (vs := []) rfl hd638) ?_
        have hd639 : ∀ w, (Instr.build 62 #[]).run Try.prog w = .ok (Value.agg (List.toArray (encR Rw.none (Value.slice none 0 0)))) w := fun _ => by kernel_rfl
        refine WK.take 7 rfl (by decide +kernel) (by decide +kernel) (by decide +kernel) (by decide +kernel) rfl rfl (fun wq hq => R.build (vs := []) rfl hd639) ?_
        obtain ⟨x640, hx641, h642⟩ := ob (o := rd l578 i577) h633
        obtain ⟨h0643, hx644, hl645, hm646⟩ := rdE hx641
        have hr655 := rlT ((ht628.trans ht634).trans ht636) hr603
        obtain ⟨⟨cs653, hp654⟩, hr651, hk652⟩ := readsL_at hr655 hx644
        obtain ⟨t656, rfl, a658, c659, he662, hl660, he661⟩ := hk652
        cases he662
        obtain ⟨b647, c648, hv649, _⟩ := hs637.gslAt (i := 0) rfl hr651
        refine WK.take 8 rfl (by decide +kernel) (by decide +kernel) (by decide +kernel) (by decide +kernel) rfl rfl (fun wq hq => R.indexS (n := 57) (m := (i577).toNat) (ad := ⟨b647, 0, none⟩) (len := (rs579).length) (cap := c648) (z := i577) un22 ag62.size (Eq.trans (show _ = Value.slice a580 l578.length c581 from rfl) hv649) rfl rfl hm646 ((hr655).1 ▸ hl645) rfl) ?_
        obtain ⟨r664, hr665, hr666⟩ := readsL_set (j := (i577).toNat) hr655 (cs := (encR Rw.none (Value.slice none 0 0))) ⟨_, rfl, ⟨_, _, rfl, Nat.le_refl _, elems_nil⟩⟩ rfl
        refine WK.sto (L' := [gsl 62 (rawE 57) (Value.slice a580 l578.length c581) ((rs579).set (i577).toNat r664)]) 9 (by decide +kernel) rfl rfl rfl rfl (X.storeEl (i := 0) (j := (i577).toNat) (off := 0) (n := 57) (x := _) (y := r664) (vs := encR Rw.none (Value.slice none 0 0)) (u := Value.agg (List.toArray (encR Rw.none (Value.slice none 0 0)))) (show St [gsl 62 (rawE 57) (Value.slice a580 l578.length c581) rs579] _ _ [gsl 62 (rawE 57) (Value.slice a580 l578.length c581) rs579] from St.ofM (M := [gsl 62 (rawE 57) (Value.slice a580 l578.length c581) rs579]) (N := [blk b123 246 [Value.slice a580 l578.length c581, Value.slice a584 l582.length c585], gsl 62 (rawE 57) (Value.slice a584 l582.length c585) rs583]) hs637 (List.Perm.refl _)) rfl hr651 hv649 ag62.size rfl rfl rfl rfl rfl rfl (by decide) ((show splice _ _ _ = r664.1 from by rw [hr665]; rfl)) rfl) ?_
        intro w668 ht669
        have ht670 : St [gsl 62 (rawE 57) (Value.slice a580 l578.length c581) rs579, blk b123 246 [Value.slice a580 l578.length c581, Value.slice a584 l582.length c585], gsl 62 (rawE 57) (Value.slice a584 l582.length c585) rs583] ((w630).drew) w668 [gsl 62 (rawE 57) (Value.slice a580 l578.length c581) ((rs579).set (i577).toNat r664), blk b123 246 [Value.slice a580 l578.length c581, Value.slice a584 l582.length c585], gsl 62 (rawE 57) (Value.slice a584 l582.length c585) rs583] := (hs637.here).call (M := [gsl 62 (rawE 57) (Value.slice a580 l578.length c581) rs579]) (N := [blk b123 246 [Value.slice a580 l578.length c581, Value.slice a584 l582.length c585], gsl 62 (rawE 57) (Value.slice a584 l582.length c585) rs583]) (List.Perm.refl _) ht669
        have hs671 := hs637.trans ht670
        have hs672 : St [] w w668 [gsl 62 (rawE 57) (Value.slice a580 (((l578).set (i577).toNat Rw.none).length) c581) ((rs579).set (i577).toNat r664), blk b123 246 [Value.slice a580 (((l578).set (i577).toNat Rw.none).length) c581, Value.slice a584 l582.length c585], gsl 62 (rawE 57) (Value.slice a584 l582.length c585) rs583] := by first | (simpa only [List.length_set] using hs671) | (simp only [List.length_set]; exact hs671)
        have ht673 : St [gsl 62 (rawE 57) (Value.slice a580 l578.length c581) rs579, blk b123 246 [Value.slice a580 l578.length c581, Value.slice a584 l582.length c585], gsl 62 (rawE 57) (Value.slice a584 l582.length c585) rs583] ((w630).drew) w668 [gsl 62 (rawE 57) (Value.slice a580 (((l578).set (i577).toNat Rw.none).length) c581) ((rs579).set (i577).toNat r664), blk b123 246 [Value.slice a580 (((l578).set (i577).toNat Rw.none).length) c581, Value.slice a584 l582.length c585], gsl 62 (rawE 57) (Value.slice a584 l582.length c585) rs583] := by first | (simpa only [List.length_set, List.nil_append, List.cons_append] using ht670) | (simp only [List.length_set]; exact ht670)
        obtain ⟨x674, hx675, h676⟩ := ob (o := rd l582 i577) h642
        obtain ⟨h0677, hx678, hl679, hm680⟩ := rdE hx675
        have hr689 := rlT (((ht628.trans ht634).trans ht636).trans ht673) hr604
        obtain ⟨⟨cs687, hp688⟩, hr685, hk686⟩ := readsL_at hr689 hx678
        obtain ⟨t690, rfl, a692, c693, he696, hl694, he695⟩ := hk686
        cases he696
        obtain ⟨b681, c682, hv683, _⟩ := hs672.gslAt (i := 2) rfl hr685
        refine WK.take 10 rfl (by decide +kernel) (by decide +kernel) (by decide +kernel) (by decide +kernel) rfl rfl (fun wq hq => R.indexS (n := 57) (m := (i577).toNat) (ad := ⟨b681, 0, none⟩) (len := (rs583).length) (cap := c682) (z := i577) un22 ag62.size (Eq.trans (show _ = Value.slice a584 l582.length c585 from rfl) hv683) rfl rfl hm680 ((hr689).1 ▸ hl679) rfl) ?_
        obtain ⟨r698, hr699, hr700⟩ := readsL_set (j := (i577).toNat) hr689 (cs := (encR Rw.none (Value.slice none 0 0))) ⟨_, rfl, ⟨_, _, rfl, Nat.le_refl _, elems_nil⟩⟩ rfl
        refine WK.stoN (L' := [gsl 62 (rawE 57) (Value.slice a580 (((l578).set (i577).toNat Rw.none).length) c581) ((rs579).set (i577).toNat r664), blk b123 246 [Value.slice a580 (((l578).set (i577).toNat Rw.none).length) c581, Value.slice a584 l582.length c585], gsl 62 (rawE 57) (Value.slice a584 l582.length c585) ((rs583).set (i577).toNat r698)]) 11 (by decide +kernel) (by decide +kernel) rfl rfl rfl rfl (X.storeEl (i := 2) (j := (i577).toNat) (off := 0) (n := 57) (x := _) (y := r698) (vs := encR Rw.none (Value.slice none 0 0)) (u := Value.agg (List.toArray (encR Rw.none (Value.slice none 0 0)))) (hs672.here) rfl hr685 hv683 ag62.size rfl rfl rfl rfl rfl rfl (by decide) ((show splice _ _ _ = r698.1 from by rw [hr699]; rfl)) rfl) ?_
        intro w702 ht703
        have hs704 := hs672.trans ht703
        have hs705 : St [] w w702 [gsl 62 (rawE 57) (Value.slice a580 (((l578).set (i577).toNat Rw.none).length) c581) ((rs579).set (i577).toNat r664), blk b123 246 [Value.slice a580 (((l578).set (i577).toNat Rw.none).length) c581, Value.slice a584 (((l582).set (i577).toNat Rw.none).length) c585], gsl 62 (rawE 57) (Value.slice a584 (((l582).set (i577).toNat Rw.none).length) c585) ((rs583).set (i577).toNat r698)] := by first | (simpa only [List.length_set] using hs704) | (simp only [List.length_set]; exact hs704)
        have ht706 : St [gsl 62 (rawE 57) (Value.slice a580 (((l578).set (i577).toNat Rw.none).length) c581) ((rs579).set (i577).toNat r664), blk b123 246 [Value.slice a580 (((l578).set (i577).toNat Rw.none).length) c581, Value.slice a584 l582.length c585], gsl 62 (rawE 57) (Value.slice a584 l582.length c585) rs583] w668 w702 [gsl 62 (rawE 57) (Value.slice a580 (((l578).set (i577).toNat Rw.none).length) c581) ((rs579).set (i577).toNat r664), blk b123 246 [Value.slice a580 (((l578).set (i577).toNat Rw.none).length) c581, Value.slice a584 (((l582).set (i577).toNat Rw.none).length) c585], gsl 62 (rawE 57) (Value.slice a584 (((l582).set (i577).toNat Rw.none).length) c585) ((rs583).set (i577).toNat r698)] := by first | (simpa only [List.length_set, List.nil_append, List.cons_append] using ht703) | (simp only [List.length_set]; exact ht703)
        refine WK.done (by decide +kernel) ?_
        refine blockN ?_
        refine blockN ?_
        refine thenN ?_
        refine WC.region ?_
        obtain ⟨hg707, h708⟩ := ckE (c := -9223372036854775808 ≤ i577 + 1 ∧ i577 + 1 ≤ 9223372036854775807) h676
        refine WL.val (R.add (a := i577) (b := 1) (z := i577 + 1) (by exact s621) rfl (w64e rfl hg707.1 hg707.2)) rfl ?_
        refine WL.val (R.move (v := Value.int .i64 (i577 + 1)) rfl) rfl ?_
        refine WL.nil ?_
        have ht709 := (hs705.here).perm (L' := [blk b123 246 [Value.slice a580 (((l578).set (i577).toNat Rw.none).length) c581, Value.slice a584 (((l582).set (i577).toNat Rw.none).length) c585], gsl 62 (rawE 57) (Value.slice a580 (((l578).set (i577).toNat Rw.none).length) c581) ((rs579).set (i577).toNat r664), gsl 62 (rawE 57) (Value.slice a584 (((l582).set (i577).toNat Rw.none).length) c585) ((rs583).set (i577).toNat r698)]) (G := []) (((List.perm_middle (l₁ := [gsl 62 (rawE 57) (Value.slice a580 (((l578).set (i577).toNat Rw.none).length) c581) ((rs579).set (i577).toNat r664)]) (a := blk b123 246 [Value.slice a580 (((l578).set (i577).toNat Rw.none).length) c581, Value.slice a584 (((l582).set (i577).toNat Rw.none).length) c585]) (l₂ := [gsl 62 (rawE 57) (Value.slice a584 (((l582).set (i577).toNat Rw.none).length) c585) ((rs583).set (i577).toNat r698)])).trans (List.Perm.cons _ (List.Perm.refl _))))
        have hs710 := hs705.trans ht709
        have hr711 := elT (((((ht628.trans ht634).trans ht636).trans ht673).trans ht706).trans ht709) he601
        have hr712 := At.trT (((((ht628.trans ht634).trans ht636).trans ht673).trans ht706).trans ht709) hat602
        have hr713 := rlT ((ht673.trans ht706).trans ht709) hr666
        have hr714 := rlT (ht706.trans ht709) hr700
        exact roundEnd (s := k600) ⟨i577 + 1, (l578).set (i577).toNat Rw.none, (l582).set (i577).toNat Rw.none, (rs579).set (i577).toNat r664, a580, c581, (rs583).set (i577).toNat r698, a584, c585, s617, s618, s619, s620, rfl, hr711, hr712, hr713, hr714, h708, hs710⟩ (Nat.lt_succ_self _)
      · have h715 := ifF hc632 h626
        refine WL.val (R.eqlF (k := .i64) (a := y624) (b := 0) un3 rfl rfl hc632) rfl ?_
        refine WL.val (R.assign (v := Value.bool false) rfl) rfl ?_
        refine WL.nil ?_
        refine thenN ?_
        refine WC.condF rfl rfl ?_
        refine WC.seq ?_
        refine WC.region ?_
        by_cases hc716 : y624 = 1
        · have h717 := ifT hc716 h715
          refine WL.val (R.eqlT (k := .i64) (a := y624) (b := 1) un3 rfl rfl hc716) rfl ?_
          refine WL.val (R.assign (v := Value.bool true) rfl) rfl ?_
          refine WL.nil ?_
          refine thenN ?_
          refine WC.condT rfl rfl ?_
          have ht718 := (hs631.here).perm (L' := [gsl 62 (rawE 57) (Value.slice a580 l578.length c581) rs579, blk b123 246 [Value.slice a580 l578.length c581, Value.slice a584 l582.length c585], gsl 62 (rawE 57) (Value.slice a584 l582.length c585) rs583]) (G := []) (permE (((List.perm_middle (l₁ := [blk b123 246 [Value.slice a580 l578.length c581, Value.slice a584 l582.length c585]]) (a := gsl 62 (rawE 57) (Value.slice a580 l578.length c581) rs579) (l₂ := [gsl 62 (rawE 57) (Value.slice a584 l582.length c585) rs583])).trans (List.Perm.cons _ (List.Perm.refl _)))))
          have hs719 := hs631.trans ht718
          refine WC.drawK (L := [gsl 62 (rawE 57) (Value.slice a580 l578.length c581) rs579]) mixed (NP.block (NP.block (NP.then (NP.then (NP.block (NP.join (NP.then NP.rq))))))) ?_
          have ht720 := (hs719.here).ext (Ext.drew _)
          have hs721 := hs719.trans ht720
          refine WK.take 0 rfl (by decide +kernel) (by decide +kernel) (by decide +kernel) (by decide +kernel) rfl rfl (fun wq hq => R.fieldAddr (o := 0) (o' := 0) fa246_0 (by exact s619) rfl) ?_
          refine WK.take 1 rfl (by decide +kernel) (by decide +kernel) (by decide +kernel) (by decide +kernel) rfl rfl (fun wq hq => R.loadL (v := Value.slice a580 l578.length c581) lf22 rfl ((hs721.holeK hq).at (i := 1) (off := 0) (n := 1) (cs := [Value.slice a580 l578.length c581]) rfl rfl rfl)) ?_
          refine WK.take 2 rfl (by decide +kernel) (by decide +kernel) (by decide +kernel) (by decide +kernel) rfl rfl (fun wq hq => R.move (v := Value.int .i64 i577) rfl) ?_
          refine WK.take 3 rfl (by decide +kernel) (by decide +kernel) (by decide +kernel) (by decide +kernel) rfl rfl (fun wq hq => R.fieldAddr (o := 0) (o' := 1) fa246_1 (by exact s619) rfl) ?_
          refine WK.take 4 rfl (by decide +kernel) (by decide +kernel) (by decide +kernel) (by decide +kernel) rfl rfl (fun wq hq => R.loadL (v := Value.slice a584 l582.length c585) lf22 rfl ((hs721.holeK hq).at (i := 1) (off := 1) (n := 1) (cs := [Value.slice a584 l582.length c585]) rfl rfl rfl)) ?_
          refine WK.take 5 rfl (by decide +kernel) (by decide +kernel) (by decide +kernel) (by decide +kernel) rfl rfl (fun wq hq => R.move (v := Value.int .i64 i577) rfl) ?_
          refine WK.take 6 rfl (by decide +kernel) (by decide +kernel) (by decide +kernel) (by decide +kernel) rfl rfl (fun wq hq => R.fieldAddr (o := 0) (o' := 1) fa246_1 (by exact s619) rfl) ?_
          refine WK.take 7 rfl (by decide +kernel) (by decide +kernel) (by decide +kernel) (by decide +kernel) rfl rfl (fun wq hq => R.loadL (v := Value.slice a584 l582.length c585) lf22 rfl ((hs721.holeK hq).at (i := 1) (off := 1) (n := 1) (cs := [Value.slice a584 l582.length c585]) rfl rfl rfl)) ?_
          refine WK.take 8 rfl (by decide +kernel) (by decide +kernel) (by decide +kernel) (by decide +kernel) rfl rfl (fun wq hq => R.move (v := Value.int .i64 i577) rfl) ?_
          obtain ⟨x722, hx723, h724⟩ := ob (o := rd l582 i577) h717
          obtain ⟨h0725, hx726, hl727, hm728⟩ := rdE hx723
          have hr737 := rlT ((ht628.trans ht718).trans ht720) hr604
          obtain ⟨⟨cs735, hp736⟩, hr733, hk734⟩ := readsL_at hr737 hx726
          obtain ⟨t738, rfl, a740, c741, he744, hl742, he743⟩ := hk734
          cases he744
          obtain ⟨b729, c730, hv731, _⟩ := hs721.gslAt (i := 2) rfl hr733
          refine WK.take 9 rfl (by decide +kernel) (by decide +kernel) (by decide +kernel) (by decide +kernel) rfl rfl (fun wq hq => R.indexS (n := 57) (m := (i577).toNat) (ad := ⟨b729, 0, none⟩) (len := (rs583).length) (cap := c730) (z := i577) un22 ag62.size (Eq.trans (show _ = Value.slice a584 l582.length c585 from rfl) hv731) rfl rfl hm728 ((hr737).1 ▸ hl727) rfl) ?_
          refine WK.take 10 rfl (by decide +kernel) (by decide +kernel) (by decide +kernel) (by decide +kernel) rfl rfl (fun wq hq => R.loadA (cs := encR x722 (Value.slice a740 x722.table.length c741)) (n := 57) ag62 rfl ((hs721.holeK hq).gslAtV (i := 2) rfl hr733 hv731) rfl) ?_
          have hd746 : ∀ w, (Instr.build 62 #[]).run Try.prog w = .ok (Value.agg (List.toArray (encR Rw.none (Value.slice none 0 0)))) w := fun _ => by kernel_rfl
          refine WK.take 11 rfl (by decide +kernel) (by decide +kernel) (by decide +kernel) (by decide +kernel) rfl rfl (fun wq hq => R.build (vs := []) rfl hd746) ?_
          obtain ⟨x747, hx748, h749⟩ := ob (o := rd l578 i577) h724
          obtain ⟨h0750, hx751, hl752, hm753⟩ := rdE hx748
          have hr762 := rlT ((ht628.trans ht718).trans ht720) hr603
          obtain ⟨⟨cs760, hp761⟩, hr758, hk759⟩ := readsL_at hr762 hx751
          obtain ⟨t763, rfl, a765, c766, he769, hl767, he768⟩ := hk759
          cases he769
          obtain ⟨b754, c755, hv756, _⟩ := hs721.gslAt (i := 0) rfl hr758
          refine WK.take 12 rfl (by decide +kernel) (by decide +kernel) (by decide +kernel) (by decide +kernel) rfl rfl (fun wq hq => R.indexS (n := 57) (m := (i577).toNat) (ad := ⟨b754, 0, none⟩) (len := (rs579).length) (cap := c755) (z := i577) un22 ag62.size (Eq.trans (show _ = Value.slice a580 l578.length c581 from rfl) hv756) rfl rfl hm753 ((hr762).1 ▸ hl752) rfl) ?_
          obtain ⟨r771, hr772, hr773⟩ := readsL_set (j := (i577).toNat) hr762 (cs := (encR x722 (Value.slice a740 x722.table.length c741))) ⟨_, rfl, ⟨_, _, rfl, hl742, he743⟩⟩ rfl
          refine WK.sto (L' := [gsl 62 (rawE 57) (Value.slice a580 l578.length c581) ((rs579).set (i577).toNat r771)]) 13 (by decide +kernel) rfl rfl rfl rfl (X.storeEl (i := 0) (j := (i577).toNat) (off := 0) (n := 57) (x := _) (y := r771) (vs := encR x722 (Value.slice a740 x722.table.length c741)) (u := Value.agg (List.toArray (encR x722 (Value.slice a740 x722.table.length c741)))) (show St [gsl 62 (rawE 57) (Value.slice a580 l578.length c581) rs579] _ _ [gsl 62 (rawE 57) (Value.slice a580 l578.length c581) rs579] from St.ofM (M := [gsl 62 (rawE 57) (Value.slice a580 l578.length c581) rs579]) (N := [blk b123 246 [Value.slice a580 l578.length c581, Value.slice a584 l582.length c585], gsl 62 (rawE 57) (Value.slice a584 l582.length c585) rs583]) hs721 (List.Perm.refl _)) rfl hr758 hv756 ag62.size rfl rfl rfl rfl rfl rfl (by decide) ((show splice _ _ _ = r771.1 from by rw [hr772]; rfl)) rfl) ?_
          intro w775 ht776
          have ht777 : St [gsl 62 (rawE 57) (Value.slice a580 l578.length c581) rs579, blk b123 246 [Value.slice a580 l578.length c581, Value.slice a584 l582.length c585], gsl 62 (rawE 57) (Value.slice a584 l582.length c585) rs583] ((w630).drew) w775 [gsl 62 (rawE 57) (Value.slice a580 l578.length c581) ((rs579).set (i577).toNat r771), blk b123 246 [Value.slice a580 l578.length c581, Value.slice a584 l582.length c585], gsl 62 (rawE 57) (Value.slice a584 l582.length c585) rs583] := (hs721.here).call (M := [gsl 62 (rawE 57) (Value.slice a580 l578.length c581) rs579]) (N := [blk b123 246 [Value.slice a580 l578.length c581, Value.slice a584 l582.length c585], gsl 62 (rawE 57) (Value.slice a584 l582.length c585) rs583]) (List.Perm.refl _) ht776
          have hs778 := hs721.trans ht777
          have hs779 : St [] w w775 [gsl 62 (rawE 57) (Value.slice a580 (((l578).set (i577).toNat x722).length) c581) ((rs579).set (i577).toNat r771), blk b123 246 [Value.slice a580 (((l578).set (i577).toNat x722).length) c581, Value.slice a584 l582.length c585], gsl 62 (rawE 57) (Value.slice a584 l582.length c585) rs583] := by first | (simpa only [List.length_set] using hs778) | (simp only [List.length_set]; exact hs778)
          have ht780 : St [gsl 62 (rawE 57) (Value.slice a580 l578.length c581) rs579, blk b123 246 [Value.slice a580 l578.length c581, Value.slice a584 l582.length c585], gsl 62 (rawE 57) (Value.slice a584 l582.length c585) rs583] ((w630).drew) w775 [gsl 62 (rawE 57) (Value.slice a580 (((l578).set (i577).toNat x722).length) c581) ((rs579).set (i577).toNat r771), blk b123 246 [Value.slice a580 (((l578).set (i577).toNat x722).length) c581, Value.slice a584 l582.length c585], gsl 62 (rawE 57) (Value.slice a584 l582.length c585) rs583] := by first | (simpa only [List.length_set, List.nil_append, List.cons_append] using ht777) | (simp only [List.length_set]; exact ht777)
          obtain ⟨x781, hx782, h783⟩ := ob (o := rd l582 i577) h749
          obtain ⟨h0784, hx785, hl786, hm787⟩ := rdE hx782
          have hr796 := rlT ht780 hr737
          obtain ⟨⟨cs794, hp795⟩, hr792, hk793⟩ := readsL_at hr796 hx785
          obtain ⟨t797, rfl, a799, c800, he803, hl801, he802⟩ := hk793
          cases he803
          obtain ⟨b788, c789, hv790, _⟩ := hs779.gslAt (i := 2) rfl hr792
          refine WK.take 14 rfl (by decide +kernel) (by decide +kernel) (by decide +kernel) (by decide +kernel) rfl rfl (fun wq hq => R.indexS (n := 57) (m := (i577).toNat) (ad := ⟨b788, 0, none⟩) (len := (rs583).length) (cap := c789) (z := i577) un22 ag62.size (Eq.trans (show _ = Value.slice a584 l582.length c585 from rfl) hv790) rfl rfl hm787 ((hr796).1 ▸ hl786) rfl) ?_
          obtain ⟨r805, hr806, hr807⟩ := readsL_set (j := (i577).toNat) hr796 (cs := (encR Rw.none (Value.slice none 0 0))) ⟨_, rfl, ⟨_, _, rfl, Nat.le_refl _, elems_nil⟩⟩ rfl
          refine WK.stoN (L' := [gsl 62 (rawE 57) (Value.slice a580 (((l578).set (i577).toNat x722).length) c581) ((rs579).set (i577).toNat r771), blk b123 246 [Value.slice a580 (((l578).set (i577).toNat x722).length) c581, Value.slice a584 l582.length c585], gsl 62 (rawE 57) (Value.slice a584 l582.length c585) ((rs583).set (i577).toNat r805)]) 15 (by decide +kernel) (by decide +kernel) rfl rfl rfl rfl (X.storeEl (i := 2) (j := (i577).toNat) (off := 0) (n := 57) (x := _) (y := r805) (vs := encR Rw.none (Value.slice none 0 0)) (u := Value.agg (List.toArray (encR Rw.none (Value.slice none 0 0)))) (hs779.here) rfl hr792 hv790 ag62.size rfl rfl rfl rfl rfl rfl (by decide) ((show splice _ _ _ = r805.1 from by rw [hr806]; rfl)) rfl) ?_
          intro w809 ht810
          have hs811 := hs779.trans ht810
          have hs812 : St [] w w809 [gsl 62 (rawE 57) (Value.slice a580 (((l578).set (i577).toNat x722).length) c581) ((rs579).set (i577).toNat r771), blk b123 246 [Value.slice a580 (((l578).set (i577).toNat x722).length) c581, Value.slice a584 (((l582).set (i577).toNat Rw.none).length) c585], gsl 62 (rawE 57) (Value.slice a584 (((l582).set (i577).toNat Rw.none).length) c585) ((rs583).set (i577).toNat r805)] := by first | (simpa only [List.length_set] using hs811) | (simp only [List.length_set]; exact hs811)
          have ht813 : St [gsl 62 (rawE 57) (Value.slice a580 (((l578).set (i577).toNat x722).length) c581) ((rs579).set (i577).toNat r771), blk b123 246 [Value.slice a580 (((l578).set (i577).toNat x722).length) c581, Value.slice a584 l582.length c585], gsl 62 (rawE 57) (Value.slice a584 l582.length c585) rs583] w775 w809 [gsl 62 (rawE 57) (Value.slice a580 (((l578).set (i577).toNat x722).length) c581) ((rs579).set (i577).toNat r771), blk b123 246 [Value.slice a580 (((l578).set (i577).toNat x722).length) c581, Value.slice a584 (((l582).set (i577).toNat Rw.none).length) c585], gsl 62 (rawE 57) (Value.slice a584 (((l582).set (i577).toNat Rw.none).length) c585) ((rs583).set (i577).toNat r805)] := by first | (simpa only [List.length_set, List.nil_append, List.cons_append] using ht810) | (simp only [List.length_set]; exact ht810)
          refine WK.done (by decide +kernel) ?_
          refine blockN ?_
          refine blockN ?_
          refine thenN ?_
          refine WC.region ?_
          obtain ⟨hg814, h815⟩ := ckE (c := -9223372036854775808 ≤ i577 + 1 ∧ i577 + 1 ≤ 9223372036854775807) h783
          refine WL.val (R.add (a := i577) (b := 1) (z := i577 + 1) (by exact s621) rfl (w64e rfl hg814.1 hg814.2)) rfl ?_
          refine WL.val (R.move (v := Value.int .i64 (i577 + 1)) rfl) rfl ?_
          refine WL.nil ?_
          have ht816 := (hs812.here).perm (L' := [blk b123 246 [Value.slice a580 (((l578).set (i577).toNat x722).length) c581, Value.slice a584 (((l582).set (i577).toNat Rw.none).length) c585], gsl 62 (rawE 57) (Value.slice a580 (((l578).set (i577).toNat x722).length) c581) ((rs579).set (i577).toNat r771), gsl 62 (rawE 57) (Value.slice a584 (((l582).set (i577).toNat Rw.none).length) c585) ((rs583).set (i577).toNat r805)]) (G := []) (((List.perm_middle (l₁ := [gsl 62 (rawE 57) (Value.slice a580 (((l578).set (i577).toNat x722).length) c581) ((rs579).set (i577).toNat r771)]) (a := blk b123 246 [Value.slice a580 (((l578).set (i577).toNat x722).length) c581, Value.slice a584 (((l582).set (i577).toNat Rw.none).length) c585]) (l₂ := [gsl 62 (rawE 57) (Value.slice a584 (((l582).set (i577).toNat Rw.none).length) c585) ((rs583).set (i577).toNat r805)])).trans (List.Perm.cons _ (List.Perm.refl _))))
          have hs817 := hs812.trans ht816
          have hr818 := elT (((((ht628.trans ht718).trans ht720).trans ht780).trans ht813).trans ht816) he601
          have hr819 := At.trT (((((ht628.trans ht718).trans ht720).trans ht780).trans ht813).trans ht816) hat602
          have hr820 := rlT ((ht780.trans ht813).trans ht816) hr773
          have hr821 := rlT (ht813.trans ht816) hr807
          exact roundEnd (s := k600) ⟨i577 + 1, (l578).set (i577).toNat x722, (l582).set (i577).toNat Rw.none, (rs579).set (i577).toNat r771, a580, c581, (rs583).set (i577).toNat r805, a584, c585, s617, s618, s619, s620, rfl, hr818, hr819, hr820, hr821, h815, hs817⟩ (Nat.lt_succ_self _)
        · have h822 := ifF hc716 h715
          refine WL.val (R.eqlF (k := .i64) (a := y624) (b := 1) un3 rfl rfl hc716) rfl ?_
          refine WL.val (R.assign (v := Value.bool false) rfl) rfl ?_
          refine WL.nil ?_
          refine thenN ?_
          refine WC.condF rfl rfl ?_
          refine WC.skip ?_
          refine blockN ?_
          refine blockN ?_
          refine thenN ?_
          refine WC.region ?_
          obtain ⟨hg823, h824⟩ := ckE (c := -9223372036854775808 ≤ i577 + 1 ∧ i577 + 1 ≤ 9223372036854775807) h822
          refine WL.val (R.add (a := i577) (b := 1) (z := i577 + 1) (by exact s621) rfl (w64e rfl hg823.1 hg823.2)) rfl ?_
          refine WL.val (R.move (v := Value.int .i64 (i577 + 1)) rfl) rfl ?_
          refine WL.nil ?_
          have hr825 := elT ht628 he601
          have hr826 := At.trT ht628 hat602
          have hr827 := rlT ht628 hr603
          have hr828 := rlT ht628 hr604
          exact roundEnd (s := k600) ⟨i577 + 1, l578, l582, rs579, a580, c581, rs583, a584, c585, s617, s618, s619, s620, rfl, hr825, hr826, hr827, hr828, h824, hs631⟩ (Nat.lt_succ_self _)
    · have h829 := ifF hc622 h616
      refine WL.val (R.lssF (k := .i64) (a := i577) (b := q0.1) un3 (by exact s621) (by exact s620) hc622) rfl ?_
      refine WL.nil ?_
      refine thenN ?_
      refine WC.seq ?_
      refine WC.condF rfl rfl ?_
      refine WC.exit ?_
      refine thenE ?_
      refine thenE ?_
      refine blockHit ?_
      exact joinI ⟨l578, l582, rs579, a580, c581, rs583, a584, c585, s619, hr603, hr604, h829, hs599⟩
  · rintro σ612 w611 ⟨l586, l590, rs587, a588, c589, rs591, a592, c593, s831, hr614, hr615, h830, hs613⟩
    subst hK595
    refine thenN ?_
    refine WC.seq ?_
    refine WC.region ?_
    refine WL.val (R.loadA (cs := [Value.slice a588 l586.length c589, Value.slice a592 l590.length c593]) (n := 2) ag246 (by exact s831) (hs613.at (i := 0) (off := 0) (n := 2) (cs := [Value.slice a588 l586.length c589, Value.slice a592 l590.length c593]) rfl rfl rfl) rfl) rfl ?_
    refine WL.sto (L' := [blk b123 246 [Value.slice a588 l586.length c589, Value.slice a592 l590.length c593], gsl 62 (rawE 57) (Value.slice a588 l586.length c589) rs587, gsl 62 (rawE 57) (Value.slice a592 l590.length c593) rs591]) (X.store (i := 0) (n := 2) (b := b123) (off := 0) (c := [Value.slice a588 l586.length c589, Value.slice a592 l590.length c593]) (U := 246) (vs := [Value.slice a588 l586.length c589, Value.slice a592 l590.length c593]) (v := Value.agg (List.toArray [Value.slice a588 l586.length c589, Value.slice a592 l590.length c593])) (c' := [Value.slice a588 l586.length c589, Value.slice a592 l590.length c593]) (hs613.here) rfl ag246.size (by exact s831) rfl rfl rfl rfl rfl rfl rfl) rfl rfl ?_
    intro w832 ht833
    have hs834 := hs613.trans ht833
    refine WL.nil ?_
    refine thenN ?_
    refine WC.ret ?_
    have hl835 := run_loadA (P := Try.prog) (n := 2) ag246 (hs834.at (i := 0) (off := 0) (n := 2) (cs := [Value.slice a588 l586.length c589, Value.slice a592 l590.length c593]) rfl rfl rfl) rfl
    have ht836 := (hs834.here).perm (L' := [gsl 62 (rawE 57) (Value.slice a588 l586.length c589) rs587, gsl 62 (rawE 57) (Value.slice a592 l590.length c593) rs591]) (G := [blk b123 246 [Value.slice a588 l586.length c589, Value.slice a592 l590.length c593]]) (((List.perm_middle (l₁ := [blk b123 246 [Value.slice a588 l586.length c589, Value.slice a592 l590.length c593]]) (a := gsl 62 (rawE 57) (Value.slice a588 l586.length c589) rs587) (l₂ := [gsl 62 (rawE 57) (Value.slice a592 l590.length c593) rs591])).trans (List.Perm.cons _ ((List.perm_middle (l₁ := [blk b123 246 [Value.slice a588 l586.length c589, Value.slice a592 l590.length c593]]) (a := gsl 62 (rawE 57) (Value.slice a592 l590.length c593) rs591) (l₂ := [])).trans (List.Perm.cons _ (List.Perm.refl _))))))
    have hs837 := hs834.trans ht836
    have hr838 := rlT (ht833.trans ht836) hr614
    have hr839 := rlT (ht833.trans ht836) hr615
    obtain rfl := Option.some.inj (show some (l586, l590) = some r from h830)
    exact retCell (P := Try.prog) (n := 67) (fn := Try.f122) (R := fun v w' => ∃ ra0, ∃ rc0, ∃ ra1, ∃ rc1, ∃ rrs0, ∃ rrs1, v = Value.agg (List.toArray [Value.slice ra0 (l586, l590).1.length rc0, Value.slice ra1 (l586, l590).2.length rc1]) ∧ readsL rowW w' (In (fun _ => False) w [] [gsl 62 (rawE 57) (Value.slice ra0 (l586, l590).1.length rc0) rrs0, gsl 62 (rawE 57) (Value.slice ra1 (l586, l590).2.length rc1) rrs1]) (l586, l590).1 rrs0 ∧ readsL rowW w' (In (fun _ => False) w [] [gsl 62 (rawE 57) (Value.slice ra0 (l586, l590).1.length rc0) rrs0, gsl 62 (rawE 57) (Value.slice ra1 (l586, l590).2.length rc1) rrs1]) (l586, l590).2 rrs1 ∧ St [] w w' [gsl 62 (rawE 57) (Value.slice ra0 (l586, l590).1.length rc0) rrs0, gsl 62 (rawE 57) (Value.slice ra1 (l586, l590).2.length rc1) rrs1]) (t := 8) (v := Value.agg (List.toArray [Value.slice a588 l586.length c589, Value.slice a592 l590.length c593])) rfl s831 rfl hl835 ⟨a588, c589, a592, c593, rs587, rs591, rfl, hr838, hr839, hs837⟩

theorem cert14_ok (w : World) (ok : Nat → Prop) (p0 : List Rw) (a0 : Option Addr) (c0 : Nat) (he0 : elems rowW w ok a0 p0) (hc0 : p0.length ≤ c0) {r : Rw} (h : cert14 p0 = some r) :
    Ret Try.prog 138 [Value.slice a0 p0.length c0] w (fun v w' => ∃ ra0, ∃ rc0, v = Value.agg (List.toArray (encR r (Value.slice ra0 r.table.length rc0))) ∧ r.table.length ≤ rc0 ∧ elems heldW w' (In ok w [] []) ra0 r.table ∧ St [] w w' []) := by
  rw [cert14] at h
  have hs100 : St [] w w [] := St.start w
  have he1000 := el0 (L0 := []) (fun b _ => out_nil b) he0
  refine enter (n := 46) Try.func138 rfl rfl rfl ?_
  refine WC.seq ?_
  refine WC.region ?_
  refine WL.new (L' := fun b102 => [blk b102 62 (encR Rw.none (Value.slice none 0 0))]) (f := fun b102 => Value.pointer (some ⟨b102, 0, none⟩)) (X.alloc (c := encR Rw.none (Value.slice none 0 0)) (hs100.here) zr62 rfl (fun _ => rfl)) rfl ?_
  intro b102 w103 ht108 he105 hz106
  have hs109 := hs100.trans ht108
  refine WL.nil ?_
  refine thenN ?_
  refine WC.seq ?_
  refine WC.seq ?_
  refine WC.region ?_
  refine WL.val (R.move (v := Value.slice a0 p0.length c0) rfl) rfl ?_
  refine WL.val (R.len (a := a0) (n := p0.length) (c := c0) un22 rfl) rfl ?_
  refine WL.val (R.move (v := Value.int .i64 0) rfl) rfl ?_
  refine WL.nil ?_
  refine thenN ?_
  have hr932 := elT ht108 he1000
  obtain ⟨K922, hK923, h924⟩ := kE (G := fun K922 => cert14_l1 p0 K922 1000000 0 Rw.none) h
  refine WC.join (fun σ934 w933 => ∃ d919 : Rw, ∃ a920, ∃ c921, σ934 2 = (Value.pointer (some ⟨b102, 0, none⟩)) ∧ d919.table.length ≤ c921 ∧ elems heldW w933 (In ok w [] [blk b102 62 (encR d919 (Value.slice a920 d919.table.length c921))]) a920 d919.table ∧ K922 d919 = some r ∧ St [] w w933 [blk b102 62 (encR d919 (Value.slice a920 d919.table.length c921))]) ?_ ?_
  · refine WC.block ?_
    refine WC.loop (T := Nat) (fun k928 σ926 w925 => ∃ i915 : Int, ∃ d916 : Rw, ∃ a917, ∃ c918, σ926 0 = (Value.slice a0 p0.length c0) ∧ σ926 2 = (Value.pointer (some ⟨b102, 0, none⟩)) ∧ σ926 7 = (Value.slice a0 p0.length c0) ∧ σ926 8 = (Value.int .i64 ((p0.length : Nat) : Int)) ∧ σ926 9 = (Value.int .i64 i915) ∧ elems rowW w925 (In ok w [] [blk b102 62 (encR d916 (Value.slice a917 d916.table.length c918))]) a0 p0 ∧ d916.table.length ≤ c918 ∧ elems heldW w925 (In ok w [] [blk b102 62 (encR d916 (Value.slice a917 d916.table.length c918))]) a917 d916.table ∧ cert14_l1 p0 K922 k928 i915 d916 = some r ∧ St [] w w925 [blk b102 62 (encR d916 (Value.slice a917 d916.table.length c918))]) (fun k928 => k928) 1000000 ⟨0, Rw.none, none, 0, rfl, rfl, rfl, rfl, rfl, hr932, (Nat.le_refl _), elems_nil, h924, hs109⟩ ?_
    rintro k928 σ926 w925 ⟨i915, d916, a917, c918, s939, s940, s941, s942, s943, he929, hl931, he930, h938, hs927⟩
    rcases k928 with _ | k928
    · rw [cert14_l1] at h938; cases h938
    rw [cert14_l1] at h938
    refine WC.seq ?_
    refine WC.region ?_
    by_cases hc944 : i915 < ((p0.length : Nat) : Int)
    · have h945 := ifT hc944 h938
      refine WL.val (R.lssT (k := .i64) (a := i915) (b := ((p0.length : Nat) : Int)) un3 (by exact s943) (by exact s942) hc944) rfl ?_
      refine WL.nil ?_
      refine thenN ?_
      refine WC.seq ?_
      refine WC.condT rfl rfl ?_
      refine WC.skip ?_
      refine thenN ?_
      refine WC.seq ?_
      refine WC.block ?_
      refine WC.seq ?_
      refine WC.region ?_
      refine WL.val (R.move (v := Value.int .i64 i915) (by exact s943)) rfl ?_
      obtain ⟨x946, hx947, h948⟩ := ob (o := rd p0 i915) h945
      obtain ⟨h0949, hx950, hl951, hm952⟩ := rdE hx947
      obtain ⟨ad953, e958, ha954, hp955, hat956, hrd957⟩ := he929 _ _ hx950
      obtain ⟨t959, rfl, a961, c962, he965, hl963, he964⟩ := hrd957
      cases he965
      refine WL.val (R.indexS (n := 57) (m := (i915).toNat) (a := a0) (ad := ad953) (len := p0.length) (cap := c0) (z := i915) un22 ag62.size (by exact s941) ha954 (by exact s943) hm952 hl951 hp955) rfl ?_
      refine WL.val (R.loadA (cs := encR x946 (Value.slice a961 x946.table.length c962)) (n := 57) ag62 rfl hat956 rfl) rfl ?_
      refine WL.new (L' := fun b968 => [blk b102 62 (encR d916 (Value.slice a917 d916.table.length c918)), blk b968 62 (encR Rw.none (Value.slice none 0 0))]) (f := fun b968 => Value.pointer (some ⟨b968, 0, none⟩)) (X.alloc (c := encR Rw.none (Value.slice none 0 0)) (hs927.here) zr62 rfl (fun _ => rfl)) rfl ?_
      intro b968 w969 ht974 he971 hz972
      have hs975 := hs927.trans ht974
      refine WL.val (R.assign (v := Value.int .i64 i915) rfl) rfl ?_
      refine WL.sto (L' := [blk b102 62 (encR d916 (Value.slice a917 d916.table.length c918)), blk b968 62 (encR x946 (Value.slice a961 x946.table.length c962))]) (X.store (i := 1) (n := 57) (b := b968) (off := 0) (c := encR Rw.none (Value.slice none 0 0)) (U := 62) (vs := encR x946 (Value.slice a961 x946.table.length c962)) (v := Value.agg (List.toArray (encR x946 (Value.slice a961 x946.table.length c962)))) (c' := encR x946 (Value.slice a961 x946.table.length c962)) (hs975.here) rfl ag62.size rfl rfl rfl rfl rfl rfl rfl rfl) rfl rfl ?_
      intro w976 ht977
      have hs978 := hs975.trans ht977
      refine WL.nil ?_
      refine thenN ?_
      refine WC.seq ?_
      refine WC.region ?_
      refine WL.val (R.move (v := Value.slice a0 p0.length c0) (by exact s939)) rfl ?_
      refine WL.val (R.move (v := Value.int .i64 i915) rfl) rfl ?_
      obtain ⟨hg979, h980⟩ := ckE (c := 0 ≤ i915 ∧ i915 ≤ ((p0.length : Nat) : Int)) h948
      have hr981 := elT (ht974.trans ht977) he929
      have hn984 : (p0.take (i915).toNat).length = (i915).toNat := take_len hg979
      have he982 := elems_take (i915).toNat hr981
      have hl983 : (p0.take (i915).toNat).length ≤ c0 := by rw [hn984]; exact toCap hg979 hc0
      refine WL.val (R.sliceToN (n := 57) (z := i915) (N := (p0.take (i915).toNat).length) un22 ag62.size rfl rfl hg979 hn984 hc0) rfl ?_
      refine WL.val (R.len (a := a0) (n := ((p0.take (i915).toNat).length)) (c := c0) un22 rfl) rfl ?_
      refine WL.val (R.move (v := Value.int .i64 0) rfl) rfl ?_
      refine WL.nil ?_
      refine thenN ?_
      have hr1198 := elT (ht974.trans ht977) he930
      have hr1199 := elT (ht974.trans ht977) he964
      obtain ⟨K1186, hK1187, h1188⟩ := kE (G := fun K1186 => cert14_l2 p0 i915 x946 K1186 1000000 0 d916) h980
      refine WC.join (fun σ1201 w1200 => ∃ d1183 : Rw, ∃ a1184, ∃ c1185, σ1201 0 = (Value.slice a0 p0.length c0) ∧ σ1201 2 = (Value.pointer (some ⟨b102, 0, none⟩)) ∧ σ1201 7 = (Value.slice a0 p0.length c0) ∧ σ1201 8 = (Value.int .i64 ((p0.length : Nat) : Int)) ∧ σ1201 9 = (Value.int .i64 i915) ∧ elems rowW w1200 (In ok w [] [blk b102 62 (encR d1183 (Value.slice a1184 d1183.table.length c1185))]) a0 p0 ∧ d1183.table.length ≤ c1185 ∧ elems heldW w1200 (In ok w [] [blk b102 62 (encR d1183 (Value.slice a1184 d1183.table.length c1185))]) a1184 d1183.table ∧ K1186 d1183 = some r ∧ St [] w w1200 [blk b102 62 (encR d1183 (Value.slice a1184 d1183.table.length c1185))]) ?_ ?_
      · refine WC.block ?_
        refine WC.loop (T := Nat) (fun k1192 σ1190 w1189 => ∃ i1179 : Int, ∃ d1180 : Rw, ∃ a1181, ∃ c1182, σ1190 0 = (Value.slice a0 p0.length c0) ∧ σ1190 2 = (Value.pointer (some ⟨b102, 0, none⟩)) ∧ σ1190 4 = (Value.pointer (some ⟨b968, 0, none⟩)) ∧ σ1190 7 = (Value.slice a0 p0.length c0) ∧ σ1190 8 = (Value.int .i64 ((p0.length : Nat) : Int)) ∧ σ1190 9 = (Value.int .i64 i915) ∧ σ1190 16 = (Value.slice a0 ((p0.take (i915).toNat).length) c0) ∧ σ1190 17 = (Value.int .i64 (((p0.take (i915).toNat).length : Nat) : Int)) ∧ σ1190 18 = (Value.int .i64 i1179) ∧ elems rowW w1189 (In ok w [] [blk b102 62 (encR d1180 (Value.slice a1181 d1180.table.length c1182)), blk b968 62 (encR x946 (Value.slice a961 x946.table.length c962))]) a0 p0 ∧ elems rowW w1189 (In ok w [] [blk b102 62 (encR d1180 (Value.slice a1181 d1180.table.length c1182)), blk b968 62 (encR x946 (Value.slice a961 x946.table.length c962))]) a0 (p0.take (i915).toNat) ∧ d1180.table.length ≤ c1182 ∧ elems heldW w1189 (In ok w [] [blk b102 62 (encR d1180 (Value.slice a1181 d1180.table.length c1182)), blk b968 62 (encR x946 (Value.slice a961 x946.table.length c962))]) a1181 d1180.table ∧ elems heldW w1189 (In ok w [] [blk b102 62 (encR d1180 (Value.slice a1181 d1180.table.length c1182)), blk b968 62 (encR x946 (Value.slice a961 x946.table.length c962))]) a961 x946.table ∧ cert14_l2 p0 i915 x946 K1186 k1192 i1179 d1180 = some r ∧ St [] w w1189 [blk b102 62 (encR d1180 (Value.slice a1181 d1180.table.length c1182)), blk b968 62 (encR x946 (Value.slice a961 x946.table.length c962))]) (fun k1192 => k1192) 1000000 ⟨0, d916, a917, c918, s939, s940, rfl, s941, s942, s943, rfl, rfl, rfl, hr981, he982, hl931, hr1198, hr1199, h1188, hs978⟩ ?_
        rintro k1192 σ1190 w1189 ⟨i1179, d1180, a1181, c1182, s1207, s1208, s1209, s1210, s1211, s1212, s1213, s1214, s1215, he1193, he1194, hl1196, he1195, he1197, h1206, hs1191⟩
        rcases k1192 with _ | k1192
        · rw [cert14_l2] at h1206; cases h1206
        rw [cert14_l2] at h1206
        refine WC.seq ?_
        refine WC.region ?_
        by_cases hc1216 : i1179 < (((p0.take (i915).toNat).length : Nat) : Int)
        · have h1217 := ifT hc1216 h1206
          refine WL.val (R.lssT (k := .i64) (a := i1179) (b := (((p0.take (i915).toNat).length : Nat) : Int)) un3 (by exact s1215) (by exact s1214) hc1216) rfl ?_
          refine WL.nil ?_
          refine thenN ?_
          refine WC.seq ?_
          refine WC.condT rfl rfl ?_
          refine WC.skip ?_
          refine thenN ?_
          refine WC.seq ?_
          refine WC.block ?_
          refine WC.seq ?_
          refine WC.region ?_
          obtain ⟨x1218, hx1219, h1220⟩ := ob (o := rd (p0.take (i915).toNat) i1179) h1217
          obtain ⟨h01221, hx1222, hl1223, hm1224⟩ := rdE hx1219
          obtain ⟨ad1225, e1230, ha1226, hp1227, hat1228, hrd1229⟩ := he1194 _ _ hx1222
          obtain ⟨t1231, rfl, a1233, c1234, he1237, hl1235, he1236⟩ := hrd1229
          cases he1237
          refine WL.val (R.indexS (n := 57) (m := (i1179).toNat) (a := a0) (ad := ad1225) (len := ((p0.take (i915).toNat).length)) (cap := c0) (z := i1179) un22 ag62.size (by exact s1213) ha1226 (by exact s1215) hm1224 hl1223 hp1227) rfl ?_
          refine WL.val (R.loadA (cs := encR x1218 (Value.slice a1233 x1218.table.length c1234)) (n := 57) ag62 rfl hat1228 rfl) rfl ?_
          refine WL.new (L' := fun b1240 => [blk b102 62 (encR d1180 (Value.slice a1181 d1180.table.length c1182)), blk b968 62 (encR x946 (Value.slice a961 x946.table.length c962)), blk b1240 62 (encR Rw.none (Value.slice none 0 0))]) (f := fun b1240 => Value.pointer (some ⟨b1240, 0, none⟩)) (X.alloc (c := encR Rw.none (Value.slice none 0 0)) (hs1191.here) zr62 rfl (fun _ => rfl)) rfl ?_
          intro b1240 w1241 ht1246 he1243 hz1244
          have hs1247 := hs1191.trans ht1246
          refine WL.sto (L' := [blk b102 62 (encR d1180 (Value.slice a1181 d1180.table.length c1182)), blk b968 62 (encR x946 (Value.slice a961 x946.table.length c962)), blk b1240 62 (encR x1218 (Value.slice a1233 x1218.table.length c1234))]) (X.store (i := 2) (n := 57) (b := b1240) (off := 0) (c := encR Rw.none (Value.slice none 0 0)) (U := 62) (vs := encR x1218 (Value.slice a1233 x1218.table.length c1234)) (v := Value.agg (List.toArray (encR x1218 (Value.slice a1233 x1218.table.length c1234)))) (c' := encR x1218 (Value.slice a1233 x1218.table.length c1234)) (hs1247.here) rfl ag62.size rfl rfl rfl rfl rfl rfl rfl rfl) rfl rfl ?_
          intro w1248 ht1249
          have hs1250 := hs1247.trans ht1249
          refine WL.nil ?_
          refine thenN ?_
          refine WC.block ?_
          refine WC.seq ?_
          refine WC.region ?_
          refine WL.val (R.fieldAddr (o := 0) (o' := 0) fa62_0 (by exact s1209) rfl) rfl ?_
          refine WL.val (R.loadL (v := Value.bool x946.is) lf4 rfl (hs1250.at (i := 1) (off := 0) (n := 1) (cs := [Value.bool x946.is]) rfl rfl rfl)) rfl ?_
          refine WL.val (R.not (b := x946.is) rfl) rfl ?_
          refine WL.val (R.move (v := Value.bool (!x946.is)) rfl) rfl ?_
          by_cases hc1251 : x946.is = true
          · have h1252 := ifT hc1251 h1220
            have hk1253 : (!x946.is) = false := by simp [hc1251]
            refine WL.guardY (e := 27) (Eq.trans (show _ = Value.bool (!x946.is) from rfl) (congrArg Value.bool hk1253)) rfl rfl ?_
            refine WL.val (R.loadA (cs := encR x946 (Value.slice a961 x946.table.length c962)) (n := 57) ag62 (by exact s1209) (hs1250.at (i := 1) (off := 0) (n := 57) (cs := encR x946 (Value.slice a961 x946.table.length c962)) rfl rfl rfl) rfl) rfl ?_
            refine WL.guardY (e := 27) (Eq.trans (show _ = Value.bool (!x946.is) from rfl) (congrArg Value.bool hk1253)) rfl rfl ?_
            refine WL.val (R.loadA (cs := encR x1218 (Value.slice a1233 x1218.table.length c1234)) (n := 57) ag62 rfl (hs1250.at (i := 2) (off := 0) (n := 57) (cs := encR x1218 (Value.slice a1233 x1218.table.length c1234)) rfl rfl rfl) rfl) rfl ?_
            refine WL.guardY (e := 27) (Eq.trans (show _ = Value.bool (!x946.is) from rfl) (congrArg Value.bool hk1253)) rfl rfl ?_
            obtain ⟨y1254, hx1255, h1256⟩ := ob (o := samen14 x946 x1218) h1252
            have hr1257 := elT (ht1246.trans ht1249) he1197
            have hr1258 := elT (ht1246.trans ht1249) he1236
            refine WL.call (samen14_ok _ _ x946 x1218 _ _ hr1257 hl963 _ _ hr1258 hl1235 hx1255) (R.call (vs := [Value.agg (List.toArray (encR x946 (Value.slice a961 x946.table.length c962))), Value.agg (List.toArray (encR x1218 (Value.slice a1233 x1218.table.length c1234)))]) (caps := []) bo65 rfl rfl) rfl ?_
            rintro v1261 w1262 ⟨rfl, ht1259⟩
            have ht1260 := hs1250.call (N := [blk b102 62 (encR d1180 (Value.slice a1181 d1180.table.length c1182)), blk b968 62 (encR x946 (Value.slice a961 x946.table.length c962)), blk b1240 62 (encR x1218 (Value.slice a1233 x1218.table.length c1234))]) (M := []) (List.Perm.refl _) ht1259
            have hs1263 := hs1250.trans ht1260
            refine WL.guardY (e := 27) (Eq.trans (show _ = Value.bool (!x946.is) from rfl) (congrArg Value.bool hk1253)) rfl rfl ?_
            refine WL.val (R.not (b := y1254) rfl) rfl ?_
            refine WL.val (R.pickF (v := Value.bool (!y1254)) (Eq.trans (show _ = Value.bool (!x946.is) from rfl) (congrArg Value.bool hk1253)) rfl) rfl ?_
            refine WL.val (R.assign (v := Value.bool (!y1254)) rfl) rfl ?_
            refine WL.nil ?_
            refine thenN ?_
            by_cases hc1264 : y1254 = true
            · have h1265 := ifT hc1264 h1256
              have hk1266 : (!y1254) = false := by simp [hc1264]
              refine WC.condF (Eq.trans (show _ = Value.bool (!y1254) from rfl) (congrArg Value.bool hk1266)) rfl ?_
              refine WC.seq ?_
              refine WC.region ?_
              refine WL.val (R.fieldAddr (o := 0) (o' := 0) fa62_0 (by exact s1208) rfl) rfl ?_
              refine WL.val (R.loadL (v := Value.bool d1180.is) lf4 rfl (hs1263.at (i := 0) (off := 0) (n := 1) (cs := [Value.bool d1180.is]) rfl rfl rfl)) rfl ?_
              refine WL.val (R.move (v := Value.bool d1180.is) rfl) rfl ?_
              by_cases hc1267 : d1180.is = true
              · have h1268 := ifT hc1267 h1265
                refine WL.guardY (e := 36) (Eq.trans (show _ = Value.bool d1180.is from rfl) (congrArg Value.bool hc1267)) rfl rfl ?_
                refine WL.val (R.loadA (cs := encR d1180 (Value.slice a1181 d1180.table.length c1182)) (n := 57) ag62 (by exact s1208) (hs1263.at (i := 0) (off := 0) (n := 57) (cs := encR d1180 (Value.slice a1181 d1180.table.length c1182)) rfl rfl rfl) rfl) rfl ?_
                refine WL.guardY (e := 36) (Eq.trans (show _ = Value.bool d1180.is from rfl) (congrArg Value.bool hc1267)) rfl rfl ?_
                refine WL.val (R.loadA (cs := encR x946 (Value.slice a961 x946.table.length c962)) (n := 57) ag62 (by exact s1209) (hs1263.at (i := 1) (off := 0) (n := 57) (cs := encR x946 (Value.slice a961 x946.table.length c962)) rfl rfl rfl) rfl) rfl ?_
                refine WL.guardY (e := 36) (Eq.trans (show _ = Value.bool d1180.is from rfl) (congrArg Value.bool hc1267)) rfl rfl ?_
                obtain ⟨y1269, hx1270, h1271⟩ := ob (o := samen14 d1180 x946) h1268
                have hr1272 := elT ((ht1246.trans ht1249).trans ht1260) he1195
                have hr1273 := elT ht1260 hr1257
                refine WL.call (samen14_ok _ _ d1180 x946 _ _ hr1272 hl1196 _ _ hr1273 hl963 hx1270) (R.call (vs := [Value.agg (List.toArray (encR d1180 (Value.slice a1181 d1180.table.length c1182))), Value.agg (List.toArray (encR x946 (Value.slice a961 x946.table.length c962)))]) (caps := []) bo65 rfl rfl) rfl ?_
                rintro v1276 w1277 ⟨rfl, ht1274⟩
                have ht1275 := hs1263.call (N := [blk b102 62 (encR d1180 (Value.slice a1181 d1180.table.length c1182)), blk b968 62 (encR x946 (Value.slice a961 x946.table.length c962)), blk b1240 62 (encR x1218 (Value.slice a1233 x1218.table.length c1234))]) (M := []) (List.Perm.refl _) ht1274
                have hs1278 := hs1263.trans ht1275
                refine WL.guardY (e := 36) (Eq.trans (show _ = Value.bool d1180.is from rfl) (congrArg Value.bool hc1267)) rfl rfl ?_
                refine WL.val (R.not (b := y1269) rfl) rfl ?_
                refine WL.val (R.pickT (v := Value.bool (!y1269)) (Eq.trans (show _ = Value.bool d1180.is from rfl) (congrArg Value.bool hc1267)) rfl) rfl ?_
                refine WL.val (R.assign (v := Value.bool (!y1269)) rfl) rfl ?_
                refine WL.nil ?_
                refine thenN ?_
                by_cases hc1279 : y1269 = true
                · have h1280 := ifT hc1279 h1271
                  have hk1281 : (!y1269) = false := by simp [hc1279]
                  refine WC.condF (Eq.trans (show _ = Value.bool (!y1269) from rfl) (congrArg Value.bool hk1281)) rfl ?_
                  refine WC.region ?_
                  refine WL.val (R.loadA (cs := encR x946 (Value.slice a961 x946.table.length c962)) (n := 57) ag62 (by exact s1209) (hs1278.at (i := 1) (off := 0) (n := 57) (cs := encR x946 (Value.slice a961 x946.table.length c962)) rfl rfl rfl) rfl) rfl ?_
                  refine WL.sto (L' := [blk b102 62 (encR x946 (Value.slice a961 x946.table.length c962)), blk b968 62 (encR x946 (Value.slice a961 x946.table.length c962)), blk b1240 62 (encR x1218 (Value.slice a1233 x1218.table.length c1234))]) (X.store (i := 0) (n := 57) (b := b102) (off := 0) (c := encR d1180 (Value.slice a1181 d1180.table.length c1182)) (U := 62) (vs := encR x946 (Value.slice a961 x946.table.length c962)) (v := Value.agg (List.toArray (encR x946 (Value.slice a961 x946.table.length c962)))) (c' := encR x946 (Value.slice a961 x946.table.length c962)) (hs1278.here) rfl ag62.size (by exact s1208) rfl rfl rfl rfl rfl rfl rfl) rfl rfl ?_
                  intro w1282 ht1283
                  have hs1284 := hs1278.trans ht1283
                  refine WL.nil ?_
                  refine blockN ?_
                  refine blockN ?_
                  refine thenN ?_
                  refine WC.region ?_
                  obtain ⟨hg1285, h1286⟩ := ckE (c := -9223372036854775808 ≤ i1179 + 1 ∧ i1179 + 1 ≤ 9223372036854775807) h1280
                  refine WL.val (R.add (a := i1179) (b := 1) (z := i1179 + 1) (by exact s1215) rfl (w64e rfl hg1285.1 hg1285.2)) rfl ?_
                  refine WL.val (R.move (v := Value.int .i64 (i1179 + 1)) rfl) rfl ?_
                  refine WL.nil ?_
                  have ht1287 := (hs1284.here).perm (L' := [blk b102 62 (encR x946 (Value.slice a961 x946.table.length c962)), blk b968 62 (encR x946 (Value.slice a961 x946.table.length c962))]) (G := [blk b1240 62 (encR x1218 (Value.slice a1233 x1218.table.length c1234))]) ((List.Perm.refl _))
                  have hs1288 := hs1284.trans ht1287
                  have hr1289 := elT (((((ht1246.trans ht1249).trans ht1260).trans ht1275).trans ht1283).trans ht1287) he1193
                  have hr1290 := elT (((((ht1246.trans ht1249).trans ht1260).trans ht1275).trans ht1283).trans ht1287) he1194
                  have hr1291 := elT ((ht1275.trans ht1283).trans ht1287) hr1273
                  exact roundEnd (s := k1192) ⟨i1179 + 1, x946, a961, c962, s1207, s1208, s1209, s1210, s1211, s1212, s1213, s1214, rfl, hr1289, hr1290, hl963, hr1291, hr1291, h1286, hs1288⟩ (Nat.lt_succ_self _)
                · have h1292 := ifF hc1279 h1271
                  have hk1293 : (!y1269) = true := by simp [hc1279]
                  refine WC.condT (Eq.trans (show _ = Value.bool (!y1269) from rfl) (congrArg Value.bool hk1293)) rfl ?_
                  refine WC.seq ?_
                  refine WC.region ?_
                  have hd1294 : ∀ w, (Instr.build 62 #[]).run Try.prog w = .ok (Value.agg (List.toArray (encR Rw.none (Value.slice none 0 0)))) w := fun _ => by kernel_rfl
                  refine WL.val (R.build (vs := []) rfl hd1294) rfl ?_
                  refine WL.sto (L' := [blk b102 62 (encR Rw.none (Value.slice none 0 0)), blk b968 62 (encR x946 (Value.slice a961 x946.table.length c962)), blk b1240 62 (encR x1218 (Value.slice a1233 x1218.table.length c1234))]) (X.store (i := 0) (n := 57) (b := b102) (off := 0) (c := encR d1180 (Value.slice a1181 d1180.table.length c1182)) (U := 62) (vs := encR Rw.none (Value.slice none 0 0)) (v := Value.agg (List.toArray (encR Rw.none (Value.slice none 0 0)))) (c' := encR Rw.none (Value.slice none 0 0)) (hs1278.here) rfl ag62.size (by exact s1208) rfl rfl rfl rfl rfl rfl rfl) rfl rfl ?_
                  intro w1295 ht1296
                  have hs1297 := hs1278.trans ht1296
                  refine WL.nil ?_
                  refine thenN ?_
                  refine WC.ret ?_
                  have hl1298 := run_loadA (P := Try.prog) (n := 57) ag62 (hs1297.at (i := 0) (off := 0) (n := 57) (cs := encR Rw.none (Value.slice none 0 0)) rfl rfl rfl) rfl
                  have ht1299 := (hs1297.here).perm (L' := []) (G := [blk b102 62 (encR Rw.none (Value.slice none 0 0)), blk b968 62 (encR x946 (Value.slice a961 x946.table.length c962)), blk b1240 62 (encR x1218 (Value.slice a1233 x1218.table.length c1234))]) ((List.Perm.refl _))
                  have hs1300 := hs1297.trans ht1299
                  obtain rfl := Option.some.inj (show some Rw.none = some r from h1292)
                  exact retCell (P := Try.prog) (n := 46) (fn := Try.f138) (R := fun v w' => ∃ ra0, ∃ rc0, v = Value.agg (List.toArray (encR Rw.none (Value.slice ra0 Rw.none.table.length rc0))) ∧ Rw.none.table.length ≤ rc0 ∧ elems heldW w' (In ok w [] []) ra0 Rw.none.table ∧ St [] w w' []) (t := 2) (v := Value.agg (List.toArray (encR Rw.none (Value.slice none 0 0)))) rfl s1208 rfl hl1298 ⟨none, 0, rfl, (Nat.le_refl _), elems_nil, hs1300⟩
              · have h1301 := ifF hc1267 h1265
                refine WL.guardN (e := 36) (v := .bool false) (Eq.trans (show _ = Value.bool d1180.is from rfl) (congrArg Value.bool (Bool.eq_false_iff.2 hc1267))) rfl rfl rfl ?_
                refine WL.guardN (e := 36) (v := .bool false) (Eq.trans (show _ = Value.bool d1180.is from rfl) (congrArg Value.bool (Bool.eq_false_iff.2 hc1267))) rfl rfl rfl ?_
                refine WL.guardN (e := 36) (v := .bool false) (Eq.trans (show _ = Value.bool d1180.is from rfl) (congrArg Value.bool (Bool.eq_false_iff.2 hc1267))) rfl rfl rfl ?_
                refine WL.guardN (e := 36) (v := .bool false) (Eq.trans (show _ = Value.bool d1180.is from rfl) (congrArg Value.bool (Bool.eq_false_iff.2 hc1267))) rfl rfl rfl ?_
                refine WL.val (R.pickF (v := Value.bool false) (Eq.trans (show _ = Value.bool d1180.is from rfl) (congrArg Value.bool (Bool.eq_false_iff.2 hc1267))) rfl) rfl ?_
                refine WL.val (R.assign (v := Value.bool false) rfl) rfl ?_
                refine WL.nil ?_
                refine thenN ?_
                refine WC.condF rfl rfl ?_
                refine WC.region ?_
                refine WL.val (R.loadA (cs := encR x946 (Value.slice a961 x946.table.length c962)) (n := 57) ag62 (by exact s1209) (hs1263.at (i := 1) (off := 0) (n := 57) (cs := encR x946 (Value.slice a961 x946.table.length c962)) rfl rfl rfl) rfl) rfl ?_
                refine WL.sto (L' := [blk b102 62 (encR x946 (Value.slice a961 x946.table.length c962)), blk b968 62 (encR x946 (Value.slice a961 x946.table.length c962)), blk b1240 62 (encR x1218 (Value.slice a1233 x1218.table.length c1234))]) (X.store (i := 0) (n := 57) (b := b102) (off := 0) (c := encR d1180 (Value.slice a1181 d1180.table.length c1182)) (U := 62) (vs := encR x946 (Value.slice a961 x946.table.length c962)) (v := Value.agg (List.toArray (encR x946 (Value.slice a961 x946.table.length c962)))) (c' := encR x946 (Value.slice a961 x946.table.length c962)) (hs1263.here) rfl ag62.size (by exact s1208) rfl rfl rfl rfl rfl rfl rfl) rfl rfl ?_
                intro w1302 ht1303
                have hs1304 := hs1263.trans ht1303
                refine WL.nil ?_
                refine blockN ?_
                refine blockN ?_
                refine thenN ?_
                refine WC.region ?_
                obtain ⟨hg1305, h1306⟩ := ckE (c := -9223372036854775808 ≤ i1179 + 1 ∧ i1179 + 1 ≤ 9223372036854775807) h1301
                refine WL.val (R.add (a := i1179) (b := 1) (z := i1179 + 1) (by exact s1215) rfl (w64e rfl hg1305.1 hg1305.2)) rfl ?_
                refine WL.val (R.move (v := Value.int .i64 (i1179 + 1)) rfl) rfl ?_
                refine WL.nil ?_
                have ht1307 := (hs1304.here).perm (L' := [blk b102 62 (encR x946 (Value.slice a961 x946.table.length c962)), blk b968 62 (encR x946 (Value.slice a961 x946.table.length c962))]) (G := [blk b1240 62 (encR x1218 (Value.slice a1233 x1218.table.length c1234))]) ((List.Perm.refl _))
                have hs1308 := hs1304.trans ht1307
                have hr1309 := elT ((((ht1246.trans ht1249).trans ht1260).trans ht1303).trans ht1307) he1193
                have hr1310 := elT ((((ht1246.trans ht1249).trans ht1260).trans ht1303).trans ht1307) he1194
                have hr1311 := elT ((ht1260.trans ht1303).trans ht1307) hr1257
                exact roundEnd (s := k1192) ⟨i1179 + 1, x946, a961, c962, s1207, s1208, s1209, s1210, s1211, s1212, s1213, s1214, rfl, hr1309, hr1310, hl963, hr1311, hr1311, h1306, hs1308⟩ (Nat.lt_succ_self _)
            · have h1312 := ifF hc1264 h1256
              have hk1313 : (!y1254) = true := by simp [hc1264]
              refine WC.condT (Eq.trans (show _ = Value.bool (!y1254) from rfl) (congrArg Value.bool hk1313)) rfl ?_
              refine WC.skip ?_
              refine blockN ?_
              refine blockN ?_
              refine thenN ?_
              refine WC.region ?_
              obtain ⟨hg1314, h1315⟩ := ckE (c := -9223372036854775808 ≤ i1179 + 1 ∧ i1179 + 1 ≤ 9223372036854775807) h1312
              refine WL.val (R.add (a := i1179) (b := 1) (z := i1179 + 1) (by exact s1215) rfl (w64e rfl hg1314.1 hg1314.2)) rfl ?_
              refine WL.val (R.move (v := Value.int .i64 (i1179 + 1)) rfl) rfl ?_
              refine WL.nil ?_
              have ht1316 := (hs1263.here).perm (L' := [blk b102 62 (encR d1180 (Value.slice a1181 d1180.table.length c1182)), blk b968 62 (encR x946 (Value.slice a961 x946.table.length c962))]) (G := [blk b1240 62 (encR x1218 (Value.slice a1233 x1218.table.length c1234))]) ((List.Perm.refl _))
              have hs1317 := hs1263.trans ht1316
              have hr1318 := elT (((ht1246.trans ht1249).trans ht1260).trans ht1316) he1193
              have hr1319 := elT (((ht1246.trans ht1249).trans ht1260).trans ht1316) he1194
              have hr1320 := elT (((ht1246.trans ht1249).trans ht1260).trans ht1316) he1195
              have hr1321 := elT (ht1260.trans ht1316) hr1257
              exact roundEnd (s := k1192) ⟨i1179 + 1, d1180, a1181, c1182, s1207, s1208, s1209, s1210, s1211, s1212, s1213, s1214, rfl, hr1318, hr1319, hl1196, hr1320, hr1321, h1315, hs1317⟩ (Nat.lt_succ_self _)
          · have h1322 := ifF hc1251 h1220
            have hk1323 : (!x946.is) = true := by simp [hc1251]
            refine WL.guardN (e := 27) (v := .bool true) (Eq.trans (show _ = Value.bool (!x946.is) from rfl) (congrArg Value.bool hk1323)) rfl rfl rfl ?_
            refine WL.guardN (e := 27) (v := .bool true) (Eq.trans (show _ = Value.bool (!x946.is) from rfl) (congrArg Value.bool hk1323)) rfl rfl rfl ?_
            refine WL.guardN (e := 27) (v := .bool true) (Eq.trans (show _ = Value.bool (!x946.is) from rfl) (congrArg Value.bool hk1323)) rfl rfl rfl ?_
            refine WL.guardN (e := 27) (v := .bool true) (Eq.trans (show _ = Value.bool (!x946.is) from rfl) (congrArg Value.bool hk1323)) rfl rfl rfl ?_
            refine WL.val (R.pickT (v := Value.bool true) (Eq.trans (show _ = Value.bool (!x946.is) from rfl) (congrArg Value.bool hk1323)) rfl) rfl ?_
            refine WL.val (R.assign (v := Value.bool true) rfl) rfl ?_
            refine WL.nil ?_
            refine thenN ?_
            refine WC.condT rfl rfl ?_
            refine WC.skip ?_
            refine blockN ?_
            refine blockN ?_
            refine thenN ?_
            refine WC.region ?_
            obtain ⟨hg1324, h1325⟩ := ckE (c := -9223372036854775808 ≤ i1179 + 1 ∧ i1179 + 1 ≤ 9223372036854775807) h1322
            refine WL.val (R.add (a := i1179) (b := 1) (z := i1179 + 1) (by exact s1215) rfl (w64e rfl hg1324.1 hg1324.2)) rfl ?_
            refine WL.val (R.move (v := Value.int .i64 (i1179 + 1)) rfl) rfl ?_
            refine WL.nil ?_
            have ht1326 := (hs1250.here).perm (L' := [blk b102 62 (encR d1180 (Value.slice a1181 d1180.table.length c1182)), blk b968 62 (encR x946 (Value.slice a961 x946.table.length c962))]) (G := [blk b1240 62 (encR x1218 (Value.slice a1233 x1218.table.length c1234))]) ((List.Perm.refl _))
            have hs1327 := hs1250.trans ht1326
            have hr1328 := elT ((ht1246.trans ht1249).trans ht1326) he1193
            have hr1329 := elT ((ht1246.trans ht1249).trans ht1326) he1194
            have hr1330 := elT ((ht1246.trans ht1249).trans ht1326) he1195
            have hr1331 := elT ((ht1246.trans ht1249).trans ht1326) he1197
            exact roundEnd (s := k1192) ⟨i1179 + 1, d1180, a1181, c1182, s1207, s1208, s1209, s1210, s1211, s1212, s1213, s1214, rfl, hr1328, hr1329, hl1196, hr1330, hr1331, h1325, hs1327⟩ (Nat.lt_succ_self _)
        · have h1332 := ifF hc1216 h1206
          refine WL.val (R.lssF (k := .i64) (a := i1179) (b := (((p0.take (i915).toNat).length : Nat) : Int)) un3 (by exact s1215) (by exact s1214) hc1216) rfl ?_
          refine WL.nil ?_
          refine thenN ?_
          refine WC.seq ?_
          refine WC.condF rfl rfl ?_
          refine WC.exit ?_
          refine thenE ?_
          refine thenE ?_
          refine blockHit ?_
          have ht1333 := (hs1191.here).perm (L' := [blk b102 62 (encR d1180 (Value.slice a1181 d1180.table.length c1182))]) (G := [blk b968 62 (encR x946 (Value.slice a961 x946.table.length c962))]) ((List.Perm.refl _))
          have hs1334 := hs1191.trans ht1333
          have hr1335 := elT ht1333 he1193
          have hr1336 := elT ht1333 he1195
          exact joinI ⟨d1180, a1181, c1182, s1207, s1208, s1210, s1211, s1212, hr1335, hl1196, hr1336, h1332, hs1334⟩
      · rintro σ1201 w1200 ⟨d1183, a1184, c1185, s1338, s1339, s1340, s1341, s1342, he1203, hl1205, he1204, h1337, hs1202⟩
        subst hK1187
        refine blockN ?_
        refine thenN ?_
        refine WC.region ?_
        obtain ⟨hg1343, h1344⟩ := ckE (c := -9223372036854775808 ≤ i915 + 1 ∧ i915 + 1 ≤ 9223372036854775807) h1337
        refine WL.val (R.add (a := i915) (b := 1) (z := i915 + 1) (by exact s1342) rfl (w64e rfl hg1343.1 hg1343.2)) rfl ?_
        refine WL.val (R.move (v := Value.int .i64 (i915 + 1)) rfl) rfl ?_
        refine WL.nil ?_
        exact roundEnd (s := k928) ⟨i915 + 1, d1183, a1184, c1185, s1338, s1339, s1340, s1341, rfl, he1203, hl1205, he1204, h1344, hs1202⟩ (Nat.lt_succ_self _)
    · have h1345 := ifF hc944 h938
      refine WL.val (R.lssF (k := .i64) (a := i915) (b := ((p0.length : Nat) : Int)) un3 (by exact s943) (by exact s942) hc944) rfl ?_
      refine WL.nil ?_
      refine thenN ?_
      refine WC.seq ?_
      refine WC.condF rfl rfl ?_
      refine WC.exit ?_
      refine thenE ?_
      refine thenE ?_
      refine blockHit ?_
      exact joinI ⟨d916, a917, c918, s940, hl931, he930, h1345, hs927⟩
  · rintro σ934 w933 ⟨d919, a920, c921, s1347, hl937, he936, h1346, hs935⟩
    subst hK923
    refine thenN ?_
    refine WC.seq ?_
    refine WC.region ?_
    refine WL.val (R.loadA (cs := encR d919 (Value.slice a920 d919.table.length c921)) (n := 57) ag62 (by exact s1347) (hs935.at (i := 0) (off := 0) (n := 57) (cs := encR d919 (Value.slice a920 d919.table.length c921)) rfl rfl rfl) rfl) rfl ?_
    refine WL.sto (L' := [blk b102 62 (encR d919 (Value.slice a920 d919.table.length c921))]) (X.store (i := 0) (n := 57) (b := b102) (off := 0) (c := encR d919 (Value.slice a920 d919.table.length c921)) (U := 62) (vs := encR d919 (Value.slice a920 d919.table.length c921)) (v := Value.agg (List.toArray (encR d919 (Value.slice a920 d919.table.length c921)))) (c' := encR d919 (Value.slice a920 d919.table.length c921)) (hs935.here) rfl ag62.size (by exact s1347) rfl rfl rfl rfl rfl rfl rfl) rfl rfl ?_
    intro w1348 ht1349
    have hs1350 := hs935.trans ht1349
    refine WL.nil ?_
    refine thenN ?_
    refine WC.ret ?_
    have hl1351 := run_loadA (P := Try.prog) (n := 57) ag62 (hs1350.at (i := 0) (off := 0) (n := 57) (cs := encR d919 (Value.slice a920 d919.table.length c921)) rfl rfl rfl) rfl
    have ht1352 := (hs1350.here).perm (L' := []) (G := [blk b102 62 (encR d919 (Value.slice a920 d919.table.length c921))]) ((List.Perm.refl _))
    have hs1353 := hs1350.trans ht1352
    have hr1354 := elT (ht1349.trans ht1352) he936
    obtain rfl := Option.some.inj (show some d919 = some r from h1346)
    exact retCell (P := Try.prog) (n := 46) (fn := Try.f138) (R := fun v w' => ∃ ra0, ∃ rc0, v = Value.agg (List.toArray (encR d919 (Value.slice ra0 d919.table.length rc0))) ∧ d919.table.length ≤ rc0 ∧ elems heldW w' (In ok w [] []) ra0 d919.table ∧ St [] w w' []) (t := 2) (v := Value.agg (List.toArray (encR d919 (Value.slice a920 d919.table.length c921)))) rfl s1347 rfl hl1351 ⟨a920, c921, rfl, hl937, hr1354, hs1353⟩

theorem was14_ok (w : World) (ok : Nat → Prop) (p0 : Int) (q1 : Int × Int × Int × Bool × (List (((List Rw) × (List Rw)) × ((List Rw) × (List Rw))))) (q2 : Int) (b0r1 : Nat) (bi0r1 : Nat) (a0r1a : Option Addr) (c0r1b : Nat) (b0r2 : Nat) (hr0 : At w ok ⟨b0r1, 0, none⟩ [Value.pointer (some ⟨bi0r1, 0, none⟩)]) (hr1 : At w ok ⟨bi0r1, 0, none⟩ [Value.int .i64 q1.1, Value.int .i64 q1.2.1, Value.int .i64 q1.2.2.1, Value.bool q1.2.2.2.1, Value.slice a0r1a q1.2.2.2.2.length c0r1b]) (hrl1_0 : q1.2.2.2.2.length ≤ c0r1b) (hre1_0 : elems momU w ok a0r1a q1.2.2.2.2) (hr2 : At w ok ⟨b0r2, 0, none⟩ [Value.int .i64 q2]) {r : (((List Rw) × (List Rw)) × ((List Rw) × (List Rw)))} (h : was14 p0 q1 q2 = some r) :
    Ret Try.prog 123 [Value.int .i64 p0, Value.pointer (some ⟨b0r1, 0, none⟩), Value.pointer (some ⟨b0r2, 0, none⟩)] w (fun v w' => ∃ ra0, ∃ rc0, ∃ rn0, ∃ ra1, ∃ rc1, ∃ ra2, ∃ rc2, ∃ rn2, ∃ ra3, ∃ rc3, v = Value.agg (List.toArray [Value.slice ra0 rn0 rc0, Value.slice ra1 r.1.2.length rc1, Value.slice ra2 rn2 rc2, Value.slice ra3 r.2.2.length rc3]) ∧ r.1.1.length ≤ rn0 ∧ elems rowW w' (In ok w [] []) ra0 r.1.1 ∧ r.1.2.length ≤ rc1 ∧ elems rowW w' (In ok w [] []) ra1 r.1.2 ∧ r.2.1.length ≤ rn2 ∧ elems rowW w' (In ok w [] []) ra2 r.2.1 ∧ r.2.2.length ≤ rc3 ∧ elems rowW w' (In ok w [] []) ra3 r.2.2 ∧ St [] w w' []) := by
  rw [was14] at h
  have hs100 : St [] w w [] := St.start w
  have hat101 := at0 (L0 := []) (fun b _ => out_nil b) hr0
  have hat103 := at0 (L0 := []) (fun b _ => out_nil b) hr1
  have he105 := el0 (L0 := []) (fun b _ => out_nil b) hre1_0
  have hat107 := at0 (L0 := []) (fun b _ => out_nil b) hr2
  refine enter (n := 20) Try.func123 rfl rfl rfl ?_
  refine WC.seq ?_
  refine WC.region ?_
  refine WL.new (L' := fun b109 => [blk b109 249 [Value.slice none 0 0, Value.slice none 0 0, Value.slice none 0 0, Value.slice none 0 0]]) (f := fun b109 => Value.pointer (some ⟨b109, 0, none⟩)) (X.alloc (c := [Value.slice none 0 0, Value.slice none 0 0, Value.slice none 0 0, Value.slice none 0 0]) (hs100.here) zr249 rfl (fun _ => rfl)) rfl ?_
  intro b109 w110 ht115 he112 hz113
  have hs116 := hs100.trans ht115
  refine WL.nil ?_
  refine thenN ?_
  refine WC.seq ?_
  refine WC.drawE mixed (NP.then NP.rq) ?_
  have ht117 := (hs116.here).ext (Ext.drew _)
  have hs118 := hs116.trans ht117
  have hr119 := At.trT (ht115.trans ht117) hat101
  refine WE.take 0 rfl (by decide +kernel) (by decide +kernel) (by decide +kernel) (by decide +kernel) rfl rfl (fun wq hq => R.loadL (v := Value.pointer (some ⟨bi0r1, 0, none⟩)) lf151 rfl (At.exT hq hr119)) ?_
  refine WE.take 1 rfl (by decide +kernel) (by decide +kernel) (by decide +kernel) (by decide +kernel) rfl rfl (fun wq hq => R.nilCheckP (a := ⟨bi0r1, 0, none⟩) rfl) ?_
  refine WE.take 2 rfl (by decide +kernel) (by decide +kernel) (by decide +kernel) (by decide +kernel) rfl rfl (fun wq hq => R.fieldAddr (o := 0) (o' := 4) fa174_4 rfl rfl) ?_
  have hr120 := At.trT (ht115.trans ht117) hat103
  refine WE.take 3 rfl (by decide +kernel) (by decide +kernel) (by decide +kernel) (by decide +kernel) rfl rfl (fun wq hq => R.loadL (v := Value.slice a0r1a q1.2.2.2.2.length c0r1b) lf172 rfl (At.sub (a := ⟨bi0r1, 0, none⟩) (off := 4) (n := 1) (cs := [Value.int .i64 q1.1, Value.int .i64 q1.2.1, Value.int .i64 q1.2.2.1, Value.bool q1.2.2.2.1, Value.slice a0r1a q1.2.2.2.2.length c0r1b]) (ds := [Value.slice a0r1a q1.2.2.2.2.length c0r1b]) (At.exT hq hr120) rfl rfl)) ?_
  have hr121 := At.trT (ht115.trans ht117) hat107
  refine WE.take 4 rfl (by decide +kernel) (by decide +kernel) (by decide +kernel) (by decide +kernel) rfl rfl (fun wq hq => R.loadL (v := Value.int .i64 q2) lf3 rfl (At.exT hq hr121)) ?_
  refine WE.take 5 rfl (by decide +kernel) (by decide +kernel) (by decide +kernel) (by decide +kernel) rfl rfl (fun wq hq => R.move (v := Value.int .i64 p0) rfl) ?_
  obtain ⟨hg122, h123⟩ := ckE (c := -9223372036854775808 ≤ q2 - p0 ∧ q2 - p0 ≤ 9223372036854775807) h
  refine WE.take 6 rfl (by decide +kernel) (by decide +kernel) (by decide +kernel) (by decide +kernel) rfl rfl (fun wq hq => R.sub (a := q2) (b := p0) (z := q2 - p0) rfl rfl (w64e rfl hg122.1 hg122.2)) ?_
  refine WE.take 7 rfl (by decide +kernel) (by decide +kernel) (by decide +kernel) (by decide +kernel) rfl rfl (fun wq hq => R.loadL (v := Value.pointer (some ⟨bi0r1, 0, none⟩)) lf151 rfl (At.exT hq hr119)) ?_
  refine WE.take 8 rfl (by decide +kernel) (by decide +kernel) (by decide +kernel) (by decide +kernel) rfl rfl (fun wq hq => R.nilCheckP (a := ⟨bi0r1, 0, none⟩) rfl) ?_
  refine WE.take 9 rfl (by decide +kernel) (by decide +kernel) (by decide +kernel) (by decide +kernel) rfl rfl (fun wq hq => R.fieldAddr (o := 0) (o' := 0) fa174_0 rfl rfl) ?_
  refine WE.take 10 rfl (by decide +kernel) (by decide +kernel) (by decide +kernel) (by decide +kernel) rfl rfl (fun wq hq => R.loadL (v := Value.int .i64 q1.1) lf3 rfl (At.sub (a := ⟨bi0r1, 0, none⟩) (off := 0) (n := 1) (cs := [Value.int .i64 q1.1, Value.int .i64 q1.2.1, Value.int .i64 q1.2.2.1, Value.bool q1.2.2.2.1, Value.slice a0r1a q1.2.2.2.2.length c0r1b]) (ds := [Value.int .i64 q1.1]) (At.exT hq hr120) rfl rfl)) ?_
  obtain ⟨hg124, h125⟩ := ckE (c := -9223372036854775808 ≤ q1.1 + 1 ∧ q1.1 + 1 ≤ 9223372036854775807) h123
  refine WE.take 11 rfl (by decide +kernel) (by decide +kernel) (by decide +kernel) (by decide +kernel) rfl rfl (fun wq hq => R.add (a := q1.1) (b := 1) (z := q1.1 + 1) rfl rfl (w64e rfl hg124.1 hg124.2)) ?_
  obtain ⟨hg126, h127⟩ := ckE (c := 0 ≤ q2 - p0 ∧ 0 < (q1.1 + 1 : Int) ∧ (q1.1 + 1 : Int) ≤ 9223372036854775807) h125
  refine WE.take 12 rfl (by decide +kernel) (by decide +kernel) (by decide +kernel) (by decide +kernel) rfl rfl (fun wq hq => R.remG (a := q2 - p0) (b := q1.1 + 1) rfl rfl hg126 (by decide)) ?_
  obtain ⟨x128, hx129, h130⟩ := ob (o := rd q1.2.2.2.2 ((q2 - p0) % (q1.1 + 1))) h127
  obtain ⟨h0131, hx132, hl133, hm134⟩ := rdE hx129
  have hr135 := elT (ht115.trans ht117) he105
  obtain ⟨ad136, e141, ha137, hp138, hat139, hrd140⟩ := hr135 _ _ hx132
  obtain ⟨cs142, cs143, rfl, hp144, hp145⟩ := hrd140
  obtain ⟨cs146, cs147, rfl, hp148, hp149⟩ := hp144
  obtain ⟨a150, n154, c151, rfl, hl152, he153⟩ := hp148
  obtain ⟨a156, c157, rfl, hl158, he159⟩ := hp149
  obtain ⟨cs161, cs162, rfl, hp163, hp164⟩ := hp145
  obtain ⟨a165, n169, c166, rfl, hl167, he168⟩ := hp163
  obtain ⟨a171, c172, rfl, hl173, he174⟩ := hp164
  refine WE.take 13 rfl (by decide +kernel) (by decide +kernel) (by decide +kernel) (by decide +kernel) rfl rfl (fun wq hq => R.indexS (n := 4) (m := ((q2 - p0) % (q1.1 + 1)).toNat) (a := a0r1a) (ad := ad136) (len := q1.2.2.2.2.length) (cap := c0r1b) (z := (q2 - p0) % (q1.1 + 1)) un172 ag249.size rfl ha137 rfl hm134 hl133 hp138) ?_
  refine WE.take 14 rfl (by decide +kernel) (by decide +kernel) (by decide +kernel) (by decide +kernel) rfl rfl (fun wq hq => R.loadA (cs := [Value.slice a150 n154 c151, Value.slice a156 x128.1.2.length c157, Value.slice a165 n169 c166, Value.slice a171 x128.2.2.length c172]) (n := 4) ag249 rfl (At.exT hq hat139) rfl) ?_
  refine WE.sto (L' := [blk b109 249 [Value.slice a150 n154 c151, Value.slice a156 x128.1.2.length c157, Value.slice a165 n169 c166, Value.slice a171 x128.2.2.length c172]]) 15 (by decide +kernel) (by decide +kernel) rfl rfl rfl rfl (X.store (i := 0) (n := 4) (b := b109) (off := 0) (c := [Value.slice none 0 0, Value.slice none 0 0, Value.slice none 0 0, Value.slice none 0 0]) (U := 249) (vs := [Value.slice a150 n154 c151, Value.slice a156 x128.1.2.length c157, Value.slice a165 n169 c166, Value.slice a171 x128.2.2.length c172]) (v := Value.agg (List.toArray [Value.slice a150 n154 c151, Value.slice a156 x128.1.2.length c157, Value.slice a165 n169 c166, Value.slice a171 x128.2.2.length c172])) (c' := [Value.slice a150 n154 c151, Value.slice a156 x128.1.2.length c157, Value.slice a165 n169 c166, Value.slice a171 x128.2.2.length c172]) (hs118.here) rfl ag249.size rfl rfl rfl rfl rfl rfl rfl rfl) ?_
  intro w177 ht178
  have hs179 := hs118.trans ht178
  refine WE.done (by decide +kernel) ?_
  refine thenN ?_
  refine WC.ret ?_
  have hl180 := run_loadA (P := Try.prog) (n := 4) ag249 (hs179.at (i := 0) (off := 0) (n := 4) (cs := [Value.slice a150 n154 c151, Value.slice a156 x128.1.2.length c157, Value.slice a165 n169 c166, Value.slice a171 x128.2.2.length c172]) rfl rfl rfl) rfl
  have ht181 := (hs179.here).perm (L' := []) (G := [blk b109 249 [Value.slice a150 n154 c151, Value.slice a156 x128.1.2.length c157, Value.slice a165 n169 c166, Value.slice a171 x128.2.2.length c172]]) ((List.Perm.refl _))
  have hs182 := hs179.trans ht181
  have hr183 := elT (ht178.trans ht181) he153
  have hr184 := elT (ht178.trans ht181) he159
  have hr185 := elT (ht178.trans ht181) he168
  have hr186 := elT (ht178.trans ht181) he174
  obtain rfl := Option.some.inj (show some x128 = some r from h130)
  exact retCell (P := Try.prog) (n := 20) (fn := Try.f123) (R := fun v w' => ∃ ra0, ∃ rc0, ∃ rn0, ∃ ra1, ∃ rc1, ∃ ra2, ∃ rc2, ∃ rn2, ∃ ra3, ∃ rc3, v = Value.agg (List.toArray [Value.slice ra0 rn0 rc0, Value.slice ra1 x128.1.2.length rc1, Value.slice ra2 rn2 rc2, Value.slice ra3 x128.2.2.length rc3]) ∧ x128.1.1.length ≤ rn0 ∧ elems rowW w' (In ok w [] []) ra0 x128.1.1 ∧ x128.1.2.length ≤ rc1 ∧ elems rowW w' (In ok w [] []) ra1 x128.1.2 ∧ x128.2.1.length ≤ rn2 ∧ elems rowW w' (In ok w [] []) ra2 x128.2.1 ∧ x128.2.2.length ≤ rc3 ∧ elems rowW w' (In ok w [] []) ra3 x128.2.2 ∧ St [] w w' []) (t := 4) (v := Value.agg (List.toArray [Value.slice a150 n154 c151, Value.slice a156 x128.1.2.length c157, Value.slice a165 n169 c166, Value.slice a171 x128.2.2.length c172])) rfl rfl rfl hl180 ⟨a150, c151, n154, a156, c157, a165, c166, n169, a171, c172, rfl, hl152, hr183, hl158, hr184, hl167, hr185, hl173, hr186, hs182⟩

theorem of14_ok (w : World) (ok : Nat → Prop) (q0 : Int × Int × Int × Bool × (List (((List Rw) × (List Rw)) × ((List Rw) × (List Rw))))) (p1 : Int) (q41 : Int) (b0r0 : Nat) (a0r0 : Option Addr) (c0r0a : Nat) (b0r40 : Nat) (b0r41 : Nat) (hr0 : At w ok ⟨b0r0, 0, none⟩ [Value.int .i64 q0.1, Value.int .i64 q0.2.1, Value.int .i64 q0.2.2.1, Value.bool q0.2.2.2.1, Value.slice a0r0 q0.2.2.2.2.length c0r0a]) (hrl0_0 : q0.2.2.2.2.length ≤ c0r0a) (hre0_0 : elems momU w ok a0r0 q0.2.2.2.2) (hr1 : At w ok ⟨b0r40, 0, none⟩ [Value.pointer (some ⟨b0r0, 0, none⟩)]) (hr2 : At w ok ⟨b0r41, 0, none⟩ [Value.int .i64 q41]) {r : Rw} (h : of14 q0 p1 q41 = some r) :
    Ret Try.prog 124 [Value.pointer (some ⟨b0r0, 0, none⟩), Value.int .i64 p1, Value.func (.func 123) #[] (List.toArray [Value.pointer (some ⟨b0r40, 0, none⟩), Value.pointer (some ⟨b0r41, 0, none⟩)])] w (fun v w' => ∃ ra0, ∃ rc0, v = Value.agg (List.toArray (encR r (Value.slice ra0 r.table.length rc0))) ∧ r.table.length ≤ rc0 ∧ elems heldW w' (In ok w [] []) ra0 r.table ∧ St [] w w' []) := by
  rw [of14] at h
  have hs100 : St [] w w [] := St.start w
  have hat101 := at0 (L0 := []) (fun b _ => out_nil b) hr0
  have he103 := el0 (L0 := []) (fun b _ => out_nil b) hre0_0
  have hat105 := at0 (L0 := []) (fun b _ => out_nil b) hr1
  have hat107 := at0 (L0 := []) (fun b _ => out_nil b) hr2
  refine enter (n := 59) Try.func124 rfl rfl rfl ?_
  refine WC.seq ?_
  refine WC.region ?_
  refine WL.new (L' := fun b109 => [blk b109 62 (encR Rw.none (Value.slice none 0 0))]) (f := fun b109 => Value.pointer (some ⟨b109, 0, none⟩)) (X.alloc (c := encR Rw.none (Value.slice none 0 0)) (hs100.here) zr62 rfl (fun _ => rfl)) rfl ?_
  intro b109 w110 ht115 he112 hz113
  have hs116 := hs100.trans ht115
  refine WL.nil ?_
  refine thenN ?_
  refine WC.seq ?_
  refine WC.seq ?_
  refine WC.region ?_
  refine WL.val (R.move (v := Value.int .i64 p1) rfl) rfl ?_
  refine WL.val (R.move (v := Value.pointer (some ⟨b0r0, 0, none⟩)) rfl) rfl ?_
  refine WL.val (R.nilCheckP (a := ⟨b0r0, 0, none⟩) rfl) rfl ?_
  refine WL.val (R.fieldAddr (o := 0) (o' := 1) fa174_1 rfl rfl) rfl ?_
  have hr117 := At.trT ht115 hat101
  refine WL.val (R.loadL (v := Value.int .i64 q0.2.1) lf3 rfl (At.sub (a := ⟨b0r0, 0, none⟩) (off := 1) (n := 1) (cs := [Value.int .i64 q0.1, Value.int .i64 q0.2.1, Value.int .i64 q0.2.2.1, Value.bool q0.2.2.2.1, Value.slice a0r0 q0.2.2.2.2.length c0r0a]) (ds := [Value.int .i64 q0.2.1]) hr117 rfl rfl)) rfl ?_
  by_cases hc118 : p1 = q0.2.1
  · have h119 := ifT hc118 h
    refine WL.val (R.eqlT (k := .i64) (a := p1) (b := q0.2.1) un3 rfl rfl hc118) rfl ?_
    refine WL.nil ?_
    refine thenN ?_
    refine WC.condT rfl rfl ?_
    refine WC.seq ?_
    refine WC.region ?_
    refine WL.val (R.move (v := Value.func (.func 123) #[] (List.toArray [Value.pointer (some ⟨b0r40, 0, none⟩), Value.pointer (some ⟨b0r41, 0, none⟩)])) rfl) rfl ?_
    refine WL.val (R.move (v := Value.pointer (some ⟨b0r0, 0, none⟩)) rfl) rfl ?_
    refine WL.val (R.nilCheckP (a := ⟨b0r0, 0, none⟩) rfl) rfl ?_
    refine WL.val (R.fieldAddr (o := 0) (o' := 0) fa174_0 rfl rfl) rfl ?_
    refine WL.val (R.loadL (v := Value.int .i64 q0.1) lf3 rfl (At.sub (a := ⟨b0r0, 0, none⟩) (off := 0) (n := 1) (cs := [Value.int .i64 q0.1, Value.int .i64 q0.2.1, Value.int .i64 q0.2.2.1, Value.bool q0.2.2.2.1, Value.slice a0r0 q0.2.2.2.2.length c0r0a]) (ds := [Value.int .i64 q0.1]) hr117 rfl rfl)) rfl ?_
    obtain ⟨y120, hx121, h122⟩ := ob (o := was14 q0.1 q0 q41) h119
    have hr123 := At.trT ht115 hat105
    have hr124 := elT ht115 he103
    have hr125 := At.trT ht115 hat107
    refine WL.call (was14_ok _ _ q0.1 q0 q41  b0r40 b0r0 _ _ b0r41 hr123 hr117 hrl0_0 hr124 hr125 hx121) (R.call (vs := [Value.int .i64 q0.1]) (caps := [Value.pointer (some ⟨b0r40, 0, none⟩), Value.pointer (some ⟨b0r41, 0, none⟩)]) bo123 rfl rfl) rfl ?_
    rintro v146 w147 ⟨a128, c129, n130, a131, c132, a133, c134, n135, a136, c137, rfl, hl138, he139, hl140, he141, hl142, he143, hl144, he145, ht126⟩
    have ht127 := hs116.call (N := [blk b109 62 (encR Rw.none (Value.slice none 0 0))]) (M := []) (List.Perm.refl _) ht126
    have he148 := elC hs116 (M := []) (List.Perm.refl _) ht126 he139
    have he149 := elC hs116 (M := []) (List.Perm.refl _) ht126 he141
    have he150 := elC hs116 (M := []) (List.Perm.refl _) ht126 he143
    have he151 := elC hs116 (M := []) (List.Perm.refl _) ht126 he145
    have hs152 := hs116.trans ht127
    have hd157 : ∀ w, (Instr.index 249 (Value.agg (List.toArray [Value.slice a128 n130 c129, Value.slice a131 y120.1.2.length c132, Value.slice a133 n135 c134, Value.slice a136 y120.2.2.length c137])) (.int .i64 0)).run Try.prog w = .ok (Value.agg (List.toArray [Value.slice a128 n130 c129, Value.slice a131 y120.1.2.length c132])) w := fun _ => by kernel_rfl
    refine WL.val (R.indexV rfl rfl hd157) rfl ?_
    have hd158 : ∀ w, (Instr.field 246 (Value.agg (List.toArray [Value.slice a128 n130 c129, Value.slice a131 y120.1.2.length c132])) 0).run Try.prog w = .ok (Value.slice a128 n130 c129) w := fun _ => by kernel_rfl
    refine WL.val (R.fieldV rfl hd158) rfl ?_
    refine WL.val (R.move (v := Value.int .i64 p1) rfl) rfl ?_
    obtain ⟨x159, hx160, h161⟩ := ob (o := rd y120.1.1 p1) h122
    obtain ⟨h0162, hx163, hl164, hm165⟩ := rdE hx160
    obtain ⟨ad166, e171, ha167, hp168, hat169, hrd170⟩ := he148 _ _ hx163
    obtain ⟨t172, rfl, a174, c175, he178, hl176, he177⟩ := hrd170
    cases he178
    refine WL.val (R.indexS (n := 57) (m := (p1).toNat) (a := a128) (ad := ad166) (len := n130) (cap := c129) (z := p1) un22 ag62.size rfl ha167 rfl hm165 (Nat.lt_of_lt_of_le hl164 hl138) hp168) rfl ?_
    refine WL.val (R.loadA (cs := encR x159 (Value.slice a174 x159.table.length c175)) (n := 57) ag62 rfl hat169 rfl) rfl ?_
    refine WL.sto (L' := [blk b109 62 (encR x159 (Value.slice a174 x159.table.length c175))]) (X.store (i := 0) (n := 57) (b := b109) (off := 0) (c := encR Rw.none (Value.slice none 0 0)) (U := 62) (vs := encR x159 (Value.slice a174 x159.table.length c175)) (v := Value.agg (List.toArray (encR x159 (Value.slice a174 x159.table.length c175)))) (c' := encR x159 (Value.slice a174 x159.table.length c175)) (hs152.here) rfl ag62.size rfl rfl rfl rfl rfl rfl rfl rfl) rfl rfl ?_
    intro w181 ht182
    have hs183 := hs152.trans ht182
    refine WL.nil ?_
    refine thenN ?_
    refine WC.ret ?_
    have hl184 := run_loadA (P := Try.prog) (n := 57) ag62 (hs183.at (i := 0) (off := 0) (n := 57) (cs := encR x159 (Value.slice a174 x159.table.length c175)) rfl rfl rfl) rfl
    have ht185 := (hs183.here).perm (L' := []) (G := [blk b109 62 (encR x159 (Value.slice a174 x159.table.length c175))]) ((List.Perm.refl _))
    have hs186 := hs183.trans ht185
    have hr187 := elT (ht182.trans ht185) he177
    obtain rfl := Option.some.inj (show some x159 = some r from h161)
    exact retCell (P := Try.prog) (n := 59) (fn := Try.f124) (R := fun v w' => ∃ ra0, ∃ rc0, v = Value.agg (List.toArray (encR x159 (Value.slice ra0 x159.table.length rc0))) ∧ x159.table.length ≤ rc0 ∧ elems heldW w' (In ok w [] []) ra0 x159.table ∧ St [] w w' []) (t := 6) (v := Value.agg (List.toArray (encR x159 (Value.slice a174 x159.table.length c175)))) rfl rfl rfl hl184 ⟨a174, c175, rfl, hl176, hr187, hs186⟩
  · have h188 := ifF hc118 h
    refine WL.val (R.eqlF (k := .i64) (a := p1) (b := q0.2.1) un3 rfl rfl hc118) rfl ?_
    refine WL.nil ?_
    refine thenN ?_
    refine WC.condF rfl rfl ?_
    refine WC.skip ?_
    refine thenN ?_
    refine WC.seq ?_
    refine WC.region ?_
    refine WL.val (R.assign (v := Value.slice none 0 0) rfl) rfl ?_
    refine WL.nil ?_
    refine thenN ?_
    refine WC.seq ?_
    refine WC.seq ?_
    refine WC.region ?_
    refine WL.val (R.move (v := Value.int .i64 0) rfl) rfl ?_
    refine WL.nil ?_
    refine thenN ?_
    have ht670 := (hs116.here).addNil 62 (rawE 57) rfl
    have hs672 := hs116.trans ht670
    have hr673 : readsL (n := 57) rowW w110 (In (fun _ => False) w [] [blk b109 62 (encR Rw.none (Value.slice none 0 0)), gsl 62 (rawE 57) (Value.slice none 0 0) []]) [] [] := readsL_nil
    have hr1759 := elT (ht115.trans ht670) he103
    have hr1760 := At.trT ht670 hr117
    have hr1761 := At.trT (ht115.trans ht670) hat105
    have hr1762 := At.trT (ht115.trans ht670) hat107
    obtain ⟨K1747, hK1748, h1749⟩ := kE (G := fun K1747 => of14_l1 p1 q0 q41 K1747 1000000 0 ([] : List Rw)) h188
    refine WC.join (fun σ1764 w1763 => ∃ l1743 : List Rw, ∃ rs1744, ∃ a1745, ∃ c1746, σ1764 6 = (Value.pointer (some ⟨b109, 0, none⟩)) ∧ σ1764 7 = (Value.slice a1745 l1743.length c1746) ∧ readsL rowW w1763 (In ok w [] [blk b109 62 (encR Rw.none (Value.slice none 0 0)), gsl 62 (rawE 57) (Value.slice a1745 l1743.length c1746) rs1744]) l1743 rs1744 ∧ K1747 l1743 = some r ∧ St [] w w1763 [blk b109 62 (encR Rw.none (Value.slice none 0 0)), gsl 62 (rawE 57) (Value.slice a1745 l1743.length c1746) rs1744]) ?_ ?_
    · refine WC.block ?_
      refine WC.loop (T := Nat) (fun k1753 σ1751 w1750 => ∃ i1738 : Int, ∃ l1739 : List Rw, ∃ rs1740, ∃ a1741, ∃ c1742, σ1751 0 = (Value.pointer (some ⟨b0r0, 0, none⟩)) ∧ σ1751 1 = (Value.int .i64 p1) ∧ σ1751 2 = (Value.func (.func 123) #[] (List.toArray [Value.pointer (some ⟨b0r40, 0, none⟩), Value.pointer (some ⟨b0r41, 0, none⟩)])) ∧ σ1751 6 = (Value.pointer (some ⟨b109, 0, none⟩)) ∧ σ1751 7 = (Value.slice a1741 l1739.length c1742) ∧ σ1751 27 = (Value.int .i64 i1738) ∧ elems momU w1750 (In ok w [] [blk b109 62 (encR Rw.none (Value.slice none 0 0)), gsl 62 (rawE 57) (Value.slice a1741 l1739.length c1742) rs1740]) a0r0 q0.2.2.2.2 ∧ At w1750 (In ok w [] [blk b109 62 (encR Rw.none (Value.slice none 0 0)), gsl 62 (rawE 57) (Value.slice a1741 l1739.length c1742) rs1740]) ⟨b0r0, 0, none⟩ [Value.int .i64 q0.1, Value.int .i64 q0.2.1, Value.int .i64 q0.2.2.1, Value.bool q0.2.2.2.1, Value.slice a0r0 q0.2.2.2.2.length c0r0a] ∧ At w1750 (In ok w [] [blk b109 62 (encR Rw.none (Value.slice none 0 0)), gsl 62 (rawE 57) (Value.slice a1741 l1739.length c1742) rs1740]) ⟨b0r40, 0, none⟩ [Value.pointer (some ⟨b0r0, 0, none⟩)] ∧ At w1750 (In ok w [] [blk b109 62 (encR Rw.none (Value.slice none 0 0)), gsl 62 (rawE 57) (Value.slice a1741 l1739.length c1742) rs1740]) ⟨b0r41, 0, none⟩ [Value.int .i64 q41] ∧ readsL rowW w1750 (In ok w [] [blk b109 62 (encR Rw.none (Value.slice none 0 0)), gsl 62 (rawE 57) (Value.slice a1741 l1739.length c1742) rs1740]) l1739 rs1740 ∧ of14_l1 p1 q0 q41 K1747 k1753 i1738 l1739 = some r ∧ St [] w w1750 [blk b109 62 (encR Rw.none (Value.slice none 0 0)), gsl 62 (rawE 57) (Value.slice a1741 l1739.length c1742) rs1740]) (fun k1753 => k1753) 1000000 ⟨0, ([] : List Rw), [], none, 0, rfl, rfl, rfl, rfl, rfl, rfl, hr1759, hr1760, hr1761, hr1762, (rlN (ok' := ok) hr673), h1749, hs672⟩ ?_
      rintro k1753 σ1751 w1750 ⟨i1738, l1739, rs1740, a1741, c1742, s1768, s1769, s1770, s1771, s1772, s1773, he1754, hat1755, hat1756, hat1757, hr1758, h1767, hs1752⟩
      rcases k1753 with _ | k1753
      · rw [of14_l1] at h1767; cases h1767
      rw [of14_l1] at h1767
      refine WC.seq ?_
      refine WC.region ?_
      by_cases hc1774 : i1738 < 2
      · have h1775 := ifT hc1774 h1767
        refine WL.val (R.lssT (k := .i64) (a := i1738) (b := 2) un3 (by exact s1773) rfl hc1774) rfl ?_
        refine WL.nil ?_
        refine thenN ?_
        refine WC.seq ?_
        refine WC.condT rfl rfl ?_
        refine WC.skip ?_
        refine thenN ?_
        refine WC.seq ?_
        refine WC.block ?_
        refine WC.seq ?_
        refine WC.region ?_
        refine WL.val (R.move (v := Value.int .i64 i1738) (by exact s1773)) rfl ?_
        refine WL.val (R.assign (v := Value.int .i64 i1738) rfl) rfl ?_
        refine WL.nil ?_
        refine thenN ?_
        obtain ⟨J1991, hJ1992, h1993⟩ := jnE h1775
        refine WC.seq ?_
        refine WC.join (fun σ1995 w1994 => ∃ l1984 : List Rw, ∃ l1988 : List Rw, ∃ b1983, ∃ a1985, ∃ c1986, ∃ n1987, ∃ a1989, ∃ c1990, σ1995 0 = (Value.pointer (some ⟨b0r0, 0, none⟩)) ∧ σ1995 1 = (Value.int .i64 p1) ∧ σ1995 2 = (Value.func (.func 123) #[] (List.toArray [Value.pointer (some ⟨b0r40, 0, none⟩), Value.pointer (some ⟨b0r41, 0, none⟩)])) ∧ σ1995 6 = (Value.pointer (some ⟨b109, 0, none⟩)) ∧ σ1995 7 = (Value.slice a1741 l1739.length c1742) ∧ σ1995 9 = (Value.pointer (some ⟨b1983, 0, none⟩)) ∧ σ1995 27 = (Value.int .i64 i1738) ∧ elems momU w1994 (In ok w [] [blk b109 62 (encR Rw.none (Value.slice none 0 0)), gsl 62 (rawE 57) (Value.slice a1741 l1739.length c1742) rs1740, blk b1983 246 [Value.slice a1985 n1987 c1986, Value.slice a1989 l1988.length c1990]]) a0r0 q0.2.2.2.2 ∧ l1984.length ≤ n1987 ∧ elems rowW w1994 (In ok w [] [blk b109 62 (encR Rw.none (Value.slice none 0 0)), gsl 62 (rawE 57) (Value.slice a1741 l1739.length c1742) rs1740, blk b1983 246 [Value.slice a1985 n1987 c1986, Value.slice a1989 l1988.length c1990]]) a1985 l1984 ∧ l1988.length ≤ c1990 ∧ elems rowW w1994 (In ok w [] [blk b109 62 (encR Rw.none (Value.slice none 0 0)), gsl 62 (rawE 57) (Value.slice a1741 l1739.length c1742) rs1740, blk b1983 246 [Value.slice a1985 n1987 c1986, Value.slice a1989 l1988.length c1990]]) a1989 l1988 ∧ At w1994 (In ok w [] [blk b109 62 (encR Rw.none (Value.slice none 0 0)), gsl 62 (rawE 57) (Value.slice a1741 l1739.length c1742) rs1740, blk b1983 246 [Value.slice a1985 n1987 c1986, Value.slice a1989 l1988.length c1990]]) ⟨b0r0, 0, none⟩ [Value.int .i64 q0.1, Value.int .i64 q0.2.1, Value.int .i64 q0.2.2.1, Value.bool q0.2.2.2.1, Value.slice a0r0 q0.2.2.2.2.length c0r0a] ∧ At w1994 (In ok w [] [blk b109 62 (encR Rw.none (Value.slice none 0 0)), gsl 62 (rawE 57) (Value.slice a1741 l1739.length c1742) rs1740, blk b1983 246 [Value.slice a1985 n1987 c1986, Value.slice a1989 l1988.length c1990]]) ⟨b0r40, 0, none⟩ [Value.pointer (some ⟨b0r0, 0, none⟩)] ∧ At w1994 (In ok w [] [blk b109 62 (encR Rw.none (Value.slice none 0 0)), gsl 62 (rawE 57) (Value.slice a1741 l1739.length c1742) rs1740, blk b1983 246 [Value.slice a1985 n1987 c1986, Value.slice a1989 l1988.length c1990]]) ⟨b0r41, 0, none⟩ [Value.int .i64 q41] ∧ readsL rowW w1994 (In ok w [] [blk b109 62 (encR Rw.none (Value.slice none 0 0)), gsl 62 (rawE 57) (Value.slice a1741 l1739.length c1742) rs1740, blk b1983 246 [Value.slice a1985 n1987 c1986, Value.slice a1989 l1988.length c1990]]) l1739 rs1740 ∧ J1991 l1984 l1988 = some r ∧ St [] w w1994 [blk b109 62 (encR Rw.none (Value.slice none 0 0)), gsl 62 (rawE 57) (Value.slice a1741 l1739.length c1742) rs1740, blk b1983 246 [Value.slice a1985 n1987 c1986, Value.slice a1989 l1988.length c1990]]) ?_ ?_
        · refine WC.drawE mixed (NP.join (NP.then (NP.block (NP.then (NP.then (NP.block (NP.join (NP.then NP.rq)))))))) ?_
          have ht2006 := (hs1752.here).ext (Ext.drew _)
          have hs2007 := hs1752.trans ht2006
          refine WE.take 0 rfl (by decide +kernel) (by decide +kernel) (by decide +kernel) (by decide +kernel) rfl rfl (fun wq hq => R.move (v := Value.func (.func 123) #[] (List.toArray [Value.pointer (some ⟨b0r40, 0, none⟩), Value.pointer (some ⟨b0r41, 0, none⟩)])) (by exact s1770)) ?_
          refine WE.take 1 rfl (by decide +kernel) (by decide +kernel) (by decide +kernel) (by decide +kernel) rfl rfl (fun wq hq => R.move (v := Value.pointer (some ⟨b0r0, 0, none⟩)) (by exact s1768)) ?_
          refine WE.take 2 rfl (by decide +kernel) (by decide +kernel) (by decide +kernel) (by decide +kernel) rfl rfl (fun wq hq => R.nilCheckP (a := ⟨b0r0, 0, none⟩) rfl) ?_
          refine WE.take 3 rfl (by decide +kernel) (by decide +kernel) (by decide +kernel) (by decide +kernel) rfl rfl (fun wq hq => R.fieldAddr (o := 0) (o' := 0) fa174_0 rfl rfl) ?_
          have hr2008 := At.trT ht2006 hat1755
          refine WE.take 4 rfl (by decide +kernel) (by decide +kernel) (by decide +kernel) (by decide +kernel) rfl rfl (fun wq hq => R.loadL (v := Value.int .i64 q0.1) lf3 rfl (At.sub (a := ⟨b0r0, 0, none⟩) (off := 0) (n := 1) (cs := [Value.int .i64 q0.1, Value.int .i64 q0.2.1, Value.int .i64 q0.2.2.1, Value.bool q0.2.2.2.1, Value.slice a0r0 q0.2.2.2.2.length c0r0a]) (ds := [Value.int .i64 q0.1]) (At.exT hq hr2008) rfl rfl)) ?_
          refine WE.take 5 rfl (by decide +kernel) (by decide +kernel) (by decide +kernel) (by decide +kernel) rfl rfl (fun wq hq => R.move (v := Value.pointer (some ⟨b0r0, 0, none⟩)) (by exact s1768)) ?_
          refine WE.take 6 rfl (by decide +kernel) (by decide +kernel) (by decide +kernel) (by decide +kernel) rfl rfl (fun wq hq => R.move (v := Value.int .i64 i1738) rfl) ?_
          refine WE.take 7 rfl (by decide +kernel) (by decide +kernel) (by decide +kernel) (by decide +kernel) rfl rfl (fun wq hq => R.move (v := Value.int .i64 p1) (by exact s1769)) ?_
          refine WE.take 11 rfl (by decide +kernel) (by decide +kernel) (by decide +kernel) (by decide +kernel) rfl rfl (fun wq hq => R.move (v := Value.int .i64 i1738) rfl) ?_
          refine WE.two 8 13 (by decide +kernel) ?_ ?_
          · obtain ⟨y2009, hx2010, h2011⟩ := ob (o := dist14 q0 i1738 p1) h1993
            have hr2012 := elT ht2006 he1754
            refine WI.call 8 rfl rfl rfl (dist14_ok _ _ q0 i1738 p1  b0r0 _ _ hr2008 hrl0_0 hr2012 hx2010) (R.call (vs := [Value.pointer (some ⟨b0r0, 0, none⟩), Value.int .i64 i1738, Value.int .i64 p1]) (caps := []) bo137 rfl rfl) ?_
            rintro v2015 w2016 ⟨rfl, ht2013⟩
            refine ⟨.inr (show Ext _ _ from ht2013.kept), ?_⟩
            have ht2014 := hs2007.call (N := [blk b109 62 (encR Rw.none (Value.slice none 0 0)), gsl 62 (rawE 57) (Value.slice a1741 l1739.length c1742) rs1740]) (M := []) (List.Perm.refl _) ht2013
            have hs2017 := hs2007.trans ht2014
            obtain ⟨hg2018, h2019⟩ := ckE (c := -9223372036854775808 ≤ q0.1 - y2009 ∧ q0.1 - y2009 ≤ 9223372036854775807) h2011
            refine WE.take 9 rfl (by decide +kernel) (by decide +kernel) (by decide +kernel) (by decide +kernel) rfl rfl (fun wq hq => R.sub (a := q0.1) (b := y2009) (z := q0.1 - y2009) rfl rfl (w64e rfl hg2018.1 hg2018.2)) ?_
            refine WE.two 10 13 (by decide +kernel) ?_ ?_
            · obtain ⟨y2020, hx2021, h2022⟩ := ob (o := was14 (q0.1 - y2009) q0 q41) h2019
              have hr2023 := At.trT (ht2006.trans ht2014) hat1756
              have hr2024 := At.trT ht2014 hr2008
              have hr2025 := elT ht2014 hr2012
              have hr2026 := At.trT (ht2006.trans ht2014) hat1757
              refine WI.call 10 rfl rfl rfl (was14_ok _ _ (q0.1 - y2009) q0 q41  b0r40 b0r0 _ _ b0r41 hr2023 hr2024 hrl0_0 hr2025 hr2026 hx2021) (R.call (vs := [Value.int .i64 (q0.1 - y2009)]) (caps := [Value.pointer (some ⟨b0r40, 0, none⟩), Value.pointer (some ⟨b0r41, 0, none⟩)]) bo123 rfl rfl) ?_
              rintro v2047 w2048 ⟨a2029, c2030, n2031, a2032, c2033, a2034, c2035, n2036, a2037, c2038, rfl, hl2039, he2040, hl2041, he2042, hl2043, he2044, hl2045, he2046, ht2027⟩
              refine ⟨.inr (show Ext _ _ from ht2027.kept), ?_⟩
              have ht2028 := hs2017.call (N := [blk b109 62 (encR Rw.none (Value.slice none 0 0)), gsl 62 (rawE 57) (Value.slice a1741 l1739.length c1742) rs1740]) (M := []) (List.Perm.refl _) ht2027
              have he2049 := elC hs2017 (M := []) (List.Perm.refl _) ht2027 he2040
              have he2050 := elC hs2017 (M := []) (List.Perm.refl _) ht2027 he2042
              have he2051 := elC hs2017 (M := []) (List.Perm.refl _) ht2027 he2044
              have he2052 := elC hs2017 (M := []) (List.Perm.refl _) ht2027 he2046
              have hs2053 := hs2017.trans ht2028
              by_cases hc2058 : i1738 = 0
              · have h2059 := ifT hc2058 h2022
                have hd2060 : ∀ w, (Instr.index 249 (Value.agg (List.toArray [Value.slice a2029 n2031 c2030, Value.slice a2032 y2020.1.2.length c2033, Value.slice a2034 n2036 c2035, Value.slice a2037 y2020.2.2.length c2038])) (.int .i64 0)).run Try.prog w = .ok (Value.agg (List.toArray [Value.slice a2029 n2031 c2030, Value.slice a2032 y2020.1.2.length c2033])) w := fun _ => by kernel_rfl
                refine WE.take 12 rfl (by decide +kernel) (by decide +kernel) (by decide +kernel) (by decide +kernel) rfl rfl (fun wq hq => R.indexV rfl (Eq.trans (show _ = Value.int .i64 i1738 from rfl) (congrArg (Value.int .i64) hc2058)) hd2060) ?_
                refine WE.new (L' := fun b2061 => [blk b109 62 (encR Rw.none (Value.slice none 0 0)), gsl 62 (rawE 57) (Value.slice a1741 l1739.length c1742) rs1740, blk b2061 246 [Value.slice none 0 0, Value.slice none 0 0]]) (f := fun b2061 => Value.pointer (some ⟨b2061, 0, none⟩)) 13 (by decide +kernel) rfl rfl rfl (X.alloc (c := [Value.slice none 0 0, Value.slice none 0 0]) (hs2053.here) zr246 rfl (fun _ => rfl)) ?_
                intro b2061 w2062 ht2066 he2064 hz2065
                have hs2067 := hs2053.trans ht2066
                refine WE.sto (L' := [blk b109 62 (encR Rw.none (Value.slice none 0 0)), gsl 62 (rawE 57) (Value.slice a1741 l1739.length c1742) rs1740, blk b2061 246 [Value.slice a2029 n2031 c2030, Value.slice a2032 y2020.1.2.length c2033]]) 14 (by decide +kernel) (by decide +kernel) rfl rfl rfl rfl (X.store (i := 2) (n := 2) (b := b2061) (off := 0) (c := [Value.slice none 0 0, Value.slice none 0 0]) (U := 246) (vs := [Value.slice a2029 n2031 c2030, Value.slice a2032 y2020.1.2.length c2033]) (v := Value.agg (List.toArray [Value.slice a2029 n2031 c2030, Value.slice a2032 y2020.1.2.length c2033])) (c' := [Value.slice a2029 n2031 c2030, Value.slice a2032 y2020.1.2.length c2033]) (hs2067.here) rfl ag246.size rfl rfl rfl rfl rfl rfl rfl rfl) ?_
                intro w2068 ht2069
                have hs2070 := hs2067.trans ht2069
                refine WE.done (by decide +kernel) ?_
                have hr2071 := elT ((ht2028.trans ht2066).trans ht2069) hr2025
                have hr2072 := elT (ht2066.trans ht2069) he2049
                have hr2073 := elT (ht2066.trans ht2069) he2050
                have hr2074 := At.trT ((ht2028.trans ht2066).trans ht2069) hr2024
                have hr2075 := At.trT ((ht2028.trans ht2066).trans ht2069) hr2023
                have hr2076 := At.trT ((ht2028.trans ht2066).trans ht2069) hr2026
                have hr2077 := rlT ((((ht2006.trans ht2014).trans ht2028).trans ht2066).trans ht2069) hr1758
                exact joinI ⟨y2020.1.1, y2020.1.2, b2061, a2029, c2030, n2031, a2032, c2033, s1768, s1769, s1770, s1771, s1772, rfl, s1773, hr2071, hl2039, hr2072, hl2041, hr2073, hr2074, hr2075, hr2076, hr2077, h2059, hs2070⟩
              · have h2078 := ifF hc2058 h2022
                obtain ⟨hg2079, h2080⟩ := ckE (c := i1738 = 1) h2078
                have hd2081 : ∀ w, (Instr.index 249 (Value.agg (List.toArray [Value.slice a2029 n2031 c2030, Value.slice a2032 y2020.1.2.length c2033, Value.slice a2034 n2036 c2035, Value.slice a2037 y2020.2.2.length c2038])) (.int .i64 1)).run Try.prog w = .ok (Value.agg (List.toArray [Value.slice a2034 n2036 c2035, Value.slice a2037 y2020.2.2.length c2038])) w := fun _ => by kernel_rfl
                refine WE.take 12 rfl (by decide +kernel) (by decide +kernel) (by decide +kernel) (by decide +kernel) rfl rfl (fun wq hq => R.indexV rfl (Eq.trans (show _ = Value.int .i64 i1738 from rfl) (congrArg (Value.int .i64) hg2079)) hd2081) ?_
                refine WE.new (L' := fun b2082 => [blk b109 62 (encR Rw.none (Value.slice none 0 0)), gsl 62 (rawE 57) (Value.slice a1741 l1739.length c1742) rs1740, blk b2082 246 [Value.slice none 0 0, Value.slice none 0 0]]) (f := fun b2082 => Value.pointer (some ⟨b2082, 0, none⟩)) 13 (by decide +kernel) rfl rfl rfl (X.alloc (c := [Value.slice none 0 0, Value.slice none 0 0]) (hs2053.here) zr246 rfl (fun _ => rfl)) ?_
                intro b2082 w2083 ht2087 he2085 hz2086
                have hs2088 := hs2053.trans ht2087
                refine WE.sto (L' := [blk b109 62 (encR Rw.none (Value.slice none 0 0)), gsl 62 (rawE 57) (Value.slice a1741 l1739.length c1742) rs1740, blk b2082 246 [Value.slice a2034 n2036 c2035, Value.slice a2037 y2020.2.2.length c2038]]) 14 (by decide +kernel) (by decide +kernel) rfl rfl rfl rfl (X.store (i := 2) (n := 2) (b := b2082) (off := 0) (c := [Value.slice none 0 0, Value.slice none 0 0]) (U := 246) (vs := [Value.slice a2034 n2036 c2035, Value.slice a2037 y2020.2.2.length c2038]) (v := Value.agg (List.toArray [Value.slice a2034 n2036 c2035, Value.slice a2037 y2020.2.2.length c2038])) (c' := [Value.slice a2034 n2036 c2035, Value.slice a2037 y2020.2.2.length c2038]) (hs2088.here) rfl ag246.size rfl rfl rfl rfl rfl rfl rfl rfl) ?_
                intro w2089 ht2090
                have hs2091 := hs2088.trans ht2090
                refine WE.done (by decide +kernel) ?_
                have hr2092 := elT ((ht2028.trans ht2087).trans ht2090) hr2025
                have hr2093 := elT (ht2087.trans ht2090) he2051
                have hr2094 := elT (ht2087.trans ht2090) he2052
                have hr2095 := At.trT ((ht2028.trans ht2087).trans ht2090) hr2024
                have hr2096 := At.trT ((ht2028.trans ht2087).trans ht2090) hr2023
                have hr2097 := At.trT ((ht2028.trans ht2087).trans ht2090) hr2026
                have hr2098 := rlT ((((ht2006.trans ht2014).trans ht2028).trans ht2087).trans ht2090) hr1758
                exact joinI ⟨y2020.2.1, y2020.2.2, b2082, a2034, c2035, n2036, a2037, c2038, s1768, s1769, s1770, s1771, s1772, rfl, s1773, hr2092, hl2043, hr2093, hl2045, hr2094, hr2095, hr2096, hr2097, hr2098, h2080, hs2091⟩
            · refine WI.new (L' := fun b2099 => [blk b109 62 (encR Rw.none (Value.slice none 0 0)), gsl 62 (rawE 57) (Value.slice a1741 l1739.length c1742) rs1740, blk b2099 246 [Value.slice none 0 0, Value.slice none 0 0]]) (f := fun b2099 => Value.pointer (some ⟨b2099, 0, none⟩)) 13 rfl rfl rfl (X.alloc (c := [Value.slice none 0 0, Value.slice none 0 0]) (hs2017.here) zr246 rfl (fun _ => rfl)) ?_
              intro b2099 w2100 ht2104 he2102 hz2103
              have hs2105 := hs2017.trans ht2104
              obtain ⟨y2106, hx2107, h2108⟩ := ob (o := was14 (q0.1 - y2009) q0 q41) h2019
              have hr2109 := At.trT ((ht2006.trans ht2014).trans ht2104) hat1756
              have hr2110 := At.trT (ht2014.trans ht2104) hr2008
              have hr2111 := elT (ht2014.trans ht2104) hr2012
              have hr2112 := At.trT ((ht2006.trans ht2014).trans ht2104) hat1757
              refine WE.call 10 (by decide +kernel) rfl rfl rfl (was14_ok _ _ (q0.1 - y2009) q0 q41  b0r40 b0r0 _ _ b0r41 hr2109 hr2110 hrl0_0 hr2111 hr2112 hx2107) (R.call (vs := [Value.int .i64 (q0.1 - y2009)]) (caps := [Value.pointer (some ⟨b0r40, 0, none⟩), Value.pointer (some ⟨b0r41, 0, none⟩)]) bo123 rfl rfl) ?_
              rintro v2133 w2134 ⟨a2115, c2116, n2117, a2118, c2119, a2120, c2121, n2122, a2123, c2124, rfl, hl2125, he2126, hl2127, he2128, hl2129, he2130, hl2131, he2132, ht2113⟩
              refine ⟨.inr (show Ext _ _ from ht2113.kept), ?_⟩
              have ht2114 := hs2105.call (N := [blk b109 62 (encR Rw.none (Value.slice none 0 0)), gsl 62 (rawE 57) (Value.slice a1741 l1739.length c1742) rs1740, blk b2099 246 [Value.slice none 0 0, Value.slice none 0 0]]) (M := []) (List.Perm.refl _) ht2113
              have he2135 := elC hs2105 (M := []) (List.Perm.refl _) ht2113 he2126
              have he2136 := elC hs2105 (M := []) (List.Perm.refl _) ht2113 he2128
              have he2137 := elC hs2105 (M := []) (List.Perm.refl _) ht2113 he2130
              have he2138 := elC hs2105 (M := []) (List.Perm.refl _) ht2113 he2132
              have hs2139 := hs2105.trans ht2114
              by_cases hc2144 : i1738 = 0
              · have h2145 := ifT hc2144 h2108
                have hd2146 : ∀ w, (Instr.index 249 (Value.agg (List.toArray [Value.slice a2115 n2117 c2116, Value.slice a2118 y2106.1.2.length c2119, Value.slice a2120 n2122 c2121, Value.slice a2123 y2106.2.2.length c2124])) (.int .i64 0)).run Try.prog w = .ok (Value.agg (List.toArray [Value.slice a2115 n2117 c2116, Value.slice a2118 y2106.1.2.length c2119])) w := fun _ => by kernel_rfl
                refine WE.take 12 rfl (by decide +kernel) (by decide +kernel) (by decide +kernel) (by decide +kernel) rfl rfl (fun wq hq => R.indexV rfl (Eq.trans (show _ = Value.int .i64 i1738 from rfl) (congrArg (Value.int .i64) hc2144)) hd2146) ?_
                refine WE.sto (L' := [blk b109 62 (encR Rw.none (Value.slice none 0 0)), gsl 62 (rawE 57) (Value.slice a1741 l1739.length c1742) rs1740, blk b2099 246 [Value.slice a2115 n2117 c2116, Value.slice a2118 y2106.1.2.length c2119]]) 14 (by decide +kernel) (by decide +kernel) rfl rfl rfl rfl (X.store (i := 2) (n := 2) (b := b2099) (off := 0) (c := [Value.slice none 0 0, Value.slice none 0 0]) (U := 246) (vs := [Value.slice a2115 n2117 c2116, Value.slice a2118 y2106.1.2.length c2119]) (v := Value.agg (List.toArray [Value.slice a2115 n2117 c2116, Value.slice a2118 y2106.1.2.length c2119])) (c' := [Value.slice a2115 n2117 c2116, Value.slice a2118 y2106.1.2.length c2119]) (hs2139.here) rfl ag246.size rfl rfl rfl rfl rfl rfl rfl rfl) ?_
                intro w2147 ht2148
                have hs2149 := hs2139.trans ht2148
                refine WE.done (by decide +kernel) ?_
                have hr2150 := elT (ht2114.trans ht2148) hr2111
                have hr2151 := elT ht2148 he2135
                have hr2152 := elT ht2148 he2136
                have hr2153 := At.trT (ht2114.trans ht2148) hr2110
                have hr2154 := At.trT (ht2114.trans ht2148) hr2109
                have hr2155 := At.trT (ht2114.trans ht2148) hr2112
                have hr2156 := rlT ((((ht2006.trans ht2014).trans ht2104).trans ht2114).trans ht2148) hr1758
                exact joinI ⟨y2106.1.1, y2106.1.2, b2099, a2115, c2116, n2117, a2118, c2119, s1768, s1769, s1770, s1771, s1772, rfl, s1773, hr2150, hl2125, hr2151, hl2127, hr2152, hr2153, hr2154, hr2155, hr2156, h2145, hs2149⟩
              · have h2157 := ifF hc2144 h2108
                obtain ⟨hg2158, h2159⟩ := ckE (c := i1738 = 1) h2157
                have hd2160 : ∀ w, (Instr.index 249 (Value.agg (List.toArray [Value.slice a2115 n2117 c2116, Value.slice a2118 y2106.1.2.length c2119, Value.slice a2120 n2122 c2121, Value.slice a2123 y2106.2.2.length c2124])) (.int .i64 1)).run Try.prog w = .ok (Value.agg (List.toArray [Value.slice a2120 n2122 c2121, Value.slice a2123 y2106.2.2.length c2124])) w := fun _ => by kernel_rfl
                refine WE.take 12 rfl (by decide +kernel) (by decide +kernel) (by decide +kernel) (by decide +kernel) rfl rfl (fun wq hq => R.indexV rfl (Eq.trans (show _ = Value.int .i64 i1738 from rfl) (congrArg (Value.int .i64) hg2158)) hd2160) ?_
                refine WE.sto (L' := [blk b109 62 (encR Rw.none (Value.slice none 0 0)), gsl 62 (rawE 57) (Value.slice a1741 l1739.length c1742) rs1740, blk b2099 246 [Value.slice a2120 n2122 c2121, Value.slice a2123 y2106.2.2.length c2124]]) 14 (by decide +kernel) (by decide +kernel) rfl rfl rfl rfl (X.store (i := 2) (n := 2) (b := b2099) (off := 0) (c := [Value.slice none 0 0, Value.slice none 0 0]) (U := 246) (vs := [Value.slice a2120 n2122 c2121, Value.slice a2123 y2106.2.2.length c2124]) (v := Value.agg (List.toArray [Value.slice a2120 n2122 c2121, Value.slice a2123 y2106.2.2.length c2124])) (c' := [Value.slice a2120 n2122 c2121, Value.slice a2123 y2106.2.2.length c2124]) (hs2139.here) rfl ag246.size rfl rfl rfl rfl rfl rfl rfl rfl) ?_
                intro w2161 ht2162
                have hs2163 := hs2139.trans ht2162
                refine WE.done (by decide +kernel) ?_
                have hr2164 := elT (ht2114.trans ht2162) hr2111
                have hr2165 := elT ht2162 he2137
                have hr2166 := elT ht2162 he2138
                have hr2167 := At.trT (ht2114.trans ht2162) hr2110
                have hr2168 := At.trT (ht2114.trans ht2162) hr2109
                have hr2169 := At.trT (ht2114.trans ht2162) hr2112
                have hr2170 := rlT ((((ht2006.trans ht2014).trans ht2104).trans ht2114).trans ht2162) hr1758
                exact joinI ⟨y2106.2.1, y2106.2.2, b2099, a2120, c2121, n2122, a2123, c2124, s1768, s1769, s1770, s1771, s1772, rfl, s1773, hr2164, hl2129, hr2165, hl2131, hr2166, hr2167, hr2168, hr2169, hr2170, h2159, hs2163⟩
          · refine WI.new (L' := fun b2171 => [blk b109 62 (encR Rw.none (Value.slice none 0 0)), gsl 62 (rawE 57) (Value.slice a1741 l1739.length c1742) rs1740, blk b2171 246 [Value.slice none 0 0, Value.slice none 0 0]]) (f := fun b2171 => Value.pointer (some ⟨b2171, 0, none⟩)) 13 rfl rfl rfl (X.alloc (c := [Value.slice none 0 0, Value.slice none 0 0]) (hs2007.here) zr246 rfl (fun _ => rfl)) ?_
            intro b2171 w2172 ht2176 he2174 hz2175
            have hs2177 := hs2007.trans ht2176
            obtain ⟨y2178, hx2179, h2180⟩ := ob (o := dist14 q0 i1738 p1) h1993
            have hr2181 := At.trT ht2176 hr2008
            have hr2182 := elT (ht2006.trans ht2176) he1754
            refine WE.call 8 (by decide +kernel) rfl rfl rfl (dist14_ok _ _ q0 i1738 p1  b0r0 _ _ hr2181 hrl0_0 hr2182 hx2179) (R.call (vs := [Value.pointer (some ⟨b0r0, 0, none⟩), Value.int .i64 i1738, Value.int .i64 p1]) (caps := []) bo137 rfl rfl) ?_
            rintro v2185 w2186 ⟨rfl, ht2183⟩
            refine ⟨.inr (show Ext _ _ from ht2183.kept), ?_⟩
            have ht2184 := hs2177.call (N := [blk b109 62 (encR Rw.none (Value.slice none 0 0)), gsl 62 (rawE 57) (Value.slice a1741 l1739.length c1742) rs1740, blk b2171 246 [Value.slice none 0 0, Value.slice none 0 0]]) (M := []) (List.Perm.refl _) ht2183
            have hs2187 := hs2177.trans ht2184
            obtain ⟨hg2188, h2189⟩ := ckE (c := -9223372036854775808 ≤ q0.1 - y2178 ∧ q0.1 - y2178 ≤ 9223372036854775807) h2180
            refine WE.take 9 rfl (by decide +kernel) (by decide +kernel) (by decide +kernel) (by decide +kernel) rfl rfl (fun wq hq => R.sub (a := q0.1) (b := y2178) (z := q0.1 - y2178) rfl rfl (w64e rfl hg2188.1 hg2188.2)) ?_
            obtain ⟨y2190, hx2191, h2192⟩ := ob (o := was14 (q0.1 - y2178) q0 q41) h2189
            have hr2193 := At.trT ((ht2006.trans ht2176).trans ht2184) hat1756
            have hr2194 := At.trT ht2184 hr2181
            have hr2195 := elT ht2184 hr2182
            have hr2196 := At.trT ((ht2006.trans ht2176).trans ht2184) hat1757
            refine WE.call 10 (by decide +kernel) rfl rfl rfl (was14_ok _ _ (q0.1 - y2178) q0 q41  b0r40 b0r0 _ _ b0r41 hr2193 hr2194 hrl0_0 hr2195 hr2196 hx2191) (R.call (vs := [Value.int .i64 (q0.1 - y2178)]) (caps := [Value.pointer (some ⟨b0r40, 0, none⟩), Value.pointer (some ⟨b0r41, 0, none⟩)]) bo123 rfl rfl) ?_
            rintro v2217 w2218 ⟨a2199, c2200, n2201, a2202, c2203, a2204, c2205, n2206, a2207, c2208, rfl, hl2209, he2210, hl2211, he2212, hl2213, he2214, hl2215, he2216, ht2197⟩
            refine ⟨.inr (show Ext _ _ from ht2197.kept), ?_⟩
            have ht2198 := hs2187.call (N := [blk b109 62 (encR Rw.none (Value.slice none 0 0)), gsl 62 (rawE 57) (Value.slice a1741 l1739.length c1742) rs1740, blk b2171 246 [Value.slice none 0 0, Value.slice none 0 0]]) (M := []) (List.Perm.refl _) ht2197
            have he2219 := elC hs2187 (M := []) (List.Perm.refl _) ht2197 he2210
            have he2220 := elC hs2187 (M := []) (List.Perm.refl _) ht2197 he2212
            have he2221 := elC hs2187 (M := []) (List.Perm.refl _) ht2197 he2214
            have he2222 := elC hs2187 (M := []) (List.Perm.refl _) ht2197 he2216
            have hs2223 := hs2187.trans ht2198
            by_cases hc2228 : i1738 = 0
            · have h2229 := ifT hc2228 h2192
              have hd2230 : ∀ w, (Instr.index 249 (Value.agg (List.toArray [Value.slice a2199 n2201 c2200, Value.slice a2202 y2190.1.2.length c2203, Value.slice a2204 n2206 c2205, Value.slice a2207 y2190.2.2.length c2208])) (.int .i64 0)).run Try.prog w = .ok (Value.agg (List.toArray [Value.slice a2199 n2201 c2200, Value.slice a2202 y2190.1.2.length c2203])) w := fun _ => by kernel_rfl
              refine WE.take 12 rfl (by decide +kernel) (by decide +kernel) (by decide +kernel) (by decide +kernel) rfl rfl (fun wq hq => R.indexV rfl (Eq.trans (show _ = Value.int .i64 i1738 from rfl) (congrArg (Value.int .i64) hc2228)) hd2230) ?_
              refine WE.sto (L' := [blk b109 62 (encR Rw.none (Value.slice none 0 0)), gsl 62 (rawE 57) (Value.slice a1741 l1739.length c1742) rs1740, blk b2171 246 [Value.slice a2199 n2201 c2200, Value.slice a2202 y2190.1.2.length c2203]]) 14 (by decide +kernel) (by decide +kernel) rfl rfl rfl rfl (X.store (i := 2) (n := 2) (b := b2171) (off := 0) (c := [Value.slice none 0 0, Value.slice none 0 0]) (U := 246) (vs := [Value.slice a2199 n2201 c2200, Value.slice a2202 y2190.1.2.length c2203]) (v := Value.agg (List.toArray [Value.slice a2199 n2201 c2200, Value.slice a2202 y2190.1.2.length c2203])) (c' := [Value.slice a2199 n2201 c2200, Value.slice a2202 y2190.1.2.length c2203]) (hs2223.here) rfl ag246.size rfl rfl rfl rfl rfl rfl rfl rfl) ?_
              intro w2231 ht2232
              have hs2233 := hs2223.trans ht2232
              refine WE.done (by decide +kernel) ?_
              have hr2234 := elT (ht2198.trans ht2232) hr2195
              have hr2235 := elT ht2232 he2219
              have hr2236 := elT ht2232 he2220
              have hr2237 := At.trT (ht2198.trans ht2232) hr2194
              have hr2238 := At.trT (ht2198.trans ht2232) hr2193
              have hr2239 := At.trT (ht2198.trans ht2232) hr2196
              have hr2240 := rlT ((((ht2006.trans ht2176).trans ht2184).trans ht2198).trans ht2232) hr1758
              exact joinI ⟨y2190.1.1, y2190.1.2, b2171, a2199, c2200, n2201, a2202, c2203, s1768, s1769, s1770, s1771, s1772, rfl, s1773, hr2234, hl2209, hr2235, hl2211, hr2236, hr2237, hr2238, hr2239, hr2240, h2229, hs2233⟩
            · have h2241 := ifF hc2228 h2192
              obtain ⟨hg2242, h2243⟩ := ckE (c := i1738 = 1) h2241
              have hd2244 : ∀ w, (Instr.index 249 (Value.agg (List.toArray [Value.slice a2199 n2201 c2200, Value.slice a2202 y2190.1.2.length c2203, Value.slice a2204 n2206 c2205, Value.slice a2207 y2190.2.2.length c2208])) (.int .i64 1)).run Try.prog w = .ok (Value.agg (List.toArray [Value.slice a2204 n2206 c2205, Value.slice a2207 y2190.2.2.length c2208])) w := fun _ => by kernel_rfl
              refine WE.take 12 rfl (by decide +kernel) (by decide +kernel) (by decide +kernel) (by decide +kernel) rfl rfl (fun wq hq => R.indexV rfl (Eq.trans (show _ = Value.int .i64 i1738 from rfl) (congrArg (Value.int .i64) hg2242)) hd2244) ?_
              refine WE.sto (L' := [blk b109 62 (encR Rw.none (Value.slice none 0 0)), gsl 62 (rawE 57) (Value.slice a1741 l1739.length c1742) rs1740, blk b2171 246 [Value.slice a2204 n2206 c2205, Value.slice a2207 y2190.2.2.length c2208]]) 14 (by decide +kernel) (by decide +kernel) rfl rfl rfl rfl (X.store (i := 2) (n := 2) (b := b2171) (off := 0) (c := [Value.slice none 0 0, Value.slice none 0 0]) (U := 246) (vs := [Value.slice a2204 n2206 c2205, Value.slice a2207 y2190.2.2.length c2208]) (v := Value.agg (List.toArray [Value.slice a2204 n2206 c2205, Value.slice a2207 y2190.2.2.length c2208])) (c' := [Value.slice a2204 n2206 c2205, Value.slice a2207 y2190.2.2.length c2208]) (hs2223.here) rfl ag246.size rfl rfl rfl rfl rfl rfl rfl rfl) ?_
              intro w2245 ht2246
              have hs2247 := hs2223.trans ht2246
              refine WE.done (by decide +kernel) ?_
              have hr2248 := elT (ht2198.trans ht2246) hr2195
              have hr2249 := elT ht2246 he2221
              have hr2250 := elT ht2246 he2222
              have hr2251 := At.trT (ht2198.trans ht2246) hr2194
              have hr2252 := At.trT (ht2198.trans ht2246) hr2193
              have hr2253 := At.trT (ht2198.trans ht2246) hr2196
              have hr2254 := rlT ((((ht2006.trans ht2176).trans ht2184).trans ht2198).trans ht2246) hr1758
              exact joinI ⟨y2190.2.1, y2190.2.2, b2171, a2204, c2205, n2206, a2207, c2208, s1768, s1769, s1770, s1771, s1772, rfl, s1773, hr2248, hl2213, hr2249, hl2215, hr2250, hr2251, hr2252, hr2253, hr2254, h2243, hs2247⟩
        · rintro σ1995 w1994 ⟨l1984, l1988, b1983, a1985, c1986, n1987, a1989, c1990, s2256, s2257, s2258, s2259, s2260, s2261, s2262, he1997, hl1999, he1998, hl2001, he2000, hat2002, hat2003, hat2004, hr2005, h2255, hs1996⟩
          subst hJ1992
          refine thenN ?_
          refine WC.drawE mixed (NP.block (NP.then (NP.then (NP.block (NP.join (NP.then NP.rq)))))) ?_
          have ht2263 := (hs1996.here).ext (Ext.drew _)
          have hs2264 := hs1996.trans ht2263
          refine WE.take 0 rfl (by decide +kernel) (by decide +kernel) (by decide +kernel) (by decide +kernel) rfl rfl (fun wq hq => R.move (v := Value.slice a1741 l1739.length c1742) (by exact s2260)) ?_
          refine WE.take 1 rfl (by decide +kernel) (by decide +kernel) (by decide +kernel) (by decide +kernel) rfl rfl (fun wq hq => R.fieldAddr (o := 0) (o' := 0) fa246_0 (by exact s2261) rfl) ?_
          refine WE.take 2 rfl (by decide +kernel) (by decide +kernel) (by decide +kernel) (by decide +kernel) rfl rfl (fun wq hq => R.loadL (v := Value.slice a1985 n1987 c1986) lf22 rfl ((hs2264.ext hq).at (i := 2) (off := 0) (n := 1) (cs := [Value.slice a1985 n1987 c1986]) rfl rfl rfl)) ?_
          refine WE.take 3 rfl (by decide +kernel) (by decide +kernel) (by decide +kernel) (by decide +kernel) rfl rfl (fun wq hq => R.move (v := Value.int .i64 p1) (by exact s2257)) ?_
          obtain ⟨x2265, hx2266, h2267⟩ := ob (o := rd l1984 p1) h2255
          obtain ⟨h02268, hx2269, hl2270, hm2271⟩ := rdE hx2266
          have hr2272 := elT ht2263 he1998
          obtain ⟨ad2273, e2278, ha2274, hp2275, hat2276, hrd2277⟩ := hr2272 _ _ hx2269
          obtain ⟨t2279, rfl, a2281, c2282, he2285, hl2283, he2284⟩ := hrd2277
          cases he2285
          refine WE.take 4 rfl (by decide +kernel) (by decide +kernel) (by decide +kernel) (by decide +kernel) rfl rfl (fun wq hq => R.indexS (n := 57) (m := (p1).toNat) (a := a1985) (ad := ad2273) (len := n1987) (cap := c1986) (z := p1) un22 ag62.size rfl ha2274 rfl hm2271 (Nat.lt_of_lt_of_le hl2270 hl1999) hp2275) ?_
          refine WE.take 5 rfl (by decide +kernel) (by decide +kernel) (by decide +kernel) (by decide +kernel) rfl rfl (fun wq hq => R.loadA (cs := encR x2265 (Value.slice a2281 x2265.table.length c2282)) (n := 57) ag62 rfl (At.exT hq hat2276) rfl) ?_
          refine WE.take 6 rfl (by decide +kernel) (by decide +kernel) (by decide +kernel) (by decide +kernel) rfl rfl (fun wq hq => R.fieldAddr (o := 0) (o' := 1) fa246_1 (by exact s2261) rfl) ?_
          refine WE.take 7 rfl (by decide +kernel) (by decide +kernel) (by decide +kernel) (by decide +kernel) rfl rfl (fun wq hq => R.loadL (v := Value.slice a1989 l1988.length c1990) lf22 rfl ((hs2264.ext hq).at (i := 2) (off := 1) (n := 1) (cs := [Value.slice a1989 l1988.length c1990]) rfl rfl rfl)) ?_
          refine WE.take 8 rfl (by decide +kernel) (by decide +kernel) (by decide +kernel) (by decide +kernel) rfl rfl (fun wq hq => R.move (v := Value.int .i64 p1) (by exact s2257)) ?_
          obtain ⟨x2288, hx2289, h2290⟩ := ob (o := rd l1988 p1) h2267
          obtain ⟨h02291, hx2292, hl2293, hm2294⟩ := rdE hx2289
          have hr2295 := elT ht2263 he2000
          obtain ⟨ad2296, e2301, ha2297, hp2298, hat2299, hrd2300⟩ := hr2295 _ _ hx2292
          obtain ⟨t2302, rfl, a2304, c2305, he2308, hl2306, he2307⟩ := hrd2300
          cases he2308
          refine WE.take 9 rfl (by decide +kernel) (by decide +kernel) (by decide +kernel) (by decide +kernel) rfl rfl (fun wq hq => R.indexS (n := 57) (m := (p1).toNat) (a := a1989) (ad := ad2296) (len := l1988.length) (cap := c1990) (z := p1) un22 ag62.size rfl ha2297 rfl hm2294 hl2293 hp2298) ?_
          refine WE.take 10 rfl (by decide +kernel) (by decide +kernel) (by decide +kernel) (by decide +kernel) rfl rfl (fun wq hq => R.loadA (cs := encR x2288 (Value.slice a2304 x2288.table.length c2305)) (n := 57) ag62 rfl (At.exT hq hat2299) rfl) ?_
          have hd2316 : ∀ w : World, (Instr.buildSlice 22 2 #[(0, Value.agg (List.toArray (encR x2265 (Value.slice a2281 x2265.table.length c2282)))), (1, Value.agg (List.toArray (encR x2288 (Value.slice a2304 x2288.table.length c2305))))]).run Try.prog w = .ok (.slice (some ⟨w.heap.size, 0, none⟩) 2 2) { w with heap := w.heap.push (.cells (List.toArray ((encR x2265 (Value.slice a2281 x2265.table.length c2282)) ++ ((encR x2288 (Value.slice a2304 x2288.table.length c2305))))) 62) } := fun _ => by kernel_rfl
          refine WE.new (L' := fun b2311 => [blk b109 62 (encR Rw.none (Value.slice none 0 0)), gsl 62 (rawE 57) (Value.slice a1741 l1739.length c1742) rs1740, blk b1983 246 [Value.slice a1985 n1987 c1986, Value.slice a1989 l1988.length c1990], blk b2311 62 ((encR x2265 (Value.slice a2281 x2265.table.length c2282)) ++ ((encR x2288 (Value.slice a2304 x2288.table.length c2305))))]) (f := fun b2311 => Value.slice (some ⟨b2311, 0, none⟩) 2 2) 11 (by decide +kernel) rfl rfl rfl (X.buildSlice (c := (encR x2265 (Value.slice a2281 x2265.table.length c2282)) ++ ((encR x2288 (Value.slice a2304 x2288.table.length c2305)))) (vs := [(0, Value.agg (List.toArray (encR x2265 (Value.slice a2281 x2265.table.length c2282)))), (1, Value.agg (List.toArray (encR x2288 (Value.slice a2304 x2288.table.length c2305))))]) (hs2264.here) rfl hd2316 (fun _ => rfl)) ?_
          intro b2311 w2312 ht2318 he2314 hz2315
          have hs2319 := hs2264.trans ht2318
          have hr2320 := rlT (ht2263.trans ht2318) hr2005
          have hr2324 := elT ht2318 he2284
          obtain ⟨r2321, hr2322, hk2323⟩ := raw_of (n := 57) (cs := (encR x2265 (Value.slice a2281 x2265.table.length c2282))) (x := x2265) (show rowW.rd w2312 (In ok w [] [blk b109 62 (encR Rw.none (Value.slice none 0 0)), gsl 62 (rawE 57) (Value.slice a1741 l1739.length c1742) rs1740, blk b1983 246 [Value.slice a1985 n1987 c1986, Value.slice a1989 l1988.length c1990], blk b2311 62 ((encR x2265 (Value.slice a2281 x2265.table.length c2282)) ++ ((encR x2288 (Value.slice a2304 x2288.table.length c2305))))]) _ _ from ⟨_, rfl, ⟨_, _, rfl, hl2283, hr2324⟩⟩) rfl
          have hr2328 := elT ht2318 he2307
          obtain ⟨r2325, hr2326, hk2327⟩ := raw_of (n := 57) (cs := (encR x2288 (Value.slice a2304 x2288.table.length c2305))) (x := x2288) (show rowW.rd w2312 (In ok w [] [blk b109 62 (encR Rw.none (Value.slice none 0 0)), gsl 62 (rawE 57) (Value.slice a1741 l1739.length c1742) rs1740, blk b1983 246 [Value.slice a1985 n1987 c1986, Value.slice a1989 l1988.length c1990], blk b2311 62 ((encR x2265 (Value.slice a2281 x2265.table.length c2282)) ++ ((encR x2288 (Value.slice a2304 x2288.table.length c2305))))]) _ _ from ⟨_, rfl, ⟨_, _, rfl, hl2306, hr2328⟩⟩) rfl
          have hr2329 := readsL_append hr2320 (readsL_cons hk2323 (readsL_cons hk2327 readsL_nil))
          obtain ⟨hg2330, h2331⟩ := ckE (c := l1739.length < 1000000) h2290
          refine WE.grow (L' := fun v2332 => [blk b109 62 (encR Rw.none (Value.slice none 0 0)), gsl 62 (rawE 57) v2332 (rs1740 ++ [r2321, r2325]), blk b1983 246 [Value.slice a1985 n1987 c1986, Value.slice a1989 l1988.length c1990], blk b2311 62 ((encR x2265 (Value.slice a2281 x2265.table.length c2282)) ++ ((encR x2288 (Value.slice a2304 x2288.table.length c2305))))]) 12 (by decide +kernel) (by decide +kernel) rfl rfl rfl (X.append (i := 1) (e := (rawE 57)) (xs := rs1740) (ys := [r2321, r2325]) (ad := ⟨b2311, 0, none⟩) (m := 2) (c := 2) (hs2319.here) sl22 rfl rfl rfl rfl (show At _ (fun _ => True) _ (flat (rawE 57) [r2321, r2325]) from by rw [flat_raw2 hr2322 hr2326]; exact ((hs2319.here).at (i := 3) (off := 0) (n := 114) (cs := (encR x2265 (Value.slice a2281 x2265.table.length c2282)) ++ (encR x2288 (Value.slice a2304 x2288.table.length c2305))) rfl rfl rfl)) rfl (by rw [flat_raw2 hr2322 hr2326]; exact rfl) (roomL (n := 2) (hr2320).1 hg2330 rfl (by decide)) (roomL63 (n := 2) (hr2320).1 hg2330 rfl (by decide)) (fun _ => rfl)) ?_
          intro v2332 w2333 ht2334
          obtain ⟨a2335, c2336, hv2337⟩ := gsl_slK (ht2334.get (i := 1) rfl) (hr2329).1
          subst hv2337
          have hs2339 := hs2319.trans ht2334
          refine WE.take 13 rfl (by decide +kernel) (by decide +kernel) (by decide +kernel) (by decide +kernel) rfl rfl (fun wq hq => R.assign (v := Value.slice a2335 ((l1739 ++ [x2265, x2288]).length) c2336) rfl) ?_
          refine WE.done (by decide +kernel) ?_
          refine blockN ?_
          refine thenN ?_
          refine WC.region ?_
          obtain ⟨hg2340, h2341⟩ := ckE (c := -9223372036854775808 ≤ i1738 + 1 ∧ i1738 + 1 ≤ 9223372036854775807) h2331
          refine WL.val (R.add (a := i1738) (b := 1) (z := i1738 + 1) (by exact s2262) rfl (w64e rfl hg2340.1 hg2340.2)) rfl ?_
          refine WL.val (R.move (v := Value.int .i64 (i1738 + 1)) rfl) rfl ?_
          refine WL.nil ?_
          have ht2342 := (hs2339.here).perm (L' := [blk b109 62 (encR Rw.none (Value.slice none 0 0)), gsl 62 (rawE 57) (Value.slice a2335 ((l1739 ++ [x2265, x2288]).length) c2336) (rs1740 ++ [r2321, r2325])]) (G := [blk b1983 246 [Value.slice a1985 n1987 c1986, Value.slice a1989 l1988.length c1990], blk b2311 62 ((encR x2265 (Value.slice a2281 x2265.table.length c2282)) ++ ((encR x2288 (Value.slice a2304 x2288.table.length c2305))))]) ((List.Perm.refl _))
          have hs2343 := hs2339.trans ht2342
          have hr2344 := elT (((ht2263.trans ht2318).trans ht2334).trans ht2342) he1997
          have hr2345 := At.trT (((ht2263.trans ht2318).trans ht2334).trans ht2342) hat2002
          have hr2346 := At.trT (((ht2263.trans ht2318).trans ht2334).trans ht2342) hat2003
          have hr2347 := At.trT (((ht2263.trans ht2318).trans ht2334).trans ht2342) hat2004
          have hr2348 := rlT (ht2334.trans ht2342) hr2329
          exact roundEnd (s := k1753) ⟨i1738 + 1, l1739 ++ [x2265, x2288], rs1740 ++ [r2321, r2325], a2335, c2336, s2256, s2257, s2258, s2259, rfl, rfl, hr2344, hr2345, hr2346, hr2347, hr2348, h2341, hs2343⟩ (Nat.lt_succ_self _)
      · have h2349 := ifF hc1774 h1767
        refine WL.val (R.lssF (k := .i64) (a := i1738) (b := 2) un3 (by exact s1773) rfl hc1774) rfl ?_
        refine WL.nil ?_
        refine thenN ?_
        refine WC.seq ?_
        refine WC.condF rfl rfl ?_
        refine WC.exit ?_
        refine thenE ?_
        refine thenE ?_
        refine blockHit ?_
        exact joinI ⟨l1739, rs1740, a1741, c1742, s1771, s1772, hr1758, h2349, hs1752⟩
    · rintro σ1764 w1763 ⟨l1743, rs1744, a1745, c1746, s2351, s2352, hr1766, h2350, hs1765⟩
      subst hK1748
      refine thenN ?_
      refine WC.seq ?_
      refine WC.region ?_
      refine WL.val (R.move (v := Value.slice a1745 l1743.length c1746) (by exact s2352)) rfl ?_
      obtain ⟨a2353, c2354, hv2355, hl2356, he2357⟩ := el_freezeR hs1765 ((List.perm_middle (l₁ := [blk b109 62 (encR Rw.none (Value.slice none 0 0))]) (a := gsl 62 (rawE 57) (Value.slice a1745 l1743.length c1746) rs1744) (l₂ := [])).trans (List.Perm.cons _ (List.Perm.refl _))) rfl hr1766
      obtain ⟨rfl, rfl⟩ : a1745 = a2353 ∧ c1746 = c2354 := ⟨(Value.slice.inj hv2355).1, (Value.slice.inj hv2355).2.2⟩
      have ht2358 := (hs1765.here).perm (L' := [blk b109 62 (encR Rw.none (Value.slice none 0 0))]) (G := [gsl 62 (rawE 57) (Value.slice a1745 l1743.length c1746) rs1744]) ((List.Perm.refl _))
      have hs2359 := hs1765.trans ht2358
      obtain ⟨y2361, hx2362, h2363⟩ := ob (o := cert14 l1743) h2350
      refine WL.call (cert14_ok _ _ l1743 _ _ he2357 hl2356 hx2362) (R.call (vs := [Value.slice a1745 l1743.length c1746]) (caps := []) bo138 rfl rfl) rfl ?_
      rintro v2370 w2371 ⟨a2366, c2367, rfl, hl2368, he2369, ht2364⟩
      have ht2365 := hs2359.call (N := [blk b109 62 (encR Rw.none (Value.slice none 0 0))]) (M := []) (List.Perm.refl _) ht2364
      have he2372 := elC hs2359 (M := []) (List.Perm.refl _) ht2364 he2369
      have hs2373 := hs2359.trans ht2365
      refine WL.sto (L' := [blk b109 62 (encR y2361 (Value.slice a2366 y2361.table.length c2367))]) (X.store (i := 0) (n := 57) (b := b109) (off := 0) (c := encR Rw.none (Value.slice none 0 0)) (U := 62) (vs := encR y2361 (Value.slice a2366 y2361.table.length c2367)) (v := Value.agg (List.toArray (encR y2361 (Value.slice a2366 y2361.table.length c2367)))) (c' := encR y2361 (Value.slice a2366 y2361.table.length c2367)) (hs2373.here) rfl ag62.size (by exact s2351) rfl rfl rfl rfl rfl rfl rfl) rfl rfl ?_
      intro w2375 ht2376
      have hs2377 := hs2373.trans ht2376
      refine WL.nil ?_
      refine thenN ?_
      refine WC.ret ?_
      have hl2378 := run_loadA (P := Try.prog) (n := 57) ag62 (hs2377.at (i := 0) (off := 0) (n := 57) (cs := encR y2361 (Value.slice a2366 y2361.table.length c2367)) rfl rfl rfl) rfl
      have ht2379 := (hs2377.here).perm (L' := []) (G := [blk b109 62 (encR y2361 (Value.slice a2366 y2361.table.length c2367))]) ((List.Perm.refl _))
      have hs2380 := hs2377.trans ht2379
      have hr2381 := elT (ht2376.trans ht2379) he2372
      obtain rfl := Option.some.inj (show some y2361 = some r from h2363)
      exact retCell (P := Try.prog) (n := 59) (fn := Try.f124) (R := fun v w' => ∃ ra0, ∃ rc0, v = Value.agg (List.toArray (encR y2361 (Value.slice ra0 y2361.table.length rc0))) ∧ y2361.table.length ≤ rc0 ∧ elems heldW w' (In ok w [] []) ra0 y2361.table ∧ St [] w w' []) (t := 6) (v := Value.agg (List.toArray (encR y2361 (Value.slice a2366 y2361.table.length c2367)))) rfl s2351 rfl hl2378 ⟨a2366, c2367, rfl, hl2368, hr2381, hs2380⟩

theorem copies14_ok (w : World) (ok : Nat → Prop) (p0 : List Rw) (a0 : Option Addr) (c0 : Nat) (he0 : elems rowW w ok a0 p0) (hc0 : p0.length ≤ c0) {r : (List Rw)} (h : copies14 p0 = some r) :
    Ret Try.prog 126 [Value.slice a0 p0.length c0] w (fun v w' => ∃ ra0, ∃ rc0, v = Value.slice ra0 r.length rc0 ∧ r.length ≤ rc0 ∧ elems rowW w' (In (fun _ => False) w [] []) ra0 r ∧ St [] w w' []) := by
  rw [copies14] at h
  have hs100 : St [] w w [] := St.start w
  have he1000 := el0 (L0 := []) (fun b _ => out_nil b) he0
  refine enter (n := 23) Try.func126 rfl rfl rfl ?_
  refine WC.seq ?_
  refine WC.region ?_
  refine WL.val (R.assign (v := Value.slice none 0 0) rfl) rfl ?_
  refine WL.nil ?_
  refine thenN ?_
  refine WC.seq ?_
  refine WC.region ?_
  refine WL.val (R.move (v := Value.slice a0 p0.length c0) rfl) rfl ?_
  refine WL.val (R.len (a := a0) (n := p0.length) (c := c0) un22 rfl) rfl ?_
  obtain ⟨hg102, h103⟩ := ckE (c := p0.length < 1000000) h
  refine WL.new (L' := fun b104 => [gsl 62 (rawE 57) (Value.slice (some ⟨b104, 0, none⟩) ((List.replicate (((p0.length : Nat) : Int)).toNat Rw.none).length) ((((p0.length : Nat) : Int)).toNat)) (List.replicate (((p0.length : Nat) : Int)).toNat (⟨encR Rw.none (Value.slice none 0 0), rfl, rfl⟩ : Raw 57))]) (f := fun b104 => Value.slice (some ⟨b104, 0, none⟩) ((List.replicate (((p0.length : Nat) : Int)).toNat Rw.none).length) ((((p0.length : Nat) : Int)).toNat)) (X.makeSliceN (e := (rawE 57)) (z := (⟨encR Rw.none (Value.slice none 0 0), rfl, rfl⟩ : Raw 57)) (hs100.here) sl22 rfl rfl rfl (by have := hg102; omega) (by decide) List.length_replicate (fun _ => rfl)) rfl ?_
  intro b104 w105 ht109 he106 hz107
  have hs110 := hs100.trans ht109
  have hr111 : readsL rowW w105 (In (fun _ => False) w [] [gsl 62 (rawE 57) (Value.slice (some ⟨b104, 0, none⟩) ((List.replicate (((p0.length : Nat) : Int)).toNat Rw.none).length) ((((p0.length : Nat) : Int)).toNat)) (List.replicate (((p0.length : Nat) : Int)).toNat (⟨encR Rw.none (Value.slice none 0 0), rfl, rfl⟩ : Raw 57))]) (List.replicate (((p0.length : Nat) : Int)).toNat Rw.none) (List.replicate (((p0.length : Nat) : Int)).toNat (⟨encR Rw.none (Value.slice none 0 0), rfl, rfl⟩ : Raw 57)) := readsL_rep (((p0.length : Nat) : Int)).toNat ⟨_, rfl, ⟨_, _, rfl, Nat.le_refl _, elems_nil⟩⟩
  refine WL.val (R.assign (v := Value.slice (some ⟨b104, 0, none⟩) ((List.replicate (((p0.length : Nat) : Int)).toNat Rw.none).length) ((((p0.length : Nat) : Int)).toNat)) rfl) rfl ?_
  refine WL.nil ?_
  refine thenN ?_
  refine WC.seq ?_
  refine WC.seq ?_
  refine WC.region ?_
  refine WL.val (R.move (v := Value.slice a0 p0.length c0) rfl) rfl ?_
  refine WL.val (R.len (a := a0) (n := p0.length) (c := c0) un22 rfl) rfl ?_
  refine WL.val (R.move (v := Value.int .i64 0) rfl) rfl ?_
  refine WL.nil ?_
  refine thenN ?_
  have hr330 := elT ht109 he1000
  obtain ⟨K321, hK322, h323⟩ := kE (G := fun K321 => copies14_l1 p0 K321 1000000 0 (List.replicate (((p0.length : Nat) : Int)).toNat Rw.none)) h103
  refine WC.join (fun σ332 w331 => ∃ l317 : List Rw, ∃ rs318, ∃ a319, ∃ c320, σ332 3 = (Value.slice a319 l317.length c320) ∧ readsL rowW w331 (In (fun _ => False) w [] [gsl 62 (rawE 57) (Value.slice a319 l317.length c320) rs318]) l317 rs318 ∧ K321 l317 = some r ∧ St [] w w331 [gsl 62 (rawE 57) (Value.slice a319 l317.length c320) rs318]) ?_ ?_
  · refine WC.block ?_
    refine WC.loop (T := Nat) (fun k327 σ325 w324 => ∃ i312 : Int, ∃ l313 : List Rw, ∃ rs314, ∃ a315, ∃ c316, σ325 3 = (Value.slice a315 l313.length c316) ∧ σ325 9 = (Value.slice a0 p0.length c0) ∧ σ325 10 = (Value.int .i64 ((p0.length : Nat) : Int)) ∧ σ325 11 = (Value.int .i64 i312) ∧ elems rowW w324 (In ok w [] [gsl 62 (rawE 57) (Value.slice a315 l313.length c316) rs314]) a0 p0 ∧ readsL rowW w324 (In (fun _ => False) w [] [gsl 62 (rawE 57) (Value.slice a315 l313.length c316) rs314]) l313 rs314 ∧ copies14_l1 p0 K321 k327 i312 l313 = some r ∧ St [] w w324 [gsl 62 (rawE 57) (Value.slice a315 l313.length c316) rs314]) (fun k327 => k327) 1000000 ⟨0, List.replicate (((p0.length : Nat) : Int)).toNat Rw.none, List.replicate (((p0.length : Nat) : Int)).toNat (⟨encR Rw.none (Value.slice none 0 0), rfl, rfl⟩ : Raw 57), (some ⟨b104, 0, none⟩), (((p0.length : Nat) : Int)).toNat, rfl, rfl, rfl, rfl, hr330, hr111, h323, hs110⟩ ?_
    rintro k327 σ325 w324 ⟨i312, l313, rs314, a315, c316, s336, s337, s338, s339, he328, hr329, h335, hs326⟩
    rcases k327 with _ | k327
    · rw [copies14_l1] at h335; cases h335
    rw [copies14_l1] at h335
    refine WC.seq ?_
    refine WC.region ?_
    by_cases hc340 : i312 < ((p0.length : Nat) : Int)
    · have h341 := ifT hc340 h335
      refine WL.val (R.lssT (k := .i64) (a := i312) (b := ((p0.length : Nat) : Int)) un3 (by exact s339) (by exact s338) hc340) rfl ?_
      refine WL.nil ?_
      refine thenN ?_
      refine WC.seq ?_
      refine WC.condT rfl rfl ?_
      refine WC.skip ?_
      refine thenN ?_
      refine WC.seq ?_
      refine WC.block ?_
      refine WC.seq ?_
      refine WC.region ?_
      refine WL.val (R.move (v := Value.int .i64 i312) (by exact s339)) rfl ?_
      obtain ⟨x342, hx343, h344⟩ := ob (o := rd p0 i312) h341
      obtain ⟨h0345, hx346, hl347, hm348⟩ := rdE hx343
      obtain ⟨ad349, e354, ha350, hp351, hat352, hrd353⟩ := he328 _ _ hx346
      obtain ⟨t355, rfl, a357, c358, he361, hl359, he360⟩ := hrd353
      cases he361
      refine WL.val (R.indexS (n := 57) (m := (i312).toNat) (a := a0) (ad := ad349) (len := p0.length) (cap := c0) (z := i312) un22 ag62.size (by exact s337) ha350 (by exact s339) hm348 hl347 hp351) rfl ?_
      refine WL.val (R.loadA (cs := encR x342 (Value.slice a357 x342.table.length c358)) (n := 57) ag62 rfl hat352 rfl) rfl ?_
      refine WL.new (L' := fun b364 => [gsl 62 (rawE 57) (Value.slice a315 l313.length c316) rs314, blk b364 62 (encR Rw.none (Value.slice none 0 0))]) (f := fun b364 => Value.pointer (some ⟨b364, 0, none⟩)) (X.alloc (c := encR Rw.none (Value.slice none 0 0)) (hs326.here) zr62 rfl (fun _ => rfl)) rfl ?_
      intro b364 w365 ht370 he367 hz368
      have hs371 := hs326.trans ht370
      refine WL.val (R.assign (v := Value.int .i64 i312) rfl) rfl ?_
      refine WL.sto (L' := [gsl 62 (rawE 57) (Value.slice a315 l313.length c316) rs314, blk b364 62 (encR x342 (Value.slice a357 x342.table.length c358))]) (X.store (i := 1) (n := 57) (b := b364) (off := 0) (c := encR Rw.none (Value.slice none 0 0)) (U := 62) (vs := encR x342 (Value.slice a357 x342.table.length c358)) (v := Value.agg (List.toArray (encR x342 (Value.slice a357 x342.table.length c358)))) (c' := encR x342 (Value.slice a357 x342.table.length c358)) (hs371.here) rfl ag62.size rfl rfl rfl rfl rfl rfl rfl rfl) rfl rfl ?_
      intro w372 ht373
      have hs374 := hs371.trans ht373
      refine WL.nil ?_
      refine thenN ?_
      refine WC.region ?_
      refine WL.val (R.move (v := Value.slice a315 l313.length c316) (by exact s336)) rfl ?_
      refine WL.val (R.move (v := Value.int .i64 i312) rfl) rfl ?_
      refine WL.val (R.loadA (cs := encR x342 (Value.slice a357 x342.table.length c358)) (n := 57) ag62 rfl (hs374.at (i := 1) (off := 0) (n := 57) (cs := encR x342 (Value.slice a357 x342.table.length c358)) rfl rfl rfl) rfl) rfl ?_
      obtain ⟨y375, hx376, h377⟩ := ob (o := copy13 x342) h344
      have hr378 := elT (ht370.trans ht373) he360
      refine WL.call (copy13_ok _ _ x342 _ _ hr378 hl359 hx376) (R.call (vs := [Value.agg (List.toArray (encR x342 (Value.slice a357 x342.table.length c358)))]) (caps := []) bo68 rfl rfl) rfl ?_
      rintro v383 w384 ⟨a381, c382, rfl, ht379⟩
      have ht380 := hs374.call (N := [gsl 62 (rawE 57) (Value.slice a315 l313.length c316) rs314, blk b364 62 (encR x342 (Value.slice a357 x342.table.length c358))]) (M := []) (List.Perm.refl _) ht379
      have hs386 := hs374.trans ht380
      obtain ⟨x387, hx388, h389⟩ := ob (o := rd l313 i312) h377
      obtain ⟨h0390, hx391, hl392, hm393⟩ := rdE hx388
      have hr402 := rlT ((ht370.trans ht373).trans ht380) hr329
      obtain ⟨⟨cs400, hp401⟩, hr398, hk399⟩ := readsL_at hr402 hx391
      obtain ⟨t403, rfl, a405, c406, he409, hl407, he408⟩ := hk399
      cases he409
      obtain ⟨b394, c395, hv396, _⟩ := hs386.gslAt (i := 1) rfl hr398
      refine WL.val (R.indexS (n := 57) (m := (i312).toNat) (ad := ⟨b394, 0, none⟩) (len := (rs314).length) (cap := c395) (z := i312) un22 ag62.size (Eq.trans (show _ = Value.slice a315 l313.length c316 from rfl) hv396) rfl rfl hm393 ((hr402).1 ▸ hl392) rfl) rfl ?_
      have ht411 : St [gslC 60 heldE (Value.slice a381 y375.table.length c382) y375.table, gsl 62 (rawE 57) (Value.slice a315 l313.length c316) rs314, blk b364 62 (encR x342 (Value.slice a357 x342.table.length c358))] w384 w384 [gslU 60 heldE (Value.slice a381 y375.table.length c382) y375.table, gsl 62 (rawE 57) (Value.slice a315 l313.length c316) rs314, blk b364 62 (encR x342 (Value.slice a357 x342.table.length c358))] := (hs386.here).conv (i := 0) rfl (gslC_U (hs386.get (i := 0) rfl)) (fun _ hb => hb) rfl
      have hs412 := hs386.trans ht411
      obtain ⟨a413, c414, hv415, hl416, he417⟩ := el_freezeU (k := heldW) (ok := fun _ => False) hs412 (List.Perm.refl _) rfl (fun _ _ _ => ⟨trivial, rfl⟩)
      obtain ⟨rfl, rfl⟩ : a381 = a413 ∧ c382 = c414 := ⟨(Value.slice.inj hv415).1, (Value.slice.inj hv415).2.2⟩
      have ht418 := (hs412.here).perm (L' := [gsl 62 (rawE 57) (Value.slice a315 l313.length c316) rs314, blk b364 62 (encR x342 (Value.slice a357 x342.table.length c358))]) (G := [gslU 60 heldE (Value.slice a381 y375.table.length c382) y375.table]) (((List.perm_middle (l₁ := [gslU 60 heldE (Value.slice a381 y375.table.length c382) y375.table]) (a := gsl 62 (rawE 57) (Value.slice a315 l313.length c316) rs314) (l₂ := [blk b364 62 (encR x342 (Value.slice a357 x342.table.length c358))])).trans (List.Perm.cons _ ((List.perm_middle (l₁ := [gslU 60 heldE (Value.slice a381 y375.table.length c382) y375.table]) (a := blk b364 62 (encR x342 (Value.slice a357 x342.table.length c358))) (l₂ := [])).trans (List.Perm.cons _ (List.Perm.refl _))))))
      have hs419 := hs412.trans ht418
      have hr424 := rlT (ht411.trans ht418) hr402
      obtain ⟨r421, hr422, hr423⟩ := readsL_set (j := (i312).toNat) hr424 (cs := ((Value.bool y375.is) :: ((encC y375.cell) ++ ((Value.slice a381 y375.table.length c382) :: [])))) ⟨_, rfl, ⟨_, _, rfl, hl416, he417⟩⟩ rfl
      refine WL.sto (L' := [gsl 62 (rawE 57) (Value.slice a315 l313.length c316) ((rs314).set (i312).toNat r421), blk b364 62 (encR x342 (Value.slice a357 x342.table.length c358))]) (X.storeEl (i := 0) (j := (i312).toNat) (off := 0) (n := 57) (x := _) (y := r421) (vs := (Value.bool y375.is) :: ((encC y375.cell) ++ ((Value.slice a381 y375.table.length c382) :: []))) (u := Value.agg (List.toArray ((Value.bool y375.is) :: ((encC y375.cell) ++ ((Value.slice a381 y375.table.length c382) :: []))))) (hs419.here) rfl hr398 hv396 ag62.size rfl rfl rfl rfl rfl rfl (by decide) ((show splice _ _ _ = r421.1 from by rw [hr422]; rfl)) rfl) rfl rfl ?_
      intro w426 ht427
      have hs428 := hs419.trans ht427
      have hs429 : St [] w w426 [gsl 62 (rawE 57) (Value.slice a315 (((l313).set (i312).toNat (⟨y375.is, y375.cell, y375.table⟩ : Rw)).length) c316) ((rs314).set (i312).toNat r421), blk b364 62 (encR x342 (Value.slice a357 x342.table.length c358))] := by first | (simpa only [List.length_set] using hs428) | (simp only [List.length_set]; exact hs428)
      have ht430 : St [gsl 62 (rawE 57) (Value.slice a315 l313.length c316) rs314, blk b364 62 (encR x342 (Value.slice a357 x342.table.length c358))] w384 w426 [gsl 62 (rawE 57) (Value.slice a315 (((l313).set (i312).toNat (⟨y375.is, y375.cell, y375.table⟩ : Rw)).length) c316) ((rs314).set (i312).toNat r421), blk b364 62 (encR x342 (Value.slice a357 x342.table.length c358))] := by first | (simpa only [List.length_set, List.nil_append, List.cons_append] using ht427) | (simp only [List.length_set]; exact ht427)
      refine WL.nil ?_
      refine blockN ?_
      refine thenN ?_
      refine WC.region ?_
      obtain ⟨hg431, h432⟩ := ckE (c := -9223372036854775808 ≤ i312 + 1 ∧ i312 + 1 ≤ 9223372036854775807) h389
      refine WL.val (R.add (a := i312) (b := 1) (z := i312 + 1) (by exact s339) rfl (w64e rfl hg431.1 hg431.2)) rfl ?_
      refine WL.val (R.move (v := Value.int .i64 (i312 + 1)) rfl) rfl ?_
      refine WL.nil ?_
      have ht433 := (hs429.here).perm (L' := [gsl 62 (rawE 57) (Value.slice a315 (((l313).set (i312).toNat (⟨y375.is, y375.cell, y375.table⟩ : Rw)).length) c316) ((rs314).set (i312).toNat r421)]) (G := [blk b364 62 (encR x342 (Value.slice a357 x342.table.length c358))]) ((List.Perm.refl _))
      have hs434 := hs429.trans ht433
      have hr435 := elT ((((((ht370.trans ht373).trans ht380).trans ht411).trans ht418).trans ht430).trans ht433) he328
      have hr436 := rlT (ht430.trans ht433) hr423
      exact roundEnd (s := k327) ⟨i312 + 1, (l313).set (i312).toNat (⟨y375.is, y375.cell, y375.table⟩ : Rw), (rs314).set (i312).toNat r421, a315, c316, (Eq.trans (show _ = Value.slice a315 l313.length c316 from s336) (by simp only [List.length_set])), s337, s338, rfl, hr435, hr436, h432, hs434⟩ (Nat.lt_succ_self _)
    · have h437 := ifF hc340 h335
      refine WL.val (R.lssF (k := .i64) (a := i312) (b := ((p0.length : Nat) : Int)) un3 (by exact s339) (by exact s338) hc340) rfl ?_
      refine WL.nil ?_
      refine thenN ?_
      refine WC.seq ?_
      refine WC.condF rfl rfl ?_
      refine WC.exit ?_
      refine thenE ?_
      refine thenE ?_
      refine blockHit ?_
      exact joinI ⟨l313, rs314, a315, c316, s336, hr329, h437, hs326⟩
  · rintro σ332 w331 ⟨l317, rs318, a319, c320, s439, hr334, h438, hs333⟩
    subst hK322
    refine thenN ?_
    refine WC.seq ?_
    refine WC.region ?_
    refine WL.val (R.move (v := Value.slice a319 l317.length c320) (by exact s439)) rfl ?_
    refine WL.val (R.assign (v := Value.slice a319 l317.length c320) rfl) rfl ?_
    refine WL.nil ?_
    refine thenN ?_
    refine WC.ret ?_
    obtain ⟨a440, c441, hv442, hl443, he444⟩ := el_freezeR hs333 (List.Perm.refl _) rfl hr334
    obtain ⟨rfl, rfl⟩ : a319 = a440 ∧ c320 = c441 := ⟨(Value.slice.inj hv442).1, (Value.slice.inj hv442).2.2⟩
    have ht445 := (hs333.here).perm (L' := []) (G := [gsl 62 (rawE 57) (Value.slice a319 l317.length c320) rs318]) ((List.Perm.refl _))
    have hs446 := hs333.trans ht445
    obtain rfl := Option.some.inj (show some l317 = some r from h438)
    exact ret1 (P := Try.prog) (n := 23) (fn := Try.f126) (R := fun v w' => ∃ ra0, ∃ rc0, v = Value.slice ra0 l317.length rc0 ∧ l317.length ≤ rc0 ∧ elems rowW w' (In (fun _ => False) w [] []) ra0 l317 ∧ St [] w w' []) (t := 2) (v := Value.slice a319 l317.length c320) rfl rfl rfl ⟨a319, c320, rfl, hl443, he444, hs446⟩

end Go.Proofs.Ytckcldimnelklaa
