/- The functions come to what their twins answer: group 17. -/
import Derived.Test.YtckcldimnelklaaTA
import Derived.Test.YtckcldimnelklaaLG
import Derived.Test.YtckcldimnelklaaD17
namespace Go.Proofs.Ytckcldimnelklaa
open Go
set_option linter.unusedVariables false
set_option linter.unusedSimpArgs false
set_option maxRecDepth 100000
set_option maxHeartbeats 4000000

theorem cmay17_ok (w : World) (ok : Nat → Prop) (p0 : Int) {r : Bool} (h : cmay17 p0 = some r) :
    Ret Try.prog 105 [Value.int .i64 p0] w (fun v w' => v = Value.bool r ∧ St [] w w' []) := by
  rw [cmay17] at h
  have hs100 : St [] w w [] := St.start w
  refine enter (n := 9) Try.func105 rfl rfl rfl ?_
  refine WC.seq ?_
  refine WC.region ?_
  refine WL.val (R.assign (v := Value.bool false) rfl) rfl ?_
  refine WL.nil ?_
  refine thenN ?_
  refine WC.seq ?_
  refine WC.region ?_
  refine WL.val (R.move (v := Value.int .i64 p0) rfl) rfl ?_
  by_cases hc101 : 4 ≤ p0
  · have h102 := ifT hc101 h
    refine WL.val (R.geqT (k := .i64) (a := p0) (b := 4) un3 rfl rfl hc101) rfl ?_
    refine WL.val (R.move (v := Value.bool true) rfl) rfl ?_
    refine WL.guardY (e := 5) rfl rfl rfl ?_
    refine WL.val (R.move (v := Value.int .i64 p0) rfl) rfl ?_
    refine WL.guardY (e := 5) rfl rfl rfl ?_
    by_cases hc103 : p0 ≤ 16
    · have h104 := ifT hc103 h102
      refine WL.val (R.leqT (k := .i64) (a := p0) (b := 16) un3 rfl rfl hc103) rfl ?_
      refine WL.val (R.pickT (v := Value.bool true) rfl rfl) rfl ?_
      refine WL.val (R.assign (v := Value.bool true) rfl) rfl ?_
      refine WL.nil ?_
      refine thenN ?_
      refine WC.ret ?_
      obtain rfl := Option.some.inj (show some true = some r from h104)
      exact ret1 (P := Try.prog) (n := 9) (fn := Try.f105) (R := fun v w' => v = Value.bool true ∧ St [] w w' []) (t := 2) (v := Value.bool true) rfl rfl rfl ⟨rfl, hs100⟩
    · have h105 := ifF hc103 h102
      refine WL.val (R.leqF (k := .i64) (a := p0) (b := 16) un3 rfl rfl hc103) rfl ?_
      refine WL.val (R.pickT (v := Value.bool false) rfl rfl) rfl ?_
      refine WL.val (R.assign (v := Value.bool false) rfl) rfl ?_
      refine WL.nil ?_
      refine thenN ?_
      refine WC.ret ?_
      obtain rfl := Option.some.inj (show some false = some r from h105)
      exact ret1 (P := Try.prog) (n := 9) (fn := Try.f105) (R := fun v w' => v = Value.bool false ∧ St [] w w' []) (t := 2) (v := Value.bool false) rfl rfl rfl ⟨rfl, hs100⟩
  · have h106 := ifF hc101 h
    refine WL.val (R.geqF (k := .i64) (a := p0) (b := 4) un3 rfl rfl hc101) rfl ?_
    refine WL.val (R.move (v := Value.bool false) rfl) rfl ?_
    refine WL.guardN (e := 5) (v := .bool false) rfl rfl rfl rfl ?_
    refine WL.guardN (e := 5) (v := .bool false) rfl rfl rfl rfl ?_
    refine WL.val (R.pickF (v := Value.bool false) rfl rfl) rfl ?_
    refine WL.val (R.assign (v := Value.bool false) rfl) rfl ?_
    refine WL.nil ?_
    refine thenN ?_
    refine WC.ret ?_
    obtain rfl := Option.some.inj (show some false = some r from h106)
    exact ret1 (P := Try.prog) (n := 9) (fn := Try.f105) (R := fun v w' => v = Value.bool false ∧ St [] w w' []) (t := 2) (v := Value.bool false) rfl rfl rfl ⟨rfl, hs100⟩

theorem cnew17_ok (w : World) (ok : Nat → Prop) (p0 : Int) {r : (Option ((Int × Int) × Int)) × Int} (h : cnew17 p0 = some r) :
    Ret Try.prog 42 [Value.int .i64 p0] w (fun v w' => ∃ rp0, ∃ rL0, v = Value.tuple #[rp0, Value.int .i64 r.2] ∧ objR (fun (b : Nat) (d : (Int × Int) × Int) (L : List Ent) => L = [blk b 83 ([Value.int .i64 d.1.1, Value.int .i64 d.1.2] ++ ((Value.int .i64 d.2) :: []))]) r.1 rp0 rL0 ∧ St [] w w' (rL0)) := by
  rw [cnew17] at h
  have hs100 : St [] w w [] := St.start w
  refine enter (n := 13) Try.func42 rfl rfl rfl ?_
  refine WC.seq ?_
  refine WC.region ?_
  refine WL.val (R.assign (v := Value.pointer none) rfl) rfl ?_
  refine WL.val (R.assign (v := Value.int .i64 0) rfl) rfl ?_
  refine WL.nil ?_
  refine thenN ?_
  refine WC.seq ?_
  refine WC.seq ?_
  refine WC.region ?_
  refine WL.val (R.move (v := Value.int .i64 p0) rfl) rfl ?_
  obtain ⟨y101, hx102, h103⟩ := ob (o := cmay17 p0) h
  refine WL.call (cmay17_ok _ (In ok w [] []) p0  hx102) (R.call (vs := [Value.int .i64 p0]) (caps := []) bo105 rfl rfl) rfl ?_
  rintro v106 w107 ⟨rfl, ht104⟩
  have ht105 := hs100.call (N := []) (M := []) (List.Perm.refl _) ht104
  have hs108 := hs100.trans ht105
  refine WL.val (R.not (b := y101) rfl) rfl ?_
  refine WL.nil ?_
  refine thenN ?_
  by_cases hc109 : y101 = true
  · have h110 := ifT hc109 h103
    have hk111 : (!y101) = false := by simp [hc109]
    refine WC.condF (Eq.trans (show _ = Value.bool (!y101) from rfl) (congrArg Value.bool hk111)) rfl ?_
    refine WC.skip ?_
    refine thenN ?_
    refine WC.seq ?_
    refine WC.region ?_
    refine WL.val (R.move (v := Value.int .i64 p0) rfl) rfl ?_
    obtain ⟨hg112, h113⟩ := ckE (c := -9223372036854775808 ≤ 2 * p0 ∧ 2 * p0 ≤ 9223372036854775807) h110
    refine WL.val (R.mul (a := 2) (b := p0) (z := 2 * p0) rfl rfl (w64e rfl hg112.1 hg112.2)) rfl ?_
    have hd114 : ∀ w, (Instr.build 81 #[(1, Value.int .i64 (2 * p0))]).run Try.prog w = .ok (Value.agg (List.toArray [Value.int .i64 0, Value.int .i64 (2 * p0)])) w := fun _ => by kernel_rfl
    refine WL.val (R.build (vs := [(1, Value.int .i64 (2 * p0))]) rfl hd114) rfl ?_
    refine WL.val (R.move (v := Value.int .i64 p0) rfl) rfl ?_
    have hd115 : ∀ w, (Instr.build 83 #[(0, Value.agg (List.toArray [Value.int .i64 0, Value.int .i64 (2 * p0)])), (1, Value.int .i64 p0)]).run Try.prog w = .ok (Value.agg (List.toArray ([Value.int .i64 0, Value.int .i64 (2 * p0)] ++ ((Value.int .i64 p0) :: [])))) w := fun _ => by kernel_rfl
    refine WL.val (R.build (vs := [(0, Value.agg (List.toArray [Value.int .i64 0, Value.int .i64 (2 * p0)])), (1, Value.int .i64 p0)]) rfl hd115) rfl ?_
    refine WL.new (L' := fun b116 => [blk b116 83 ([Value.int .i64 0, Value.int .i64 (2 * p0)] ++ ((Value.int .i64 p0) :: []))]) (f := fun b116 => Value.pointer (some ⟨b116, 0, none⟩)) (X.box (v := Value.agg (List.toArray ([Value.int .i64 0, Value.int .i64 (2 * p0)] ++ ((Value.int .i64 p0) :: [])))) (c := [Value.int .i64 0, Value.int .i64 (2 * p0)] ++ ((Value.int .i64 p0) :: [])) (hs108.here) rfl rfl (fun _ => rfl)) rfl ?_
    intro b116 w117 ht122 he119 hz120
    have hs123 := hs108.trans ht122
    refine WL.val (R.assign (v := Value.pointer (some ⟨b116, 0, none⟩)) rfl) rfl ?_
    refine WL.val (R.assign (v := Value.int .i64 0) rfl) rfl ?_
    refine WL.nil ?_
    refine thenN ?_
    refine WC.ret ?_
    obtain rfl := Option.some.inj (show some ((some ((0, 2 * p0), p0)), 0) = some r from h113)
    exact ret2 (P := Try.prog) (n := 13) (fn := Try.f42) (R := fun v w' => ∃ rp0, ∃ rL0, v = Value.tuple #[rp0, Value.int .i64 ((some ((0, 2 * p0), p0)), 0).2] ∧ objR (fun (b : Nat) (d : (Int × Int) × Int) (L : List Ent) => L = [blk b 83 ([Value.int .i64 d.1.1, Value.int .i64 d.1.2] ++ ((Value.int .i64 d.2) :: []))]) ((some ((0, 2 * p0), p0)), 0).1 rp0 rL0 ∧ St [] w w' (rL0)) (t := 2) (u := 3) (v := Value.pointer (some ⟨b116, 0, none⟩)) (v' := Value.int .i64 0) rfl rfl rfl rfl rfl ⟨Value.pointer (some ⟨b116, 0, none⟩), _, rfl, ⟨_, rfl, rfl⟩, hs123⟩
  · have h124 := ifF hc109 h103
    have hk125 : (!y101) = true := by simp [hc109]
    refine WC.condT (Eq.trans (show _ = Value.bool (!y101) from rfl) (congrArg Value.bool hk125)) rfl ?_
    refine WC.seq ?_
    refine WC.region ?_
    refine WL.val (R.assign (v := Value.pointer none) rfl) rfl ?_
    refine WL.val (R.assign (v := Value.int .i64 1) rfl) rfl ?_
    refine WL.nil ?_
    refine thenN ?_
    refine WC.ret ?_
    obtain rfl := Option.some.inj (show some (none, 1) = some r from h124)
    exact ret2 (P := Try.prog) (n := 13) (fn := Try.f42) (R := fun v w' => ∃ rp0, ∃ rL0, v = Value.tuple #[rp0, Value.int .i64 (none, 1).2] ∧ objR (fun (b : Nat) (d : (Int × Int) × Int) (L : List Ent) => L = [blk b 83 ([Value.int .i64 d.1.1, Value.int .i64 d.1.2] ++ ((Value.int .i64 d.2) :: []))]) (none, 1).1 rp0 rL0 ∧ St [] w w' (rL0)) (t := 2) (u := 3) (v := Value.pointer none) (v' := Value.int .i64 1) rfl rfl rfl rfl rfl ⟨(Value.pointer none), [], rfl, ⟨rfl, rfl⟩, hs108⟩

theorem even17_ok (w : World) (ok : Nat → Prop) (p0 : Int) (p1 : List Hd) (p2 : Int) (a1 : Option Addr) (c1 : Nat) (he1 : elems heldW w ok a1 p1) (hc1 : p1.length ≤ c1) {r : Bool} (h : even17 p0 p1 p2 = some r) :
    Ret Try.prog 45 [Value.int .i64 p0, Value.slice a1 p1.length c1, Value.int .i64 p2] w (fun v w' => v = Value.bool r ∧ St [] w w' []) := by
  rw [even17] at h
  have hs100 : St [] w w [] := St.start w
  have he1001 := el0 (L0 := []) (fun b _ => out_nil b) he1
  refine enter (n := 48) Try.func45 rfl rfl rfl ?_
  refine WC.seq ?_
  refine WC.region ?_
  refine WL.val (R.assign (v := Value.bool false) rfl) rfl ?_
  refine WL.nil ?_
  refine thenN ?_
  refine WC.seq ?_
  refine WC.seq ?_
  refine WC.region ?_
  refine WL.val (R.move (v := Value.int .i64 p0) rfl) rfl ?_
  obtain ⟨y102, hx103, h104⟩ := ob (o := cmay17 p0) h
  refine WL.call (cmay17_ok _ (In ok w [] []) p0  hx103) (R.call (vs := [Value.int .i64 p0]) (caps := []) bo105 rfl rfl) rfl ?_
  rintro v107 w108 ⟨rfl, ht105⟩
  have ht106 := hs100.call (N := []) (M := []) (List.Perm.refl _) ht105
  have hs109 := hs100.trans ht106
  refine WL.val (R.not (b := y102) rfl) rfl ?_
  refine WL.val (R.move (v := Value.bool (!y102)) rfl) rfl ?_
  by_cases hc110 : y102 = true
  · have h111 := ifT hc110 h104
    have hk112 : (!y102) = false := by simp [hc110]
    refine WL.guardY (e := 13) (Eq.trans (show _ = Value.bool (!y102) from rfl) (congrArg Value.bool hk112)) rfl rfl ?_
    refine WL.val (R.move (v := Value.int .i64 p2) rfl) rfl ?_
    refine WL.guardY (e := 13) (Eq.trans (show _ = Value.bool (!y102) from rfl) (congrArg Value.bool hk112)) rfl rfl ?_
    by_cases hc113 : p2 < 0
    · have h114 := ifT hc113 h111
      refine WL.val (R.lssT (k := .i64) (a := p2) (b := 0) un2 rfl rfl hc113) rfl ?_
      refine WL.val (R.pickF (v := Value.bool true) (Eq.trans (show _ = Value.bool (!y102) from rfl) (congrArg Value.bool hk112)) rfl) rfl ?_
      refine WL.val (R.move (v := Value.bool true) rfl) rfl ?_
      refine WL.guardN (e := 17) (v := .bool true) rfl rfl rfl rfl ?_
      refine WL.guardN (e := 17) (v := .bool true) rfl rfl rfl rfl ?_
      refine WL.val (R.pickT (v := Value.bool true) rfl rfl) rfl ?_
      refine WL.nil ?_
      refine thenN ?_
      refine WC.condT rfl rfl ?_
      refine WC.seq ?_
      refine WC.region ?_
      refine WL.val (R.assign (v := Value.bool false) rfl) rfl ?_
      refine WL.nil ?_
      refine thenN ?_
      refine WC.ret ?_
      obtain rfl := Option.some.inj (show some false = some r from h114)
      exact ret1 (P := Try.prog) (n := 48) (fn := Try.f45) (R := fun v w' => v = Value.bool false ∧ St [] w w' []) (t := 6) (v := Value.bool false) rfl rfl rfl ⟨rfl, hs109⟩
    · have h115 := ifF hc113 h111
      refine WL.val (R.lssF (k := .i64) (a := p2) (b := 0) un2 rfl rfl hc113) rfl ?_
      refine WL.val (R.pickF (v := Value.bool false) (Eq.trans (show _ = Value.bool (!y102) from rfl) (congrArg Value.bool hk112)) rfl) rfl ?_
      refine WL.val (R.move (v := Value.bool false) rfl) rfl ?_
      refine WL.guardY (e := 17) rfl rfl rfl ?_
      refine WL.val (R.move (v := Value.int .i64 p2) rfl) rfl ?_
      refine WL.guardY (e := 17) rfl rfl rfl ?_
      by_cases hc116 : 1099511627776 < p2
      · have h117 := ifT hc116 h115
        refine WL.val (R.gtrT (k := .i64) (a := p2) (b := 1099511627776) un2 rfl rfl hc116) rfl ?_
        refine WL.val (R.pickF (v := Value.bool true) rfl rfl) rfl ?_
        refine WL.nil ?_
        refine thenN ?_
        refine WC.condT rfl rfl ?_
        refine WC.seq ?_
        refine WC.region ?_
        refine WL.val (R.assign (v := Value.bool false) rfl) rfl ?_
        refine WL.nil ?_
        refine thenN ?_
        refine WC.ret ?_
        obtain rfl := Option.some.inj (show some false = some r from h117)
        exact ret1 (P := Try.prog) (n := 48) (fn := Try.f45) (R := fun v w' => v = Value.bool false ∧ St [] w w' []) (t := 6) (v := Value.bool false) rfl rfl rfl ⟨rfl, hs109⟩
      · have h118 := ifF hc116 h115
        refine WL.val (R.gtrF (k := .i64) (a := p2) (b := 1099511627776) un2 rfl rfl hc116) rfl ?_
        refine WL.val (R.pickF (v := Value.bool false) rfl rfl) rfl ?_
        refine WL.nil ?_
        refine thenN ?_
        refine WC.condF rfl rfl ?_
        refine WC.skip ?_
        refine thenN ?_
        refine WC.seq ?_
        refine WC.region ?_
        refine WL.val (R.assign (v := Value.int .i64 0) rfl) rfl ?_
        refine WL.nil ?_
        refine thenN ?_
        refine WC.seq ?_
        refine WC.seq ?_
        refine WC.region ?_
        refine WL.val (R.move (v := Value.slice a1 p1.length c1) rfl) rfl ?_
        refine WL.val (R.move (v := Value.int .i64 p0) rfl) rfl ?_
        refine WL.val (R.move (v := Value.slice a1 p1.length c1) rfl) rfl ?_
        refine WL.val (R.len (a := a1) (n := p1.length) (c := c1) un28 rfl) rfl ?_
        refine WL.val (R.min (a := p0) (b := ((p1.length : Nat) : Int)) (z := min p0 ((p1.length : Nat) : Int)) rfl rfl rfl) rfl ?_
        obtain ⟨hg119, h120⟩ := ckE (c := 0 ≤ min p0 ((p1.length : Nat) : Int) ∧ min p0 ((p1.length : Nat) : Int) ≤ ((p1.length : Nat) : Int)) h118
        have hr121 := elT ht106 he1001
        have hn124 : (p1.take (min p0 ((p1.length : Nat) : Int)).toNat).length = (min p0 ((p1.length : Nat) : Int)).toNat := take_len hg119
        have he122 := elems_take (min p0 ((p1.length : Nat) : Int)).toNat hr121
        have hl123 : (p1.take (min p0 ((p1.length : Nat) : Int)).toNat).length ≤ c1 := by rw [hn124]; exact toCap hg119 hc1
        refine WL.val (R.sliceToN (n := 56) (z := min p0 ((p1.length : Nat) : Int)) (N := (p1.take (min p0 ((p1.length : Nat) : Int)).toNat).length) un28 ag60.size rfl rfl hg119 hn124 hc1) rfl ?_
        refine WL.val (R.len (a := a1) (n := ((p1.take (min p0 ((p1.length : Nat) : Int)).toNat).length)) (c := c1) un28 rfl) rfl ?_
        refine WL.val (R.move (v := Value.int .i64 0) rfl) rfl ?_
        refine WL.nil ?_
        refine thenN ?_
        obtain ⟨K213, hK214, h215⟩ := kE (G := fun K213 => even17_l1 p1 p0 p2 K213 1000000 0 0) h120
        refine WC.join (fun σ222 w221 => ∃ i212 : Int, σ222 0 = (Value.int .i64 p0) ∧ σ222 7 = (Value.int .i64 i212) ∧ K213 i212 = some r ∧ St [] w w221 []) ?_ ?_
        · refine WC.block ?_
          refine WC.loop (T := Nat) (fun k219 σ217 w216 => ∃ i210 : Int, ∃ i211 : Int, σ217 0 = (Value.int .i64 p0) ∧ σ217 2 = (Value.int .i64 p2) ∧ σ217 7 = (Value.int .i64 i210) ∧ σ217 26 = (Value.slice a1 ((p1.take (min p0 ((p1.length : Nat) : Int)).toNat).length) c1) ∧ σ217 27 = (Value.int .i64 (((p1.take (min p0 ((p1.length : Nat) : Int)).toNat).length : Nat) : Int)) ∧ σ217 28 = (Value.int .i64 i211) ∧ elems heldW w216 (In ok w [] []) a1 (p1.take (min p0 ((p1.length : Nat) : Int)).toNat) ∧ even17_l1 p1 p0 p2 K213 k219 i210 i211 = some r ∧ St [] w w216 []) (fun k219 => k219) 1000000 ⟨0, 0, rfl, rfl, rfl, rfl, rfl, rfl, he122, h215, hs109⟩ ?_
          rintro k219 σ217 w216 ⟨i210, i211, s225, s226, s227, s228, s229, s230, he220, h224, hs218⟩
          rcases k219 with _ | k219
          · rw [even17_l1] at h224; cases h224
          rw [even17_l1] at h224
          refine WC.seq ?_
          refine WC.region ?_
          by_cases hc231 : i211 < (((p1.take (min p0 ((p1.length : Nat) : Int)).toNat).length : Nat) : Int)
          · have h232 := ifT hc231 h224
            refine WL.val (R.lssT (k := .i64) (a := i211) (b := (((p1.take (min p0 ((p1.length : Nat) : Int)).toNat).length : Nat) : Int)) un3 (by exact s230) (by exact s229) hc231) rfl ?_
            refine WL.nil ?_
            refine thenN ?_
            refine WC.seq ?_
            refine WC.condT rfl rfl ?_
            refine WC.skip ?_
            refine thenN ?_
            refine WC.seq ?_
            refine WC.block ?_
            refine WC.seq ?_
            refine WC.region ?_
            obtain ⟨x233, hx234, h235⟩ := ob (o := rd (p1.take (min p0 ((p1.length : Nat) : Int)).toNat) i211) h232
            obtain ⟨h0236, hx237, hl238, hm239⟩ := rdE hx234
            obtain ⟨ad240, e245, ha241, hp242, hat243, hrd244⟩ := he220 _ _ hx237
            obtain ⟨-, rfl⟩ := hrd244
            refine WL.val (R.indexS (n := 56) (m := (i211).toNat) (a := a1) (ad := ad240) (len := ((p1.take (min p0 ((p1.length : Nat) : Int)).toNat).length)) (cap := c1) (z := i211) un28 ag60.size (by exact s228) ha241 (by exact s230) hm239 hl238 hp242) rfl ?_
            refine WL.val (R.loadA (cs := encH x233) (n := 56) ag60 rfl hat243 rfl) rfl ?_
            refine WL.new (L' := fun b247 => [blk b247 60 (encH Hd.none)]) (f := fun b247 => Value.pointer (some ⟨b247, 0, none⟩)) (X.alloc (c := encH Hd.none) (hs218.here) zr60 rfl (fun _ => rfl)) rfl ?_
            intro b247 w248 ht253 he250 hz251
            have hs254 := hs218.trans ht253
            refine WL.sto (L' := [blk b247 60 (encH x233)]) (X.store (i := 0) (n := 56) (b := b247) (off := 0) (c := encH Hd.none) (U := 60) (vs := encH x233) (v := Value.agg (List.toArray (encH x233))) (c' := encH x233) (hs254.here) rfl ag60.size rfl rfl rfl rfl rfl rfl rfl rfl) rfl rfl ?_
            intro w255 ht256
            have hs257 := hs254.trans ht256
            refine WL.nil ?_
            refine thenN ?_
            refine WC.seq ?_
            refine WC.region ?_
            refine WL.val (R.fieldAddr (o := 0) (o' := 0) fa60_0 rfl rfl) rfl ?_
            refine WL.val (R.loadL (v := Value.bool x233.is) lf4 rfl (hs257.at (i := 0) (off := 0) (n := 1) (cs := [Value.bool x233.is]) rfl rfl rfl)) rfl ?_
            refine WL.val (R.move (v := Value.bool x233.is) rfl) rfl ?_
            by_cases hc258 : x233.is = true
            · have h259 := ifT hc258 h235
              refine WL.guardY (e := 34) (Eq.trans (show _ = Value.bool x233.is from rfl) (congrArg Value.bool hc258)) rfl rfl ?_
              refine WL.val (R.fieldAddr (o := 0) (o' := 1) fa60_1 rfl rfl) rfl ?_
              refine WL.guardY (e := 34) (Eq.trans (show _ = Value.bool x233.is from rfl) (congrArg Value.bool hc258)) rfl rfl ?_
              refine WL.val (R.fieldAddr (o := 1) (o' := 1) fa58_0 rfl rfl) rfl ?_
              refine WL.guardY (e := 34) (Eq.trans (show _ = Value.bool x233.is from rfl) (congrArg Value.bool hc258)) rfl rfl ?_
              refine WL.val (R.loadL (v := Value.int .i64 x233.cell.age) lf2 rfl (hs257.at (i := 0) (off := 1) (n := 1) (cs := [Value.int .i64 x233.cell.age]) rfl rfl rfl)) rfl ?_
              refine WL.guardY (e := 34) (Eq.trans (show _ = Value.bool x233.is from rfl) (congrArg Value.bool hc258)) rfl rfl ?_
              refine WL.val (R.move (v := Value.int .i64 p2) (by exact s226)) rfl ?_
              refine WL.guardY (e := 34) (Eq.trans (show _ = Value.bool x233.is from rfl) (congrArg Value.bool hc258)) rfl rfl ?_
              by_cases hc260 : x233.cell.age = p2
              · have h261 := ifT hc260 h259
                refine WL.val (R.eqlT (k := .i64) (a := x233.cell.age) (b := p2) un2 rfl rfl hc260) rfl ?_
                refine WL.val (R.pickT (v := Value.bool true) (Eq.trans (show _ = Value.bool x233.is from rfl) (congrArg Value.bool hc258)) rfl) rfl ?_
                refine WL.nil ?_
                refine thenN ?_
                refine WC.condT rfl rfl ?_
                refine WC.region ?_
                refine WL.val (R.move (v := Value.int .i64 i210) (by exact s227)) rfl ?_
                obtain ⟨hg262, h263⟩ := ckE (c := -9223372036854775808 ≤ i210 + 1 ∧ i210 + 1 ≤ 9223372036854775807) h261
                refine WL.val (R.add (a := i210) (b := 1) (z := i210 + 1) rfl rfl (w64e rfl hg262.1 hg262.2)) rfl ?_
                refine WL.val (R.assign (v := Value.int .i64 (i210 + 1)) rfl) rfl ?_
                refine WL.nil ?_
                refine blockN ?_
                refine thenN ?_
                refine WC.region ?_
                obtain ⟨hg264, h265⟩ := ckE (c := -9223372036854775808 ≤ i211 + 1 ∧ i211 + 1 ≤ 9223372036854775807) h263
                refine WL.val (R.add (a := i211) (b := 1) (z := i211 + 1) (by exact s230) rfl (w64e rfl hg264.1 hg264.2)) rfl ?_
                refine WL.val (R.move (v := Value.int .i64 (i211 + 1)) rfl) rfl ?_
                refine WL.nil ?_
                have ht266 := (hs257.here).perm (L' := []) (G := [blk b247 60 (encH x233)]) ((List.Perm.refl _))
                have hs267 := hs257.trans ht266
                have hr268 := elT ((ht253.trans ht256).trans ht266) he220
                exact roundEnd (s := k219) ⟨i210 + 1, i211 + 1, s225, s226, rfl, s228, s229, rfl, hr268, h265, hs267⟩ (Nat.lt_succ_self _)
              · have h269 := ifF hc260 h259
                refine WL.val (R.eqlF (k := .i64) (a := x233.cell.age) (b := p2) un2 rfl rfl hc260) rfl ?_
                refine WL.val (R.pickT (v := Value.bool false) (Eq.trans (show _ = Value.bool x233.is from rfl) (congrArg Value.bool hc258)) rfl) rfl ?_
                refine WL.nil ?_
                refine thenN ?_
                refine WC.condF rfl rfl ?_
                refine WC.skip ?_
                refine blockN ?_
                refine thenN ?_
                refine WC.region ?_
                obtain ⟨hg270, h271⟩ := ckE (c := -9223372036854775808 ≤ i211 + 1 ∧ i211 + 1 ≤ 9223372036854775807) h269
                refine WL.val (R.add (a := i211) (b := 1) (z := i211 + 1) (by exact s230) rfl (w64e rfl hg270.1 hg270.2)) rfl ?_
                refine WL.val (R.move (v := Value.int .i64 (i211 + 1)) rfl) rfl ?_
                refine WL.nil ?_
                have ht272 := (hs257.here).perm (L' := []) (G := [blk b247 60 (encH x233)]) ((List.Perm.refl _))
                have hs273 := hs257.trans ht272
                have hr274 := elT ((ht253.trans ht256).trans ht272) he220
                exact roundEnd (s := k219) ⟨i210, i211 + 1, s225, s226, s227, s228, s229, rfl, hr274, h271, hs273⟩ (Nat.lt_succ_self _)
            · have h275 := ifF hc258 h235
              refine WL.guardN (e := 34) (v := .bool false) (Eq.trans (show _ = Value.bool x233.is from rfl) (congrArg Value.bool (Bool.eq_false_iff.2 hc258))) rfl rfl rfl ?_
              refine WL.guardN (e := 34) (v := .bool false) (Eq.trans (show _ = Value.bool x233.is from rfl) (congrArg Value.bool (Bool.eq_false_iff.2 hc258))) rfl rfl rfl ?_
              refine WL.guardN (e := 34) (v := .bool false) (Eq.trans (show _ = Value.bool x233.is from rfl) (congrArg Value.bool (Bool.eq_false_iff.2 hc258))) rfl rfl rfl ?_
              refine WL.guardN (e := 34) (v := .bool false) (Eq.trans (show _ = Value.bool x233.is from rfl) (congrArg Value.bool (Bool.eq_false_iff.2 hc258))) rfl rfl rfl ?_
              refine WL.guardN (e := 34) (v := .bool false) (Eq.trans (show _ = Value.bool x233.is from rfl) (congrArg Value.bool (Bool.eq_false_iff.2 hc258))) rfl rfl rfl ?_
              refine WL.val (R.pickF (v := Value.bool false) (Eq.trans (show _ = Value.bool x233.is from rfl) (congrArg Value.bool (Bool.eq_false_iff.2 hc258))) rfl) rfl ?_
              refine WL.nil ?_
              refine thenN ?_
              refine WC.condF rfl rfl ?_
              refine WC.skip ?_
              refine blockN ?_
              refine thenN ?_
              refine WC.region ?_
              obtain ⟨hg276, h277⟩ := ckE (c := -9223372036854775808 ≤ i211 + 1 ∧ i211 + 1 ≤ 9223372036854775807) h275
              refine WL.val (R.add (a := i211) (b := 1) (z := i211 + 1) (by exact s230) rfl (w64e rfl hg276.1 hg276.2)) rfl ?_
              refine WL.val (R.move (v := Value.int .i64 (i211 + 1)) rfl) rfl ?_
              refine WL.nil ?_
              have ht278 := (hs257.here).perm (L' := []) (G := [blk b247 60 (encH x233)]) ((List.Perm.refl _))
              have hs279 := hs257.trans ht278
              have hr280 := elT ((ht253.trans ht256).trans ht278) he220
              exact roundEnd (s := k219) ⟨i210, i211 + 1, s225, s226, s227, s228, s229, rfl, hr280, h277, hs279⟩ (Nat.lt_succ_self _)
          · have h281 := ifF hc231 h224
            refine WL.val (R.lssF (k := .i64) (a := i211) (b := (((p1.take (min p0 ((p1.length : Nat) : Int)).toNat).length : Nat) : Int)) un3 (by exact s230) (by exact s229) hc231) rfl ?_
            refine WL.nil ?_
            refine thenN ?_
            refine WC.seq ?_
            refine WC.condF rfl rfl ?_
            refine WC.exit ?_
            refine thenE ?_
            refine thenE ?_
            refine blockHit ?_
            exact joinI ⟨i210, s225, s227, h281, hs218⟩
        · rintro σ222 w221 ⟨i212, s283, s284, h282, hs223⟩
          subst hK214
          refine thenN ?_
          refine WC.seq ?_
          refine WC.region ?_
          refine WL.val (R.move (v := Value.int .i64 i212) (by exact s284)) rfl ?_
          refine WL.val (R.move (v := Value.int .i64 p0) (by exact s283)) rfl ?_
          obtain ⟨hg285, h286⟩ := ckE (c := -9223372036854775808 ≤ p0 - 1 ∧ p0 - 1 ≤ 9223372036854775807) h282
          refine WL.val (R.sub (a := p0) (b := 1) (z := p0 - 1) rfl rfl (w64e rfl hg285.1 hg285.2)) rfl ?_
          by_cases hc287 : (p0 - 1) ≤ i212
          · have h288 := ifT hc287 h286
            refine WL.val (R.geqT (k := .i64) (a := i212) (b := p0 - 1) un3 rfl rfl hc287) rfl ?_
            refine WL.val (R.assign (v := Value.bool true) rfl) rfl ?_
            refine WL.nil ?_
            refine thenN ?_
            refine WC.ret ?_
            obtain rfl := Option.some.inj (show some true = some r from h288)
            exact ret1 (P := Try.prog) (n := 48) (fn := Try.f45) (R := fun v w' => v = Value.bool true ∧ St [] w w' []) (t := 6) (v := Value.bool true) rfl rfl rfl ⟨rfl, hs223⟩
          · have h289 := ifF hc287 h286
            refine WL.val (R.geqF (k := .i64) (a := i212) (b := p0 - 1) un3 rfl rfl hc287) rfl ?_
            refine WL.val (R.assign (v := Value.bool false) rfl) rfl ?_
            refine WL.nil ?_
            refine thenN ?_
            refine WC.ret ?_
            obtain rfl := Option.some.inj (show some false = some r from h289)
            exact ret1 (P := Try.prog) (n := 48) (fn := Try.f45) (R := fun v w' => v = Value.bool false ∧ St [] w w' []) (t := 6) (v := Value.bool false) rfl rfl rfl ⟨rfl, hs223⟩
  · have h290 := ifF hc110 h104
    have hk291 : (!y102) = true := by simp [hc110]
    refine WL.guardN (e := 13) (v := .bool true) (Eq.trans (show _ = Value.bool (!y102) from rfl) (congrArg Value.bool hk291)) rfl rfl rfl ?_
    refine WL.guardN (e := 13) (v := .bool true) (Eq.trans (show _ = Value.bool (!y102) from rfl) (congrArg Value.bool hk291)) rfl rfl rfl ?_
    refine WL.val (R.pickT (v := Value.bool true) (Eq.trans (show _ = Value.bool (!y102) from rfl) (congrArg Value.bool hk291)) rfl) rfl ?_
    refine WL.val (R.move (v := Value.bool true) rfl) rfl ?_
    refine WL.guardN (e := 17) (v := .bool true) rfl rfl rfl rfl ?_
    refine WL.guardN (e := 17) (v := .bool true) rfl rfl rfl rfl ?_
    refine WL.val (R.pickT (v := Value.bool true) rfl rfl) rfl ?_
    refine WL.nil ?_
    refine thenN ?_
    refine WC.condT rfl rfl ?_
    refine WC.seq ?_
    refine WC.region ?_
    refine WL.val (R.assign (v := Value.bool false) rfl) rfl ?_
    refine WL.nil ?_
    refine thenN ?_
    refine WC.ret ?_
    obtain rfl := Option.some.inj (show some false = some r from h290)
    exact ret1 (P := Try.prog) (n := 48) (fn := Try.f45) (R := fun v w' => v = Value.bool false ∧ St [] w w' []) (t := 6) (v := Value.bool false) rfl rfl rfl ⟨rfl, hs109⟩

theorem on17_ok (w : World) (ok : Nat → Prop) (q0 : (Int × Int) × Int) (p1 : Bool) (b0o0 : Nat) (hok : ∀ b, ok b → out [blk b0o0 83 ([Value.int .i64 q0.1.1, Value.int .i64 q0.1.2] ++ ((Value.int .i64 q0.2) :: []))] b) (hL : St [blk b0o0 83 ([Value.int .i64 q0.1.1, Value.int .i64 q0.1.2] ++ ((Value.int .i64 q0.2) :: []))] w w [blk b0o0 83 ([Value.int .i64 q0.1.1, Value.int .i64 q0.1.2] ++ ((Value.int .i64 q0.2) :: []))]) {r : Bool × ((Int × Int) × Int)} (h : on17 q0 p1 = some r) :
    Ret Try.prog 106 [Value.pointer (some ⟨b0o0, 0, none⟩), Value.bool p1] w (fun v w' => v = Value.bool r.1 ∧ St [blk b0o0 83 ([Value.int .i64 q0.1.1, Value.int .i64 q0.1.2] ++ ((Value.int .i64 q0.2) :: []))] w w' [blk b0o0 83 ([Value.int .i64 r.2.1.1, Value.int .i64 r.2.1.2] ++ ((Value.int .i64 r.2.2) :: []))]) := by
  rw [on17] at h
  have hs100 : St [blk b0o0 83 ([Value.int .i64 q0.1.1, Value.int .i64 q0.1.2] ++ ((Value.int .i64 q0.2) :: []))] w w [blk b0o0 83 ([Value.int .i64 q0.1.1, Value.int .i64 q0.1.2] ++ ((Value.int .i64 q0.2) :: []))] := hL
  refine enter (n := 32) Try.func106 rfl rfl rfl ?_
  refine WC.seq ?_
  refine WC.region ?_
  refine WL.val (R.assign (v := Value.bool false) rfl) rfl ?_
  refine WL.nil ?_
  refine thenN ?_
  refine WC.seq ?_
  refine WC.seq ?_
  refine WC.region ?_
  refine WL.val (R.move (v := Value.bool p1) rfl) rfl ?_
  refine WL.val (R.not (b := p1) rfl) rfl ?_
  refine WL.nil ?_
  refine thenN ?_
  by_cases hc101 : p1 = true
  · have h102 := ifT hc101 h
    have hk103 : (!p1) = false := by simp [hc101]
    refine WC.condF (Eq.trans (show _ = Value.bool (!p1) from rfl) (congrArg Value.bool hk103)) rfl ?_
    refine WC.skip ?_
    refine thenN ?_
    refine WC.seq ?_
    refine WC.drawE mixed (NP.then NP.rq) ?_
    have ht104 := (hs100.here).ext (Ext.drew _)
    have hs105 := hs100.trans ht104
    refine WE.take 0 rfl (by decide +kernel) (by decide +kernel) (by decide +kernel) (by decide +kernel) rfl rfl (fun wq hq => R.move (v := Value.pointer (some ⟨b0o0, 0, none⟩)) rfl) ?_
    refine WE.take 1 rfl (by decide +kernel) (by decide +kernel) (by decide +kernel) (by decide +kernel) rfl rfl (fun wq hq => R.move (v := Value.pointer (some ⟨b0o0, 0, none⟩)) rfl) ?_
    refine WE.take 2 rfl (by decide +kernel) (by decide +kernel) (by decide +kernel) (by decide +kernel) rfl rfl (fun wq hq => R.nilCheckP (a := ⟨b0o0, 0, none⟩) rfl) ?_
    refine WE.take 3 rfl (by decide +kernel) (by decide +kernel) (by decide +kernel) (by decide +kernel) rfl rfl (fun wq hq => R.fieldAddr (o := 0) (o' := 0) fa81_0 rfl rfl) ?_
    refine WE.take 4 rfl (by decide +kernel) (by decide +kernel) (by decide +kernel) (by decide +kernel) rfl rfl (fun wq hq => R.loadL (v := Value.int .i64 q0.1.1) lf3 rfl ((hs105.ext hq).at (i := 0) (off := 0) (n := 1) (cs := [Value.int .i64 q0.1.1]) rfl rfl rfl)) ?_
    obtain ⟨hg106, h107⟩ := ckE (c := -9223372036854775808 ≤ q0.1.1 + 1 ∧ q0.1.1 + 1 ≤ 9223372036854775807) h102
    refine WE.take 5 rfl (by decide +kernel) (by decide +kernel) (by decide +kernel) (by decide +kernel) rfl rfl (fun wq hq => R.add (a := q0.1.1) (b := 1) (z := q0.1.1 + 1) rfl rfl (w64e rfl hg106.1 hg106.2)) ?_
    refine WE.take 6 rfl (by decide +kernel) (by decide +kernel) (by decide +kernel) (by decide +kernel) rfl rfl (fun wq hq => R.move (v := Value.pointer (some ⟨b0o0, 0, none⟩)) rfl) ?_
    refine WE.take 7 rfl (by decide +kernel) (by decide +kernel) (by decide +kernel) (by decide +kernel) rfl rfl (fun wq hq => R.nilCheckP (a := ⟨b0o0, 0, none⟩) rfl) ?_
    refine WE.take 8 rfl (by decide +kernel) (by decide +kernel) (by decide +kernel) (by decide +kernel) rfl rfl (fun wq hq => R.fieldAddr (o := 0) (o' := 1) fa81_1 rfl rfl) ?_
    refine WE.take 9 rfl (by decide +kernel) (by decide +kernel) (by decide +kernel) (by decide +kernel) rfl rfl (fun wq hq => R.loadL (v := Value.int .i64 q0.1.2) lf3 rfl ((hs105.ext hq).at (i := 0) (off := 1) (n := 1) (cs := [Value.int .i64 q0.1.2]) rfl rfl rfl)) ?_
    refine WE.take 10 rfl (by decide +kernel) (by decide +kernel) (by decide +kernel) (by decide +kernel) rfl rfl (fun wq hq => R.min (a := q0.1.1 + 1) (b := q0.1.2) (z := min (q0.1.1 + 1) q0.1.2) rfl rfl rfl) ?_
    refine WE.take 11 rfl (by decide +kernel) (by decide +kernel) (by decide +kernel) (by decide +kernel) rfl rfl (fun wq hq => R.nilCheckP (a := ⟨b0o0, 0, none⟩) rfl) ?_
    refine WE.take 12 rfl (by decide +kernel) (by decide +kernel) (by decide +kernel) (by decide +kernel) rfl rfl (fun wq hq => R.fieldAddr (o := 0) (o' := 0) fa81_0 rfl rfl) ?_
    refine WE.sto (L' := [blk b0o0 83 ([Value.int .i64 (min (q0.1.1 + 1) q0.1.2), Value.int .i64 q0.1.2] ++ ((Value.int .i64 q0.2) :: []))]) 13 (by decide +kernel) (by decide +kernel) rfl rfl rfl rfl (X.store (i := 0) (n := 1) (b := b0o0) (off := 0) (c := [Value.int .i64 q0.1.1, Value.int .i64 q0.1.2] ++ ((Value.int .i64 q0.2) :: [])) (U := 83) (vs := [Value.int .i64 (min (q0.1.1 + 1) q0.1.2)]) (v := Value.int .i64 (min (q0.1.1 + 1) q0.1.2)) (c' := [Value.int .i64 (min (q0.1.1 + 1) q0.1.2), Value.int .i64 q0.1.2] ++ ((Value.int .i64 q0.2) :: [])) (hs105.here) rfl lf3.size rfl rfl rfl rfl rfl rfl rfl rfl) ?_
    intro w108 ht109
    have hs110 := hs105.trans ht109
    refine WE.done (by decide +kernel) ?_
    refine thenN ?_
    refine WC.seq ?_
    refine WC.drawE mixed (NP.then NP.rq) ?_
    have ht111 := (hs110.here).ext (Ext.drew _)
    have hs112 := hs110.trans ht111
    refine WE.take 0 rfl (by decide +kernel) (by decide +kernel) (by decide +kernel) (by decide +kernel) rfl rfl (fun wq hq => R.move (v := Value.pointer (some ⟨b0o0, 0, none⟩)) rfl) ?_
    refine WE.take 1 rfl (by decide +kernel) (by decide +kernel) (by decide +kernel) (by decide +kernel) rfl rfl (fun wq hq => R.nilCheckP (a := ⟨b0o0, 0, none⟩) rfl) ?_
    refine WE.take 2 rfl (by decide +kernel) (by decide +kernel) (by decide +kernel) (by decide +kernel) rfl rfl (fun wq hq => R.fieldAddr (o := 0) (o' := 0) fa81_0 rfl rfl) ?_
    refine WE.take 3 rfl (by decide +kernel) (by decide +kernel) (by decide +kernel) (by decide +kernel) rfl rfl (fun wq hq => R.loadL (v := Value.int .i64 (min (q0.1.1 + 1) q0.1.2)) lf3 rfl ((hs112.ext hq).at (i := 0) (off := 0) (n := 1) (cs := [Value.int .i64 (min (q0.1.1 + 1) q0.1.2)]) rfl rfl rfl)) ?_
    refine WE.take 4 rfl (by decide +kernel) (by decide +kernel) (by decide +kernel) (by decide +kernel) rfl rfl (fun wq hq => R.move (v := Value.pointer (some ⟨b0o0, 0, none⟩)) rfl) ?_
    refine WE.take 5 rfl (by decide +kernel) (by decide +kernel) (by decide +kernel) (by decide +kernel) rfl rfl (fun wq hq => R.nilCheckP (a := ⟨b0o0, 0, none⟩) rfl) ?_
    refine WE.take 6 rfl (by decide +kernel) (by decide +kernel) (by decide +kernel) (by decide +kernel) rfl rfl (fun wq hq => R.fieldAddr (o := 0) (o' := 1) fa81_1 rfl rfl) ?_
    refine WE.take 7 rfl (by decide +kernel) (by decide +kernel) (by decide +kernel) (by decide +kernel) rfl rfl (fun wq hq => R.loadL (v := Value.int .i64 q0.1.2) lf3 rfl ((hs112.ext hq).at (i := 0) (off := 1) (n := 1) (cs := [Value.int .i64 q0.1.2]) rfl rfl rfl)) ?_
    by_cases hc113 : (min (q0.1.1 + 1) q0.1.2) = q0.1.2
    · have h114 := ifT hc113 h107
      refine WE.take 8 rfl (by decide +kernel) (by decide +kernel) (by decide +kernel) (by decide +kernel) rfl rfl (fun wq hq => R.eqlT (k := .i64) (a := min (q0.1.1 + 1) q0.1.2) (b := q0.1.2) un3 rfl rfl hc113) ?_
      refine WE.take 9 rfl (by decide +kernel) (by decide +kernel) (by decide +kernel) (by decide +kernel) rfl rfl (fun wq hq => R.assign (v := Value.bool true) rfl) ?_
      refine WE.done (by decide +kernel) ?_
      refine thenN ?_
      refine WC.ret ?_
      obtain rfl := Option.some.inj (show some (true, ((min (q0.1.1 + 1) q0.1.2, q0.1.2), q0.2)) = some r from h114)
      exact ret1 (P := Try.prog) (n := 32) (fn := Try.f106) (R := fun v w' => v = Value.bool (true, ((min (q0.1.1 + 1) q0.1.2, q0.1.2), q0.2)).1 ∧ St [blk b0o0 83 ([Value.int .i64 q0.1.1, Value.int .i64 q0.1.2] ++ ((Value.int .i64 q0.2) :: []))] w w' [blk b0o0 83 ([Value.int .i64 (true, ((min (q0.1.1 + 1) q0.1.2, q0.1.2), q0.2)).2.1.1, Value.int .i64 (true, ((min (q0.1.1 + 1) q0.1.2, q0.1.2), q0.2)).2.1.2] ++ ((Value.int .i64 (true, ((min (q0.1.1 + 1) q0.1.2, q0.1.2), q0.2)).2.2) :: []))]) (t := 4) (v := Value.bool true) rfl rfl rfl ⟨rfl, hs112⟩
    · have h115 := ifF hc113 h107
      refine WE.take 8 rfl (by decide +kernel) (by decide +kernel) (by decide +kernel) (by decide +kernel) rfl rfl (fun wq hq => R.eqlF (k := .i64) (a := min (q0.1.1 + 1) q0.1.2) (b := q0.1.2) un3 rfl rfl hc113) ?_
      refine WE.take 9 rfl (by decide +kernel) (by decide +kernel) (by decide +kernel) (by decide +kernel) rfl rfl (fun wq hq => R.assign (v := Value.bool false) rfl) ?_
      refine WE.done (by decide +kernel) ?_
      refine thenN ?_
      refine WC.ret ?_
      obtain rfl := Option.some.inj (show some (false, ((min (q0.1.1 + 1) q0.1.2, q0.1.2), q0.2)) = some r from h115)
      exact ret1 (P := Try.prog) (n := 32) (fn := Try.f106) (R := fun v w' => v = Value.bool (false, ((min (q0.1.1 + 1) q0.1.2, q0.1.2), q0.2)).1 ∧ St [blk b0o0 83 ([Value.int .i64 q0.1.1, Value.int .i64 q0.1.2] ++ ((Value.int .i64 q0.2) :: []))] w w' [blk b0o0 83 ([Value.int .i64 (false, ((min (q0.1.1 + 1) q0.1.2, q0.1.2), q0.2)).2.1.1, Value.int .i64 (false, ((min (q0.1.1 + 1) q0.1.2, q0.1.2), q0.2)).2.1.2] ++ ((Value.int .i64 (false, ((min (q0.1.1 + 1) q0.1.2, q0.1.2), q0.2)).2.2) :: []))]) (t := 4) (v := Value.bool false) rfl rfl rfl ⟨rfl, hs112⟩
  · have h116 := ifF hc101 h
    have hk117 : (!p1) = true := by simp [hc101]
    refine WC.condT (Eq.trans (show _ = Value.bool (!p1) from rfl) (congrArg Value.bool hk117)) rfl ?_
    refine WC.seq ?_
    refine WC.region ?_
    refine WL.val (R.move (v := Value.pointer (some ⟨b0o0, 0, none⟩)) rfl) rfl ?_
    refine WL.val (R.nilCheckP (a := ⟨b0o0, 0, none⟩) rfl) rfl ?_
    refine WL.val (R.fieldAddr (o := 0) (o' := 0) fa81_0 rfl rfl) rfl ?_
    refine WL.sto (L' := [blk b0o0 83 ([Value.int .i64 0, Value.int .i64 q0.1.2] ++ ((Value.int .i64 q0.2) :: []))]) (X.store (i := 0) (n := 1) (b := b0o0) (off := 0) (c := [Value.int .i64 q0.1.1, Value.int .i64 q0.1.2] ++ ((Value.int .i64 q0.2) :: [])) (U := 83) (vs := [Value.int .i64 0]) (v := Value.int .i64 0) (c' := [Value.int .i64 0, Value.int .i64 q0.1.2] ++ ((Value.int .i64 q0.2) :: [])) (hs100.here) rfl lf3.size rfl rfl rfl rfl rfl rfl rfl rfl) rfl rfl ?_
    intro w118 ht119
    have hs120 := hs100.trans ht119
    refine WL.nil ?_
    refine thenN ?_
    refine WC.seq ?_
    refine WC.region ?_
    refine WL.val (R.assign (v := Value.bool false) rfl) rfl ?_
    refine WL.nil ?_
    refine thenN ?_
    refine WC.ret ?_
    obtain rfl := Option.some.inj (show some (false, ((0, q0.1.2), q0.2)) = some r from h116)
    exact ret1 (P := Try.prog) (n := 32) (fn := Try.f106) (R := fun v w' => v = Value.bool (false, ((0, q0.1.2), q0.2)).1 ∧ St [blk b0o0 83 ([Value.int .i64 q0.1.1, Value.int .i64 q0.1.2] ++ ((Value.int .i64 q0.2) :: []))] w w' [blk b0o0 83 ([Value.int .i64 (false, ((0, q0.1.2), q0.2)).2.1.1, Value.int .i64 (false, ((0, q0.1.2), q0.2)).2.1.2] ++ ((Value.int .i64 (false, ((0, q0.1.2), q0.2)).2.2) :: []))]) (t := 4) (v := Value.bool false) rfl rfl rfl ⟨rfl, hs120⟩

theorem step17_ok (w : World) (ok : Nat → Prop) (q0 : (Int × Int) × Int) (p1 : List Hd) (p2 : Int) (a1 : Option Addr) (c1 : Nat) (he1 : elems heldW w ok a1 p1) (hc1 : p1.length ≤ c1) (b0o0 : Nat) (hok : ∀ b, ok b → out [blk b0o0 83 ([Value.int .i64 q0.1.1, Value.int .i64 q0.1.2] ++ ((Value.int .i64 q0.2) :: []))] b) (hL : St [blk b0o0 83 ([Value.int .i64 q0.1.1, Value.int .i64 q0.1.2] ++ ((Value.int .i64 q0.2) :: []))] w w [blk b0o0 83 ([Value.int .i64 q0.1.1, Value.int .i64 q0.1.2] ++ ((Value.int .i64 q0.2) :: []))]) {r : Bool × ((Int × Int) × Int)} (h : step17 q0 p1 p2 = some r) :
    Ret Try.prog 47 [Value.pointer (some ⟨b0o0, 0, none⟩), Value.slice a1 p1.length c1, Value.int .i64 p2] w (fun v w' => v = Value.bool r.1 ∧ St [blk b0o0 83 ([Value.int .i64 q0.1.1, Value.int .i64 q0.1.2] ++ ((Value.int .i64 q0.2) :: []))] w w' [blk b0o0 83 ([Value.int .i64 r.2.1.1, Value.int .i64 r.2.1.2] ++ ((Value.int .i64 r.2.2) :: []))]) := by
  rw [step17] at h
  have hs100 : St [blk b0o0 83 ([Value.int .i64 q0.1.1, Value.int .i64 q0.1.2] ++ ((Value.int .i64 q0.2) :: []))] w w [blk b0o0 83 ([Value.int .i64 q0.1.1, Value.int .i64 q0.1.2] ++ ((Value.int .i64 q0.2) :: []))] := hL
  have he1001 := el0 (L0 := [blk b0o0 83 ([Value.int .i64 q0.1.1, Value.int .i64 q0.1.2] ++ ((Value.int .i64 q0.2) :: []))]) hok he1
  refine enter (n := 27) Try.func47 rfl rfl rfl ?_
  refine WC.seq ?_
  refine WC.region ?_
  refine WL.val (R.assign (v := Value.bool false) rfl) rfl ?_
  refine WL.nil ?_
  refine thenN ?_
  refine WC.seq ?_
  refine WC.seq ?_
  refine WC.region ?_
  refine WL.val (R.move (v := Value.pointer (some ⟨b0o0, 0, none⟩)) rfl) rfl ?_
  refine WL.val (R.ptrNil (a := ⟨b0o0, 0, none⟩) un65 rfl rfl) rfl ?_
  refine WL.val (R.move (v := Value.bool false) rfl) rfl ?_
  refine WL.guardY (e := 9) rfl rfl rfl ?_
  refine WL.val (R.move (v := Value.pointer (some ⟨b0o0, 0, none⟩)) rfl) rfl ?_
  refine WL.guardY (e := 9) rfl rfl rfl ?_
  refine WL.val (R.nilCheckP (a := ⟨b0o0, 0, none⟩) rfl) rfl ?_
  refine WL.guardY (e := 9) rfl rfl rfl ?_
  refine WL.val (R.fieldAddr (o := 0) (o' := 2) fa83_1 rfl rfl) rfl ?_
  refine WL.guardY (e := 9) rfl rfl rfl ?_
  refine WL.val (R.loadL (v := Value.int .i64 q0.2) lf3 rfl (hs100.at (i := 0) (off := 2) (n := 1) (cs := [Value.int .i64 q0.2]) rfl rfl rfl)) rfl ?_
  refine WL.guardY (e := 9) rfl rfl rfl ?_
  by_cases hc102 : q0.2 = 0
  · have h103 := ifT hc102 h
    refine WL.val (R.eqlT (k := .i64) (a := q0.2) (b := 0) un3 rfl rfl hc102) rfl ?_
    refine WL.val (R.pickF (v := Value.bool true) rfl rfl) rfl ?_
    refine WL.nil ?_
    refine thenN ?_
    refine WC.condT rfl rfl ?_
    refine WC.seq ?_
    refine WC.region ?_
    refine WL.val (R.assign (v := Value.bool false) rfl) rfl ?_
    refine WL.nil ?_
    refine thenN ?_
    refine WC.ret ?_
    obtain rfl := Option.some.inj (show some (false, (q0.1, q0.2)) = some r from h103)
    exact ret1 (P := Try.prog) (n := 27) (fn := Try.f47) (R := fun v w' => v = Value.bool (false, (q0.1, q0.2)).1 ∧ St [blk b0o0 83 ([Value.int .i64 q0.1.1, Value.int .i64 q0.1.2] ++ ((Value.int .i64 q0.2) :: []))] w w' [blk b0o0 83 ([Value.int .i64 (false, (q0.1, q0.2)).2.1.1, Value.int .i64 (false, (q0.1, q0.2)).2.1.2] ++ ((Value.int .i64 (false, (q0.1, q0.2)).2.2) :: []))]) (t := 6) (v := Value.bool false) rfl rfl rfl ⟨rfl, hs100⟩
  · have h104 := ifF hc102 h
    refine WL.val (R.eqlF (k := .i64) (a := q0.2) (b := 0) un3 rfl rfl hc102) rfl ?_
    refine WL.val (R.pickF (v := Value.bool false) rfl rfl) rfl ?_
    refine WL.nil ?_
    refine thenN ?_
    refine WC.condF rfl rfl ?_
    refine WC.skip ?_
    refine thenN ?_
    refine WC.seq ?_
    refine WC.drawE mixed (NP.then NP.rq) ?_
    have ht105 := (hs100.here).ext (Ext.drew _)
    have hs106 := hs100.trans ht105
    refine WE.take 0 rfl (by decide +kernel) (by decide +kernel) (by decide +kernel) (by decide +kernel) rfl rfl (fun wq hq => R.move (v := Value.pointer (some ⟨b0o0, 0, none⟩)) rfl) ?_
    refine WE.take 1 rfl (by decide +kernel) (by decide +kernel) (by decide +kernel) (by decide +kernel) rfl rfl (fun wq hq => R.nilCheckP (a := ⟨b0o0, 0, none⟩) rfl) ?_
    refine WE.take 2 rfl (by decide +kernel) (by decide +kernel) (by decide +kernel) (by decide +kernel) rfl rfl (fun wq hq => R.fieldAddr (o := 0) (o' := 0) fa83_0 rfl rfl) ?_
    refine WE.take 3 rfl (by decide +kernel) (by decide +kernel) (by decide +kernel) (by decide +kernel) rfl rfl (fun wq hq => R.move (v := Value.pointer (some ⟨b0o0, 0, none⟩)) rfl) ?_
    refine WE.take 4 rfl (by decide +kernel) (by decide +kernel) (by decide +kernel) (by decide +kernel) rfl rfl (fun wq hq => R.nilCheckP (a := ⟨b0o0, 0, none⟩) rfl) ?_
    refine WE.take 5 rfl (by decide +kernel) (by decide +kernel) (by decide +kernel) (by decide +kernel) rfl rfl (fun wq hq => R.fieldAddr (o := 0) (o' := 2) fa83_1 rfl rfl) ?_
    refine WE.take 6 rfl (by decide +kernel) (by decide +kernel) (by decide +kernel) (by decide +kernel) rfl rfl (fun wq hq => R.loadL (v := Value.int .i64 q0.2) lf3 rfl ((hs106.ext hq).at (i := 0) (off := 2) (n := 1) (cs := [Value.int .i64 q0.2]) rfl rfl rfl)) ?_
    refine WE.take 7 rfl (by decide +kernel) (by decide +kernel) (by decide +kernel) (by decide +kernel) rfl rfl (fun wq hq => R.move (v := Value.slice a1 p1.length c1) rfl) ?_
    refine WE.take 8 rfl (by decide +kernel) (by decide +kernel) (by decide +kernel) (by decide +kernel) rfl rfl (fun wq hq => R.move (v := Value.int .i64 p2) rfl) ?_
    obtain ⟨y107, hx108, h109⟩ := ob (o := even17 q0.2 p1 p2) h104
    have hr110 := elT ht105 he1001
    refine WE.call 9 (by decide +kernel) rfl rfl rfl (even17_ok _ _ q0.2 p1 p2 _ _ hr110 hc1 hx108) (R.call (vs := [Value.int .i64 q0.2, Value.slice a1 p1.length c1, Value.int .i64 p2]) (caps := []) bo45 rfl rfl) ?_
    rintro v113 w114 ⟨rfl, ht111⟩
    refine ⟨.inr (show Ext _ _ from ht111.kept), ?_⟩
    have ht112 := hs106.call (N := [blk b0o0 83 ([Value.int .i64 q0.1.1, Value.int .i64 q0.1.2] ++ ((Value.int .i64 q0.2) :: []))]) (M := []) (List.Perm.refl _) ht111
    have hs115 := hs106.trans ht112
    obtain ⟨y116, hx117, h118⟩ := ob (o := on17 (q0.1, q0.2) y107) h109
    refine WE.call 10 (by decide +kernel) rfl rfl rfl (on17_ok _ (In ok w [blk b0o0 83 ([Value.int .i64 q0.1.1, Value.int .i64 q0.1.2] ++ ((Value.int .i64 q0.2) :: []))] [blk b0o0 83 ([Value.int .i64 q0.1.1, Value.int .i64 q0.1.2] ++ ((Value.int .i64 q0.2) :: []))]) (q0.1, q0.2) y107  b0o0 (In.outM (M := [blk b0o0 83 ([Value.int .i64 q0.1.1, Value.int .i64 q0.1.2] ++ ((Value.int .i64 q0.2) :: []))]) (N := []) ((List.Perm.refl _))) (show St [blk b0o0 83 ([Value.int .i64 q0.1.1, Value.int .i64 q0.1.2] ++ ((Value.int .i64 q0.2) :: []))] _ _ [blk b0o0 83 ([Value.int .i64 q0.1.1, Value.int .i64 q0.1.2] ++ ((Value.int .i64 q0.2) :: []))] from St.ofM (M := [blk b0o0 83 ([Value.int .i64 q0.1.1, Value.int .i64 q0.1.2] ++ ((Value.int .i64 q0.2) :: []))]) (N := []) hs115 ((List.Perm.refl _))) hx117) (R.call (vs := [Value.pointer (some ⟨b0o0, 0, none⟩), Value.bool y107]) (caps := []) bo106 rfl rfl) ?_
    rintro v121 w122 ⟨rfl, ht119⟩
    refine ⟨.inl (by decide +kernel), ?_⟩
    have ht120 := hs115.call (N := []) (M := [blk b0o0 83 ([Value.int .i64 q0.1.1, Value.int .i64 q0.1.2] ++ ((Value.int .i64 q0.2) :: []))]) ((List.Perm.refl _)) ht119
    have hs123 := hs115.trans ht120
    refine WE.take 11 rfl (by decide +kernel) (by decide +kernel) (by decide +kernel) (by decide +kernel) rfl rfl (fun wq hq => R.assign (v := Value.bool y116.1) rfl) ?_
    refine WE.done (by decide +kernel) ?_
    refine thenN ?_
    refine WC.ret ?_
    obtain rfl := Option.some.inj (show some (y116.1, (y116.2.1, y116.2.2)) = some r from h118)
    exact ret1 (P := Try.prog) (n := 27) (fn := Try.f47) (R := fun v w' => v = Value.bool (y116.1, (y116.2.1, y116.2.2)).1 ∧ St [blk b0o0 83 ([Value.int .i64 q0.1.1, Value.int .i64 q0.1.2] ++ ((Value.int .i64 q0.2) :: []))] w w' [blk b0o0 83 ([Value.int .i64 (y116.1, (y116.2.1, y116.2.2)).2.1.1, Value.int .i64 (y116.1, (y116.2.1, y116.2.2)).2.1.2] ++ ((Value.int .i64 (y116.1, (y116.2.1, y116.2.2)).2.2) :: []))]) (t := 6) (v := Value.bool y116.1) rfl rfl rfl ⟨rfl, hs123⟩

theorem stepN17_ok (w : World) (ok : Nat → Prop) (p1 : List Hd) (p2 : Int) (a1 : Option Addr) (c1 : Nat) (he1 : elems heldW w ok a1 p1) (hc1 : p1.length ≤ c1) {r : Bool} (h : stepN17 p1 p2 = some r) :
    Ret Try.prog 47 [Value.pointer none, Value.slice a1 p1.length c1, Value.int .i64 p2] w (fun v w' => v = Value.bool r ∧ St [] w w' []) := by
  rw [stepN17] at h
  have hs100 : St [] w w [] := St.start w
  have he1001 := el0 (L0 := []) (fun b _ => out_nil b) he1
  refine enter (n := 27) Try.func47 rfl rfl rfl ?_
  refine WC.seq ?_
  refine WC.region ?_
  refine WL.val (R.assign (v := Value.bool false) rfl) rfl ?_
  refine WL.nil ?_
  refine thenN ?_
  refine WC.seq ?_
  refine WC.seq ?_
  refine WC.region ?_
  refine WL.val (R.move (v := Value.pointer none) rfl) rfl ?_
  refine WL.val (R.nilNil un65 rfl rfl) rfl ?_
  refine WL.val (R.move (v := Value.bool true) rfl) rfl ?_
  refine WL.guardN (e := 9) (v := .bool true) rfl rfl rfl rfl ?_
  refine WL.guardN (e := 9) (v := .bool true) rfl rfl rfl rfl ?_
  refine WL.guardN (e := 9) (v := .bool true) rfl rfl rfl rfl ?_
  refine WL.guardN (e := 9) (v := .bool true) rfl rfl rfl rfl ?_
  refine WL.guardN (e := 9) (v := .bool true) rfl rfl rfl rfl ?_
  refine WL.val (R.pickT (v := Value.bool true) rfl rfl) rfl ?_
  refine WL.nil ?_
  refine thenN ?_
  refine WC.condT rfl rfl ?_
  refine WC.seq ?_
  refine WC.region ?_
  refine WL.val (R.assign (v := Value.bool false) rfl) rfl ?_
  refine WL.nil ?_
  refine thenN ?_
  refine WC.ret ?_
  obtain rfl := Option.some.inj (show some false = some r from h)
  exact ret1 (P := Try.prog) (n := 27) (fn := Try.f47) (R := fun v w' => v = Value.bool false ∧ St [] w w' []) (t := 6) (v := Value.bool false) rfl rfl rfl ⟨rfl, hs100⟩

theorem rnew17_ok (w : World) (ok : Nat → Prop) (p0 : Int) {r : (Option (Int × (List Bool))) × Int} (h : rnew17 p0 = some r) :
    Ret Try.prog 43 [Value.int .i64 p0] w (fun v w' => ∃ rp0, ∃ rL0, v = Value.tuple #[rp0, Value.int .i64 r.2] ∧ objR (fun (b : Nat) (d : Int × (List Bool)) (L : List Ent) => ∃ ra1 : Option Addr, ∃ rc2 : Nat, L = [blk b 227 [Value.int .i64 d.1, Value.slice ra1 d.2.length rc2], gsl 4 boolE (Value.slice ra1 d.2.length rc2) d.2]) r.1 rp0 rL0 ∧ St [] w w' (rL0)) := by
  rw [rnew17] at h
  have hs100 : St [] w w [] := St.start w
  refine enter (n := 13) Try.func43 rfl rfl rfl ?_
  refine WC.seq ?_
  refine WC.region ?_
  refine WL.val (R.assign (v := Value.pointer none) rfl) rfl ?_
  refine WL.val (R.assign (v := Value.int .i64 0) rfl) rfl ?_
  refine WL.nil ?_
  refine thenN ?_
  refine WC.seq ?_
  refine WC.seq ?_
  refine WC.region ?_
  refine WL.val (R.move (v := Value.int .i64 p0) rfl) rfl ?_
  by_cases hc101 : p0 < 4
  · have h102 := ifT hc101 h
    refine WL.val (R.lssT (k := .i64) (a := p0) (b := 4) un3 rfl rfl hc101) rfl ?_
    refine WL.val (R.move (v := Value.bool true) rfl) rfl ?_
    refine WL.guardN (e := 6) (v := .bool true) rfl rfl rfl rfl ?_
    refine WL.guardN (e := 6) (v := .bool true) rfl rfl rfl rfl ?_
    refine WL.val (R.pickT (v := Value.bool true) rfl rfl) rfl ?_
    refine WL.nil ?_
    refine thenN ?_
    refine WC.condT rfl rfl ?_
    refine WC.seq ?_
    refine WC.region ?_
    refine WL.val (R.assign (v := Value.pointer none) rfl) rfl ?_
    refine WL.val (R.assign (v := Value.int .i64 1) rfl) rfl ?_
    refine WL.nil ?_
    refine thenN ?_
    refine WC.ret ?_
    obtain rfl := Option.some.inj (show some (none, 1) = some r from h102)
    exact ret2 (P := Try.prog) (n := 13) (fn := Try.f43) (R := fun v w' => ∃ rp0, ∃ rL0, v = Value.tuple #[rp0, Value.int .i64 (none, 1).2] ∧ objR (fun (b : Nat) (d : Int × (List Bool)) (L : List Ent) => ∃ ra1 : Option Addr, ∃ rc2 : Nat, L = [blk b 227 [Value.int .i64 d.1, Value.slice ra1 d.2.length rc2], gsl 4 boolE (Value.slice ra1 d.2.length rc2) d.2]) (none, 1).1 rp0 rL0 ∧ St [] w w' (rL0)) (t := 2) (u := 3) (v := Value.pointer none) (v' := Value.int .i64 1) rfl rfl rfl rfl rfl ⟨(Value.pointer none), [], rfl, ⟨rfl, rfl⟩, hs100⟩
  · have h103 := ifF hc101 h
    refine WL.val (R.lssF (k := .i64) (a := p0) (b := 4) un3 rfl rfl hc101) rfl ?_
    refine WL.val (R.move (v := Value.bool false) rfl) rfl ?_
    refine WL.guardY (e := 6) rfl rfl rfl ?_
    refine WL.val (R.move (v := Value.int .i64 p0) rfl) rfl ?_
    refine WL.guardY (e := 6) rfl rfl rfl ?_
    by_cases hc104 : 16 < p0
    · have h105 := ifT hc104 h103
      refine WL.val (R.gtrT (k := .i64) (a := p0) (b := 16) un3 rfl rfl hc104) rfl ?_
      refine WL.val (R.pickF (v := Value.bool true) rfl rfl) rfl ?_
      refine WL.nil ?_
      refine thenN ?_
      refine WC.condT rfl rfl ?_
      refine WC.seq ?_
      refine WC.region ?_
      refine WL.val (R.assign (v := Value.pointer none) rfl) rfl ?_
      refine WL.val (R.assign (v := Value.int .i64 1) rfl) rfl ?_
      refine WL.nil ?_
      refine thenN ?_
      refine WC.ret ?_
      obtain rfl := Option.some.inj (show some (none, 1) = some r from h105)
      exact ret2 (P := Try.prog) (n := 13) (fn := Try.f43) (R := fun v w' => ∃ rp0, ∃ rL0, v = Value.tuple #[rp0, Value.int .i64 (none, 1).2] ∧ objR (fun (b : Nat) (d : Int × (List Bool)) (L : List Ent) => ∃ ra1 : Option Addr, ∃ rc2 : Nat, L = [blk b 227 [Value.int .i64 d.1, Value.slice ra1 d.2.length rc2], gsl 4 boolE (Value.slice ra1 d.2.length rc2) d.2]) (none, 1).1 rp0 rL0 ∧ St [] w w' (rL0)) (t := 2) (u := 3) (v := Value.pointer none) (v' := Value.int .i64 1) rfl rfl rfl rfl rfl ⟨(Value.pointer none), [], rfl, ⟨rfl, rfl⟩, hs100⟩
    · have h106 := ifF hc104 h103
      refine WL.val (R.gtrF (k := .i64) (a := p0) (b := 16) un3 rfl rfl hc104) rfl ?_
      refine WL.val (R.pickF (v := Value.bool false) rfl rfl) rfl ?_
      refine WL.nil ?_
      refine thenN ?_
      refine WC.condF rfl rfl ?_
      refine WC.skip ?_
      refine thenN ?_
      refine WC.seq ?_
      refine WC.region ?_
      refine WL.val (R.move (v := Value.int .i64 p0) rfl) rfl ?_
      have hd107 : ∀ w, (Instr.build 227 #[(0, Value.int .i64 p0)]).run Try.prog w = .ok (Value.agg (List.toArray [Value.int .i64 p0, Value.slice none 0 0])) w := fun _ => by kernel_rfl
      refine WL.val (R.build (vs := [(0, Value.int .i64 p0)]) rfl hd107) rfl ?_
      refine WL.new (L' := fun b108 => [blk b108 227 [Value.int .i64 p0, Value.slice none 0 0]]) (f := fun b108 => Value.pointer (some ⟨b108, 0, none⟩)) (X.box (v := Value.agg (List.toArray [Value.int .i64 p0, Value.slice none 0 0])) (c := [Value.int .i64 p0, Value.slice none 0 0]) (hs100.here) rfl rfl (fun _ => rfl)) rfl ?_
      intro b108 w109 ht114 he111 hz112
      have hs115 := hs100.trans ht114
      refine WL.val (R.assign (v := Value.pointer (some ⟨b108, 0, none⟩)) rfl) rfl ?_
      refine WL.val (R.assign (v := Value.int .i64 0) rfl) rfl ?_
      refine WL.nil ?_
      refine thenN ?_
      refine WC.ret ?_
      have ht116 := (hs115.here).addNil 4 boolE rfl
      have hs118 := hs115.trans ht116
      obtain rfl := Option.some.inj (show some ((some (p0, [])), 0) = some r from h106)
      exact ret2 (P := Try.prog) (n := 13) (fn := Try.f43) (R := fun v w' => ∃ rp0, ∃ rL0, v = Value.tuple #[rp0, Value.int .i64 ((some (p0, [])), 0).2] ∧ objR (fun (b : Nat) (d : Int × (List Bool)) (L : List Ent) => ∃ ra1 : Option Addr, ∃ rc2 : Nat, L = [blk b 227 [Value.int .i64 d.1, Value.slice ra1 d.2.length rc2], gsl 4 boolE (Value.slice ra1 d.2.length rc2) d.2]) ((some (p0, [])), 0).1 rp0 rL0 ∧ St [] w w' (rL0)) (t := 2) (u := 3) (v := Value.pointer (some ⟨b108, 0, none⟩)) (v' := Value.int .i64 0) rfl rfl rfl rfl rfl ⟨Value.pointer (some ⟨b108, 0, none⟩), _, rfl, ⟨_, rfl, none, 0, rfl⟩, hs118⟩

theorem reven17_ok (w : World) (ok : Nat → Prop) (p0 : Int) (p1 : List Hd) (p2 : Int) (a1 : Option Addr) (c1 : Nat) (he1 : elems heldW w ok a1 p1) (hc1 : p1.length ≤ c1) {r : Bool} (h : reven17 p0 p1 p2 = some r) :
    Ret Try.prog 46 [Value.int .i64 p0, Value.slice a1 p1.length c1, Value.int .i64 p2] w (fun v w' => v = Value.bool r ∧ St [] w w' []) := by
  rw [reven17] at h
  have hs100 : St [] w w [] := St.start w
  have he1001 := el0 (L0 := []) (fun b _ => out_nil b) he1
  refine enter (n := 57) Try.func46 rfl rfl rfl ?_
  refine WC.seq ?_
  refine WC.region ?_
  refine WL.val (R.assign (v := Value.bool false) rfl) rfl ?_
  refine WL.nil ?_
  refine thenN ?_
  refine WC.seq ?_
  refine WC.region ?_
  refine WL.val (R.assign (v := Value.int .i64 0) rfl) rfl ?_
  refine WL.nil ?_
  refine thenN ?_
  refine WC.seq ?_
  refine WC.seq ?_
  refine WC.region ?_
  refine WL.val (R.assign (v := Value.int .i64 0) rfl) rfl ?_
  refine WL.nil ?_
  refine thenN ?_
  obtain ⟨K173, hK174, h175⟩ := kE (G := fun K173 => reven17_l1 p0 p1 p2 K173 1000000 0 0) h
  refine WC.join (fun σ182 w181 => ∃ i172 : Int, σ182 0 = (Value.int .i64 p0) ∧ σ182 2 = (Value.int .i64 p2) ∧ σ182 7 = (Value.int .i64 i172) ∧ K173 i172 = some r ∧ St [] w w181 []) ?_ ?_
  · refine WC.block ?_
    refine WC.loop (T := Nat) (fun k179 σ177 w176 => ∃ i170 : Int, ∃ i171 : Int, σ177 0 = (Value.int .i64 p0) ∧ σ177 1 = (Value.slice a1 p1.length c1) ∧ σ177 2 = (Value.int .i64 p2) ∧ σ177 7 = (Value.int .i64 i170) ∧ σ177 8 = (Value.int .i64 i171) ∧ elems heldW w176 (In ok w [] []) a1 p1 ∧ reven17_l1 p0 p1 p2 K173 k179 i170 i171 = some r ∧ St [] w w176 []) (fun k179 => k179) 1000000 ⟨0, 0, rfl, rfl, rfl, rfl, rfl, he1001, h175, hs100⟩ ?_
    rintro k179 σ177 w176 ⟨i170, i171, s185, s186, s187, s188, s189, he180, h184, hs178⟩
    rcases k179 with _ | k179
    · rw [reven17_l1] at h184; cases h184
    rw [reven17_l1] at h184
    refine WC.seq ?_
    refine WC.seq ?_
    refine WC.region ?_
    refine WL.val (R.move (v := Value.int .i64 i171) (by exact s189)) rfl ?_
    refine WL.val (R.move (v := Value.int .i64 p0) (by exact s185)) rfl ?_
    by_cases hc190 : i171 < p0
    · have h191 := ifT hc190 h184
      refine WL.val (R.lssT (k := .i64) (a := i171) (b := p0) un3 rfl rfl hc190) rfl ?_
      refine WL.val (R.move (v := Value.bool true) rfl) rfl ?_
      refine WL.guardY (e := 12) rfl rfl rfl ?_
      refine WL.val (R.move (v := Value.int .i64 i171) (by exact s189)) rfl ?_
      refine WL.guardY (e := 12) rfl rfl rfl ?_
      refine WL.val (R.move (v := Value.slice a1 p1.length c1) (by exact s186)) rfl ?_
      refine WL.guardY (e := 12) rfl rfl rfl ?_
      refine WL.val (R.len (a := a1) (n := p1.length) (c := c1) un31 rfl) rfl ?_
      refine WL.guardY (e := 12) rfl rfl rfl ?_
      by_cases hc192 : i171 < ((p1.length : Nat) : Int)
      · have h193 := ifT hc192 h191
        refine WL.val (R.lssT (k := .i64) (a := i171) (b := ((p1.length : Nat) : Int)) un3 rfl rfl hc192) rfl ?_
        refine WL.val (R.pickT (v := Value.bool true) rfl rfl) rfl ?_
        refine WL.nil ?_
        refine thenN ?_
        refine WC.condT rfl rfl ?_
        refine WC.skip ?_
        refine thenN ?_
        refine WC.seq ?_
        refine WC.block ?_
        refine WC.seq ?_
        refine WC.region ?_
        refine WL.val (R.move (v := Value.slice a1 p1.length c1) (by exact s186)) rfl ?_
        refine WL.val (R.move (v := Value.int .i64 i171) (by exact s189)) rfl ?_
        obtain ⟨x194, hx195, h196⟩ := ob (o := rd p1 i171) h193
        obtain ⟨h0197, hx198, hl199, hm200⟩ := rdE hx195
        obtain ⟨ad201, e206, ha202, hp203, hat204, hrd205⟩ := he180 _ _ hx198
        obtain ⟨-, rfl⟩ := hrd205
        refine WL.val (R.indexS (n := 56) (m := (i171).toNat) (a := a1) (ad := ad201) (len := p1.length) (cap := c1) (z := i171) un31 ag202.size rfl ha202 rfl hm200 hl199 hp203) rfl ?_
        refine WL.val (R.fieldAddr (o := ad201.off + (i171).toNat * 56) (o' := ad201.off + (i171).toNat * 56) fa202_0 rfl rfl) rfl ?_
        refine WL.val (R.loadL (v := Value.bool x194.is) lf4 rfl (At.sub (off := 0) (n := 1) (ds := [Value.bool x194.is]) hat204 rfl rfl)) rfl ?_
        refine WL.val (R.move (v := Value.bool x194.is) rfl) rfl ?_
        by_cases hc208 : x194.is = true
        · have h209 := ifT hc208 h196
          refine WL.guardY (e := 25) (Eq.trans (show _ = Value.bool x194.is from rfl) (congrArg Value.bool hc208)) rfl rfl ?_
          refine WL.val (R.move (v := Value.slice a1 p1.length c1) (by exact s186)) rfl ?_
          refine WL.guardY (e := 25) (Eq.trans (show _ = Value.bool x194.is from rfl) (congrArg Value.bool hc208)) rfl rfl ?_
          refine WL.val (R.move (v := Value.int .i64 i171) (by exact s189)) rfl ?_
          refine WL.guardY (e := 25) (Eq.trans (show _ = Value.bool x194.is from rfl) (congrArg Value.bool hc208)) rfl rfl ?_
          refine WL.val (R.indexS (n := 56) (m := (i171).toNat) (a := a1) (ad := ad201) (len := p1.length) (cap := c1) (z := i171) un31 ag202.size rfl ha202 rfl hm200 hl199 hp203) rfl ?_
          refine WL.guardY (e := 25) (Eq.trans (show _ = Value.bool x194.is from rfl) (congrArg Value.bool hc208)) rfl rfl ?_
          refine WL.val (R.fieldAddr (o := ad201.off + (i171).toNat * 56) (o' := ad201.off + (i171).toNat * 56 + 1) fa202_1 rfl rfl) rfl ?_
          refine WL.guardY (e := 25) (Eq.trans (show _ = Value.bool x194.is from rfl) (congrArg Value.bool hc208)) rfl rfl ?_
          refine WL.val (R.fieldAddr (o := ad201.off + (i171).toNat * 56 + 1) (o' := ad201.off + (i171).toNat * 56 + 1) fa58_0 rfl rfl) rfl ?_
          refine WL.guardY (e := 25) (Eq.trans (show _ = Value.bool x194.is from rfl) (congrArg Value.bool hc208)) rfl rfl ?_
          refine WL.val (R.loadL (v := Value.int .i64 x194.cell.age) lf2 rfl (At.sub (off := 1) (n := 1) (ds := [Value.int .i64 x194.cell.age]) hat204 rfl rfl)) rfl ?_
          refine WL.guardY (e := 25) (Eq.trans (show _ = Value.bool x194.is from rfl) (congrArg Value.bool hc208)) rfl rfl ?_
          refine WL.val (R.move (v := Value.int .i64 p2) (by exact s187)) rfl ?_
          refine WL.guardY (e := 25) (Eq.trans (show _ = Value.bool x194.is from rfl) (congrArg Value.bool hc208)) rfl rfl ?_
          by_cases hc210 : x194.cell.age = p2
          · have h211 := ifT hc210 h209
            refine WL.val (R.eqlT (k := .i64) (a := x194.cell.age) (b := p2) un2 rfl rfl hc210) rfl ?_
            refine WL.val (R.pickT (v := Value.bool true) (Eq.trans (show _ = Value.bool x194.is from rfl) (congrArg Value.bool hc208)) rfl) rfl ?_
            refine WL.nil ?_
            refine thenN ?_
            refine WC.condT rfl rfl ?_
            refine WC.region ?_
            refine WL.val (R.move (v := Value.int .i64 i170) (by exact s188)) rfl ?_
            obtain ⟨hg212, h213⟩ := ckE (c := -9223372036854775808 ≤ i170 + 1 ∧ i170 + 1 ≤ 9223372036854775807) h211
            refine WL.val (R.add (a := i170) (b := 1) (z := i170 + 1) rfl rfl (w64e rfl hg212.1 hg212.2)) rfl ?_
            refine WL.val (R.assign (v := Value.int .i64 (i170 + 1)) rfl) rfl ?_
            refine WL.nil ?_
            refine blockN ?_
            refine thenN ?_
            refine WC.region ?_
            refine WL.val (R.move (v := Value.int .i64 i171) (by exact s189)) rfl ?_
            obtain ⟨hg214, h215⟩ := ckE (c := -9223372036854775808 ≤ i171 + 1 ∧ i171 + 1 ≤ 9223372036854775807) h213
            refine WL.val (R.add (a := i171) (b := 1) (z := i171 + 1) rfl rfl (w64e rfl hg214.1 hg214.2)) rfl ?_
            refine WL.val (R.assign (v := Value.int .i64 (i171 + 1)) rfl) rfl ?_
            refine WL.nil ?_
            exact roundEnd (s := k179) ⟨i170 + 1, i171 + 1, s185, s186, s187, rfl, rfl, he180, h215, hs178⟩ (Nat.lt_succ_self _)
          · have h216 := ifF hc210 h209
            refine WL.val (R.eqlF (k := .i64) (a := x194.cell.age) (b := p2) un2 rfl rfl hc210) rfl ?_
            refine WL.val (R.pickT (v := Value.bool false) (Eq.trans (show _ = Value.bool x194.is from rfl) (congrArg Value.bool hc208)) rfl) rfl ?_
            refine WL.nil ?_
            refine thenN ?_
            refine WC.condF rfl rfl ?_
            refine WC.skip ?_
            refine blockN ?_
            refine thenN ?_
            refine WC.region ?_
            refine WL.val (R.move (v := Value.int .i64 i171) (by exact s189)) rfl ?_
            obtain ⟨hg217, h218⟩ := ckE (c := -9223372036854775808 ≤ i171 + 1 ∧ i171 + 1 ≤ 9223372036854775807) h216
            refine WL.val (R.add (a := i171) (b := 1) (z := i171 + 1) rfl rfl (w64e rfl hg217.1 hg217.2)) rfl ?_
            refine WL.val (R.assign (v := Value.int .i64 (i171 + 1)) rfl) rfl ?_
            refine WL.nil ?_
            exact roundEnd (s := k179) ⟨i170, i171 + 1, s185, s186, s187, s188, rfl, he180, h218, hs178⟩ (Nat.lt_succ_self _)
        · have h219 := ifF hc208 h196
          refine WL.guardN (e := 25) (v := .bool false) (Eq.trans (show _ = Value.bool x194.is from rfl) (congrArg Value.bool (Bool.eq_false_iff.2 hc208))) rfl rfl rfl ?_
          refine WL.guardN (e := 25) (v := .bool false) (Eq.trans (show _ = Value.bool x194.is from rfl) (congrArg Value.bool (Bool.eq_false_iff.2 hc208))) rfl rfl rfl ?_
          refine WL.guardN (e := 25) (v := .bool false) (Eq.trans (show _ = Value.bool x194.is from rfl) (congrArg Value.bool (Bool.eq_false_iff.2 hc208))) rfl rfl rfl ?_
          refine WL.guardN (e := 25) (v := .bool false) (Eq.trans (show _ = Value.bool x194.is from rfl) (congrArg Value.bool (Bool.eq_false_iff.2 hc208))) rfl rfl rfl ?_
          refine WL.guardN (e := 25) (v := .bool false) (Eq.trans (show _ = Value.bool x194.is from rfl) (congrArg Value.bool (Bool.eq_false_iff.2 hc208))) rfl rfl rfl ?_
          refine WL.guardN (e := 25) (v := .bool false) (Eq.trans (show _ = Value.bool x194.is from rfl) (congrArg Value.bool (Bool.eq_false_iff.2 hc208))) rfl rfl rfl ?_
          refine WL.guardN (e := 25) (v := .bool false) (Eq.trans (show _ = Value.bool x194.is from rfl) (congrArg Value.bool (Bool.eq_false_iff.2 hc208))) rfl rfl rfl ?_
          refine WL.guardN (e := 25) (v := .bool false) (Eq.trans (show _ = Value.bool x194.is from rfl) (congrArg Value.bool (Bool.eq_false_iff.2 hc208))) rfl rfl rfl ?_
          refine WL.val (R.pickF (v := Value.bool false) (Eq.trans (show _ = Value.bool x194.is from rfl) (congrArg Value.bool (Bool.eq_false_iff.2 hc208))) rfl) rfl ?_
          refine WL.nil ?_
          refine thenN ?_
          refine WC.condF rfl rfl ?_
          refine WC.skip ?_
          refine blockN ?_
          refine thenN ?_
          refine WC.region ?_
          refine WL.val (R.move (v := Value.int .i64 i171) (by exact s189)) rfl ?_
          obtain ⟨hg220, h221⟩ := ckE (c := -9223372036854775808 ≤ i171 + 1 ∧ i171 + 1 ≤ 9223372036854775807) h219
          refine WL.val (R.add (a := i171) (b := 1) (z := i171 + 1) rfl rfl (w64e rfl hg220.1 hg220.2)) rfl ?_
          refine WL.val (R.assign (v := Value.int .i64 (i171 + 1)) rfl) rfl ?_
          refine WL.nil ?_
          exact roundEnd (s := k179) ⟨i170, i171 + 1, s185, s186, s187, s188, rfl, he180, h221, hs178⟩ (Nat.lt_succ_self _)
      · have h222 := ifF hc192 h191
        refine WL.val (R.lssF (k := .i64) (a := i171) (b := ((p1.length : Nat) : Int)) un3 rfl rfl hc192) rfl ?_
        refine WL.val (R.pickT (v := Value.bool false) rfl rfl) rfl ?_
        refine WL.nil ?_
        refine thenN ?_
        refine WC.condF rfl rfl ?_
        refine WC.exit ?_
        refine thenE ?_
        refine thenE ?_
        refine blockHit ?_
        exact joinI ⟨i170, s185, s187, s188, h222, hs178⟩
    · have h223 := ifF hc190 h184
      refine WL.val (R.lssF (k := .i64) (a := i171) (b := p0) un3 rfl rfl hc190) rfl ?_
      refine WL.val (R.move (v := Value.bool false) rfl) rfl ?_
      refine WL.guardN (e := 12) (v := .bool false) rfl rfl rfl rfl ?_
      refine WL.guardN (e := 12) (v := .bool false) rfl rfl rfl rfl ?_
      refine WL.guardN (e := 12) (v := .bool false) rfl rfl rfl rfl ?_
      refine WL.guardN (e := 12) (v := .bool false) rfl rfl rfl rfl ?_
      refine WL.val (R.pickF (v := Value.bool false) rfl rfl) rfl ?_
      refine WL.nil ?_
      refine thenN ?_
      refine WC.condF rfl rfl ?_
      refine WC.exit ?_
      refine thenE ?_
      refine thenE ?_
      refine blockHit ?_
      exact joinI ⟨i170, s185, s187, s188, h223, hs178⟩
  · rintro σ182 w181 ⟨i172, s225, s226, s227, h224, hs183⟩
    subst hK174
    refine thenN ?_
    refine WC.seq ?_
    refine WC.region ?_
    refine WL.val (R.move (v := Value.int .i64 p0) (by exact s225)) rfl ?_
    by_cases hc228 : 4 ≤ p0
    · have h229 := ifT hc228 h224
      refine WL.val (R.geqT (k := .i64) (a := p0) (b := 4) un3 rfl rfl hc228) rfl ?_
      refine WL.val (R.move (v := Value.bool true) rfl) rfl ?_
      refine WL.guardY (e := 39) rfl rfl rfl ?_
      refine WL.val (R.move (v := Value.int .i64 p0) (by exact s225)) rfl ?_
      refine WL.guardY (e := 39) rfl rfl rfl ?_
      by_cases hc230 : p0 ≤ 16
      · have h231 := ifT hc230 h229
        refine WL.val (R.leqT (k := .i64) (a := p0) (b := 16) un3 rfl rfl hc230) rfl ?_
        refine WL.val (R.pickT (v := Value.bool true) rfl rfl) rfl ?_
        refine WL.val (R.move (v := Value.bool true) rfl) rfl ?_
        refine WL.guardY (e := 43) rfl rfl rfl ?_
        refine WL.val (R.move (v := Value.int .i64 p2) (by exact s226)) rfl ?_
        refine WL.guardY (e := 43) rfl rfl rfl ?_
        by_cases hc232 : 0 ≤ p2
        · have h233 := ifT hc232 h231
          refine WL.val (R.geqT (k := .i64) (a := p2) (b := 0) un2 rfl rfl hc232) rfl ?_
          refine WL.val (R.pickT (v := Value.bool true) rfl rfl) rfl ?_
          refine WL.val (R.move (v := Value.bool true) rfl) rfl ?_
          refine WL.guardY (e := 47) rfl rfl rfl ?_
          refine WL.val (R.move (v := Value.int .i64 p2) (by exact s226)) rfl ?_
          refine WL.guardY (e := 47) rfl rfl rfl ?_
          by_cases hc234 : p2 ≤ 1099511627776
          · have h235 := ifT hc234 h233
            refine WL.val (R.leqT (k := .i64) (a := p2) (b := 1099511627776) un2 rfl rfl hc234) rfl ?_
            refine WL.val (R.pickT (v := Value.bool true) rfl rfl) rfl ?_
            refine WL.val (R.move (v := Value.bool true) rfl) rfl ?_
            refine WL.guardY (e := 51) rfl rfl rfl ?_
            refine WL.val (R.move (v := Value.int .i64 i172) (by exact s227)) rfl ?_
            refine WL.guardY (e := 51) rfl rfl rfl ?_
            refine WL.val (R.move (v := Value.int .i64 p0) (by exact s225)) rfl ?_
            refine WL.guardY (e := 51) rfl rfl rfl ?_
            obtain ⟨hg236, h237⟩ := ckE (c := -9223372036854775808 ≤ p0 - 1 ∧ p0 - 1 ≤ 9223372036854775807) h235
            refine WL.val (R.sub (a := p0) (b := 1) (z := p0 - 1) rfl rfl (w64e rfl hg236.1 hg236.2)) rfl ?_
            refine WL.guardY (e := 51) rfl rfl rfl ?_
            by_cases hc238 : (p0 - 1) ≤ i172
            · have h239 := ifT hc238 h237
              refine WL.val (R.geqT (k := .i64) (a := i172) (b := p0 - 1) un3 rfl rfl hc238) rfl ?_
              refine WL.val (R.pickT (v := Value.bool true) rfl rfl) rfl ?_
              refine WL.val (R.assign (v := Value.bool true) rfl) rfl ?_
              refine WL.nil ?_
              refine thenN ?_
              refine WC.ret ?_
              obtain rfl := Option.some.inj (show some true = some r from h239)
              exact ret1 (P := Try.prog) (n := 57) (fn := Try.f46) (R := fun v w' => v = Value.bool true ∧ St [] w w' []) (t := 6) (v := Value.bool true) rfl rfl rfl ⟨rfl, hs183⟩
            · have h240 := ifF hc238 h237
              refine WL.val (R.geqF (k := .i64) (a := i172) (b := p0 - 1) un3 rfl rfl hc238) rfl ?_
              refine WL.val (R.pickT (v := Value.bool false) rfl rfl) rfl ?_
              refine WL.val (R.assign (v := Value.bool false) rfl) rfl ?_
              refine WL.nil ?_
              refine thenN ?_
              refine WC.ret ?_
              obtain rfl := Option.some.inj (show some false = some r from h240)
              exact ret1 (P := Try.prog) (n := 57) (fn := Try.f46) (R := fun v w' => v = Value.bool false ∧ St [] w w' []) (t := 6) (v := Value.bool false) rfl rfl rfl ⟨rfl, hs183⟩
          · have h241 := ifF hc234 h233
            refine WL.val (R.leqF (k := .i64) (a := p2) (b := 1099511627776) un2 rfl rfl hc234) rfl ?_
            refine WL.val (R.pickT (v := Value.bool false) rfl rfl) rfl ?_
            refine WL.val (R.move (v := Value.bool false) rfl) rfl ?_
            refine WL.guardN (e := 51) (v := .bool false) rfl rfl rfl rfl ?_
            refine WL.guardN (e := 51) (v := .bool false) rfl rfl rfl rfl ?_
            refine WL.guardN (e := 51) (v := .bool false) rfl rfl rfl rfl ?_
            refine WL.guardN (e := 51) (v := .bool false) rfl rfl rfl rfl ?_
            refine WL.val (R.pickF (v := Value.bool false) rfl rfl) rfl ?_
            refine WL.val (R.assign (v := Value.bool false) rfl) rfl ?_
            refine WL.nil ?_
            refine thenN ?_
            refine WC.ret ?_
            obtain rfl := Option.some.inj (show some false = some r from h241)
            exact ret1 (P := Try.prog) (n := 57) (fn := Try.f46) (R := fun v w' => v = Value.bool false ∧ St [] w w' []) (t := 6) (v := Value.bool false) rfl rfl rfl ⟨rfl, hs183⟩
        · have h242 := ifF hc232 h231
          refine WL.val (R.geqF (k := .i64) (a := p2) (b := 0) un2 rfl rfl hc232) rfl ?_
          refine WL.val (R.pickT (v := Value.bool false) rfl rfl) rfl ?_
          refine WL.val (R.move (v := Value.bool false) rfl) rfl ?_
          refine WL.guardN (e := 47) (v := .bool false) rfl rfl rfl rfl ?_
          refine WL.guardN (e := 47) (v := .bool false) rfl rfl rfl rfl ?_
          refine WL.val (R.pickF (v := Value.bool false) rfl rfl) rfl ?_
          refine WL.val (R.move (v := Value.bool false) rfl) rfl ?_
          refine WL.guardN (e := 51) (v := .bool false) rfl rfl rfl rfl ?_
          refine WL.guardN (e := 51) (v := .bool false) rfl rfl rfl rfl ?_
          refine WL.guardN (e := 51) (v := .bool false) rfl rfl rfl rfl ?_
          refine WL.guardN (e := 51) (v := .bool false) rfl rfl rfl rfl ?_
          refine WL.val (R.pickF (v := Value.bool false) rfl rfl) rfl ?_
          refine WL.val (R.assign (v := Value.bool false) rfl) rfl ?_
          refine WL.nil ?_
          refine thenN ?_
          refine WC.ret ?_
          obtain rfl := Option.some.inj (show some false = some r from h242)
          exact ret1 (P := Try.prog) (n := 57) (fn := Try.f46) (R := fun v w' => v = Value.bool false ∧ St [] w w' []) (t := 6) (v := Value.bool false) rfl rfl rfl ⟨rfl, hs183⟩
      · have h243 := ifF hc230 h229
        refine WL.val (R.leqF (k := .i64) (a := p0) (b := 16) un3 rfl rfl hc230) rfl ?_
        refine WL.val (R.pickT (v := Value.bool false) rfl rfl) rfl ?_
        refine WL.val (R.move (v := Value.bool false) rfl) rfl ?_
        refine WL.guardN (e := 43) (v := .bool false) rfl rfl rfl rfl ?_
        refine WL.guardN (e := 43) (v := .bool false) rfl rfl rfl rfl ?_
        refine WL.val (R.pickF (v := Value.bool false) rfl rfl) rfl ?_
        refine WL.val (R.move (v := Value.bool false) rfl) rfl ?_
        refine WL.guardN (e := 47) (v := .bool false) rfl rfl rfl rfl ?_
        refine WL.guardN (e := 47) (v := .bool false) rfl rfl rfl rfl ?_
        refine WL.val (R.pickF (v := Value.bool false) rfl rfl) rfl ?_
        refine WL.val (R.move (v := Value.bool false) rfl) rfl ?_
        refine WL.guardN (e := 51) (v := .bool false) rfl rfl rfl rfl ?_
        refine WL.guardN (e := 51) (v := .bool false) rfl rfl rfl rfl ?_
        refine WL.guardN (e := 51) (v := .bool false) rfl rfl rfl rfl ?_
        refine WL.guardN (e := 51) (v := .bool false) rfl rfl rfl rfl ?_
        refine WL.val (R.pickF (v := Value.bool false) rfl rfl) rfl ?_
        refine WL.val (R.assign (v := Value.bool false) rfl) rfl ?_
        refine WL.nil ?_
        refine thenN ?_
        refine WC.ret ?_
        obtain rfl := Option.some.inj (show some false = some r from h243)
        exact ret1 (P := Try.prog) (n := 57) (fn := Try.f46) (R := fun v w' => v = Value.bool false ∧ St [] w w' []) (t := 6) (v := Value.bool false) rfl rfl rfl ⟨rfl, hs183⟩
    · have h244 := ifF hc228 h224
      refine WL.val (R.geqF (k := .i64) (a := p0) (b := 4) un3 rfl rfl hc228) rfl ?_
      refine WL.val (R.move (v := Value.bool false) rfl) rfl ?_
      refine WL.guardN (e := 39) (v := .bool false) rfl rfl rfl rfl ?_
      refine WL.guardN (e := 39) (v := .bool false) rfl rfl rfl rfl ?_
      refine WL.val (R.pickF (v := Value.bool false) rfl rfl) rfl ?_
      refine WL.val (R.move (v := Value.bool false) rfl) rfl ?_
      refine WL.guardN (e := 43) (v := .bool false) rfl rfl rfl rfl ?_
      refine WL.guardN (e := 43) (v := .bool false) rfl rfl rfl rfl ?_
      refine WL.val (R.pickF (v := Value.bool false) rfl rfl) rfl ?_
      refine WL.val (R.move (v := Value.bool false) rfl) rfl ?_
      refine WL.guardN (e := 47) (v := .bool false) rfl rfl rfl rfl ?_
      refine WL.guardN (e := 47) (v := .bool false) rfl rfl rfl rfl ?_
      refine WL.val (R.pickF (v := Value.bool false) rfl rfl) rfl ?_
      refine WL.val (R.move (v := Value.bool false) rfl) rfl ?_
      refine WL.guardN (e := 51) (v := .bool false) rfl rfl rfl rfl ?_
      refine WL.guardN (e := 51) (v := .bool false) rfl rfl rfl rfl ?_
      refine WL.guardN (e := 51) (v := .bool false) rfl rfl rfl rfl ?_
      refine WL.guardN (e := 51) (v := .bool false) rfl rfl rfl rfl ?_
      refine WL.val (R.pickF (v := Value.bool false) rfl rfl) rfl ?_
      refine WL.val (R.assign (v := Value.bool false) rfl) rfl ?_
      refine WL.nil ?_
      refine thenN ?_
      refine WC.ret ?_
      obtain rfl := Option.some.inj (show some false = some r from h244)
      exact ret1 (P := Try.prog) (n := 57) (fn := Try.f46) (R := fun v w' => v = Value.bool false ∧ St [] w w' []) (t := 6) (v := Value.bool false) rfl rfl rfl ⟨rfl, hs183⟩

theorem rstep17_ok (w : World) (ok : Nat → Prop) (q0 : Int × (List Bool)) (p1 : List Hd) (p2 : Int) (a1 : Option Addr) (c1 : Nat) (he1 : elems heldW w ok a1 p1) (hc1 : p1.length ≤ c1) (b0o0 : Nat) (a0o0 : Option Addr) (c0o0a : Nat) (hok : ∀ b, ok b → out [blk b0o0 227 [Value.int .i64 q0.1, Value.slice a0o0 q0.2.length c0o0a], gsl 4 boolE (Value.slice a0o0 q0.2.length c0o0a) q0.2] b) (hL : St [blk b0o0 227 [Value.int .i64 q0.1, Value.slice a0o0 q0.2.length c0o0a], gsl 4 boolE (Value.slice a0o0 q0.2.length c0o0a) q0.2] w w [blk b0o0 227 [Value.int .i64 q0.1, Value.slice a0o0 q0.2.length c0o0a], gsl 4 boolE (Value.slice a0o0 q0.2.length c0o0a) q0.2]) {r : Bool × (Int × (List Bool))} (h : rstep17 q0 p1 p2 = some r) :
    Ret Try.prog 48 [Value.pointer (some ⟨b0o0, 0, none⟩), Value.slice a1 p1.length c1, Value.int .i64 p2] w (fun v w' => ∃ ra1, ∃ rc2, v = Value.bool r.1 ∧ St [blk b0o0 227 [Value.int .i64 q0.1, Value.slice a0o0 q0.2.length c0o0a], gsl 4 boolE (Value.slice a0o0 q0.2.length c0o0a) q0.2] w w' [blk b0o0 227 [Value.int .i64 r.2.1, Value.slice ra1 r.2.2.length rc2], gsl 4 boolE (Value.slice ra1 r.2.2.length rc2) r.2.2]) := by
  rw [rstep17] at h
  have hs100 : St [blk b0o0 227 [Value.int .i64 q0.1, Value.slice a0o0 q0.2.length c0o0a], gsl 4 boolE (Value.slice a0o0 q0.2.length c0o0a) q0.2] w w [blk b0o0 227 [Value.int .i64 q0.1, Value.slice a0o0 q0.2.length c0o0a], gsl 4 boolE (Value.slice a0o0 q0.2.length c0o0a) q0.2] := hL
  have he1001 := el0 (L0 := [blk b0o0 227 [Value.int .i64 q0.1, Value.slice a0o0 q0.2.length c0o0a], gsl 4 boolE (Value.slice a0o0 q0.2.length c0o0a) q0.2]) hok he1
  refine enter (n := 57) Try.func48 rfl rfl rfl ?_
  refine WC.seq ?_
  refine WC.region ?_
  refine WL.val (R.assign (v := Value.bool false) rfl) rfl ?_
  refine WL.nil ?_
  refine thenN ?_
  refine WC.seq ?_
  refine WC.drawE mixed (NP.then NP.rq) ?_
  have ht102 := (hs100.here).ext (Ext.drew _)
  have hs103 := hs100.trans ht102
  refine WE.take 0 rfl (by decide +kernel) (by decide +kernel) (by decide +kernel) (by decide +kernel) rfl rfl (fun wq hq => R.move (v := Value.pointer (some ⟨b0o0, 0, none⟩)) rfl) ?_
  refine WE.take 1 rfl (by decide +kernel) (by decide +kernel) (by decide +kernel) (by decide +kernel) rfl rfl (fun wq hq => R.move (v := Value.pointer (some ⟨b0o0, 0, none⟩)) rfl) ?_
  refine WE.take 2 rfl (by decide +kernel) (by decide +kernel) (by decide +kernel) (by decide +kernel) rfl rfl (fun wq hq => R.nilCheckP (a := ⟨b0o0, 0, none⟩) rfl) ?_
  refine WE.take 3 rfl (by decide +kernel) (by decide +kernel) (by decide +kernel) (by decide +kernel) rfl rfl (fun wq hq => R.fieldAddr (o := 0) (o' := 1) fa227_1 rfl rfl) ?_
  refine WE.take 4 rfl (by decide +kernel) (by decide +kernel) (by decide +kernel) (by decide +kernel) rfl rfl (fun wq hq => R.loadL (v := Value.slice a0o0 q0.2.length c0o0a) lf85 rfl ((hs103.ext hq).at (i := 0) (off := 1) (n := 1) (cs := [Value.slice a0o0 q0.2.length c0o0a]) rfl rfl rfl)) ?_
  refine WE.take 5 rfl (by decide +kernel) (by decide +kernel) (by decide +kernel) (by decide +kernel) rfl rfl (fun wq hq => R.move (v := Value.pointer (some ⟨b0o0, 0, none⟩)) rfl) ?_
  refine WE.take 6 rfl (by decide +kernel) (by decide +kernel) (by decide +kernel) (by decide +kernel) rfl rfl (fun wq hq => R.nilCheckP (a := ⟨b0o0, 0, none⟩) rfl) ?_
  refine WE.take 7 rfl (by decide +kernel) (by decide +kernel) (by decide +kernel) (by decide +kernel) rfl rfl (fun wq hq => R.fieldAddr (o := 0) (o' := 0) fa227_0 rfl rfl) ?_
  refine WE.take 8 rfl (by decide +kernel) (by decide +kernel) (by decide +kernel) (by decide +kernel) rfl rfl (fun wq hq => R.loadL (v := Value.int .i64 q0.1) lf3 rfl ((hs103.ext hq).at (i := 0) (off := 0) (n := 1) (cs := [Value.int .i64 q0.1]) rfl rfl rfl)) ?_
  refine WE.take 9 rfl (by decide +kernel) (by decide +kernel) (by decide +kernel) (by decide +kernel) rfl rfl (fun wq hq => R.move (v := Value.slice a1 p1.length c1) rfl) ?_
  refine WE.take 10 rfl (by decide +kernel) (by decide +kernel) (by decide +kernel) (by decide +kernel) rfl rfl (fun wq hq => R.move (v := Value.int .i64 p2) rfl) ?_
  obtain ⟨y104, hx105, h106⟩ := ob (o := reven17 q0.1 p1 p2) h
  have hr107 := elT ht102 he1001
  refine WE.call 11 (by decide +kernel) rfl rfl rfl (reven17_ok _ _ q0.1 p1 p2 _ _ hr107 hc1 hx105) (R.call (vs := [Value.int .i64 q0.1, Value.slice a1 p1.length c1, Value.int .i64 p2]) (caps := []) bo46 rfl rfl) ?_
  rintro v110 w111 ⟨rfl, ht108⟩
  refine ⟨.inr (show Ext _ _ from ht108.kept), ?_⟩
  have ht109 := hs103.call (N := [blk b0o0 227 [Value.int .i64 q0.1, Value.slice a0o0 q0.2.length c0o0a], gsl 4 boolE (Value.slice a0o0 q0.2.length c0o0a) q0.2]) (M := []) (List.Perm.refl _) ht108
  have hs112 := hs103.trans ht109
  have hd118 : ∀ w : World, (Instr.buildSlice 85 1 #[(0, Value.bool y104)]).run Try.prog w = .ok (.slice (some ⟨w.heap.size, 0, none⟩) 1 1) { w with heap := w.heap.push (.cells (List.toArray [Value.bool y104]) 4) } := fun _ => by kernel_rfl
  refine WE.new (L' := fun b113 => [blk b0o0 227 [Value.int .i64 q0.1, Value.slice a0o0 q0.2.length c0o0a], gsl 4 boolE (Value.slice a0o0 q0.2.length c0o0a) q0.2, blk b113 4 [Value.bool y104]]) (f := fun b113 => Value.slice (some ⟨b113, 0, none⟩) 1 1) 12 (by decide +kernel) rfl rfl rfl (X.buildSlice (c := [Value.bool y104]) (vs := [(0, Value.bool y104)]) (hs112.here) rfl hd118 (fun _ => rfl)) ?_
  intro b113 w114 ht120 he116 hz117
  have hs121 := hs112.trans ht120
  obtain ⟨hg122, h123⟩ := ckE (c := q0.2.length < 1000000) h106
  refine WE.grow (L' := fun v124 => [blk b0o0 227 [Value.int .i64 q0.1, Value.slice a0o0 q0.2.length c0o0a], gsl 4 boolE v124 (q0.2 ++ [y104]), blk b113 4 [Value.bool y104]]) 13 (by decide +kernel) (by decide +kernel) rfl rfl rfl (X.append (i := 1) (e := boolE) (xs := q0.2) (ys := [y104]) (ad := ⟨b113, 0, none⟩) (m := 1) (c := 1) (hs121.here) sl85 rfl rfl rfl rfl ((hs121.here).at (i := 2) (off := 0) (n := 1) (cs := flat boolE [y104]) rfl rfl rfl) rfl rfl (room (n := 1) hg122 rfl (by decide)) (room63 (n := 1) hg122 rfl (by decide)) (fun _ => rfl)) ?_
  intro v124 w125 ht126
  obtain ⟨a127, c128, hv129⟩ := gsl_sl (ht126.get (i := 1) rfl)
  subst hv129
  have hs130 := hs121.trans ht126
  refine WE.take 14 rfl (by decide +kernel) (by decide +kernel) (by decide +kernel) (by decide +kernel) rfl rfl (fun wq hq => R.nilCheckP (a := ⟨b0o0, 0, none⟩) rfl) ?_
  refine WE.take 15 rfl (by decide +kernel) (by decide +kernel) (by decide +kernel) (by decide +kernel) rfl rfl (fun wq hq => R.fieldAddr (o := 0) (o' := 1) fa227_1 rfl rfl) ?_
  refine WE.sto (L' := [blk b0o0 227 [Value.int .i64 q0.1, Value.slice a127 ((q0.2 ++ [y104]).length) c128], gsl 4 boolE (Value.slice a127 ((q0.2 ++ [y104]).length) c128) (q0.2 ++ [y104]), blk b113 4 [Value.bool y104]]) 16 (by decide +kernel) (by decide +kernel) rfl rfl rfl rfl (X.store (i := 0) (n := 1) (b := b0o0) (off := 1) (c := [Value.int .i64 q0.1, Value.slice a0o0 q0.2.length c0o0a]) (U := 227) (vs := [Value.slice a127 ((q0.2 ++ [y104]).length) c128]) (v := Value.slice a127 ((q0.2 ++ [y104]).length) c128) (c' := [Value.int .i64 q0.1, Value.slice a127 ((q0.2 ++ [y104]).length) c128]) (hs130.here) rfl lf85.size rfl rfl rfl rfl rfl rfl rfl rfl) ?_
  intro w131 ht132
  have hs133 := hs130.trans ht132
  refine WE.done (by decide +kernel) ?_
  refine thenN ?_
  refine WC.seq ?_
  refine WC.seq ?_
  refine WC.region ?_
  refine WL.val (R.assign (v := Value.int .i64 0) rfl) rfl ?_
  refine WL.nil ?_
  refine thenN ?_
  have ht207 := (hs133.here).perm (L' := [blk b0o0 227 [Value.int .i64 q0.1, Value.slice a127 ((q0.2 ++ [y104]).length) c128], gsl 4 boolE (Value.slice a127 ((q0.2 ++ [y104]).length) c128) (q0.2 ++ [y104])]) (G := [blk b113 4 [Value.bool y104]]) ((List.Perm.refl _))
  have hs208 := hs133.trans ht207
  obtain ⟨K200, hK201, h202⟩ := kE (G := fun K200 => rstep17_l1 q0 y104 K200 1000000 0) h123
  refine WC.join (fun σ210 w209 => K200 () = some r ∧ St [blk b0o0 227 [Value.int .i64 q0.1, Value.slice a0o0 q0.2.length c0o0a], gsl 4 boolE (Value.slice a0o0 q0.2.length c0o0a) q0.2] w w209 [blk b0o0 227 [Value.int .i64 q0.1, Value.slice a127 ((q0.2 ++ [y104]).length) c128], gsl 4 boolE (Value.slice a127 ((q0.2 ++ [y104]).length) c128) (q0.2 ++ [y104])]) ?_ ?_
  · refine WC.block ?_
    refine WC.loop (T := Nat) (fun k206 σ204 w203 => ∃ i199 : Int, σ204 0 = (Value.pointer (some ⟨b0o0, 0, none⟩)) ∧ σ204 7 = (Value.int .i64 i199) ∧ rstep17_l1 q0 y104 K200 k206 i199 = some r ∧ St [blk b0o0 227 [Value.int .i64 q0.1, Value.slice a0o0 q0.2.length c0o0a], gsl 4 boolE (Value.slice a0o0 q0.2.length c0o0a) q0.2] w w203 [blk b0o0 227 [Value.int .i64 q0.1, Value.slice a127 ((q0.2 ++ [y104]).length) c128], gsl 4 boolE (Value.slice a127 ((q0.2 ++ [y104]).length) c128) (q0.2 ++ [y104])]) (fun k206 => k206) 1000000 ⟨0, rfl, rfl, h202, hs208⟩ ?_
    rintro k206 σ204 w203 ⟨i199, s213, s214, h212, hs205⟩
    rcases k206 with _ | k206
    · rw [rstep17_l1] at h212; cases h212
    rw [rstep17_l1] at h212
    refine WC.seq ?_
    refine WC.seq ?_
    refine WC.region ?_
    refine WL.val (R.move (v := Value.int .i64 i199) (by exact s214)) rfl ?_
    refine WL.val (R.move (v := Value.pointer (some ⟨b0o0, 0, none⟩)) (by exact s213)) rfl ?_
    refine WL.val (R.nilCheckP (a := ⟨b0o0, 0, none⟩) rfl) rfl ?_
    refine WL.val (R.fieldAddr (o := 0) (o' := 0) fa227_0 rfl rfl) rfl ?_
    refine WL.val (R.loadL (v := Value.int .i64 q0.1) lf3 rfl (hs205.at (i := 0) (off := 0) (n := 1) (cs := [Value.int .i64 q0.1]) rfl rfl rfl)) rfl ?_
    obtain ⟨hg215, h216⟩ := ckE (c := -9223372036854775808 ≤ 2 * q0.1 ∧ 2 * q0.1 ≤ 9223372036854775807) h212
    refine WL.val (R.mul (a := 2) (b := q0.1) (z := 2 * q0.1) rfl rfl (w64e rfl hg215.1 hg215.2)) rfl ?_
    by_cases hc217 : i199 < (2 * q0.1)
    · have h218 := ifT hc217 h216
      refine WL.val (R.lssT (k := .i64) (a := i199) (b := 2 * q0.1) un3 rfl rfl hc217) rfl ?_
      refine WL.nil ?_
      refine thenN ?_
      refine WC.condT rfl rfl ?_
      refine WC.skip ?_
      refine thenN ?_
      refine WC.seq ?_
      refine WC.block ?_
      refine WC.seq ?_
      refine WC.drawE mixed (NP.then (NP.block (NP.then (NP.then (NP.block (NP.join (NP.then NP.rq))))))) ?_
      have ht219 := (hs205.here).ext (Ext.drew _)
      have hs220 := hs205.trans ht219
      refine WE.take 0 rfl (by decide +kernel) (by decide +kernel) (by decide +kernel) (by decide +kernel) rfl rfl (fun wq hq => R.move (v := Value.int .i64 i199) (by exact s214)) ?_
      refine WE.take 1 rfl (by decide +kernel) (by decide +kernel) (by decide +kernel) (by decide +kernel) rfl rfl (fun wq hq => R.move (v := Value.pointer (some ⟨b0o0, 0, none⟩)) (by exact s213)) ?_
      refine WE.take 2 rfl (by decide +kernel) (by decide +kernel) (by decide +kernel) (by decide +kernel) rfl rfl (fun wq hq => R.nilCheckP (a := ⟨b0o0, 0, none⟩) rfl) ?_
      refine WE.take 3 rfl (by decide +kernel) (by decide +kernel) (by decide +kernel) (by decide +kernel) rfl rfl (fun wq hq => R.fieldAddr (o := 0) (o' := 1) fa227_1 rfl rfl) ?_
      refine WE.take 4 rfl (by decide +kernel) (by decide +kernel) (by decide +kernel) (by decide +kernel) rfl rfl (fun wq hq => R.loadL (v := Value.slice a127 ((q0.2 ++ [y104]).length) c128) lf85 rfl ((hs220.ext hq).at (i := 0) (off := 1) (n := 1) (cs := [Value.slice a127 ((q0.2 ++ [y104]).length) c128]) rfl rfl rfl)) ?_
      refine WE.take 5 rfl (by decide +kernel) (by decide +kernel) (by decide +kernel) (by decide +kernel) rfl rfl (fun wq hq => R.len (a := a127) (n := ((q0.2 ++ [y104]).length)) (c := c128) un85 rfl) ?_
      by_cases hc221 : (((q0.2 ++ [y104]).length : Nat) : Int) ≤ i199
      · have h222 := ifT hc221 h218
        refine WE.take 6 rfl (by decide +kernel) (by decide +kernel) (by decide +kernel) (by decide +kernel) rfl rfl (fun wq hq => R.geqT (k := .i64) (a := i199) (b := (((q0.2 ++ [y104]).length : Nat) : Int)) un3 rfl rfl hc221) ?_
        refine WE.take 7 rfl (by decide +kernel) (by decide +kernel) (by decide +kernel) (by decide +kernel) rfl rfl (fun wq hq => R.move (v := Value.bool true) rfl) ?_
        refine WE.takeN 8 (e := 40) (v := .bool true) rfl (by decide +kernel) (by decide +kernel) (by decide +kernel) (by decide +kernel) rfl rfl rfl rfl rfl ?_
        refine WE.takeN 9 (e := 40) (v := .bool true) rfl (by decide +kernel) (by decide +kernel) (by decide +kernel) (by decide +kernel) rfl rfl rfl rfl rfl ?_
        refine WE.takeN 10 (e := 40) (v := .bool true) rfl (by decide +kernel) (by decide +kernel) (by decide +kernel) (by decide +kernel) rfl rfl rfl rfl rfl ?_
        refine WE.takeN 11 (e := 40) (v := .bool true) rfl (by decide +kernel) (by decide +kernel) (by decide +kernel) (by decide +kernel) rfl rfl rfl rfl rfl ?_
        refine WE.takeN 12 (e := 40) (v := .bool true) rfl (by decide +kernel) (by decide +kernel) (by decide +kernel) (by decide +kernel) rfl rfl rfl rfl rfl ?_
        refine WE.takeN 13 (e := 40) (v := .bool true) rfl (by decide +kernel) (by decide +kernel) (by decide +kernel) (by decide +kernel) rfl rfl rfl rfl rfl ?_
        refine WE.takeN 14 (e := 40) (v := .bool true) rfl (by decide +kernel) (by decide +kernel) (by decide +kernel) (by decide +kernel) rfl rfl rfl rfl rfl ?_
        refine WE.takeN 15 (e := 40) (v := .bool true) rfl (by decide +kernel) (by decide +kernel) (by decide +kernel) (by decide +kernel) rfl rfl rfl rfl rfl ?_
        refine WE.takeN 16 (e := 40) (v := .bool true) rfl (by decide +kernel) (by decide +kernel) (by decide +kernel) (by decide +kernel) rfl rfl rfl rfl rfl ?_
        refine WE.takeN 17 (e := 40) (v := .bool true) rfl (by decide +kernel) (by decide +kernel) (by decide +kernel) (by decide +kernel) rfl rfl rfl rfl rfl ?_
        refine WE.takeN 18 (e := 40) (v := .bool true) rfl (by decide +kernel) (by decide +kernel) (by decide +kernel) (by decide +kernel) rfl rfl rfl rfl rfl ?_
        refine WE.takeN 19 (e := 40) (v := .bool true) rfl (by decide +kernel) (by decide +kernel) (by decide +kernel) (by decide +kernel) rfl rfl rfl rfl rfl ?_
        refine WE.takeN 20 (e := 40) (v := .bool true) rfl (by decide +kernel) (by decide +kernel) (by decide +kernel) (by decide +kernel) rfl rfl rfl rfl rfl ?_
        refine WE.takeN 21 (e := 40) (v := .bool true) rfl (by decide +kernel) (by decide +kernel) (by decide +kernel) (by decide +kernel) rfl rfl rfl rfl rfl ?_
        refine WE.takeN 22 (e := 40) (v := .bool true) rfl (by decide +kernel) (by decide +kernel) (by decide +kernel) (by decide +kernel) rfl rfl rfl rfl rfl ?_
        refine WE.take 23 rfl (by decide +kernel) (by decide +kernel) (by decide +kernel) (by decide +kernel) rfl rfl (fun wq hq => R.pickT (v := Value.bool true) rfl rfl) ?_
        refine WE.done (by decide +kernel) ?_
        refine thenN ?_
        refine WC.condT rfl rfl ?_
        refine WC.seq ?_
        refine WC.region ?_
        refine WL.val (R.assign (v := Value.bool false) rfl) rfl ?_
        refine WL.nil ?_
        refine thenN ?_
        refine WC.ret ?_
        obtain rfl := Option.some.inj (show some (false, (q0.1, q0.2 ++ [y104])) = some r from h222)
        exact ret1 (P := Try.prog) (n := 57) (fn := Try.f48) (R := fun v w' => ∃ ra1, ∃ rc2, v = Value.bool (false, (q0.1, q0.2 ++ [y104])).1 ∧ St [blk b0o0 227 [Value.int .i64 q0.1, Value.slice a0o0 q0.2.length c0o0a], gsl 4 boolE (Value.slice a0o0 q0.2.length c0o0a) q0.2] w w' [blk b0o0 227 [Value.int .i64 (false, (q0.1, q0.2 ++ [y104])).2.1, Value.slice ra1 (false, (q0.1, q0.2 ++ [y104])).2.2.length rc2], gsl 4 boolE (Value.slice ra1 (false, (q0.1, q0.2 ++ [y104])).2.2.length rc2) (false, (q0.1, q0.2 ++ [y104])).2.2]) (t := 6) (v := Value.bool false) rfl rfl rfl ⟨a127, c128, rfl, hs220⟩
      · have h223 := ifF hc221 h218
        refine WE.take 6 rfl (by decide +kernel) (by decide +kernel) (by decide +kernel) (by decide +kernel) rfl rfl (fun wq hq => R.geqF (k := .i64) (a := i199) (b := (((q0.2 ++ [y104]).length : Nat) : Int)) un3 rfl rfl hc221) ?_
        refine WE.take 7 rfl (by decide +kernel) (by decide +kernel) (by decide +kernel) (by decide +kernel) rfl rfl (fun wq hq => R.move (v := Value.bool false) rfl) ?_
        refine WE.takeY 8 (e := 40) rfl (by decide +kernel) (by decide +kernel) (by decide +kernel) (by decide +kernel) rfl rfl rfl rfl rfl (fun wq hq => R.move (v := Value.pointer (some ⟨b0o0, 0, none⟩)) (by exact s213)) ?_
        refine WE.takeY 9 (e := 40) rfl (by decide +kernel) (by decide +kernel) (by decide +kernel) (by decide +kernel) rfl rfl rfl rfl rfl (fun wq hq => R.nilCheckP (a := ⟨b0o0, 0, none⟩) rfl) ?_
        refine WE.takeY 10 (e := 40) rfl (by decide +kernel) (by decide +kernel) (by decide +kernel) (by decide +kernel) rfl rfl rfl rfl rfl (fun wq hq => R.fieldAddr (o := 0) (o' := 1) fa227_1 rfl rfl) ?_
        refine WE.takeY 11 (e := 40) rfl (by decide +kernel) (by decide +kernel) (by decide +kernel) (by decide +kernel) rfl rfl rfl rfl rfl (fun wq hq => R.loadL (v := Value.slice a127 ((q0.2 ++ [y104]).length) c128) lf85 rfl ((hs220.ext hq).at (i := 0) (off := 1) (n := 1) (cs := [Value.slice a127 ((q0.2 ++ [y104]).length) c128]) rfl rfl rfl)) ?_
        refine WE.takeY 12 (e := 40) rfl (by decide +kernel) (by decide +kernel) (by decide +kernel) (by decide +kernel) rfl rfl rfl rfl rfl (fun wq hq => R.move (v := Value.pointer (some ⟨b0o0, 0, none⟩)) (by exact s213)) ?_
        refine WE.takeY 13 (e := 40) rfl (by decide +kernel) (by decide +kernel) (by decide +kernel) (by decide +kernel) rfl rfl rfl rfl rfl (fun wq hq => R.nilCheckP (a := ⟨b0o0, 0, none⟩) rfl) ?_
        refine WE.takeY 14 (e := 40) rfl (by decide +kernel) (by decide +kernel) (by decide +kernel) (by decide +kernel) rfl rfl rfl rfl rfl (fun wq hq => R.fieldAddr (o := 0) (o' := 1) fa227_1 rfl rfl) ?_
        refine WE.takeY 15 (e := 40) rfl (by decide +kernel) (by decide +kernel) (by decide +kernel) (by decide +kernel) rfl rfl rfl rfl rfl (fun wq hq => R.loadL (v := Value.slice a127 ((q0.2 ++ [y104]).length) c128) lf85 rfl ((hs220.ext hq).at (i := 0) (off := 1) (n := 1) (cs := [Value.slice a127 ((q0.2 ++ [y104]).length) c128]) rfl rfl rfl)) ?_
        refine WE.takeY 16 (e := 40) rfl (by decide +kernel) (by decide +kernel) (by decide +kernel) (by decide +kernel) rfl rfl rfl rfl rfl (fun wq hq => R.len (a := a127) (n := ((q0.2 ++ [y104]).length)) (c := c128) un85 rfl) ?_
        obtain ⟨hg224, h225⟩ := ckE (c := -9223372036854775808 ≤ (((q0.2 ++ [y104]).length : Nat) : Int) - 1 ∧ (((q0.2 ++ [y104]).length : Nat) : Int) - 1 ≤ 9223372036854775807) h223
        refine WE.takeY 17 (e := 40) rfl (by decide +kernel) (by decide +kernel) (by decide +kernel) (by decide +kernel) rfl rfl rfl rfl rfl (fun wq hq => R.sub (a := (((q0.2 ++ [y104]).length : Nat) : Int)) (b := 1) (z := (((q0.2 ++ [y104]).length : Nat) : Int) - 1) rfl rfl (w64e rfl hg224.1 hg224.2)) ?_
        refine WE.takeY 18 (e := 40) rfl (by decide +kernel) (by decide +kernel) (by decide +kernel) (by decide +kernel) rfl rfl rfl rfl rfl (fun wq hq => R.move (v := Value.int .i64 i199) (by exact s214)) ?_
        obtain ⟨hg226, h227⟩ := ckE (c := -9223372036854775808 ≤ ((((q0.2 ++ [y104]).length : Nat) : Int) - 1) - i199 ∧ ((((q0.2 ++ [y104]).length : Nat) : Int) - 1) - i199 ≤ 9223372036854775807) h225
        refine WE.takeY 19 (e := 40) rfl (by decide +kernel) (by decide +kernel) (by decide +kernel) (by decide +kernel) rfl rfl rfl rfl rfl (fun wq hq => R.sub (a := (((q0.2 ++ [y104]).length : Nat) : Int) - 1) (b := i199) (z := ((((q0.2 ++ [y104]).length : Nat) : Int) - 1) - i199) rfl rfl (w64e rfl hg226.1 hg226.2)) ?_
        obtain ⟨x228, hx229, h230⟩ := ob (o := rd (q0.2 ++ [y104]) (((((q0.2 ++ [y104]).length : Nat) : Int) - 1) - i199)) h227
        obtain ⟨h0231, hx232, hl233, hm234⟩ := rdE hx229
        obtain ⟨b235, c236, hv237, _⟩ := hs220.gslAt (i := 1) rfl hx232
        refine WE.takeY 20 (e := 40) rfl (by decide +kernel) (by decide +kernel) (by decide +kernel) (by decide +kernel) rfl rfl rfl rfl rfl (fun wq hq => R.indexS (n := 1) (m := (((((q0.2 ++ [y104]).length : Nat) : Int) - 1) - i199).toNat) (ad := ⟨b235, 0, none⟩) (len := (q0.2 ++ [y104]).length) (cap := c236) (z := ((((q0.2 ++ [y104]).length : Nat) : Int) - 1) - i199) un85 lf4.size (Eq.trans (show _ = Value.slice a127 ((q0.2 ++ [y104]).length) c128 from rfl) hv237) rfl rfl hm234 hl233 rfl) ?_
        refine WE.takeY 21 (e := 40) rfl (by decide +kernel) (by decide +kernel) (by decide +kernel) (by decide +kernel) rfl rfl rfl rfl rfl (fun wq hq => R.loadL (v := Value.bool x228) lf4 rfl ((hs220.ext hq).gslAtV (i := 1) rfl hx232 hv237)) ?_
        refine WE.takeY 22 (e := 40) rfl (by decide +kernel) (by decide +kernel) (by decide +kernel) (by decide +kernel) rfl rfl rfl rfl rfl (fun wq hq => R.not (b := x228) rfl) ?_
        refine WE.take 23 rfl (by decide +kernel) (by decide +kernel) (by decide +kernel) (by decide +kernel) rfl rfl (fun wq hq => R.pickF (v := Value.bool (!x228)) rfl rfl) ?_
        refine WE.done (by decide +kernel) ?_
        refine thenN ?_
        by_cases hc238 : x228 = true
        · have h239 := ifT hc238 h230
          have hk240 : (!x228) = false := by simp [hc238]
          refine WC.condF (Eq.trans (show _ = Value.bool (!x228) from rfl) (congrArg Value.bool hk240)) rfl ?_
          refine WC.skip ?_
          refine blockN ?_
          refine thenN ?_
          refine WC.region ?_
          refine WL.val (R.move (v := Value.int .i64 i199) (by exact s214)) rfl ?_
          obtain ⟨hg241, h242⟩ := ckE (c := -9223372036854775808 ≤ i199 + 1 ∧ i199 + 1 ≤ 9223372036854775807) h239
          refine WL.val (R.add (a := i199) (b := 1) (z := i199 + 1) rfl rfl (w64e rfl hg241.1 hg241.2)) rfl ?_
          refine WL.val (R.assign (v := Value.int .i64 (i199 + 1)) rfl) rfl ?_
          refine WL.nil ?_
          exact roundEnd (s := k206) ⟨i199 + 1, s213, rfl, h242, hs220⟩ (Nat.lt_succ_self _)
        · have h243 := ifF hc238 h230
          have hk244 : (!x228) = true := by simp [hc238]
          refine WC.condT (Eq.trans (show _ = Value.bool (!x228) from rfl) (congrArg Value.bool hk244)) rfl ?_
          refine WC.seq ?_
          refine WC.region ?_
          refine WL.val (R.assign (v := Value.bool false) rfl) rfl ?_
          refine WL.nil ?_
          refine thenN ?_
          refine WC.ret ?_
          obtain rfl := Option.some.inj (show some (false, (q0.1, q0.2 ++ [y104])) = some r from h243)
          exact ret1 (P := Try.prog) (n := 57) (fn := Try.f48) (R := fun v w' => ∃ ra1, ∃ rc2, v = Value.bool (false, (q0.1, q0.2 ++ [y104])).1 ∧ St [blk b0o0 227 [Value.int .i64 q0.1, Value.slice a0o0 q0.2.length c0o0a], gsl 4 boolE (Value.slice a0o0 q0.2.length c0o0a) q0.2] w w' [blk b0o0 227 [Value.int .i64 (false, (q0.1, q0.2 ++ [y104])).2.1, Value.slice ra1 (false, (q0.1, q0.2 ++ [y104])).2.2.length rc2], gsl 4 boolE (Value.slice ra1 (false, (q0.1, q0.2 ++ [y104])).2.2.length rc2) (false, (q0.1, q0.2 ++ [y104])).2.2]) (t := 6) (v := Value.bool false) rfl rfl rfl ⟨a127, c128, rfl, hs220⟩
    · have h245 := ifF hc217 h216
      refine WL.val (R.lssF (k := .i64) (a := i199) (b := 2 * q0.1) un3 rfl rfl hc217) rfl ?_
      refine WL.nil ?_
      refine thenN ?_
      refine WC.condF rfl rfl ?_
      refine WC.exit ?_
      refine thenE ?_
      refine thenE ?_
      refine blockHit ?_
      exact joinI ⟨h245, hs205⟩
  · rintro σ210 w209 ⟨h246, hs211⟩
    subst hK201
    refine thenN ?_
    refine WC.seq ?_
    refine WC.region ?_
    refine WL.val (R.assign (v := Value.bool true) rfl) rfl ?_
    refine WL.nil ?_
    refine thenN ?_
    refine WC.ret ?_
    obtain rfl := Option.some.inj (show some (true, (q0.1, q0.2 ++ [y104])) = some r from h246)
    exact ret1 (P := Try.prog) (n := 57) (fn := Try.f48) (R := fun v w' => ∃ ra1, ∃ rc2, v = Value.bool (true, (q0.1, q0.2 ++ [y104])).1 ∧ St [blk b0o0 227 [Value.int .i64 q0.1, Value.slice a0o0 q0.2.length c0o0a], gsl 4 boolE (Value.slice a0o0 q0.2.length c0o0a) q0.2] w w' [blk b0o0 227 [Value.int .i64 (true, (q0.1, q0.2 ++ [y104])).2.1, Value.slice ra1 (true, (q0.1, q0.2 ++ [y104])).2.2.length rc2], gsl 4 boolE (Value.slice ra1 (true, (q0.1, q0.2 ++ [y104])).2.2.length rc2) (true, (q0.1, q0.2 ++ [y104])).2.2]) (t := 6) (v := Value.bool true) rfl rfl rfl ⟨a127, c128, rfl, hs211⟩

theorem others17_ok (w : World) (ok : Nat → Prop) (p0 : List Hd) (a0 : Option Addr) (c0 : Nat) (he0 : elems heldW w ok a0 p0) (hc0 : p0.length ≤ c0) {r : (List Hd)} (h : others17 p0 = some r) :
    Ret Try.prog 44 [Value.slice a0 p0.length c0] w (fun v w' => ∃ ra0, ∃ rc0, v = Value.slice ra0 r.length rc0 ∧ r.length ≤ rc0 ∧ elems heldW w' (In ok w [] []) ra0 r ∧ St [] w w' []) := by
  rw [others17] at h
  have hs100 : St [] w w [] := St.start w
  have he1000 := el0 (L0 := []) (fun b _ => out_nil b) he0
  refine enter (n := 26) Try.func44 rfl rfl rfl ?_
  refine WC.seq ?_
  refine WC.region ?_
  refine WL.val (R.assign (v := Value.slice none 0 0) rfl) rfl ?_
  refine WL.nil ?_
  refine thenN ?_
  refine WC.seq ?_
  refine WC.region ?_
  refine WL.val (R.assign (v := Value.slice none 0 0) rfl) rfl ?_
  refine WL.nil ?_
  refine thenN ?_
  refine WC.seq ?_
  refine WC.seq ?_
  refine WC.region ?_
  refine WL.val (R.assign (v := Value.int .i64 0) rfl) rfl ?_
  refine WL.nil ?_
  refine thenN ?_
  have ht147 := (hs100.here).addNil 202 heldE rfl
  have hs149 := hs100.trans ht147
  have hr255 := elT ht147 he1000
  obtain ⟨K247, hK248, h249⟩ := kE (G := fun K247 => others17_l1 p0 K247 1000000 0 []) h
  refine WC.join (fun σ257 w256 => ∃ l244 : List Hd, ∃ a245, ∃ c246, σ257 3 = (Value.slice a245 l244.length c246) ∧ K247 l244 = some r ∧ St [] w w256 [gsl 202 heldE (Value.slice a245 l244.length c246) l244]) ?_ ?_
  · refine WC.block ?_
    refine WC.loop (T := Nat) (fun k253 σ251 w250 => ∃ i240 : Int, ∃ l241 : List Hd, ∃ a242, ∃ c243, σ251 0 = (Value.slice a0 p0.length c0) ∧ σ251 3 = (Value.slice a242 l241.length c243) ∧ σ251 4 = (Value.int .i64 i240) ∧ elems heldW w250 (In ok w [] [gsl 202 heldE (Value.slice a242 l241.length c243) l241]) a0 p0 ∧ others17_l1 p0 K247 k253 i240 l241 = some r ∧ St [] w w250 [gsl 202 heldE (Value.slice a242 l241.length c243) l241]) (fun k253 => k253) 1000000 ⟨0, [], none, 0, rfl, rfl, rfl, hr255, h249, hs149⟩ ?_
    rintro k253 σ251 w250 ⟨i240, l241, a242, c243, s260, s261, s262, he254, h259, hs252⟩
    rcases k253 with _ | k253
    · rw [others17_l1] at h259; cases h259
    rw [others17_l1] at h259
    refine WC.seq ?_
    refine WC.seq ?_
    refine WC.region ?_
    refine WL.val (R.move (v := Value.int .i64 i240) (by exact s262)) rfl ?_
    refine WL.val (R.move (v := Value.slice a0 p0.length c0) (by exact s260)) rfl ?_
    refine WL.val (R.len (a := a0) (n := p0.length) (c := c0) un28 rfl) rfl ?_
    by_cases hc263 : i240 < ((p0.length : Nat) : Int)
    · have h264 := ifT hc263 h259
      refine WL.val (R.lssT (k := .i64) (a := i240) (b := ((p0.length : Nat) : Int)) un3 rfl rfl hc263) rfl ?_
      refine WL.nil ?_
      refine thenN ?_
      refine WC.condT rfl rfl ?_
      refine WC.skip ?_
      refine thenN ?_
      refine WC.seq ?_
      refine WC.block ?_
      refine WC.drawE mixed (NP.block (NP.then (NP.then (NP.block (NP.join (NP.then NP.rq)))))) ?_
      have ht265 := (hs252.here).ext (Ext.drew _)
      have hs266 := hs252.trans ht265
      refine WE.take 0 rfl (by decide +kernel) (by decide +kernel) (by decide +kernel) (by decide +kernel) rfl rfl (fun wq hq => R.move (v := Value.slice a242 l241.length c243) (by exact s261)) ?_
      refine WE.take 1 rfl (by decide +kernel) (by decide +kernel) (by decide +kernel) (by decide +kernel) rfl rfl (fun wq hq => R.move (v := Value.slice a0 p0.length c0) (by exact s260)) ?_
      refine WE.take 2 rfl (by decide +kernel) (by decide +kernel) (by decide +kernel) (by decide +kernel) rfl rfl (fun wq hq => R.move (v := Value.int .i64 i240) (by exact s262)) ?_
      obtain ⟨x267, hx268, h269⟩ := ob (o := rd p0 i240) h264
      obtain ⟨h0270, hx271, hl272, hm273⟩ := rdE hx268
      have hr274 := elT ht265 he254
      obtain ⟨ad275, e280, ha276, hp277, hat278, hrd279⟩ := hr274 _ _ hx271
      obtain ⟨-, rfl⟩ := hrd279
      refine WE.take 3 rfl (by decide +kernel) (by decide +kernel) (by decide +kernel) (by decide +kernel) rfl rfl (fun wq hq => R.indexS (n := 56) (m := (i240).toNat) (a := a0) (ad := ad275) (len := p0.length) (cap := c0) (z := i240) un28 ag60.size rfl ha276 rfl hm273 hl272 hp277) ?_
      refine WE.take 4 rfl (by decide +kernel) (by decide +kernel) (by decide +kernel) (by decide +kernel) rfl rfl (fun wq hq => R.fieldAddr (o := ad275.off + (i240).toNat * 56) (o' := ad275.off + (i240).toNat * 56) fa60_0 rfl rfl) ?_
      refine WE.take 5 rfl (by decide +kernel) (by decide +kernel) (by decide +kernel) (by decide +kernel) rfl rfl (fun wq hq => R.loadL (v := Value.bool x267.is) lf4 rfl (At.sub (off := 0) (n := 1) (ds := [Value.bool x267.is]) (At.exT hq hat278) rfl rfl)) ?_
      refine WE.take 6 rfl (by decide +kernel) (by decide +kernel) (by decide +kernel) (by decide +kernel) rfl rfl (fun wq hq => R.move (v := Value.slice a0 p0.length c0) (by exact s260)) ?_
      refine WE.take 7 rfl (by decide +kernel) (by decide +kernel) (by decide +kernel) (by decide +kernel) rfl rfl (fun wq hq => R.move (v := Value.int .i64 i240) (by exact s262)) ?_
      refine WE.take 8 rfl (by decide +kernel) (by decide +kernel) (by decide +kernel) (by decide +kernel) rfl rfl (fun wq hq => R.indexS (n := 56) (m := (i240).toNat) (a := a0) (ad := ad275) (len := p0.length) (cap := c0) (z := i240) un28 ag60.size rfl ha276 rfl hm273 hl272 hp277) ?_
      refine WE.take 9 rfl (by decide +kernel) (by decide +kernel) (by decide +kernel) (by decide +kernel) rfl rfl (fun wq hq => R.fieldAddr (o := ad275.off + (i240).toNat * 56) (o' := ad275.off + (i240).toNat * 56 + 1) fa60_1 rfl rfl) ?_
      refine WE.take 10 rfl (by decide +kernel) (by decide +kernel) (by decide +kernel) (by decide +kernel) rfl rfl (fun wq hq => R.loadA (cs := encC x267.cell) (n := 55) ag58 rfl (At.sub (off := 1) (n := 55) (ds := encC x267.cell) (At.exT hq hat278) rfl rfl) rfl) ?_
      have hd282 : ∀ w, (Instr.build 202 #[(0, Value.bool x267.is), (1, Value.agg (List.toArray (encC x267.cell)))]).run Try.prog w = .ok (Value.agg (List.toArray (encH (⟨x267.is, x267.cell⟩ : Hd)))) w := fun _ => by kernel_rfl
      refine WE.take 11 rfl (by decide +kernel) (by decide +kernel) (by decide +kernel) (by decide +kernel) rfl rfl (fun wq hq => R.build (vs := [(0, Value.bool x267.is), (1, Value.agg (List.toArray (encC x267.cell)))]) rfl hd282) ?_
      have hd288 : ∀ w : World, (Instr.buildSlice 31 1 #[(0, Value.agg (List.toArray (encH (⟨x267.is, x267.cell⟩ : Hd))))]).run Try.prog w = .ok (.slice (some ⟨w.heap.size, 0, none⟩) 1 1) { w with heap := w.heap.push (.cells (List.toArray (encH (⟨x267.is, x267.cell⟩ : Hd))) 202) } := fun _ => by kernel_rfl
      refine WE.new (L' := fun b283 => [gsl 202 heldE (Value.slice a242 l241.length c243) l241, blk b283 202 (encH (⟨x267.is, x267.cell⟩ : Hd))]) (f := fun b283 => Value.slice (some ⟨b283, 0, none⟩) 1 1) 12 (by decide +kernel) rfl rfl rfl (X.buildSlice (c := (encH (⟨x267.is, x267.cell⟩ : Hd))) (vs := [(0, Value.agg (List.toArray (encH (⟨x267.is, x267.cell⟩ : Hd))))]) (hs266.here) rfl hd288 (fun _ => rfl)) ?_
      intro b283 w284 ht290 he286 hz287
      have hs291 := hs266.trans ht290
      obtain ⟨hg292, h293⟩ := ckE (c := l241.length < 1000000) h269
      refine WE.grow (L' := fun v294 => [gsl 202 heldE v294 (l241 ++ [(⟨x267.is, x267.cell⟩ : Hd)]), blk b283 202 (encH (⟨x267.is, x267.cell⟩ : Hd))]) 13 (by decide +kernel) (by decide +kernel) rfl rfl rfl (X.append (i := 0) (e := heldE) (xs := l241) (ys := [(⟨x267.is, x267.cell⟩ : Hd)]) (ad := ⟨b283, 0, none⟩) (m := 1) (c := 1) (hs291.here) sl31 rfl rfl rfl rfl ((hs291.here).at (i := 1) (off := 0) (n := 56) (cs := flat heldE [(⟨x267.is, x267.cell⟩ : Hd)]) rfl rfl rfl) rfl rfl (room (n := 1) hg292 rfl (by decide)) (room63 (n := 1) hg292 rfl (by decide)) (fun _ => rfl)) ?_
      intro v294 w295 ht296
      obtain ⟨a297, c298, hv299⟩ := gsl_sl (ht296.get (i := 0) rfl)
      subst hv299
      have hs300 := hs291.trans ht296
      refine WE.take 14 rfl (by decide +kernel) (by decide +kernel) (by decide +kernel) (by decide +kernel) rfl rfl (fun wq hq => R.assign (v := Value.slice a297 ((l241 ++ [(⟨x267.is, x267.cell⟩ : Hd)]).length) c298) rfl) ?_
      refine WE.done (by decide +kernel) ?_
      refine blockN ?_
      refine thenN ?_
      refine WC.region ?_
      refine WL.val (R.move (v := Value.int .i64 i240) (by exact s262)) rfl ?_
      obtain ⟨hg301, h302⟩ := ckE (c := -9223372036854775808 ≤ i240 + 1 ∧ i240 + 1 ≤ 9223372036854775807) h293
      refine WL.val (R.add (a := i240) (b := 1) (z := i240 + 1) rfl rfl (w64e rfl hg301.1 hg301.2)) rfl ?_
      refine WL.val (R.assign (v := Value.int .i64 (i240 + 1)) rfl) rfl ?_
      refine WL.nil ?_
      have ht303 := (hs300.here).perm (L' := [gsl 202 heldE (Value.slice a297 ((l241 ++ [(⟨x267.is, x267.cell⟩ : Hd)]).length) c298) (l241 ++ [(⟨x267.is, x267.cell⟩ : Hd)])]) (G := [blk b283 202 (encH (⟨x267.is, x267.cell⟩ : Hd))]) ((List.Perm.refl _))
      have hs304 := hs300.trans ht303
      have hr305 := elT ((ht290.trans ht296).trans ht303) hr274
      exact roundEnd (s := k253) ⟨i240 + 1, l241 ++ [(⟨x267.is, x267.cell⟩ : Hd)], a297, c298, s260, rfl, rfl, hr305, h302, hs304⟩ (Nat.lt_succ_self _)
    · have h306 := ifF hc263 h259
      refine WL.val (R.lssF (k := .i64) (a := i240) (b := ((p0.length : Nat) : Int)) un3 rfl rfl hc263) rfl ?_
      refine WL.nil ?_
      refine thenN ?_
      refine WC.condF rfl rfl ?_
      refine WC.exit ?_
      refine thenE ?_
      refine thenE ?_
      refine blockHit ?_
      exact joinI ⟨l241, a242, c243, s261, h306, hs252⟩
  · rintro σ257 w256 ⟨l244, a245, c246, s308, h307, hs258⟩
    subst hK248
    refine thenN ?_
    refine WC.seq ?_
    refine WC.region ?_
    refine WL.val (R.move (v := Value.slice a245 l244.length c246) (by exact s308)) rfl ?_
    refine WL.val (R.assign (v := Value.slice a245 l244.length c246) rfl) rfl ?_
    refine WL.nil ?_
    refine thenN ?_
    refine WC.ret ?_
    obtain ⟨a309, c310, hv311, hl312, he313⟩ := el_freeze (k := heldW) (ok := ok) hs258 (List.Perm.refl _) rfl (fun _ _ _ => ⟨trivial, rfl⟩)
    obtain ⟨rfl, rfl⟩ : a245 = a309 ∧ c246 = c310 := ⟨(Value.slice.inj hv311).1, (Value.slice.inj hv311).2.2⟩
    have ht314 := (hs258.here).perm (L' := []) (G := [gsl 202 heldE (Value.slice a245 l244.length c246) l244]) ((List.Perm.refl _))
    have hs315 := hs258.trans ht314
    obtain rfl := Option.some.inj (show some l244 = some r from h307)
    exact ret1 (P := Try.prog) (n := 26) (fn := Try.f44) (R := fun v w' => ∃ ra0, ∃ rc0, v = Value.slice ra0 l244.length rc0 ∧ l244.length ≤ rc0 ∧ elems heldW w' (In ok w [] []) ra0 l244 ∧ St [] w w' []) (t := 2) (v := Value.slice a245 l244.length c246) rfl rfl rfl ⟨a245, c246, rfl, hl312, he313, hs315⟩

theorem vector17_ok (w : World) (ok : Nat → Prop) (p0 : List Int) (a0 : Option Addr) (c0 : Nat) (he0 : elems (intW .i64) w ok a0 p0) (hc0 : p0.length ≤ c0) {r : (List Hd)} (h : vector17 p0 = some r) :
    Ret Try.prog 104 [Value.slice a0 p0.length c0] w (fun v w' => ∃ ra0, ∃ rc0, v = Value.slice ra0 r.length rc0 ∧ r.length ≤ rc0 ∧ elems heldW w' (In ok w [] []) ra0 r ∧ St [] w w' []) := by
  rw [vector17] at h
  have hs100 : St [] w w [] := St.start w
  have he1000 := el0 (L0 := []) (fun b _ => out_nil b) he0
  refine enter (n := 21) Try.func104 rfl rfl rfl ?_
  refine WC.seq ?_
  refine WC.region ?_
  refine WL.val (R.assign (v := Value.slice none 0 0) rfl) rfl ?_
  refine WL.nil ?_
  refine thenN ?_
  refine WC.seq ?_
  refine WC.region ?_
  refine WL.val (R.assign (v := Value.slice none 0 0) rfl) rfl ?_
  refine WL.nil ?_
  refine thenN ?_
  refine WC.seq ?_
  refine WC.seq ?_
  refine WC.region ?_
  refine WL.val (R.assign (v := Value.int .i64 0) rfl) rfl ?_
  refine WL.nil ?_
  refine thenN ?_
  have ht145 := (hs100.here).addNil 60 heldE rfl
  have hs147 := hs100.trans ht145
  have hr249 := elT ht145 he1000
  obtain ⟨K241, hK242, h243⟩ := kE (G := fun K241 => vector17_l1 p0 K241 1000000 0 []) h
  refine WC.join (fun σ251 w250 => ∃ l238 : List Hd, ∃ a239, ∃ c240, σ251 3 = (Value.slice a239 l238.length c240) ∧ K241 l238 = some r ∧ St [] w w250 [gsl 60 heldE (Value.slice a239 l238.length c240) l238]) ?_ ?_
  · refine WC.block ?_
    refine WC.loop (T := Nat) (fun k247 σ245 w244 => ∃ i234 : Int, ∃ l235 : List Hd, ∃ a236, ∃ c237, σ245 0 = (Value.slice a0 p0.length c0) ∧ σ245 3 = (Value.slice a236 l235.length c237) ∧ σ245 4 = (Value.int .i64 i234) ∧ elems (intW .i64) w244 (In ok w [] [gsl 60 heldE (Value.slice a236 l235.length c237) l235]) a0 p0 ∧ vector17_l1 p0 K241 k247 i234 l235 = some r ∧ St [] w w244 [gsl 60 heldE (Value.slice a236 l235.length c237) l235]) (fun k247 => k247) 1000000 ⟨0, [], none, 0, rfl, rfl, rfl, hr249, h243, hs147⟩ ?_
    rintro k247 σ245 w244 ⟨i234, l235, a236, c237, s254, s255, s256, he248, h253, hs246⟩
    rcases k247 with _ | k247
    · rw [vector17_l1] at h253; cases h253
    rw [vector17_l1] at h253
    refine WC.seq ?_
    refine WC.seq ?_
    refine WC.region ?_
    refine WL.val (R.move (v := Value.int .i64 i234) (by exact s256)) rfl ?_
    refine WL.val (R.move (v := Value.slice a0 p0.length c0) (by exact s254)) rfl ?_
    refine WL.val (R.len (a := a0) (n := p0.length) (c := c0) un196 rfl) rfl ?_
    by_cases hc257 : i234 < ((p0.length : Nat) : Int)
    · have h258 := ifT hc257 h253
      refine WL.val (R.lssT (k := .i64) (a := i234) (b := ((p0.length : Nat) : Int)) un3 rfl rfl hc257) rfl ?_
      refine WL.nil ?_
      refine thenN ?_
      refine WC.condT rfl rfl ?_
      refine WC.skip ?_
      refine thenN ?_
      refine WC.seq ?_
      refine WC.block ?_
      refine WC.region ?_
      refine WL.val (R.move (v := Value.slice a236 l235.length c237) (by exact s255)) rfl ?_
      refine WL.val (R.move (v := Value.slice a0 p0.length c0) (by exact s254)) rfl ?_
      refine WL.val (R.move (v := Value.int .i64 i234) (by exact s256)) rfl ?_
      obtain ⟨x259, hx260, h261⟩ := ob (o := rd p0 i234) h258
      obtain ⟨h0262, hx263, hl264, hm265⟩ := rdE hx260
      obtain ⟨ad266, e271, ha267, hp268, hat269, hrd270⟩ := he248 _ _ hx263
      obtain ⟨-, rfl⟩ := hrd270
      refine WL.val (R.indexS (n := 1) (m := (i234).toNat) (a := a0) (ad := ad266) (len := p0.length) (cap := c0) (z := i234) un196 lf2.size rfl ha267 rfl hm265 hl264 hp268) rfl ?_
      refine WL.val (R.loadL (v := Value.int .i64 x259) lf2 rfl hat269) rfl ?_
      have hd273 : ∀ w, (Instr.build 58 #[(0, Value.int .i64 x259)]).run Try.prog w = .ok (Value.agg (List.toArray (encC (⟨x259, Cl.zero.offer, Cl.zero.report, Cl.zero.view⟩ : Cl)))) w := fun _ => by kernel_rfl
      refine WL.val (R.build (vs := [(0, Value.int .i64 x259)]) rfl hd273) rfl ?_
      have hd274 : ∀ w, (Instr.build 60 #[(0, Value.bool true), (1, Value.agg (List.toArray (encC (⟨x259, Cl.zero.offer, Cl.zero.report, Cl.zero.view⟩ : Cl))))]).run Try.prog w = .ok (Value.agg (List.toArray (encH (⟨true, (⟨x259, Cl.zero.offer, Cl.zero.report, Cl.zero.view⟩ : Cl)⟩ : Hd)))) w := fun _ => by kernel_rfl
      refine WL.val (R.build (vs := [(0, Value.bool true), (1, Value.agg (List.toArray (encC (⟨x259, Cl.zero.offer, Cl.zero.report, Cl.zero.view⟩ : Cl))))]) rfl hd274) rfl ?_
      have hd280 : ∀ w : World, (Instr.buildSlice 28 1 #[(0, Value.agg (List.toArray (encH (⟨true, (⟨x259, Cl.zero.offer, Cl.zero.report, Cl.zero.view⟩ : Cl)⟩ : Hd))))]).run Try.prog w = .ok (.slice (some ⟨w.heap.size, 0, none⟩) 1 1) { w with heap := w.heap.push (.cells (List.toArray (encH (⟨true, (⟨x259, Cl.zero.offer, Cl.zero.report, Cl.zero.view⟩ : Cl)⟩ : Hd))) 60) } := fun _ => by kernel_rfl
      refine WL.new (L' := fun b275 => [gsl 60 heldE (Value.slice a236 l235.length c237) l235, blk b275 60 (encH (⟨true, (⟨x259, Cl.zero.offer, Cl.zero.report, Cl.zero.view⟩ : Cl)⟩ : Hd))]) (f := fun b275 => Value.slice (some ⟨b275, 0, none⟩) 1 1) (X.buildSlice (c := (encH (⟨true, (⟨x259, Cl.zero.offer, Cl.zero.report, Cl.zero.view⟩ : Cl)⟩ : Hd))) (vs := [(0, Value.agg (List.toArray (encH (⟨true, (⟨x259, Cl.zero.offer, Cl.zero.report, Cl.zero.view⟩ : Cl)⟩ : Hd))))]) (hs246.here) rfl hd280 (fun _ => rfl)) rfl ?_
      intro b275 w276 ht282 he278 hz279
      have hs283 := hs246.trans ht282
      obtain ⟨hg284, h285⟩ := ckE (c := l235.length < 1000000) h261
      refine WL.grow (L' := fun v286 => [gsl 60 heldE v286 (l235 ++ [(⟨true, (⟨x259, Cl.zero.offer, Cl.zero.report, Cl.zero.view⟩ : Cl)⟩ : Hd)]), blk b275 60 (encH (⟨true, (⟨x259, Cl.zero.offer, Cl.zero.report, Cl.zero.view⟩ : Cl)⟩ : Hd))]) (X.append (i := 0) (e := heldE) (xs := l235) (ys := [(⟨true, (⟨x259, Cl.zero.offer, Cl.zero.report, Cl.zero.view⟩ : Cl)⟩ : Hd)]) (ad := ⟨b275, 0, none⟩) (m := 1) (c := 1) (hs283.here) sl28 rfl rfl rfl rfl ((hs283.here).at (i := 1) (off := 0) (n := 56) (cs := flat heldE [(⟨true, (⟨x259, Cl.zero.offer, Cl.zero.report, Cl.zero.view⟩ : Cl)⟩ : Hd)]) rfl rfl rfl) rfl rfl (room (n := 1) hg284 rfl (by decide)) (room63 (n := 1) hg284 rfl (by decide)) (fun _ => rfl)) rfl ?_
      intro v286 w287 ht288
      obtain ⟨a289, c290, hv291⟩ := gsl_sl (ht288.get (i := 0) rfl)
      subst hv291
      have hs292 := hs283.trans ht288
      refine WL.val (R.assign (v := Value.slice a289 ((l235 ++ [(⟨true, (⟨x259, Cl.zero.offer, Cl.zero.report, Cl.zero.view⟩ : Cl)⟩ : Hd)]).length) c290) rfl) rfl ?_
      refine WL.nil ?_
      refine blockN ?_
      refine thenN ?_
      refine WC.region ?_
      refine WL.val (R.move (v := Value.int .i64 i234) (by exact s256)) rfl ?_
      obtain ⟨hg293, h294⟩ := ckE (c := -9223372036854775808 ≤ i234 + 1 ∧ i234 + 1 ≤ 9223372036854775807) h285
      refine WL.val (R.add (a := i234) (b := 1) (z := i234 + 1) rfl rfl (w64e rfl hg293.1 hg293.2)) rfl ?_
      refine WL.val (R.assign (v := Value.int .i64 (i234 + 1)) rfl) rfl ?_
      refine WL.nil ?_
      have ht295 := (hs292.here).perm (L' := [gsl 60 heldE (Value.slice a289 ((l235 ++ [(⟨true, (⟨x259, Cl.zero.offer, Cl.zero.report, Cl.zero.view⟩ : Cl)⟩ : Hd)]).length) c290) (l235 ++ [(⟨true, (⟨x259, Cl.zero.offer, Cl.zero.report, Cl.zero.view⟩ : Cl)⟩ : Hd)])]) (G := [blk b275 60 (encH (⟨true, (⟨x259, Cl.zero.offer, Cl.zero.report, Cl.zero.view⟩ : Cl)⟩ : Hd))]) ((List.Perm.refl _))
      have hs296 := hs292.trans ht295
      have hr297 := elT ((ht282.trans ht288).trans ht295) he248
      exact roundEnd (s := k247) ⟨i234 + 1, l235 ++ [(⟨true, (⟨x259, Cl.zero.offer, Cl.zero.report, Cl.zero.view⟩ : Cl)⟩ : Hd)], a289, c290, s254, rfl, rfl, hr297, h294, hs296⟩ (Nat.lt_succ_self _)
    · have h298 := ifF hc257 h253
      refine WL.val (R.lssF (k := .i64) (a := i234) (b := ((p0.length : Nat) : Int)) un3 rfl rfl hc257) rfl ?_
      refine WL.nil ?_
      refine thenN ?_
      refine WC.condF rfl rfl ?_
      refine WC.exit ?_
      refine thenE ?_
      refine thenE ?_
      refine blockHit ?_
      exact joinI ⟨l235, a236, c237, s255, h298, hs246⟩
  · rintro σ251 w250 ⟨l238, a239, c240, s300, h299, hs252⟩
    subst hK242
    refine thenN ?_
    refine WC.seq ?_
    refine WC.region ?_
    refine WL.val (R.move (v := Value.slice a239 l238.length c240) (by exact s300)) rfl ?_
    refine WL.val (R.assign (v := Value.slice a239 l238.length c240) rfl) rfl ?_
    refine WL.nil ?_
    refine thenN ?_
    refine WC.ret ?_
    obtain ⟨a301, c302, hv303, hl304, he305⟩ := el_freeze (k := heldW) (ok := ok) hs252 (List.Perm.refl _) rfl (fun _ _ _ => ⟨trivial, rfl⟩)
    obtain ⟨rfl, rfl⟩ : a239 = a301 ∧ c240 = c302 := ⟨(Value.slice.inj hv303).1, (Value.slice.inj hv303).2.2⟩
    have ht306 := (hs252.here).perm (L' := []) (G := [gsl 60 heldE (Value.slice a239 l238.length c240) l238]) ((List.Perm.refl _))
    have hs307 := hs252.trans ht306
    obtain rfl := Option.some.inj (show some l238 = some r from h299)
    exact ret1 (P := Try.prog) (n := 21) (fn := Try.f104) (R := fun v w' => ∃ ra0, ∃ rc0, v = Value.slice ra0 l238.length rc0 ∧ l238.length ≤ rc0 ∧ elems heldW w' (In ok w [] []) ra0 l238 ∧ St [] w w' []) (t := 2) (v := Value.slice a239 l238.length c240) rfl rfl rfl ⟨a239, c240, rfl, hl304, he305, hs307⟩

theorem lives17_ok (w : World) (ok : Nat → Prop)  {r : Bool} (h : lives17  = some r) :
    Ret Try.prog 41 [] w (fun v w' => v = Value.bool r ∧ St [] w w' []) := by
  rw [lives17] at h
  have hs100 : St [] w w [] := St.start w
  refine enter (n := 52) Try.func41 rfl rfl rfl ?_
  refine WC.seq ?_
  refine WC.region ?_
  refine WL.val (R.assign (v := Value.bool false) rfl) rfl ?_
  refine WL.nil ?_
  refine thenN ?_
  refine WC.seq ?_
  refine WC.region ?_
  obtain ⟨y101, hx102, h103⟩ := ob (o := cnew17 4) h
  refine WL.call (cnew17_ok _ (In ok w [] []) 4  hx102) (R.call (vs := [Value.int .i64 4]) (caps := []) bo42 rfl rfl) rfl ?_
  rintro v109 w110 ⟨rp106, rL107, rfl, ho108, ht104⟩
  rcases ocE h103 with ⟨ho113, h111⟩ | ⟨q112, ho113, h111⟩
  · rw [ho113] at ho108
    obtain ⟨rfl, rfl⟩ := ho108
    have ht105 := hs100.call (N := []) (M := []) (List.Perm.refl _) ht104
    have hs114 := hs100.trans ht105
    refine WL.val (R.move (v := Value.tuple #[Value.pointer none, Value.int .i64 y101.2]) rfl) rfl ?_
    refine WL.val (R.extract (v := Value.pointer none) rfl rfl) rfl ?_
    refine WL.val (R.extract (v := Value.int .i64 y101.2) rfl rfl) rfl ?_
    refine WL.val (R.assign (v := Value.pointer none) rfl) rfl ?_
    refine WL.val (R.assign (v := Value.int .i64 y101.2) rfl) rfl ?_
    refine WL.nil ?_
    refine thenN ?_
    refine WC.seq ?_
    refine WC.region ?_
    have hd120 : ∀ w : World, (Instr.buildSlice 196 4 #[(0, Value.int .i64 5), (1, Value.int .i64 5), (2, Value.int .i64 9), (3, Value.int .i64 5)]).run Try.prog w = .ok (.slice (some ⟨w.heap.size, 0, none⟩) 4 4) { w with heap := w.heap.push (.cells (List.toArray [Value.int .i64 5, Value.int .i64 5, Value.int .i64 9, Value.int .i64 5]) 2) } := fun _ => by kernel_rfl
    refine WL.new (L' := fun b115 => [blk b115 2 [Value.int .i64 5, Value.int .i64 5, Value.int .i64 9, Value.int .i64 5]]) (f := fun b115 => Value.slice (some ⟨b115, 0, none⟩) 4 4) (X.buildSlice (c := [Value.int .i64 5, Value.int .i64 5, Value.int .i64 9, Value.int .i64 5]) (vs := [(0, Value.int .i64 5), (1, Value.int .i64 5), (2, Value.int .i64 9), (3, Value.int .i64 5)]) (hs114.here) rfl hd120 (fun _ => rfl)) rfl ?_
    intro b115 w116 ht122 he118 hz119
    have hs123 := hs114.trans ht122
    have ht124 : St [blk b115 2 [Value.int .i64 5, Value.int .i64 5, Value.int .i64 9, Value.int .i64 5]] w116 w116 [gsl 2 i64E (Value.slice (some ⟨b115, 0, none⟩) (([5, 5, 9, 5]).length) 4) [5, 5, 9, 5]] := (hs123.here).conv (i := 0) rfl (arr_gsl (E := 2) (e := i64E) (xs := [5, 5, 9, 5]) (hs123.heap (i := 0) rfl) (by decide)) (fun b hb => (Option.some.inj hb).symm) rfl
    have hs125 := hs123.trans ht124
    obtain ⟨a126, c127, hv128, hl129, he130⟩ := el_freeze (k := (intW .i64)) (ok := ok) hs125 (List.Perm.refl _) rfl (fun _ _ _ => ⟨trivial, rfl⟩)
    obtain ⟨rfl, rfl⟩ : (some ⟨b115, 0, none⟩) = a126 ∧ 4 = c127 := ⟨(Value.slice.inj hv128).1, (Value.slice.inj hv128).2.2⟩
    have ht131 := (hs125.here).perm (L' := []) (G := [gsl 2 i64E (Value.slice (some ⟨b115, 0, none⟩) (([5, 5, 9, 5]).length) 4) [5, 5, 9, 5]]) ((List.Perm.refl _))
    have hs132 := hs125.trans ht131
    obtain ⟨y134, hx135, h136⟩ := ob (o := vector17 [5, 5, 9, 5]) h111
    refine WL.call (vector17_ok _ _ [5, 5, 9, 5] _ _ he130 hl129 hx135) (R.call (vs := [Value.slice (some ⟨b115, 0, none⟩) 4 4]) (caps := []) bo104 rfl rfl) rfl ?_
    rintro v143 w144 ⟨a139, c140, rfl, hl141, he142, ht137⟩
    have ht138 := hs132.call (N := []) (M := []) (List.Perm.refl _) ht137
    have he145 := elC hs132 (M := []) (List.Perm.refl _) ht137 he142
    have hs146 := hs132.trans ht138
    refine WL.val (R.assign (v := Value.slice a139 y134.length c140) rfl) rfl ?_
    refine WL.nil ?_
    refine thenN ?_
    refine WC.seq ?_
    refine WC.seq ?_
    refine WC.region ?_
    refine WL.val (R.assign (v := Value.int .i64 0) rfl) rfl ?_
    refine WL.nil ?_
    refine thenN ?_
    obtain ⟨K189, hK190, h191⟩ := kE (G := fun K189 => lives17_l1 y101 y134 K189 1000000 0) h136
    refine WC.join (fun σ198 w197 => σ198 1 = (Value.pointer none) ∧ σ198 3 = (Value.slice a139 y134.length c140) ∧ elems heldW w197 (In ok w [] []) a139 y134 ∧ K189 () = some r ∧ St [] w w197 []) ?_ ?_
    · refine WC.block ?_
      refine WC.loop (T := Nat) (fun k195 σ193 w192 => ∃ i188 : Int, σ193 1 = (Value.pointer none) ∧ σ193 2 = (Value.int .i64 y101.2) ∧ σ193 3 = (Value.slice a139 y134.length c140) ∧ σ193 4 = (Value.int .i64 i188) ∧ elems heldW w192 (In ok w [] []) a139 y134 ∧ lives17_l1 y101 y134 K189 k195 i188 = some r ∧ St [] w w192 []) (fun k195 => k195) 1000000 ⟨0, rfl, rfl, rfl, rfl, he145, h191, hs146⟩ ?_
      rintro k195 σ193 w192 ⟨i188, s202, s203, s204, s205, he196, h201, hs194⟩
      rcases k195 with _ | k195
      · rw [lives17_l1] at h201; cases h201
      rw [lives17_l1] at h201
      refine WC.seq ?_
      refine WC.seq ?_
      refine WC.region ?_
      refine WL.val (R.move (v := Value.int .i64 i188) (by exact s205)) rfl ?_
      by_cases hc206 : i188 < 7
      · have h207 := ifT hc206 h201
        refine WL.val (R.lssT (k := .i64) (a := i188) (b := 7) un3 rfl rfl hc206) rfl ?_
        refine WL.nil ?_
        refine thenN ?_
        refine WC.condT rfl rfl ?_
        refine WC.skip ?_
        refine thenN ?_
        refine WC.seq ?_
        refine WC.block ?_
        refine WC.seq ?_
        refine WC.region ?_
        refine WL.val (R.move (v := Value.int .i64 y101.2) (by exact s203)) rfl ?_
        by_cases hc208 : y101.2 = 0
        · have h209 := ifT hc208 h207
          refine WL.val (R.neqF (k := .i64) (a := y101.2) (b := 0) un66 rfl rfl (not_not_intro hc208)) rfl ?_
          refine WL.val (R.move (v := Value.bool false) rfl) rfl ?_
          refine WL.guardY (e := 17) rfl rfl rfl ?_
          refine WL.val (R.move (v := Value.pointer none) (by exact s202)) rfl ?_
          refine WL.guardY (e := 17) rfl rfl rfl ?_
          refine WL.val (R.move (v := Value.slice a139 y134.length c140) (by exact s204)) rfl ?_
          refine WL.guardY (e := 17) rfl rfl rfl ?_
          obtain ⟨y210, hx211, h212⟩ := ob (o := stepN17 y134 5) h209
          refine WL.call (stepN17_ok _ _ y134 5 _ _ he196 hl141 hx211) (R.call (vs := [Value.pointer none, Value.slice a139 y134.length c140, Value.int .i64 5]) (caps := []) bo47 rfl rfl) rfl ?_
          rintro v215 w216 ⟨rfl, ht213⟩
          have ht214 := hs194.call (N := []) (M := []) (List.Perm.refl _) ht213
          have hs217 := hs194.trans ht214
          refine WL.val (R.pickF (v := Value.bool y210) rfl rfl) rfl ?_
          refine WL.nil ?_
          refine thenN ?_
          by_cases hc218 : y210 = true
          · have h219 := ifT hc218 h212
            refine WC.condT (Eq.trans (show _ = Value.bool y210 from rfl) (congrArg Value.bool hc218)) rfl ?_
            refine WC.seq ?_
            refine WC.region ?_
            refine WL.val (R.assign (v := Value.bool false) rfl) rfl ?_
            refine WL.nil ?_
            refine thenN ?_
            refine WC.ret ?_
            obtain rfl := Option.some.inj (show some false = some r from h219)
            exact ret1 (P := Try.prog) (n := 52) (fn := Try.f41) (R := fun v w' => v = Value.bool false ∧ St [] w w' []) (t := 0) (v := Value.bool false) rfl rfl rfl ⟨rfl, hs217⟩
          · have h220 := ifF hc218 h212
            refine WC.condF (Eq.trans (show _ = Value.bool y210 from rfl) (congrArg Value.bool (Bool.eq_false_iff.2 hc218))) rfl ?_
            refine WC.skip ?_
            refine blockN ?_
            refine thenN ?_
            refine WC.region ?_
            refine WL.val (R.move (v := Value.int .i64 i188) (by exact s205)) rfl ?_
            obtain ⟨hg221, h222⟩ := ckE (c := -9223372036854775808 ≤ i188 + 1 ∧ i188 + 1 ≤ 9223372036854775807) h220
            refine WL.val (R.add (a := i188) (b := 1) (z := i188 + 1) rfl rfl (w64e rfl hg221.1 hg221.2)) rfl ?_
            refine WL.val (R.assign (v := Value.int .i64 (i188 + 1)) rfl) rfl ?_
            refine WL.nil ?_
            have hr223 := elT ht214 he196
            exact roundEnd (s := k195) ⟨i188 + 1, s202, s203, s204, rfl, hr223, h222, hs217⟩ (Nat.lt_succ_self _)
        · have h224 := ifF hc208 h207
          refine WL.val (R.neqT (k := .i64) (a := y101.2) (b := 0) un66 rfl rfl hc208) rfl ?_
          refine WL.val (R.move (v := Value.bool true) rfl) rfl ?_
          refine WL.guardN (e := 17) (v := .bool true) rfl rfl rfl rfl ?_
          refine WL.guardN (e := 17) (v := .bool true) rfl rfl rfl rfl ?_
          refine WL.guardN (e := 17) (v := .bool true) rfl rfl rfl rfl ?_
          refine WL.val (R.pickT (v := Value.bool true) rfl rfl) rfl ?_
          refine WL.nil ?_
          refine thenN ?_
          refine WC.condT rfl rfl ?_
          refine WC.seq ?_
          refine WC.region ?_
          refine WL.val (R.assign (v := Value.bool false) rfl) rfl ?_
          refine WL.nil ?_
          refine thenN ?_
          refine WC.ret ?_
          obtain rfl := Option.some.inj (show some false = some r from h224)
          exact ret1 (P := Try.prog) (n := 52) (fn := Try.f41) (R := fun v w' => v = Value.bool false ∧ St [] w w' []) (t := 0) (v := Value.bool false) rfl rfl rfl ⟨rfl, hs194⟩
      · have h225 := ifF hc206 h201
        refine WL.val (R.lssF (k := .i64) (a := i188) (b := 7) un3 rfl rfl hc206) rfl ?_
        refine WL.nil ?_
        refine thenN ?_
        refine WC.condF rfl rfl ?_
        refine WC.exit ?_
        refine thenE ?_
        refine thenE ?_
        refine blockHit ?_
        exact joinI ⟨s202, s204, he196, h225, hs194⟩
    · rintro σ198 w197 ⟨s227, s228, he200, h226, hs199⟩
      subst hK190
      refine thenN ?_
      refine WC.seq ?_
      refine WC.region ?_
      refine WL.val (R.move (v := Value.pointer none) (by exact s227)) rfl ?_
      refine WL.val (R.move (v := Value.slice a139 y134.length c140) (by exact s228)) rfl ?_
      obtain ⟨y229, hx230, h231⟩ := ob (o := stepN17 y134 5) h226
      refine WL.call (stepN17_ok _ _ y134 5 _ _ he200 hl141 hx230) (R.call (vs := [Value.pointer none, Value.slice a139 y134.length c140, Value.int .i64 5]) (caps := []) bo47 rfl rfl) rfl ?_
      rintro v234 w235 ⟨rfl, ht232⟩
      have ht233 := hs199.call (N := []) (M := []) (List.Perm.refl _) ht232
      have hs236 := hs199.trans ht233
      refine WL.val (R.move (v := Value.bool y229) rfl) rfl ?_
      by_cases hc237 : y229 = true
      · have h238 := ifT hc237 h231
        refine WL.guardY (e := 25) (Eq.trans (show _ = Value.bool y229 from rfl) (congrArg Value.bool hc237)) rfl rfl ?_
        refine WL.val (R.move (v := Value.pointer none) (by exact s227)) rfl ?_
        refine WL.guardY (e := 25) (Eq.trans (show _ = Value.bool y229 from rfl) (congrArg Value.bool hc237)) rfl rfl ?_
        refine WL.val (R.move (v := Value.slice a139 y134.length c140) (by exact s228)) rfl ?_
        refine WL.guardY (e := 25) (Eq.trans (show _ = Value.bool y229 from rfl) (congrArg Value.bool hc237)) rfl rfl ?_
        obtain ⟨y239, hx240, h241⟩ := ob (o := stepN17 y134 5) h238
        have hr242 := elT ht233 he200
        refine WL.call (stepN17_ok _ _ y134 5 _ _ hr242 hl141 hx240) (R.call (vs := [Value.pointer none, Value.slice a139 y134.length c140, Value.int .i64 5]) (caps := []) bo47 rfl rfl) rfl ?_
        rintro v245 w246 ⟨rfl, ht243⟩
        have ht244 := hs236.call (N := []) (M := []) (List.Perm.refl _) ht243
        have hs247 := hs236.trans ht244
        refine WL.val (R.pickT (v := Value.bool y239) (Eq.trans (show _ = Value.bool y229 from rfl) (congrArg Value.bool hc237)) rfl) rfl ?_
        refine WL.val (R.move (v := Value.bool y239) rfl) rfl ?_
        by_cases hc248 : y239 = true
        · have h249 := ifT hc248 h241
          refine WL.guardY (e := 30) (Eq.trans (show _ = Value.bool y239 from rfl) (congrArg Value.bool hc248)) rfl rfl ?_
          refine WL.val (R.move (v := Value.pointer none) (by exact s227)) rfl ?_
          refine WL.guardY (e := 30) (Eq.trans (show _ = Value.bool y239 from rfl) (congrArg Value.bool hc248)) rfl rfl ?_
          refine WL.val (R.move (v := Value.slice a139 y134.length c140) (by exact s228)) rfl ?_
          refine WL.guardY (e := 30) (Eq.trans (show _ = Value.bool y239 from rfl) (congrArg Value.bool hc248)) rfl rfl ?_
          obtain ⟨y250, hx251, h252⟩ := ob (o := stepN17 y134 9) h249
          have hr253 := elT ht244 hr242
          refine WL.call (stepN17_ok _ _ y134 9 _ _ hr253 hl141 hx251) (R.call (vs := [Value.pointer none, Value.slice a139 y134.length c140, Value.int .i64 9]) (caps := []) bo47 rfl rfl) rfl ?_
          rintro v256 w257 ⟨rfl, ht254⟩
          have ht255 := hs247.call (N := []) (M := []) (List.Perm.refl _) ht254
          have hs258 := hs247.trans ht255
          refine WL.guardY (e := 30) (Eq.trans (show _ = Value.bool y239 from rfl) (congrArg Value.bool hc248)) rfl rfl ?_
          refine WL.val (R.not (b := y250) rfl) rfl ?_
          refine WL.val (R.pickT (v := Value.bool (!y250)) (Eq.trans (show _ = Value.bool y239 from rfl) (congrArg Value.bool hc248)) rfl) rfl ?_
          refine WL.val (R.move (v := Value.bool (!y250)) rfl) rfl ?_
          by_cases hc259 : y250 = true
          · have h260 := ifT hc259 h252
            have hk261 : (!y250) = false := by simp [hc259]
            refine WL.guardN (e := 36) (v := .bool false) (Eq.trans (show _ = Value.bool (!y250) from rfl) (congrArg Value.bool hk261)) rfl rfl rfl ?_
            refine WL.guardN (e := 36) (v := .bool false) (Eq.trans (show _ = Value.bool (!y250) from rfl) (congrArg Value.bool hk261)) rfl rfl rfl ?_
            refine WL.guardN (e := 36) (v := .bool false) (Eq.trans (show _ = Value.bool (!y250) from rfl) (congrArg Value.bool hk261)) rfl rfl rfl ?_
            refine WL.guardN (e := 36) (v := .bool false) (Eq.trans (show _ = Value.bool (!y250) from rfl) (congrArg Value.bool hk261)) rfl rfl rfl ?_
            refine WL.val (R.pickF (v := Value.bool false) (Eq.trans (show _ = Value.bool (!y250) from rfl) (congrArg Value.bool hk261)) rfl) rfl ?_
            refine WL.val (R.move (v := Value.bool false) rfl) rfl ?_
            refine WL.guardN (e := 42) (v := .bool false) rfl rfl rfl rfl ?_
            refine WL.guardN (e := 42) (v := .bool false) rfl rfl rfl rfl ?_
            refine WL.val (R.pickF (v := Value.bool false) rfl rfl) rfl ?_
            refine WL.val (R.move (v := Value.bool false) rfl) rfl ?_
            refine WL.guardN (e := 46) (v := .bool false) rfl rfl rfl rfl ?_
            refine WL.guardN (e := 46) (v := .bool false) rfl rfl rfl rfl ?_
            refine WL.guardN (e := 46) (v := .bool false) rfl rfl rfl rfl ?_
            refine WL.guardN (e := 46) (v := .bool false) rfl rfl rfl rfl ?_
            refine WL.val (R.pickF (v := Value.bool false) rfl rfl) rfl ?_
            refine WL.val (R.assign (v := Value.bool false) rfl) rfl ?_
            refine WL.nil ?_
            refine thenN ?_
            refine WC.ret ?_
            obtain rfl := Option.some.inj (show some false = some r from h260)
            exact ret1 (P := Try.prog) (n := 52) (fn := Try.f41) (R := fun v w' => v = Value.bool false ∧ St [] w w' []) (t := 0) (v := Value.bool false) rfl rfl rfl ⟨rfl, hs258⟩
          · have h262 := ifF hc259 h252
            have hk263 : (!y250) = true := by simp [hc259]
            refine WL.guardY (e := 36) (Eq.trans (show _ = Value.bool (!y250) from rfl) (congrArg Value.bool hk263)) rfl rfl ?_
            refine WL.val (R.move (v := Value.pointer none) (by exact s227)) rfl ?_
            refine WL.guardY (e := 36) (Eq.trans (show _ = Value.bool (!y250) from rfl) (congrArg Value.bool hk263)) rfl rfl ?_
            refine WL.val (R.move (v := Value.slice a139 y134.length c140) (by exact s228)) rfl ?_
            refine WL.guardY (e := 36) (Eq.trans (show _ = Value.bool (!y250) from rfl) (congrArg Value.bool hk263)) rfl rfl ?_
            obtain ⟨y264, hx265, h266⟩ := ob (o := stepN17 y134 5) h262
            have hr267 := elT ht255 hr253
            refine WL.call (stepN17_ok _ _ y134 5 _ _ hr267 hl141 hx265) (R.call (vs := [Value.pointer none, Value.slice a139 y134.length c140, Value.int .i64 5]) (caps := []) bo47 rfl rfl) rfl ?_
            rintro v270 w271 ⟨rfl, ht268⟩
            have ht269 := hs258.call (N := []) (M := []) (List.Perm.refl _) ht268
            have hs272 := hs258.trans ht269
            refine WL.guardY (e := 36) (Eq.trans (show _ = Value.bool (!y250) from rfl) (congrArg Value.bool hk263)) rfl rfl ?_
            refine WL.val (R.not (b := y264) rfl) rfl ?_
            refine WL.val (R.pickT (v := Value.bool (!y264)) (Eq.trans (show _ = Value.bool (!y250) from rfl) (congrArg Value.bool hk263)) rfl) rfl ?_
            refine WL.val (R.move (v := Value.bool (!y264)) rfl) rfl ?_
            by_cases hc273 : y264 = true
            · have h274 := ifT hc273 h266
              have hk275 : (!y264) = false := by simp [hc273]
              refine WL.guardN (e := 42) (v := .bool false) (Eq.trans (show _ = Value.bool (!y264) from rfl) (congrArg Value.bool hk275)) rfl rfl rfl ?_
              refine WL.guardN (e := 42) (v := .bool false) (Eq.trans (show _ = Value.bool (!y264) from rfl) (congrArg Value.bool hk275)) rfl rfl rfl ?_
              refine WL.val (R.pickF (v := Value.bool false) (Eq.trans (show _ = Value.bool (!y264) from rfl) (congrArg Value.bool hk275)) rfl) rfl ?_
              refine WL.val (R.move (v := Value.bool false) rfl) rfl ?_
              refine WL.guardN (e := 46) (v := .bool false) rfl rfl rfl rfl ?_
              refine WL.guardN (e := 46) (v := .bool false) rfl rfl rfl rfl ?_
              refine WL.guardN (e := 46) (v := .bool false) rfl rfl rfl rfl ?_
              refine WL.guardN (e := 46) (v := .bool false) rfl rfl rfl rfl ?_
              refine WL.val (R.pickF (v := Value.bool false) rfl rfl) rfl ?_
              refine WL.val (R.assign (v := Value.bool false) rfl) rfl ?_
              refine WL.nil ?_
              refine thenN ?_
              refine WC.ret ?_
              obtain rfl := Option.some.inj (show some false = some r from h274)
              exact ret1 (P := Try.prog) (n := 52) (fn := Try.f41) (R := fun v w' => v = Value.bool false ∧ St [] w w' []) (t := 0) (v := Value.bool false) rfl rfl rfl ⟨rfl, hs272⟩
            · have h276 := ifF hc273 h266
              have hk277 : (!y264) = true := by simp [hc273]
              refine WL.guardY (e := 42) (Eq.trans (show _ = Value.bool (!y264) from rfl) (congrArg Value.bool hk277)) rfl rfl ?_
              refine WL.val (R.move (v := Value.slice a139 y134.length c140) (by exact s228)) rfl ?_
              refine WL.guardY (e := 42) (Eq.trans (show _ = Value.bool (!y264) from rfl) (congrArg Value.bool hk277)) rfl rfl ?_
              obtain ⟨y278, hx279, h280⟩ := ob (o := even17 4 y134 5) h276
              have hr281 := elT ht269 hr267
              refine WL.call (even17_ok _ _ 4 y134 5 _ _ hr281 hl141 hx279) (R.call (vs := [Value.int .i64 4, Value.slice a139 y134.length c140, Value.int .i64 5]) (caps := []) bo45 rfl rfl) rfl ?_
              rintro v284 w285 ⟨rfl, ht282⟩
              have ht283 := hs272.call (N := []) (M := []) (List.Perm.refl _) ht282
              have hs286 := hs272.trans ht283
              refine WL.val (R.pickT (v := Value.bool y278) (Eq.trans (show _ = Value.bool (!y264) from rfl) (congrArg Value.bool hk277)) rfl) rfl ?_
              refine WL.val (R.move (v := Value.bool y278) rfl) rfl ?_
              by_cases hc287 : y278 = true
              · have h288 := ifT hc287 h280
                refine WL.guardY (e := 46) (Eq.trans (show _ = Value.bool y278 from rfl) (congrArg Value.bool hc287)) rfl rfl ?_
                have hd294 : ∀ w : World, (Instr.buildSlice 196 4 #[(0, Value.int .i64 5), (1, Value.int .i64 5), (2, Value.int .i64 9), (3, Value.int .i64 9)]).run Try.prog w = .ok (.slice (some ⟨w.heap.size, 0, none⟩) 4 4) { w with heap := w.heap.push (.cells (List.toArray [Value.int .i64 5, Value.int .i64 5, Value.int .i64 9, Value.int .i64 9]) 2) } := fun _ => by kernel_rfl
                refine WL.new (L' := fun b289 => [blk b289 2 [Value.int .i64 5, Value.int .i64 5, Value.int .i64 9, Value.int .i64 9]]) (f := fun b289 => Value.slice (some ⟨b289, 0, none⟩) 4 4) (X.buildSlice (c := [Value.int .i64 5, Value.int .i64 5, Value.int .i64 9, Value.int .i64 9]) (vs := [(0, Value.int .i64 5), (1, Value.int .i64 5), (2, Value.int .i64 9), (3, Value.int .i64 9)]) (hs286.here) rfl hd294 (fun _ => rfl)) rfl ?_
                intro b289 w290 ht296 he292 hz293
                have hs297 := hs286.trans ht296
                refine WL.guardY (e := 46) (Eq.trans (show _ = Value.bool y278 from rfl) (congrArg Value.bool hc287)) rfl rfl ?_
                have ht298 : St [blk b289 2 [Value.int .i64 5, Value.int .i64 5, Value.int .i64 9, Value.int .i64 9]] w290 w290 [gsl 2 i64E (Value.slice (some ⟨b289, 0, none⟩) (([5, 5, 9, 9]).length) 4) [5, 5, 9, 9]] := (hs297.here).conv (i := 0) rfl (arr_gsl (E := 2) (e := i64E) (xs := [5, 5, 9, 9]) (hs297.heap (i := 0) rfl) (by decide)) (fun b hb => (Option.some.inj hb).symm) rfl
                have hs299 := hs297.trans ht298
                obtain ⟨a300, c301, hv302, hl303, he304⟩ := el_freeze (k := (intW .i64)) (ok := ok) hs299 (List.Perm.refl _) rfl (fun _ _ _ => ⟨trivial, rfl⟩)
                obtain ⟨rfl, rfl⟩ : (some ⟨b289, 0, none⟩) = a300 ∧ 4 = c301 := ⟨(Value.slice.inj hv302).1, (Value.slice.inj hv302).2.2⟩
                have ht305 := (hs299.here).perm (L' := []) (G := [gsl 2 i64E (Value.slice (some ⟨b289, 0, none⟩) (([5, 5, 9, 9]).length) 4) [5, 5, 9, 9]]) ((List.Perm.refl _))
                have hs306 := hs299.trans ht305
                obtain ⟨y308, hx309, h310⟩ := ob (o := vector17 [5, 5, 9, 9]) h288
                refine WL.call (vector17_ok _ _ [5, 5, 9, 9] _ _ he304 hl303 hx309) (R.call (vs := [Value.slice (some ⟨b289, 0, none⟩) 4 4]) (caps := []) bo104 rfl rfl) rfl ?_
                rintro v317 w318 ⟨a313, c314, rfl, hl315, he316, ht311⟩
                have ht312 := hs306.call (N := []) (M := []) (List.Perm.refl _) ht311
                have he319 := elC hs306 (M := []) (List.Perm.refl _) ht311 he316
                have hs320 := hs306.trans ht312
                refine WL.guardY (e := 46) (Eq.trans (show _ = Value.bool y278 from rfl) (congrArg Value.bool hc287)) rfl rfl ?_
                obtain ⟨y322, hx323, h324⟩ := ob (o := even17 4 y308 5) h310
                refine WL.call (even17_ok _ _ 4 y308 5 _ _ he319 hl315 hx323) (R.call (vs := [Value.int .i64 4, Value.slice a313 y308.length c314, Value.int .i64 5]) (caps := []) bo45 rfl rfl) rfl ?_
                rintro v327 w328 ⟨rfl, ht325⟩
                have ht326 := hs320.call (N := []) (M := []) (List.Perm.refl _) ht325
                have hs329 := hs320.trans ht326
                refine WL.guardY (e := 46) (Eq.trans (show _ = Value.bool y278 from rfl) (congrArg Value.bool hc287)) rfl rfl ?_
                refine WL.val (R.not (b := y322) rfl) rfl ?_
                refine WL.val (R.pickT (v := Value.bool (!y322)) (Eq.trans (show _ = Value.bool y278 from rfl) (congrArg Value.bool hc287)) rfl) rfl ?_
                refine WL.val (R.assign (v := Value.bool (!y322)) rfl) rfl ?_
                refine WL.nil ?_
                refine thenN ?_
                refine WC.ret ?_
                obtain rfl := Option.some.inj (show some (!y322) = some r from h324)
                exact ret1 (P := Try.prog) (n := 52) (fn := Try.f41) (R := fun v w' => v = Value.bool (!y322) ∧ St [] w w' []) (t := 0) (v := Value.bool (!y322)) rfl rfl rfl ⟨rfl, hs329⟩
              · have h330 := ifF hc287 h280
                refine WL.guardN (e := 46) (v := .bool false) (Eq.trans (show _ = Value.bool y278 from rfl) (congrArg Value.bool (Bool.eq_false_iff.2 hc287))) rfl rfl rfl ?_
                refine WL.guardN (e := 46) (v := .bool false) (Eq.trans (show _ = Value.bool y278 from rfl) (congrArg Value.bool (Bool.eq_false_iff.2 hc287))) rfl rfl rfl ?_
                refine WL.guardN (e := 46) (v := .bool false) (Eq.trans (show _ = Value.bool y278 from rfl) (congrArg Value.bool (Bool.eq_false_iff.2 hc287))) rfl rfl rfl ?_
                refine WL.guardN (e := 46) (v := .bool false) (Eq.trans (show _ = Value.bool y278 from rfl) (congrArg Value.bool (Bool.eq_false_iff.2 hc287))) rfl rfl rfl ?_
                refine WL.val (R.pickF (v := Value.bool false) (Eq.trans (show _ = Value.bool y278 from rfl) (congrArg Value.bool (Bool.eq_false_iff.2 hc287))) rfl) rfl ?_
                refine WL.val (R.assign (v := Value.bool false) rfl) rfl ?_
                refine WL.nil ?_
                refine thenN ?_
                refine WC.ret ?_
                obtain rfl := Option.some.inj (show some false = some r from h330)
                exact ret1 (P := Try.prog) (n := 52) (fn := Try.f41) (R := fun v w' => v = Value.bool false ∧ St [] w w' []) (t := 0) (v := Value.bool false) rfl rfl rfl ⟨rfl, hs286⟩
        · have h331 := ifF hc248 h241
          refine WL.guardN (e := 30) (v := .bool false) (Eq.trans (show _ = Value.bool y239 from rfl) (congrArg Value.bool (Bool.eq_false_iff.2 hc248))) rfl rfl rfl ?_
          refine WL.guardN (e := 30) (v := .bool false) (Eq.trans (show _ = Value.bool y239 from rfl) (congrArg Value.bool (Bool.eq_false_iff.2 hc248))) rfl rfl rfl ?_
          refine WL.guardN (e := 30) (v := .bool false) (Eq.trans (show _ = Value.bool y239 from rfl) (congrArg Value.bool (Bool.eq_false_iff.2 hc248))) rfl rfl rfl ?_
          refine WL.guardN (e := 30) (v := .bool false) (Eq.trans (show _ = Value.bool y239 from rfl) (congrArg Value.bool (Bool.eq_false_iff.2 hc248))) rfl rfl rfl ?_
          refine WL.val (R.pickF (v := Value.bool false) (Eq.trans (show _ = Value.bool y239 from rfl) (congrArg Value.bool (Bool.eq_false_iff.2 hc248))) rfl) rfl ?_
          refine WL.val (R.move (v := Value.bool false) rfl) rfl ?_
          refine WL.guardN (e := 36) (v := .bool false) rfl rfl rfl rfl ?_
          refine WL.guardN (e := 36) (v := .bool false) rfl rfl rfl rfl ?_
          refine WL.guardN (e := 36) (v := .bool false) rfl rfl rfl rfl ?_
          refine WL.guardN (e := 36) (v := .bool false) rfl rfl rfl rfl ?_
          refine WL.val (R.pickF (v := Value.bool false) rfl rfl) rfl ?_
          refine WL.val (R.move (v := Value.bool false) rfl) rfl ?_
          refine WL.guardN (e := 42) (v := .bool false) rfl rfl rfl rfl ?_
          refine WL.guardN (e := 42) (v := .bool false) rfl rfl rfl rfl ?_
          refine WL.val (R.pickF (v := Value.bool false) rfl rfl) rfl ?_
          refine WL.val (R.move (v := Value.bool false) rfl) rfl ?_
          refine WL.guardN (e := 46) (v := .bool false) rfl rfl rfl rfl ?_
          refine WL.guardN (e := 46) (v := .bool false) rfl rfl rfl rfl ?_
          refine WL.guardN (e := 46) (v := .bool false) rfl rfl rfl rfl ?_
          refine WL.guardN (e := 46) (v := .bool false) rfl rfl rfl rfl ?_
          refine WL.val (R.pickF (v := Value.bool false) rfl rfl) rfl ?_
          refine WL.val (R.assign (v := Value.bool false) rfl) rfl ?_
          refine WL.nil ?_
          refine thenN ?_
          refine WC.ret ?_
          obtain rfl := Option.some.inj (show some false = some r from h331)
          exact ret1 (P := Try.prog) (n := 52) (fn := Try.f41) (R := fun v w' => v = Value.bool false ∧ St [] w w' []) (t := 0) (v := Value.bool false) rfl rfl rfl ⟨rfl, hs247⟩
      · have h332 := ifF hc237 h231
        refine WL.guardN (e := 25) (v := .bool false) (Eq.trans (show _ = Value.bool y229 from rfl) (congrArg Value.bool (Bool.eq_false_iff.2 hc237))) rfl rfl rfl ?_
        refine WL.guardN (e := 25) (v := .bool false) (Eq.trans (show _ = Value.bool y229 from rfl) (congrArg Value.bool (Bool.eq_false_iff.2 hc237))) rfl rfl rfl ?_
        refine WL.guardN (e := 25) (v := .bool false) (Eq.trans (show _ = Value.bool y229 from rfl) (congrArg Value.bool (Bool.eq_false_iff.2 hc237))) rfl rfl rfl ?_
        refine WL.val (R.pickF (v := Value.bool false) (Eq.trans (show _ = Value.bool y229 from rfl) (congrArg Value.bool (Bool.eq_false_iff.2 hc237))) rfl) rfl ?_
        refine WL.val (R.move (v := Value.bool false) rfl) rfl ?_
        refine WL.guardN (e := 30) (v := .bool false) rfl rfl rfl rfl ?_
        refine WL.guardN (e := 30) (v := .bool false) rfl rfl rfl rfl ?_
        refine WL.guardN (e := 30) (v := .bool false) rfl rfl rfl rfl ?_
        refine WL.guardN (e := 30) (v := .bool false) rfl rfl rfl rfl ?_
        refine WL.val (R.pickF (v := Value.bool false) rfl rfl) rfl ?_
        refine WL.val (R.move (v := Value.bool false) rfl) rfl ?_
        refine WL.guardN (e := 36) (v := .bool false) rfl rfl rfl rfl ?_
        refine WL.guardN (e := 36) (v := .bool false) rfl rfl rfl rfl ?_
        refine WL.guardN (e := 36) (v := .bool false) rfl rfl rfl rfl ?_
        refine WL.guardN (e := 36) (v := .bool false) rfl rfl rfl rfl ?_
        refine WL.val (R.pickF (v := Value.bool false) rfl rfl) rfl ?_
        refine WL.val (R.move (v := Value.bool false) rfl) rfl ?_
        refine WL.guardN (e := 42) (v := .bool false) rfl rfl rfl rfl ?_
        refine WL.guardN (e := 42) (v := .bool false) rfl rfl rfl rfl ?_
        refine WL.val (R.pickF (v := Value.bool false) rfl rfl) rfl ?_
        refine WL.val (R.move (v := Value.bool false) rfl) rfl ?_
        refine WL.guardN (e := 46) (v := .bool false) rfl rfl rfl rfl ?_
        refine WL.guardN (e := 46) (v := .bool false) rfl rfl rfl rfl ?_
        refine WL.guardN (e := 46) (v := .bool false) rfl rfl rfl rfl ?_
        refine WL.guardN (e := 46) (v := .bool false) rfl rfl rfl rfl ?_
        refine WL.val (R.pickF (v := Value.bool false) rfl rfl) rfl ?_
        refine WL.val (R.assign (v := Value.bool false) rfl) rfl ?_
        refine WL.nil ?_
        refine thenN ?_
        refine WC.ret ?_
        obtain rfl := Option.some.inj (show some false = some r from h332)
        exact ret1 (P := Try.prog) (n := 52) (fn := Try.f41) (R := fun v w' => v = Value.bool false ∧ St [] w w' []) (t := 0) (v := Value.bool false) rfl rfl rfl ⟨rfl, hs236⟩
  · rw [ho113] at ho108
    obtain ⟨b333, rfl, rfl⟩ := ho108
    have ht105 := hs100.call (N := []) (M := []) (List.Perm.refl _) ht104
    have hs335 := hs100.trans ht105
    refine WL.val (R.move (v := Value.tuple #[Value.pointer (some ⟨b333, 0, none⟩), Value.int .i64 y101.2]) rfl) rfl ?_
    refine WL.val (R.extract (v := Value.pointer (some ⟨b333, 0, none⟩)) rfl rfl) rfl ?_
    refine WL.val (R.extract (v := Value.int .i64 y101.2) rfl rfl) rfl ?_
    refine WL.val (R.assign (v := Value.pointer (some ⟨b333, 0, none⟩)) rfl) rfl ?_
    refine WL.val (R.assign (v := Value.int .i64 y101.2) rfl) rfl ?_
    refine WL.nil ?_
    refine thenN ?_
    refine WC.seq ?_
    refine WC.region ?_
    have hd341 : ∀ w : World, (Instr.buildSlice 196 4 #[(0, Value.int .i64 5), (1, Value.int .i64 5), (2, Value.int .i64 9), (3, Value.int .i64 5)]).run Try.prog w = .ok (.slice (some ⟨w.heap.size, 0, none⟩) 4 4) { w with heap := w.heap.push (.cells (List.toArray [Value.int .i64 5, Value.int .i64 5, Value.int .i64 9, Value.int .i64 5]) 2) } := fun _ => by kernel_rfl
    refine WL.new (L' := fun b336 => [blk b333 83 ([Value.int .i64 q112.1.1, Value.int .i64 q112.1.2] ++ ((Value.int .i64 q112.2) :: [])), blk b336 2 [Value.int .i64 5, Value.int .i64 5, Value.int .i64 9, Value.int .i64 5]]) (f := fun b336 => Value.slice (some ⟨b336, 0, none⟩) 4 4) (X.buildSlice (c := [Value.int .i64 5, Value.int .i64 5, Value.int .i64 9, Value.int .i64 5]) (vs := [(0, Value.int .i64 5), (1, Value.int .i64 5), (2, Value.int .i64 9), (3, Value.int .i64 5)]) (hs335.here) rfl hd341 (fun _ => rfl)) rfl ?_
    intro b336 w337 ht343 he339 hz340
    have hs344 := hs335.trans ht343
    have ht345 : St [blk b333 83 ([Value.int .i64 q112.1.1, Value.int .i64 q112.1.2] ++ ((Value.int .i64 q112.2) :: [])), blk b336 2 [Value.int .i64 5, Value.int .i64 5, Value.int .i64 9, Value.int .i64 5]] w337 w337 [blk b333 83 ([Value.int .i64 q112.1.1, Value.int .i64 q112.1.2] ++ ((Value.int .i64 q112.2) :: [])), gsl 2 i64E (Value.slice (some ⟨b336, 0, none⟩) (([5, 5, 9, 5]).length) 4) [5, 5, 9, 5]] := (hs344.here).conv (i := 1) rfl (arr_gsl (E := 2) (e := i64E) (xs := [5, 5, 9, 5]) (hs344.heap (i := 1) rfl) (by decide)) (fun b hb => (Option.some.inj hb).symm) rfl
    have hs346 := hs344.trans ht345
    obtain ⟨a347, c348, hv349, hl350, he351⟩ := el_freeze (k := (intW .i64)) (ok := ok) hs346 ((List.perm_middle (l₁ := [blk b333 83 ([Value.int .i64 q112.1.1, Value.int .i64 q112.1.2] ++ ((Value.int .i64 q112.2) :: []))]) (a := gsl 2 i64E (Value.slice (some ⟨b336, 0, none⟩) (([5, 5, 9, 5]).length) 4) [5, 5, 9, 5]) (l₂ := [])).trans (List.Perm.cons _ (List.Perm.refl _))) rfl (fun _ _ _ => ⟨trivial, rfl⟩)
    obtain ⟨rfl, rfl⟩ : (some ⟨b336, 0, none⟩) = a347 ∧ 4 = c348 := ⟨(Value.slice.inj hv349).1, (Value.slice.inj hv349).2.2⟩
    have ht352 := (hs346.here).perm (L' := [blk b333 83 ([Value.int .i64 q112.1.1, Value.int .i64 q112.1.2] ++ ((Value.int .i64 q112.2) :: []))]) (G := [gsl 2 i64E (Value.slice (some ⟨b336, 0, none⟩) (([5, 5, 9, 5]).length) 4) [5, 5, 9, 5]]) ((List.Perm.refl _))
    have hs353 := hs346.trans ht352
    obtain ⟨y355, hx356, h357⟩ := ob (o := vector17 [5, 5, 9, 5]) h111
    refine WL.call (vector17_ok _ _ [5, 5, 9, 5] _ _ he351 hl350 hx356) (R.call (vs := [Value.slice (some ⟨b336, 0, none⟩) 4 4]) (caps := []) bo104 rfl rfl) rfl ?_
    rintro v364 w365 ⟨a360, c361, rfl, hl362, he363, ht358⟩
    have ht359 := hs353.call (N := [blk b333 83 ([Value.int .i64 q112.1.1, Value.int .i64 q112.1.2] ++ ((Value.int .i64 q112.2) :: []))]) (M := []) (List.Perm.refl _) ht358
    have he366 := elC hs353 (M := []) (List.Perm.refl _) ht358 he363
    have hs367 := hs353.trans ht359
    refine WL.val (R.assign (v := Value.slice a360 y355.length c361) rfl) rfl ?_
    refine WL.nil ?_
    refine thenN ?_
    refine WC.seq ?_
    refine WC.seq ?_
    refine WC.region ?_
    refine WL.val (R.assign (v := Value.int .i64 0) rfl) rfl ?_
    refine WL.nil ?_
    refine thenN ?_
    obtain ⟨K419, hK420, h421⟩ := kE (G := fun K419 => lives17_l2 y101 y355 K419 1000000 0 q112.1.1 q112.1.2 q112.2) h357
    refine WC.join (fun σ428 w427 => ∃ i416 : Int, ∃ i417 : Int, ∃ i418 : Int, σ428 1 = (Value.pointer (some ⟨b333, 0, none⟩)) ∧ σ428 3 = (Value.slice a360 y355.length c361) ∧ elems heldW w427 (In ok w [] [blk b333 83 ([Value.int .i64 i416, Value.int .i64 i417] ++ ((Value.int .i64 i418) :: []))]) a360 y355 ∧ K419 i416 i417 i418 = some r ∧ St [] w w427 [blk b333 83 ([Value.int .i64 i416, Value.int .i64 i417] ++ ((Value.int .i64 i418) :: []))]) ?_ ?_
    · refine WC.block ?_
      refine WC.loop (T := Nat) (fun k425 σ423 w422 => ∃ i412 : Int, ∃ i413 : Int, ∃ i414 : Int, ∃ i415 : Int, σ423 1 = (Value.pointer (some ⟨b333, 0, none⟩)) ∧ σ423 2 = (Value.int .i64 y101.2) ∧ σ423 3 = (Value.slice a360 y355.length c361) ∧ σ423 4 = (Value.int .i64 i412) ∧ elems heldW w422 (In ok w [] [blk b333 83 ([Value.int .i64 i413, Value.int .i64 i414] ++ ((Value.int .i64 i415) :: []))]) a360 y355 ∧ lives17_l2 y101 y355 K419 k425 i412 i413 i414 i415 = some r ∧ St [] w w422 [blk b333 83 ([Value.int .i64 i413, Value.int .i64 i414] ++ ((Value.int .i64 i415) :: []))]) (fun k425 => k425) 1000000 ⟨0, q112.1.1, q112.1.2, q112.2, rfl, rfl, rfl, rfl, he366, h421, hs367⟩ ?_
      rintro k425 σ423 w422 ⟨i412, i413, i414, i415, s432, s433, s434, s435, he426, h431, hs424⟩
      rcases k425 with _ | k425
      · rw [lives17_l2] at h431; cases h431
      rw [lives17_l2] at h431
      refine WC.seq ?_
      refine WC.seq ?_
      refine WC.region ?_
      refine WL.val (R.move (v := Value.int .i64 i412) (by exact s435)) rfl ?_
      by_cases hc436 : i412 < 7
      · have h437 := ifT hc436 h431
        refine WL.val (R.lssT (k := .i64) (a := i412) (b := 7) un3 rfl rfl hc436) rfl ?_
        refine WL.nil ?_
        refine thenN ?_
        refine WC.condT rfl rfl ?_
        refine WC.skip ?_
        refine thenN ?_
        refine WC.seq ?_
        refine WC.block ?_
        refine WC.seq ?_
        refine WC.region ?_
        refine WL.val (R.move (v := Value.int .i64 y101.2) (by exact s433)) rfl ?_
        by_cases hc438 : y101.2 = 0
        · have h439 := ifT hc438 h437
          refine WL.val (R.neqF (k := .i64) (a := y101.2) (b := 0) un66 rfl rfl (not_not_intro hc438)) rfl ?_
          refine WL.val (R.move (v := Value.bool false) rfl) rfl ?_
          refine WL.guardY (e := 17) rfl rfl rfl ?_
          refine WL.val (R.move (v := Value.pointer (some ⟨b333, 0, none⟩)) (by exact s432)) rfl ?_
          refine WL.guardY (e := 17) rfl rfl rfl ?_
          refine WL.val (R.move (v := Value.slice a360 y355.length c361) (by exact s434)) rfl ?_
          refine WL.guardY (e := 17) rfl rfl rfl ?_
          obtain ⟨y440, hx441, h442⟩ := ob (o := step17 ((i413, i414), i415) y355 5) h439
          refine WL.call (step17_ok _ _ ((i413, i414), i415) y355 5 _ _ he426 hl362 b333 (In.outM (M := [blk b333 83 ([Value.int .i64 i413, Value.int .i64 i414] ++ ((Value.int .i64 i415) :: []))]) (N := []) ((List.Perm.refl _))) (show St [blk b333 83 ([Value.int .i64 i413, Value.int .i64 i414] ++ ((Value.int .i64 i415) :: []))] _ _ [blk b333 83 ([Value.int .i64 i413, Value.int .i64 i414] ++ ((Value.int .i64 i415) :: []))] from St.ofM (M := [blk b333 83 ([Value.int .i64 i413, Value.int .i64 i414] ++ ((Value.int .i64 i415) :: []))]) (N := []) hs424 ((List.Perm.refl _))) hx441) (R.call (vs := [Value.pointer (some ⟨b333, 0, none⟩), Value.slice a360 y355.length c361, Value.int .i64 5]) (caps := []) bo47 rfl rfl) rfl ?_
          rintro v445 w446 ⟨rfl, ht443⟩
          have ht444 := hs424.call (N := []) (M := [blk b333 83 ([Value.int .i64 i413, Value.int .i64 i414] ++ ((Value.int .i64 i415) :: []))]) ((List.Perm.refl _)) ht443
          have hs447 := hs424.trans ht444
          refine WL.val (R.pickF (v := Value.bool y440.1) rfl rfl) rfl ?_
          refine WL.nil ?_
          refine thenN ?_
          by_cases hc448 : y440.1 = true
          · have h449 := ifT hc448 h442
            refine WC.condT (Eq.trans (show _ = Value.bool y440.1 from rfl) (congrArg Value.bool hc448)) rfl ?_
            refine WC.seq ?_
            refine WC.region ?_
            refine WL.val (R.assign (v := Value.bool false) rfl) rfl ?_
            refine WL.nil ?_
            refine thenN ?_
            refine WC.ret ?_
            have ht450 := (hs447.here).perm (L' := []) (G := [blk b333 83 ([Value.int .i64 y440.2.1.1, Value.int .i64 y440.2.1.2] ++ ((Value.int .i64 y440.2.2) :: []))]) ((List.Perm.refl _))
            have hs451 := hs447.trans ht450
            obtain rfl := Option.some.inj (show some false = some r from h449)
            exact ret1 (P := Try.prog) (n := 52) (fn := Try.f41) (R := fun v w' => v = Value.bool false ∧ St [] w w' []) (t := 0) (v := Value.bool false) rfl rfl rfl ⟨rfl, hs451⟩
          · have h452 := ifF hc448 h442
            refine WC.condF (Eq.trans (show _ = Value.bool y440.1 from rfl) (congrArg Value.bool (Bool.eq_false_iff.2 hc448))) rfl ?_
            refine WC.skip ?_
            refine blockN ?_
            refine thenN ?_
            refine WC.region ?_
            refine WL.val (R.move (v := Value.int .i64 i412) (by exact s435)) rfl ?_
            obtain ⟨hg453, h454⟩ := ckE (c := -9223372036854775808 ≤ i412 + 1 ∧ i412 + 1 ≤ 9223372036854775807) h452
            refine WL.val (R.add (a := i412) (b := 1) (z := i412 + 1) rfl rfl (w64e rfl hg453.1 hg453.2)) rfl ?_
            refine WL.val (R.assign (v := Value.int .i64 (i412 + 1)) rfl) rfl ?_
            refine WL.nil ?_
            have hr455 := elT ht444 he426
            exact roundEnd (s := k425) ⟨i412 + 1, y440.2.1.1, y440.2.1.2, y440.2.2, s432, s433, s434, rfl, hr455, h454, hs447⟩ (Nat.lt_succ_self _)
        · have h456 := ifF hc438 h437
          refine WL.val (R.neqT (k := .i64) (a := y101.2) (b := 0) un66 rfl rfl hc438) rfl ?_
          refine WL.val (R.move (v := Value.bool true) rfl) rfl ?_
          refine WL.guardN (e := 17) (v := .bool true) rfl rfl rfl rfl ?_
          refine WL.guardN (e := 17) (v := .bool true) rfl rfl rfl rfl ?_
          refine WL.guardN (e := 17) (v := .bool true) rfl rfl rfl rfl ?_
          refine WL.val (R.pickT (v := Value.bool true) rfl rfl) rfl ?_
          refine WL.nil ?_
          refine thenN ?_
          refine WC.condT rfl rfl ?_
          refine WC.seq ?_
          refine WC.region ?_
          refine WL.val (R.assign (v := Value.bool false) rfl) rfl ?_
          refine WL.nil ?_
          refine thenN ?_
          refine WC.ret ?_
          have ht457 := (hs424.here).perm (L' := []) (G := [blk b333 83 ([Value.int .i64 i413, Value.int .i64 i414] ++ ((Value.int .i64 i415) :: []))]) ((List.Perm.refl _))
          have hs458 := hs424.trans ht457
          obtain rfl := Option.some.inj (show some false = some r from h456)
          exact ret1 (P := Try.prog) (n := 52) (fn := Try.f41) (R := fun v w' => v = Value.bool false ∧ St [] w w' []) (t := 0) (v := Value.bool false) rfl rfl rfl ⟨rfl, hs458⟩
      · have h459 := ifF hc436 h431
        refine WL.val (R.lssF (k := .i64) (a := i412) (b := 7) un3 rfl rfl hc436) rfl ?_
        refine WL.nil ?_
        refine thenN ?_
        refine WC.condF rfl rfl ?_
        refine WC.exit ?_
        refine thenE ?_
        refine thenE ?_
        refine blockHit ?_
        exact joinI ⟨i413, i414, i415, s432, s434, he426, h459, hs424⟩
    · rintro σ428 w427 ⟨i416, i417, i418, s461, s462, he430, h460, hs429⟩
      subst hK420
      refine thenN ?_
      refine WC.seq ?_
      refine WC.region ?_
      refine WL.val (R.move (v := Value.pointer (some ⟨b333, 0, none⟩)) (by exact s461)) rfl ?_
      refine WL.val (R.move (v := Value.slice a360 y355.length c361) (by exact s462)) rfl ?_
      obtain ⟨y463, hx464, h465⟩ := ob (o := step17 ((i416, i417), i418) y355 5) h460
      refine WL.call (step17_ok _ _ ((i416, i417), i418) y355 5 _ _ he430 hl362 b333 (In.outM (M := [blk b333 83 ([Value.int .i64 i416, Value.int .i64 i417] ++ ((Value.int .i64 i418) :: []))]) (N := []) ((List.Perm.refl _))) (show St [blk b333 83 ([Value.int .i64 i416, Value.int .i64 i417] ++ ((Value.int .i64 i418) :: []))] _ _ [blk b333 83 ([Value.int .i64 i416, Value.int .i64 i417] ++ ((Value.int .i64 i418) :: []))] from St.ofM (M := [blk b333 83 ([Value.int .i64 i416, Value.int .i64 i417] ++ ((Value.int .i64 i418) :: []))]) (N := []) hs429 ((List.Perm.refl _))) hx464) (R.call (vs := [Value.pointer (some ⟨b333, 0, none⟩), Value.slice a360 y355.length c361, Value.int .i64 5]) (caps := []) bo47 rfl rfl) rfl ?_
      rintro v468 w469 ⟨rfl, ht466⟩
      have ht467 := hs429.call (N := []) (M := [blk b333 83 ([Value.int .i64 i416, Value.int .i64 i417] ++ ((Value.int .i64 i418) :: []))]) ((List.Perm.refl _)) ht466
      have hs470 := hs429.trans ht467
      refine WL.val (R.move (v := Value.bool y463.1) rfl) rfl ?_
      by_cases hc471 : y463.1 = true
      · have h472 := ifT hc471 h465
        refine WL.guardY (e := 25) (Eq.trans (show _ = Value.bool y463.1 from rfl) (congrArg Value.bool hc471)) rfl rfl ?_
        refine WL.val (R.move (v := Value.pointer (some ⟨b333, 0, none⟩)) (by exact s461)) rfl ?_
        refine WL.guardY (e := 25) (Eq.trans (show _ = Value.bool y463.1 from rfl) (congrArg Value.bool hc471)) rfl rfl ?_
        refine WL.val (R.move (v := Value.slice a360 y355.length c361) (by exact s462)) rfl ?_
        refine WL.guardY (e := 25) (Eq.trans (show _ = Value.bool y463.1 from rfl) (congrArg Value.bool hc471)) rfl rfl ?_
        obtain ⟨y473, hx474, h475⟩ := ob (o := step17 (y463.2.1, y463.2.2) y355 5) h472
        have hr476 := elT ht467 he430
        refine WL.call (step17_ok _ _ (y463.2.1, y463.2.2) y355 5 _ _ hr476 hl362 b333 (In.outM (M := [blk b333 83 ([Value.int .i64 y463.2.1.1, Value.int .i64 y463.2.1.2] ++ ((Value.int .i64 y463.2.2) :: []))]) (N := []) ((List.Perm.refl _))) (show St [blk b333 83 ([Value.int .i64 y463.2.1.1, Value.int .i64 y463.2.1.2] ++ ((Value.int .i64 y463.2.2) :: []))] _ _ [blk b333 83 ([Value.int .i64 y463.2.1.1, Value.int .i64 y463.2.1.2] ++ ((Value.int .i64 y463.2.2) :: []))] from St.ofM (M := [blk b333 83 ([Value.int .i64 y463.2.1.1, Value.int .i64 y463.2.1.2] ++ ((Value.int .i64 y463.2.2) :: []))]) (N := []) hs470 ((List.Perm.refl _))) hx474) (R.call (vs := [Value.pointer (some ⟨b333, 0, none⟩), Value.slice a360 y355.length c361, Value.int .i64 5]) (caps := []) bo47 rfl rfl) rfl ?_
        rintro v479 w480 ⟨rfl, ht477⟩
        have ht478 := hs470.call (N := []) (M := [blk b333 83 ([Value.int .i64 y463.2.1.1, Value.int .i64 y463.2.1.2] ++ ((Value.int .i64 y463.2.2) :: []))]) ((List.Perm.refl _)) ht477
        have hs481 := hs470.trans ht478
        refine WL.val (R.pickT (v := Value.bool y473.1) (Eq.trans (show _ = Value.bool y463.1 from rfl) (congrArg Value.bool hc471)) rfl) rfl ?_
        refine WL.val (R.move (v := Value.bool y473.1) rfl) rfl ?_
        by_cases hc482 : y473.1 = true
        · have h483 := ifT hc482 h475
          refine WL.guardY (e := 30) (Eq.trans (show _ = Value.bool y473.1 from rfl) (congrArg Value.bool hc482)) rfl rfl ?_
          refine WL.val (R.move (v := Value.pointer (some ⟨b333, 0, none⟩)) (by exact s461)) rfl ?_
          refine WL.guardY (e := 30) (Eq.trans (show _ = Value.bool y473.1 from rfl) (congrArg Value.bool hc482)) rfl rfl ?_
          refine WL.val (R.move (v := Value.slice a360 y355.length c361) (by exact s462)) rfl ?_
          refine WL.guardY (e := 30) (Eq.trans (show _ = Value.bool y473.1 from rfl) (congrArg Value.bool hc482)) rfl rfl ?_
          obtain ⟨y484, hx485, h486⟩ := ob (o := step17 (y473.2.1, y473.2.2) y355 9) h483
          have hr487 := elT ht478 hr476
          refine WL.call (step17_ok _ _ (y473.2.1, y473.2.2) y355 9 _ _ hr487 hl362 b333 (In.outM (M := [blk b333 83 ([Value.int .i64 y473.2.1.1, Value.int .i64 y473.2.1.2] ++ ((Value.int .i64 y473.2.2) :: []))]) (N := []) ((List.Perm.refl _))) (show St [blk b333 83 ([Value.int .i64 y473.2.1.1, Value.int .i64 y473.2.1.2] ++ ((Value.int .i64 y473.2.2) :: []))] _ _ [blk b333 83 ([Value.int .i64 y473.2.1.1, Value.int .i64 y473.2.1.2] ++ ((Value.int .i64 y473.2.2) :: []))] from St.ofM (M := [blk b333 83 ([Value.int .i64 y473.2.1.1, Value.int .i64 y473.2.1.2] ++ ((Value.int .i64 y473.2.2) :: []))]) (N := []) hs481 ((List.Perm.refl _))) hx485) (R.call (vs := [Value.pointer (some ⟨b333, 0, none⟩), Value.slice a360 y355.length c361, Value.int .i64 9]) (caps := []) bo47 rfl rfl) rfl ?_
          rintro v490 w491 ⟨rfl, ht488⟩
          have ht489 := hs481.call (N := []) (M := [blk b333 83 ([Value.int .i64 y473.2.1.1, Value.int .i64 y473.2.1.2] ++ ((Value.int .i64 y473.2.2) :: []))]) ((List.Perm.refl _)) ht488
          have hs492 := hs481.trans ht489
          refine WL.guardY (e := 30) (Eq.trans (show _ = Value.bool y473.1 from rfl) (congrArg Value.bool hc482)) rfl rfl ?_
          refine WL.val (R.not (b := y484.1) rfl) rfl ?_
          refine WL.val (R.pickT (v := Value.bool (!y484.1)) (Eq.trans (show _ = Value.bool y473.1 from rfl) (congrArg Value.bool hc482)) rfl) rfl ?_
          refine WL.val (R.move (v := Value.bool (!y484.1)) rfl) rfl ?_
          by_cases hc493 : y484.1 = true
          · have h494 := ifT hc493 h486
            have hk495 : (!y484.1) = false := by simp [hc493]
            refine WL.guardN (e := 36) (v := .bool false) (Eq.trans (show _ = Value.bool (!y484.1) from rfl) (congrArg Value.bool hk495)) rfl rfl rfl ?_
            refine WL.guardN (e := 36) (v := .bool false) (Eq.trans (show _ = Value.bool (!y484.1) from rfl) (congrArg Value.bool hk495)) rfl rfl rfl ?_
            refine WL.guardN (e := 36) (v := .bool false) (Eq.trans (show _ = Value.bool (!y484.1) from rfl) (congrArg Value.bool hk495)) rfl rfl rfl ?_
            refine WL.guardN (e := 36) (v := .bool false) (Eq.trans (show _ = Value.bool (!y484.1) from rfl) (congrArg Value.bool hk495)) rfl rfl rfl ?_
            refine WL.val (R.pickF (v := Value.bool false) (Eq.trans (show _ = Value.bool (!y484.1) from rfl) (congrArg Value.bool hk495)) rfl) rfl ?_
            refine WL.val (R.move (v := Value.bool false) rfl) rfl ?_
            refine WL.guardN (e := 42) (v := .bool false) rfl rfl rfl rfl ?_
            refine WL.guardN (e := 42) (v := .bool false) rfl rfl rfl rfl ?_
            refine WL.val (R.pickF (v := Value.bool false) rfl rfl) rfl ?_
            refine WL.val (R.move (v := Value.bool false) rfl) rfl ?_
            refine WL.guardN (e := 46) (v := .bool false) rfl rfl rfl rfl ?_
            refine WL.guardN (e := 46) (v := .bool false) rfl rfl rfl rfl ?_
            refine WL.guardN (e := 46) (v := .bool false) rfl rfl rfl rfl ?_
            refine WL.guardN (e := 46) (v := .bool false) rfl rfl rfl rfl ?_
            refine WL.val (R.pickF (v := Value.bool false) rfl rfl) rfl ?_
            refine WL.val (R.assign (v := Value.bool false) rfl) rfl ?_
            refine WL.nil ?_
            refine thenN ?_
            refine WC.ret ?_
            have ht496 := (hs492.here).perm (L' := []) (G := [blk b333 83 ([Value.int .i64 y484.2.1.1, Value.int .i64 y484.2.1.2] ++ ((Value.int .i64 y484.2.2) :: []))]) ((List.Perm.refl _))
            have hs497 := hs492.trans ht496
            obtain rfl := Option.some.inj (show some false = some r from h494)
            exact ret1 (P := Try.prog) (n := 52) (fn := Try.f41) (R := fun v w' => v = Value.bool false ∧ St [] w w' []) (t := 0) (v := Value.bool false) rfl rfl rfl ⟨rfl, hs497⟩
          · have h498 := ifF hc493 h486
            have hk499 : (!y484.1) = true := by simp [hc493]
            refine WL.guardY (e := 36) (Eq.trans (show _ = Value.bool (!y484.1) from rfl) (congrArg Value.bool hk499)) rfl rfl ?_
            refine WL.val (R.move (v := Value.pointer (some ⟨b333, 0, none⟩)) (by exact s461)) rfl ?_
            refine WL.guardY (e := 36) (Eq.trans (show _ = Value.bool (!y484.1) from rfl) (congrArg Value.bool hk499)) rfl rfl ?_
            refine WL.val (R.move (v := Value.slice a360 y355.length c361) (by exact s462)) rfl ?_
            refine WL.guardY (e := 36) (Eq.trans (show _ = Value.bool (!y484.1) from rfl) (congrArg Value.bool hk499)) rfl rfl ?_
            obtain ⟨y500, hx501, h502⟩ := ob (o := step17 (y484.2.1, y484.2.2) y355 5) h498
            have hr503 := elT ht489 hr487
            refine WL.call (step17_ok _ _ (y484.2.1, y484.2.2) y355 5 _ _ hr503 hl362 b333 (In.outM (M := [blk b333 83 ([Value.int .i64 y484.2.1.1, Value.int .i64 y484.2.1.2] ++ ((Value.int .i64 y484.2.2) :: []))]) (N := []) ((List.Perm.refl _))) (show St [blk b333 83 ([Value.int .i64 y484.2.1.1, Value.int .i64 y484.2.1.2] ++ ((Value.int .i64 y484.2.2) :: []))] _ _ [blk b333 83 ([Value.int .i64 y484.2.1.1, Value.int .i64 y484.2.1.2] ++ ((Value.int .i64 y484.2.2) :: []))] from St.ofM (M := [blk b333 83 ([Value.int .i64 y484.2.1.1, Value.int .i64 y484.2.1.2] ++ ((Value.int .i64 y484.2.2) :: []))]) (N := []) hs492 ((List.Perm.refl _))) hx501) (R.call (vs := [Value.pointer (some ⟨b333, 0, none⟩), Value.slice a360 y355.length c361, Value.int .i64 5]) (caps := []) bo47 rfl rfl) rfl ?_
            rintro v506 w507 ⟨rfl, ht504⟩
            have ht505 := hs492.call (N := []) (M := [blk b333 83 ([Value.int .i64 y484.2.1.1, Value.int .i64 y484.2.1.2] ++ ((Value.int .i64 y484.2.2) :: []))]) ((List.Perm.refl _)) ht504
            have hs508 := hs492.trans ht505
            refine WL.guardY (e := 36) (Eq.trans (show _ = Value.bool (!y484.1) from rfl) (congrArg Value.bool hk499)) rfl rfl ?_
            refine WL.val (R.not (b := y500.1) rfl) rfl ?_
            refine WL.val (R.pickT (v := Value.bool (!y500.1)) (Eq.trans (show _ = Value.bool (!y484.1) from rfl) (congrArg Value.bool hk499)) rfl) rfl ?_
            refine WL.val (R.move (v := Value.bool (!y500.1)) rfl) rfl ?_
            by_cases hc509 : y500.1 = true
            · have h510 := ifT hc509 h502
              have hk511 : (!y500.1) = false := by simp [hc509]
              refine WL.guardN (e := 42) (v := .bool false) (Eq.trans (show _ = Value.bool (!y500.1) from rfl) (congrArg Value.bool hk511)) rfl rfl rfl ?_
              refine WL.guardN (e := 42) (v := .bool false) (Eq.trans (show _ = Value.bool (!y500.1) from rfl) (congrArg Value.bool hk511)) rfl rfl rfl ?_
              refine WL.val (R.pickF (v := Value.bool false) (Eq.trans (show _ = Value.bool (!y500.1) from rfl) (congrArg Value.bool hk511)) rfl) rfl ?_
              refine WL.val (R.move (v := Value.bool false) rfl) rfl ?_
              refine WL.guardN (e := 46) (v := .bool false) rfl rfl rfl rfl ?_
              refine WL.guardN (e := 46) (v := .bool false) rfl rfl rfl rfl ?_
              refine WL.guardN (e := 46) (v := .bool false) rfl rfl rfl rfl ?_
              refine WL.guardN (e := 46) (v := .bool false) rfl rfl rfl rfl ?_
              refine WL.val (R.pickF (v := Value.bool false) rfl rfl) rfl ?_
              refine WL.val (R.assign (v := Value.bool false) rfl) rfl ?_
              refine WL.nil ?_
              refine thenN ?_
              refine WC.ret ?_
              have ht512 := (hs508.here).perm (L' := []) (G := [blk b333 83 ([Value.int .i64 y500.2.1.1, Value.int .i64 y500.2.1.2] ++ ((Value.int .i64 y500.2.2) :: []))]) ((List.Perm.refl _))
              have hs513 := hs508.trans ht512
              obtain rfl := Option.some.inj (show some false = some r from h510)
              exact ret1 (P := Try.prog) (n := 52) (fn := Try.f41) (R := fun v w' => v = Value.bool false ∧ St [] w w' []) (t := 0) (v := Value.bool false) rfl rfl rfl ⟨rfl, hs513⟩
            · have h514 := ifF hc509 h502
              have hk515 : (!y500.1) = true := by simp [hc509]
              refine WL.guardY (e := 42) (Eq.trans (show _ = Value.bool (!y500.1) from rfl) (congrArg Value.bool hk515)) rfl rfl ?_
              refine WL.val (R.move (v := Value.slice a360 y355.length c361) (by exact s462)) rfl ?_
              refine WL.guardY (e := 42) (Eq.trans (show _ = Value.bool (!y500.1) from rfl) (congrArg Value.bool hk515)) rfl rfl ?_
              obtain ⟨y516, hx517, h518⟩ := ob (o := even17 4 y355 5) h514
              have hr519 := elT ht505 hr503
              refine WL.call (even17_ok _ _ 4 y355 5 _ _ hr519 hl362 hx517) (R.call (vs := [Value.int .i64 4, Value.slice a360 y355.length c361, Value.int .i64 5]) (caps := []) bo45 rfl rfl) rfl ?_
              rintro v522 w523 ⟨rfl, ht520⟩
              have ht521 := hs508.call (N := [blk b333 83 ([Value.int .i64 y500.2.1.1, Value.int .i64 y500.2.1.2] ++ ((Value.int .i64 y500.2.2) :: []))]) (M := []) (List.Perm.refl _) ht520
              have hs524 := hs508.trans ht521
              refine WL.val (R.pickT (v := Value.bool y516) (Eq.trans (show _ = Value.bool (!y500.1) from rfl) (congrArg Value.bool hk515)) rfl) rfl ?_
              refine WL.val (R.move (v := Value.bool y516) rfl) rfl ?_
              by_cases hc525 : y516 = true
              · have h526 := ifT hc525 h518
                refine WL.guardY (e := 46) (Eq.trans (show _ = Value.bool y516 from rfl) (congrArg Value.bool hc525)) rfl rfl ?_
                have hd532 : ∀ w : World, (Instr.buildSlice 196 4 #[(0, Value.int .i64 5), (1, Value.int .i64 5), (2, Value.int .i64 9), (3, Value.int .i64 9)]).run Try.prog w = .ok (.slice (some ⟨w.heap.size, 0, none⟩) 4 4) { w with heap := w.heap.push (.cells (List.toArray [Value.int .i64 5, Value.int .i64 5, Value.int .i64 9, Value.int .i64 9]) 2) } := fun _ => by kernel_rfl
                refine WL.new (L' := fun b527 => [blk b333 83 ([Value.int .i64 y500.2.1.1, Value.int .i64 y500.2.1.2] ++ ((Value.int .i64 y500.2.2) :: [])), blk b527 2 [Value.int .i64 5, Value.int .i64 5, Value.int .i64 9, Value.int .i64 9]]) (f := fun b527 => Value.slice (some ⟨b527, 0, none⟩) 4 4) (X.buildSlice (c := [Value.int .i64 5, Value.int .i64 5, Value.int .i64 9, Value.int .i64 9]) (vs := [(0, Value.int .i64 5), (1, Value.int .i64 5), (2, Value.int .i64 9), (3, Value.int .i64 9)]) (hs524.here) rfl hd532 (fun _ => rfl)) rfl ?_
                intro b527 w528 ht534 he530 hz531
                have hs535 := hs524.trans ht534
                refine WL.guardY (e := 46) (Eq.trans (show _ = Value.bool y516 from rfl) (congrArg Value.bool hc525)) rfl rfl ?_
                have ht536 : St [blk b333 83 ([Value.int .i64 y500.2.1.1, Value.int .i64 y500.2.1.2] ++ ((Value.int .i64 y500.2.2) :: [])), blk b527 2 [Value.int .i64 5, Value.int .i64 5, Value.int .i64 9, Value.int .i64 9]] w528 w528 [blk b333 83 ([Value.int .i64 y500.2.1.1, Value.int .i64 y500.2.1.2] ++ ((Value.int .i64 y500.2.2) :: [])), gsl 2 i64E (Value.slice (some ⟨b527, 0, none⟩) (([5, 5, 9, 9]).length) 4) [5, 5, 9, 9]] := (hs535.here).conv (i := 1) rfl (arr_gsl (E := 2) (e := i64E) (xs := [5, 5, 9, 9]) (hs535.heap (i := 1) rfl) (by decide)) (fun b hb => (Option.some.inj hb).symm) rfl
                have hs537 := hs535.trans ht536
                obtain ⟨a538, c539, hv540, hl541, he542⟩ := el_freeze (k := (intW .i64)) (ok := ok) hs537 ((List.perm_middle (l₁ := [blk b333 83 ([Value.int .i64 y500.2.1.1, Value.int .i64 y500.2.1.2] ++ ((Value.int .i64 y500.2.2) :: []))]) (a := gsl 2 i64E (Value.slice (some ⟨b527, 0, none⟩) (([5, 5, 9, 9]).length) 4) [5, 5, 9, 9]) (l₂ := [])).trans (List.Perm.cons _ (List.Perm.refl _))) rfl (fun _ _ _ => ⟨trivial, rfl⟩)
                obtain ⟨rfl, rfl⟩ : (some ⟨b527, 0, none⟩) = a538 ∧ 4 = c539 := ⟨(Value.slice.inj hv540).1, (Value.slice.inj hv540).2.2⟩
                have ht543 := (hs537.here).perm (L' := [blk b333 83 ([Value.int .i64 y500.2.1.1, Value.int .i64 y500.2.1.2] ++ ((Value.int .i64 y500.2.2) :: []))]) (G := [gsl 2 i64E (Value.slice (some ⟨b527, 0, none⟩) (([5, 5, 9, 9]).length) 4) [5, 5, 9, 9]]) ((List.Perm.refl _))
                have hs544 := hs537.trans ht543
                obtain ⟨y546, hx547, h548⟩ := ob (o := vector17 [5, 5, 9, 9]) h526
                refine WL.call (vector17_ok _ _ [5, 5, 9, 9] _ _ he542 hl541 hx547) (R.call (vs := [Value.slice (some ⟨b527, 0, none⟩) 4 4]) (caps := []) bo104 rfl rfl) rfl ?_
                rintro v555 w556 ⟨a551, c552, rfl, hl553, he554, ht549⟩
                have ht550 := hs544.call (N := [blk b333 83 ([Value.int .i64 y500.2.1.1, Value.int .i64 y500.2.1.2] ++ ((Value.int .i64 y500.2.2) :: []))]) (M := []) (List.Perm.refl _) ht549
                have he557 := elC hs544 (M := []) (List.Perm.refl _) ht549 he554
                have hs558 := hs544.trans ht550
                refine WL.guardY (e := 46) (Eq.trans (show _ = Value.bool y516 from rfl) (congrArg Value.bool hc525)) rfl rfl ?_
                obtain ⟨y560, hx561, h562⟩ := ob (o := even17 4 y546 5) h548
                refine WL.call (even17_ok _ _ 4 y546 5 _ _ he557 hl553 hx561) (R.call (vs := [Value.int .i64 4, Value.slice a551 y546.length c552, Value.int .i64 5]) (caps := []) bo45 rfl rfl) rfl ?_
                rintro v565 w566 ⟨rfl, ht563⟩
                have ht564 := hs558.call (N := [blk b333 83 ([Value.int .i64 y500.2.1.1, Value.int .i64 y500.2.1.2] ++ ((Value.int .i64 y500.2.2) :: []))]) (M := []) (List.Perm.refl _) ht563
                have hs567 := hs558.trans ht564
                refine WL.guardY (e := 46) (Eq.trans (show _ = Value.bool y516 from rfl) (congrArg Value.bool hc525)) rfl rfl ?_
                refine WL.val (R.not (b := y560) rfl) rfl ?_
                refine WL.val (R.pickT (v := Value.bool (!y560)) (Eq.trans (show _ = Value.bool y516 from rfl) (congrArg Value.bool hc525)) rfl) rfl ?_
                refine WL.val (R.assign (v := Value.bool (!y560)) rfl) rfl ?_
                refine WL.nil ?_
                refine thenN ?_
                refine WC.ret ?_
                have ht568 := (hs567.here).perm (L' := []) (G := [blk b333 83 ([Value.int .i64 y500.2.1.1, Value.int .i64 y500.2.1.2] ++ ((Value.int .i64 y500.2.2) :: []))]) ((List.Perm.refl _))
                have hs569 := hs567.trans ht568
                obtain rfl := Option.some.inj (show some (!y560) = some r from h562)
                exact ret1 (P := Try.prog) (n := 52) (fn := Try.f41) (R := fun v w' => v = Value.bool (!y560) ∧ St [] w w' []) (t := 0) (v := Value.bool (!y560)) rfl rfl rfl ⟨rfl, hs569⟩
              · have h570 := ifF hc525 h518
                refine WL.guardN (e := 46) (v := .bool false) (Eq.trans (show _ = Value.bool y516 from rfl) (congrArg Value.bool (Bool.eq_false_iff.2 hc525))) rfl rfl rfl ?_
                refine WL.guardN (e := 46) (v := .bool false) (Eq.trans (show _ = Value.bool y516 from rfl) (congrArg Value.bool (Bool.eq_false_iff.2 hc525))) rfl rfl rfl ?_
                refine WL.guardN (e := 46) (v := .bool false) (Eq.trans (show _ = Value.bool y516 from rfl) (congrArg Value.bool (Bool.eq_false_iff.2 hc525))) rfl rfl rfl ?_
                refine WL.guardN (e := 46) (v := .bool false) (Eq.trans (show _ = Value.bool y516 from rfl) (congrArg Value.bool (Bool.eq_false_iff.2 hc525))) rfl rfl rfl ?_
                refine WL.val (R.pickF (v := Value.bool false) (Eq.trans (show _ = Value.bool y516 from rfl) (congrArg Value.bool (Bool.eq_false_iff.2 hc525))) rfl) rfl ?_
                refine WL.val (R.assign (v := Value.bool false) rfl) rfl ?_
                refine WL.nil ?_
                refine thenN ?_
                refine WC.ret ?_
                have ht571 := (hs524.here).perm (L' := []) (G := [blk b333 83 ([Value.int .i64 y500.2.1.1, Value.int .i64 y500.2.1.2] ++ ((Value.int .i64 y500.2.2) :: []))]) ((List.Perm.refl _))
                have hs572 := hs524.trans ht571
                obtain rfl := Option.some.inj (show some false = some r from h570)
                exact ret1 (P := Try.prog) (n := 52) (fn := Try.f41) (R := fun v w' => v = Value.bool false ∧ St [] w w' []) (t := 0) (v := Value.bool false) rfl rfl rfl ⟨rfl, hs572⟩
        · have h573 := ifF hc482 h475
          refine WL.guardN (e := 30) (v := .bool false) (Eq.trans (show _ = Value.bool y473.1 from rfl) (congrArg Value.bool (Bool.eq_false_iff.2 hc482))) rfl rfl rfl ?_
          refine WL.guardN (e := 30) (v := .bool false) (Eq.trans (show _ = Value.bool y473.1 from rfl) (congrArg Value.bool (Bool.eq_false_iff.2 hc482))) rfl rfl rfl ?_
          refine WL.guardN (e := 30) (v := .bool false) (Eq.trans (show _ = Value.bool y473.1 from rfl) (congrArg Value.bool (Bool.eq_false_iff.2 hc482))) rfl rfl rfl ?_
          refine WL.guardN (e := 30) (v := .bool false) (Eq.trans (show _ = Value.bool y473.1 from rfl) (congrArg Value.bool (Bool.eq_false_iff.2 hc482))) rfl rfl rfl ?_
          refine WL.val (R.pickF (v := Value.bool false) (Eq.trans (show _ = Value.bool y473.1 from rfl) (congrArg Value.bool (Bool.eq_false_iff.2 hc482))) rfl) rfl ?_
          refine WL.val (R.move (v := Value.bool false) rfl) rfl ?_
          refine WL.guardN (e := 36) (v := .bool false) rfl rfl rfl rfl ?_
          refine WL.guardN (e := 36) (v := .bool false) rfl rfl rfl rfl ?_
          refine WL.guardN (e := 36) (v := .bool false) rfl rfl rfl rfl ?_
          refine WL.guardN (e := 36) (v := .bool false) rfl rfl rfl rfl ?_
          refine WL.val (R.pickF (v := Value.bool false) rfl rfl) rfl ?_
          refine WL.val (R.move (v := Value.bool false) rfl) rfl ?_
          refine WL.guardN (e := 42) (v := .bool false) rfl rfl rfl rfl ?_
          refine WL.guardN (e := 42) (v := .bool false) rfl rfl rfl rfl ?_
          refine WL.val (R.pickF (v := Value.bool false) rfl rfl) rfl ?_
          refine WL.val (R.move (v := Value.bool false) rfl) rfl ?_
          refine WL.guardN (e := 46) (v := .bool false) rfl rfl rfl rfl ?_
          refine WL.guardN (e := 46) (v := .bool false) rfl rfl rfl rfl ?_
          refine WL.guardN (e := 46) (v := .bool false) rfl rfl rfl rfl ?_
          refine WL.guardN (e := 46) (v := .bool false) rfl rfl rfl rfl ?_
          refine WL.val (R.pickF (v := Value.bool false) rfl rfl) rfl ?_
          refine WL.val (R.assign (v := Value.bool false) rfl) rfl ?_
          refine WL.nil ?_
          refine thenN ?_
          refine WC.ret ?_
          have ht574 := (hs481.here).perm (L' := []) (G := [blk b333 83 ([Value.int .i64 y473.2.1.1, Value.int .i64 y473.2.1.2] ++ ((Value.int .i64 y473.2.2) :: []))]) ((List.Perm.refl _))
          have hs575 := hs481.trans ht574
          obtain rfl := Option.some.inj (show some false = some r from h573)
          exact ret1 (P := Try.prog) (n := 52) (fn := Try.f41) (R := fun v w' => v = Value.bool false ∧ St [] w w' []) (t := 0) (v := Value.bool false) rfl rfl rfl ⟨rfl, hs575⟩
      · have h576 := ifF hc471 h465
        refine WL.guardN (e := 25) (v := .bool false) (Eq.trans (show _ = Value.bool y463.1 from rfl) (congrArg Value.bool (Bool.eq_false_iff.2 hc471))) rfl rfl rfl ?_
        refine WL.guardN (e := 25) (v := .bool false) (Eq.trans (show _ = Value.bool y463.1 from rfl) (congrArg Value.bool (Bool.eq_false_iff.2 hc471))) rfl rfl rfl ?_
        refine WL.guardN (e := 25) (v := .bool false) (Eq.trans (show _ = Value.bool y463.1 from rfl) (congrArg Value.bool (Bool.eq_false_iff.2 hc471))) rfl rfl rfl ?_
        refine WL.val (R.pickF (v := Value.bool false) (Eq.trans (show _ = Value.bool y463.1 from rfl) (congrArg Value.bool (Bool.eq_false_iff.2 hc471))) rfl) rfl ?_
        refine WL.val (R.move (v := Value.bool false) rfl) rfl ?_
        refine WL.guardN (e := 30) (v := .bool false) rfl rfl rfl rfl ?_
        refine WL.guardN (e := 30) (v := .bool false) rfl rfl rfl rfl ?_
        refine WL.guardN (e := 30) (v := .bool false) rfl rfl rfl rfl ?_
        refine WL.guardN (e := 30) (v := .bool false) rfl rfl rfl rfl ?_
        refine WL.val (R.pickF (v := Value.bool false) rfl rfl) rfl ?_
        refine WL.val (R.move (v := Value.bool false) rfl) rfl ?_
        refine WL.guardN (e := 36) (v := .bool false) rfl rfl rfl rfl ?_
        refine WL.guardN (e := 36) (v := .bool false) rfl rfl rfl rfl ?_
        refine WL.guardN (e := 36) (v := .bool false) rfl rfl rfl rfl ?_
        refine WL.guardN (e := 36) (v := .bool false) rfl rfl rfl rfl ?_
        refine WL.val (R.pickF (v := Value.bool false) rfl rfl) rfl ?_
        refine WL.val (R.move (v := Value.bool false) rfl) rfl ?_
        refine WL.guardN (e := 42) (v := .bool false) rfl rfl rfl rfl ?_
        refine WL.guardN (e := 42) (v := .bool false) rfl rfl rfl rfl ?_
        refine WL.val (R.pickF (v := Value.bool false) rfl rfl) rfl ?_
        refine WL.val (R.move (v := Value.bool false) rfl) rfl ?_
        refine WL.guardN (e := 46) (v := .bool false) rfl rfl rfl rfl ?_
        refine WL.guardN (e := 46) (v := .bool false) rfl rfl rfl rfl ?_
        refine WL.guardN (e := 46) (v := .bool false) rfl rfl rfl rfl ?_
        refine WL.guardN (e := 46) (v := .bool false) rfl rfl rfl rfl ?_
        refine WL.val (R.pickF (v := Value.bool false) rfl rfl) rfl ?_
        refine WL.val (R.assign (v := Value.bool false) rfl) rfl ?_
        refine WL.nil ?_
        refine thenN ?_
        refine WC.ret ?_
        have ht577 := (hs470.here).perm (L' := []) (G := [blk b333 83 ([Value.int .i64 y463.2.1.1, Value.int .i64 y463.2.1.2] ++ ((Value.int .i64 y463.2.2) :: []))]) ((List.Perm.refl _))
        have hs578 := hs470.trans ht577
        obtain rfl := Option.some.inj (show some false = some r from h576)
        exact ret1 (P := Try.prog) (n := 52) (fn := Try.f41) (R := fun v w' => v = Value.bool false ∧ St [] w w' []) (t := 0) (v := Value.bool false) rfl rfl rfl ⟨rfl, hs578⟩

theorem void17_ok (w : World) (ok : Nat → Prop) (p0 : (List Hd) × Int) (a0 : Option Addr) (c0 : Nat) (he0 : elems heldW w ok a0 p0.1) (hc0 : p0.1.length ≤ c0) {r : Bool} (h : void17 p0 = some r) :
    Ret Try.prog 6 [Value.agg (List.toArray [Value.slice a0 p0.1.length c0, Value.int .i64 p0.2])] w (fun v w' => v = Value.bool r ∧ St [] w w' []) := by
  rw [void17] at h
  have hs100 : St [] w w [] := St.start w
  have he1000 := el0 (L0 := []) (fun b _ => out_nil b) he0
  refine enter (n := 21) Try.func6 rfl rfl rfl ?_
  refine WC.seq ?_
  refine WC.region ?_
  refine WL.new (L' := fun b102 => [blk b102 73 [Value.slice a0 p0.1.length c0, Value.int .i64 p0.2]]) (f := fun b102 => Value.pointer (some ⟨b102, 0, none⟩)) (X.box (v := Value.agg (List.toArray [Value.slice a0 p0.1.length c0, Value.int .i64 p0.2])) (c := [Value.slice a0 p0.1.length c0, Value.int .i64 p0.2]) (hs100.here) rfl rfl (fun _ => rfl)) rfl ?_
  intro b102 w103 ht108 he105 hz106
  have hs109 := hs100.trans ht108
  refine WL.val (R.assign (v := Value.bool false) rfl) rfl ?_
  refine WL.nil ?_
  refine thenN ?_
  refine WC.seq ?_
  refine WC.region ?_
  refine WL.new (L' := fun b110 => [blk b102 73 [Value.slice a0 p0.1.length c0, Value.int .i64 p0.2], blk b110 83 ([Value.int .i64 0, Value.int .i64 0] ++ ((Value.int .i64 0) :: []))]) (f := fun b110 => Value.pointer (some ⟨b110, 0, none⟩)) (X.alloc (c := [Value.int .i64 0, Value.int .i64 0] ++ ((Value.int .i64 0) :: [])) (hs109.here) zr83 rfl (fun _ => rfl)) rfl ?_
  intro b110 w111 ht116 he113 hz114
  have hs117 := hs109.trans ht116
  refine WL.nil ?_
  refine thenN ?_
  refine WC.seq ?_
  refine WC.region ?_
  refine WL.val (R.fieldAddr (o := 0) (o' := 0) fa73_0 rfl rfl) rfl ?_
  refine WL.val (R.loadL (v := Value.slice a0 p0.1.length c0) lf28 rfl (hs117.at (i := 0) (off := 0) (n := 1) (cs := [Value.slice a0 p0.1.length c0]) rfl rfl rfl)) rfl ?_
  refine WL.val (R.fieldAddr (o := 0) (o' := 1) fa73_1 rfl rfl) rfl ?_
  refine WL.val (R.loadL (v := Value.int .i64 p0.2) lf2 rfl (hs117.at (i := 0) (off := 1) (n := 1) (cs := [Value.int .i64 p0.2]) rfl rfl rfl)) rfl ?_
  obtain ⟨y118, hx119, h120⟩ := ob (o := step17 ((0, 0), 0) p0.1 p0.2) h
  have hr121 := elT (ht108.trans ht116) he1000
  refine WL.call (step17_ok _ _ ((0, 0), 0) p0.1 p0.2 _ _ hr121 hc0 b110 (In.outM (M := [blk b110 83 ([Value.int .i64 0, Value.int .i64 0] ++ ((Value.int .i64 0) :: []))]) (N := [blk b102 73 [Value.slice a0 p0.1.length c0, Value.int .i64 p0.2]]) (((List.perm_middle (l₁ := [blk b102 73 [Value.slice a0 p0.1.length c0, Value.int .i64 p0.2]]) (a := blk b110 83 ([Value.int .i64 0, Value.int .i64 0] ++ ((Value.int .i64 0) :: []))) (l₂ := [])).trans (List.Perm.cons _ (List.Perm.refl _))))) (show St [blk b110 83 ([Value.int .i64 0, Value.int .i64 0] ++ ((Value.int .i64 0) :: []))] _ _ [blk b110 83 ([Value.int .i64 0, Value.int .i64 0] ++ ((Value.int .i64 0) :: []))] from St.ofM (M := [blk b110 83 ([Value.int .i64 0, Value.int .i64 0] ++ ((Value.int .i64 0) :: []))]) (N := [blk b102 73 [Value.slice a0 p0.1.length c0, Value.int .i64 p0.2]]) hs117 (((List.perm_middle (l₁ := [blk b102 73 [Value.slice a0 p0.1.length c0, Value.int .i64 p0.2]]) (a := blk b110 83 ([Value.int .i64 0, Value.int .i64 0] ++ ((Value.int .i64 0) :: []))) (l₂ := [])).trans (List.Perm.cons _ (List.Perm.refl _))))) hx119) (R.call (vs := [Value.pointer (some ⟨b110, 0, none⟩), Value.slice a0 p0.1.length c0, Value.int .i64 p0.2]) (caps := []) bo47 rfl rfl) rfl ?_
  rintro v124 w125 ⟨rfl, ht122⟩
  have ht123 := hs117.call (N := [blk b102 73 [Value.slice a0 p0.1.length c0, Value.int .i64 p0.2]]) (M := [blk b110 83 ([Value.int .i64 0, Value.int .i64 0] ++ ((Value.int .i64 0) :: []))]) (((List.perm_middle (l₁ := [blk b102 73 [Value.slice a0 p0.1.length c0, Value.int .i64 p0.2]]) (a := blk b110 83 ([Value.int .i64 0, Value.int .i64 0] ++ ((Value.int .i64 0) :: []))) (l₂ := [])).trans (List.Perm.cons _ (List.Perm.refl _)))) ht122
  have hs126 := hs117.trans ht123
  refine WL.val (R.not (b := y118.1) rfl) rfl ?_
  refine WL.val (R.move (v := Value.bool (!y118.1)) rfl) rfl ?_
  by_cases hc127 : y118.1 = true
  · have h128 := ifT hc127 h120
    have hk129 : (!y118.1) = false := by simp [hc127]
    refine WL.guardN (e := 10) (v := .bool false) (Eq.trans (show _ = Value.bool (!y118.1) from rfl) (congrArg Value.bool hk129)) rfl rfl rfl ?_
    refine WL.guardN (e := 10) (v := .bool false) (Eq.trans (show _ = Value.bool (!y118.1) from rfl) (congrArg Value.bool hk129)) rfl rfl rfl ?_
    refine WL.guardN (e := 10) (v := .bool false) (Eq.trans (show _ = Value.bool (!y118.1) from rfl) (congrArg Value.bool hk129)) rfl rfl rfl ?_
    refine WL.guardN (e := 10) (v := .bool false) (Eq.trans (show _ = Value.bool (!y118.1) from rfl) (congrArg Value.bool hk129)) rfl rfl rfl ?_
    refine WL.guardN (e := 10) (v := .bool false) (Eq.trans (show _ = Value.bool (!y118.1) from rfl) (congrArg Value.bool hk129)) rfl rfl rfl ?_
    refine WL.guardN (e := 10) (v := .bool false) (Eq.trans (show _ = Value.bool (!y118.1) from rfl) (congrArg Value.bool hk129)) rfl rfl rfl ?_
    refine WL.val (R.pickF (v := Value.bool false) (Eq.trans (show _ = Value.bool (!y118.1) from rfl) (congrArg Value.bool hk129)) rfl) rfl ?_
    refine WL.val (R.move (v := Value.bool false) rfl) rfl ?_
    refine WL.guardN (e := 18) (v := .bool false) rfl rfl rfl rfl ?_
    refine WL.val (R.pickF (v := Value.bool false) rfl rfl) rfl ?_
    refine WL.val (R.assign (v := Value.bool false) rfl) rfl ?_
    refine WL.nil ?_
    refine thenN ?_
    refine WC.ret ?_
    have ht130 := (hs126.here).perm (L' := []) (G := [blk b110 83 ([Value.int .i64 y118.2.1.1, Value.int .i64 y118.2.1.2] ++ ((Value.int .i64 y118.2.2) :: [])), blk b102 73 [Value.slice a0 p0.1.length c0, Value.int .i64 p0.2]]) ((List.Perm.refl _))
    have hs131 := hs126.trans ht130
    obtain rfl := Option.some.inj (show some false = some r from h128)
    exact ret1 (P := Try.prog) (n := 21) (fn := Try.f6) (R := fun v w' => v = Value.bool false ∧ St [] w w' []) (t := 2) (v := Value.bool false) rfl rfl rfl ⟨rfl, hs131⟩
  · have h132 := ifF hc127 h120
    have hk133 : (!y118.1) = true := by simp [hc127]
    refine WL.guardY (e := 10) (Eq.trans (show _ = Value.bool (!y118.1) from rfl) (congrArg Value.bool hk133)) rfl rfl ?_
    refine WL.val (R.fieldAddr (o := 0) (o' := 0) fa73_0 rfl rfl) rfl ?_
    refine WL.guardY (e := 10) (Eq.trans (show _ = Value.bool (!y118.1) from rfl) (congrArg Value.bool hk133)) rfl rfl ?_
    refine WL.val (R.loadL (v := Value.slice a0 p0.1.length c0) lf28 rfl (hs126.at (i := 1) (off := 0) (n := 1) (cs := [Value.slice a0 p0.1.length c0]) rfl rfl rfl)) rfl ?_
    refine WL.guardY (e := 10) (Eq.trans (show _ = Value.bool (!y118.1) from rfl) (congrArg Value.bool hk133)) rfl rfl ?_
    refine WL.val (R.fieldAddr (o := 0) (o' := 1) fa73_1 rfl rfl) rfl ?_
    refine WL.guardY (e := 10) (Eq.trans (show _ = Value.bool (!y118.1) from rfl) (congrArg Value.bool hk133)) rfl rfl ?_
    refine WL.val (R.loadL (v := Value.int .i64 p0.2) lf2 rfl (hs126.at (i := 1) (off := 1) (n := 1) (cs := [Value.int .i64 p0.2]) rfl rfl rfl)) rfl ?_
    refine WL.guardY (e := 10) (Eq.trans (show _ = Value.bool (!y118.1) from rfl) (congrArg Value.bool hk133)) rfl rfl ?_
    obtain ⟨y134, hx135, h136⟩ := ob (o := stepN17 p0.1 p0.2) h132
    have hr137 := elT ht123 hr121
    refine WL.call (stepN17_ok _ _ p0.1 p0.2 _ _ hr137 hc0 hx135) (R.call (vs := [Value.pointer none, Value.slice a0 p0.1.length c0, Value.int .i64 p0.2]) (caps := []) bo47 rfl rfl) rfl ?_
    rintro v140 w141 ⟨rfl, ht138⟩
    have ht139 := hs126.call (N := [blk b110 83 ([Value.int .i64 y118.2.1.1, Value.int .i64 y118.2.1.2] ++ ((Value.int .i64 y118.2.2) :: [])), blk b102 73 [Value.slice a0 p0.1.length c0, Value.int .i64 p0.2]]) (M := []) (List.Perm.refl _) ht138
    have hs142 := hs126.trans ht139
    refine WL.guardY (e := 10) (Eq.trans (show _ = Value.bool (!y118.1) from rfl) (congrArg Value.bool hk133)) rfl rfl ?_
    refine WL.val (R.not (b := y134) rfl) rfl ?_
    refine WL.val (R.pickT (v := Value.bool (!y134)) (Eq.trans (show _ = Value.bool (!y118.1) from rfl) (congrArg Value.bool hk133)) rfl) rfl ?_
    refine WL.val (R.move (v := Value.bool (!y134)) rfl) rfl ?_
    by_cases hc143 : y134 = true
    · have h144 := ifT hc143 h136
      have hk145 : (!y134) = false := by simp [hc143]
      refine WL.guardN (e := 18) (v := .bool false) (Eq.trans (show _ = Value.bool (!y134) from rfl) (congrArg Value.bool hk145)) rfl rfl rfl ?_
      refine WL.val (R.pickF (v := Value.bool false) (Eq.trans (show _ = Value.bool (!y134) from rfl) (congrArg Value.bool hk145)) rfl) rfl ?_
      refine WL.val (R.assign (v := Value.bool false) rfl) rfl ?_
      refine WL.nil ?_
      refine thenN ?_
      refine WC.ret ?_
      have ht146 := (hs142.here).perm (L' := []) (G := [blk b110 83 ([Value.int .i64 y118.2.1.1, Value.int .i64 y118.2.1.2] ++ ((Value.int .i64 y118.2.2) :: [])), blk b102 73 [Value.slice a0 p0.1.length c0, Value.int .i64 p0.2]]) ((List.Perm.refl _))
      have hs147 := hs142.trans ht146
      obtain rfl := Option.some.inj (show some false = some r from h144)
      exact ret1 (P := Try.prog) (n := 21) (fn := Try.f6) (R := fun v w' => v = Value.bool false ∧ St [] w w' []) (t := 2) (v := Value.bool false) rfl rfl rfl ⟨rfl, hs147⟩
    · have h148 := ifF hc143 h136
      have hk149 : (!y134) = true := by simp [hc143]
      refine WL.guardY (e := 18) (Eq.trans (show _ = Value.bool (!y134) from rfl) (congrArg Value.bool hk149)) rfl rfl ?_
      obtain ⟨y150, hx151, h152⟩ := ob (o := lives17 ) h148
      refine WL.call (lives17_ok _ (In ok w [] [blk b110 83 ([Value.int .i64 y118.2.1.1, Value.int .i64 y118.2.1.2] ++ ((Value.int .i64 y118.2.2) :: [])), blk b102 73 [Value.slice a0 p0.1.length c0, Value.int .i64 p0.2]])   hx151) (R.call (vs := []) (caps := []) bo41 rfl rfl) rfl ?_
      rintro v155 w156 ⟨rfl, ht153⟩
      have ht154 := hs142.call (N := [blk b110 83 ([Value.int .i64 y118.2.1.1, Value.int .i64 y118.2.1.2] ++ ((Value.int .i64 y118.2.2) :: [])), blk b102 73 [Value.slice a0 p0.1.length c0, Value.int .i64 p0.2]]) (M := []) (List.Perm.refl _) ht153
      have hs157 := hs142.trans ht154
      refine WL.val (R.pickT (v := Value.bool y150) (Eq.trans (show _ = Value.bool (!y134) from rfl) (congrArg Value.bool hk149)) rfl) rfl ?_
      refine WL.val (R.assign (v := Value.bool y150) rfl) rfl ?_
      refine WL.nil ?_
      refine thenN ?_
      refine WC.ret ?_
      have ht158 := (hs157.here).perm (L' := []) (G := [blk b110 83 ([Value.int .i64 y118.2.1.1, Value.int .i64 y118.2.1.2] ++ ((Value.int .i64 y118.2.2) :: [])), blk b102 73 [Value.slice a0 p0.1.length c0, Value.int .i64 p0.2]]) ((List.Perm.refl _))
      have hs159 := hs157.trans ht158
      obtain rfl := Option.some.inj (show some y150 = some r from h152)
      exact ret1 (P := Try.prog) (n := 21) (fn := Try.f6) (R := fun v w' => v = Value.bool y150 ∧ St [] w w' []) (t := 2) (v := Value.bool y150) rfl rfl rfl ⟨rfl, hs159⟩

end Go.Proofs.Ytckcldimnelklaa
