/- The functions come to what their twins answer: group 17. -/
import Derived.Test.YtckcldimnelklaaTA
import Derived.Test.YtckcldimnelklaaLG
import Derived.Test.YtckcldimnelklaaD17
import Derived.Test.YtckcldimnelklaaW17b
namespace Go.Proofs.Ytckcldimnelklaa
open Go
set_option linter.unusedVariables false
set_option linter.unusedSimpArgs false
set_option maxRecDepth 100000
set_option maxHeartbeats 4000000

theorem run17_ok (w : World) (ok : Nat → Prop) (p0 : Int) (p1 : List Bool) (a1 : Option Addr) (c1 : Nat) (he1 : elems boolW w ok a1 p1) (hc1 : p1.length ≤ c1) {r : Bool} (h : run17 p0 p1 = some r) :
    Ret Try.prog 7 [Value.int .u8 p0, Value.slice a1 p1.length c1] w (fun v w' => v = Value.bool r ∧ St [] w w' []) := by
  rw [run17] at h
  have hs100 : St [] w w [] := St.start w
  have he1001 := el0 (L0 := []) (fun b _ => out_nil b) he1
  refine enter (n := 78) Try.func7 rfl rfl rfl ?_
  refine WC.seq ?_
  refine WC.region ?_
  refine WL.val (R.assign (v := Value.bool false) rfl) rfl ?_
  refine WL.nil ?_
  refine thenN ?_
  refine WC.seq ?_
  refine WC.seq ?_
  refine WC.region ?_
  refine WL.val (R.move (v := Value.slice a1 p1.length c1) rfl) rfl ?_
  refine WL.val (R.len (a := a1) (n := p1.length) (c := c1) un85 rfl) rfl ?_
  by_cases hc102 : 200 < ((p1.length : Nat) : Int)
  · have h103 := ifT hc102 h
    refine WL.val (R.gtrT (k := .i64) (a := ((p1.length : Nat) : Int)) (b := 200) un3 rfl rfl hc102) rfl ?_
    refine WL.nil ?_
    refine thenN ?_
    refine WC.condT rfl rfl ?_
    refine WC.seq ?_
    refine WC.region ?_
    obtain ⟨y104, hx105, h106⟩ := ob (o := lives17 ) h103
    refine WL.call (lives17_ok _ (In ok w [] [])   hx105) (R.call (vs := []) (caps := []) bo41 rfl rfl) rfl ?_
    rintro v109 w110 ⟨rfl, ht107⟩
    have ht108 := hs100.call (N := []) (M := []) (List.Perm.refl _) ht107
    have hs111 := hs100.trans ht108
    refine WL.val (R.assign (v := Value.bool y104) rfl) rfl ?_
    refine WL.nil ?_
    refine thenN ?_
    refine WC.ret ?_
    obtain rfl := Option.some.inj (show some y104 = some r from h106)
    exact ret1 (P := Try.prog) (n := 78) (fn := Try.f7) (R := fun v w' => v = Value.bool y104 ∧ St [] w w' []) (t := 4) (v := Value.bool y104) rfl rfl rfl ⟨rfl, hs111⟩
  · have h112 := ifF hc102 h
    refine WL.val (R.gtrF (k := .i64) (a := ((p1.length : Nat) : Int)) (b := 200) un3 rfl rfl hc102) rfl ?_
    refine WL.nil ?_
    refine thenN ?_
    refine WC.condF rfl rfl ?_
    refine WC.skip ?_
    refine thenN ?_
    refine WC.seq ?_
    refine WC.region ?_
    refine WL.val (R.move (v := Value.int .u8 p0) rfl) rfl ?_
    obtain ⟨hg113, h114⟩ := ckE (c := -9223372036854775808 ≤ p0 ∧ p0 ≤ 9223372036854775807) h112
    refine WL.val (R.convII (n := p0) (z := p0) un5 un3 rfl (w64 hg113.1 hg113.2)) rfl ?_
    obtain ⟨hg115, h116⟩ := ckE (c := 0 ≤ p0 ∧ 0 < (13 : Int) ∧ (13 : Int) ≤ 9223372036854775807) h114
    refine WL.val (R.remG (a := p0) (b := 13) rfl rfl hg115 (by decide)) rfl ?_
    obtain ⟨hg117, h118⟩ := ckE (c := -9223372036854775808 ≤ 4 + (p0 % 13) ∧ 4 + (p0 % 13) ≤ 9223372036854775807) h116
    refine WL.val (R.add (a := 4) (b := p0 % 13) (z := 4 + (p0 % 13)) rfl rfl (w64e rfl hg117.1 hg117.2)) rfl ?_
    refine WL.val (R.assign (v := Value.int .i64 (4 + (p0 % 13))) rfl) rfl ?_
    refine WL.nil ?_
    refine thenN ?_
    refine WC.seq ?_
    refine WC.region ?_
    refine WL.val (R.move (v := Value.int .i64 (4 + (p0 % 13))) rfl) rfl ?_
    obtain ⟨y119, hx120, h121⟩ := ob (o := cnew17 (4 + (p0 % 13))) h118
    refine WL.call (cnew17_ok _ (In ok w [] []) (4 + (p0 % 13))  hx120) (R.call (vs := [Value.int .i64 (4 + (p0 % 13))]) (caps := []) bo42 rfl rfl) rfl ?_
    rintro v127 w128 ⟨rp124, rL125, rfl, ho126, ht122⟩
    rcases ocE h121 with ⟨ho131, h129⟩ | ⟨q130, ho131, h129⟩
    · rw [ho131] at ho126
      obtain ⟨rfl, rfl⟩ := ho126
      have ht123 := hs100.call (N := []) (M := []) (List.Perm.refl _) ht122
      have hs132 := hs100.trans ht123
      refine WL.val (R.move (v := Value.tuple #[Value.pointer none, Value.int .i64 y119.2]) rfl) rfl ?_
      refine WL.val (R.extract (v := Value.pointer none) rfl rfl) rfl ?_
      refine WL.val (R.extract (v := Value.int .i64 y119.2) rfl rfl) rfl ?_
      refine WL.val (R.assign (v := Value.pointer none) rfl) rfl ?_
      refine WL.val (R.assign (v := Value.int .i64 y119.2) rfl) rfl ?_
      refine WL.nil ?_
      refine thenN ?_
      refine WC.seq ?_
      refine WC.seq ?_
      refine WC.region ?_
      refine WL.val (R.move (v := Value.int .i64 y119.2) rfl) rfl ?_
      by_cases hc133 : y119.2 = 0
      · have h134 := ifT hc133 h129
        refine WL.val (R.neqF (k := .i64) (a := y119.2) (b := 0) un66 rfl rfl (not_not_intro hc133)) rfl ?_
        refine WL.nil ?_
        refine thenN ?_
        refine WC.condF rfl rfl ?_
        refine WC.skip ?_
        refine thenN ?_
        refine WC.seq ?_
        refine WC.region ?_
        refine WL.val (R.assign (v := Value.int .i64 0) rfl) rfl ?_
        refine WL.nil ?_
        refine thenN ?_
        refine WC.seq ?_
        refine WC.seq ?_
        refine WC.region ?_
        refine WL.val (R.assign (v := Value.int .i64 0) rfl) rfl ?_
        refine WL.nil ?_
        refine thenN ?_
        have hr619 := elT ht123 he1001
        obtain ⟨K611, hK612, h613⟩ := kE (G := fun K611 => run17_l1 p1 p0 K611 1000000 0 0) h134
        refine WC.join (fun σ621 w620 => K611 () = some r ∧ St [] w w620 []) ?_ ?_
        · refine WC.block ?_
          refine WC.loop (T := Nat) (fun k617 σ615 w614 => ∃ i609 : Int, ∃ i610 : Int, σ615 1 = (Value.slice a1 p1.length c1) ∧ σ615 5 = (Value.int .i64 (4 + (p0 % 13))) ∧ σ615 6 = (Value.pointer none) ∧ σ615 8 = (Value.int .i64 i609) ∧ σ615 9 = (Value.int .i64 i610) ∧ elems boolW w614 (In ok w [] []) a1 p1 ∧ run17_l1 p1 p0 K611 k617 i609 i610 = some r ∧ St [] w w614 []) (fun k617 => k617) 1000000 ⟨0, 0, rfl, rfl, rfl, rfl, rfl, hr619, h613, hs132⟩ ?_
          rintro k617 σ615 w614 ⟨i609, i610, s624, s625, s626, s627, s628, he618, h623, hs616⟩
          rcases k617 with _ | k617
          · rw [run17_l1] at h623; cases h623
          rw [run17_l1] at h623
          refine WC.seq ?_
          refine WC.seq ?_
          refine WC.region ?_
          refine WL.val (R.move (v := Value.int .i64 i610) (by exact s628)) rfl ?_
          refine WL.val (R.move (v := Value.slice a1 p1.length c1) (by exact s624)) rfl ?_
          refine WL.val (R.len (a := a1) (n := p1.length) (c := c1) un85 rfl) rfl ?_
          by_cases hc629 : i610 < ((p1.length : Nat) : Int)
          · have h630 := ifT hc629 h623
            refine WL.val (R.lssT (k := .i64) (a := i610) (b := ((p1.length : Nat) : Int)) un3 rfl rfl hc629) rfl ?_
            refine WL.nil ?_
            refine thenN ?_
            refine WC.condT rfl rfl ?_
            refine WC.skip ?_
            refine thenN ?_
            refine WC.seq ?_
            refine WC.block ?_
            refine WC.seq ?_
            refine WC.region ?_
            refine WL.val (R.move (v := Value.int .i64 (4 + (p0 % 13))) (by exact s625)) rfl ?_
            obtain ⟨hg631, h632⟩ := ckE (c := 0 ≤ 4 + (p0 % 13) ∧ 4 + (p0 % 13) < 1000000) h630
            refine WL.new (L' := fun b633 => [gsl 60 heldE (Value.slice (some ⟨b633, 0, none⟩) ((List.replicate (4 + (p0 % 13)).toNat Hd.none).length) ((4 + (p0 % 13)).toNat)) (List.replicate (4 + (p0 % 13)).toNat Hd.none)]) (f := fun b633 => Value.slice (some ⟨b633, 0, none⟩) ((List.replicate (4 + (p0 % 13)).toNat Hd.none).length) ((4 + (p0 % 13)).toNat)) (X.makeSliceN (e := heldE) (z := Hd.none) (hs616.here) sl28 rfl rfl rfl hg631 (by decide) List.length_replicate (fun _ => rfl)) rfl ?_
            intro b633 w634 ht638 he635 hz636
            have hs639 := hs616.trans ht638
            refine WL.val (R.assign (v := Value.slice (some ⟨b633, 0, none⟩) ((List.replicate (4 + (p0 % 13)).toNat Hd.none).length) ((4 + (p0 % 13)).toNat)) rfl) rfl ?_
            refine WL.nil ?_
            refine thenN ?_
            refine WC.seq ?_
            refine WC.seq ?_
            refine WC.region ?_
            refine WL.val (R.assign (v := Value.int .i64 0) rfl) rfl ?_
            refine WL.nil ?_
            refine thenN ?_
            have hr707 := elT ht638 he618
            obtain ⟨K699, hK700, h701⟩ := kE (G := fun K699 => run17_l2 p0 i610 K699 1000000 0 (List.replicate (4 + (p0 % 13)).toNat Hd.none)) h632
            refine WC.join (fun σ709 w708 => ∃ l696 : List Hd, ∃ a697, ∃ c698, σ709 1 = (Value.slice a1 p1.length c1) ∧ σ709 5 = (Value.int .i64 (4 + (p0 % 13))) ∧ σ709 6 = (Value.pointer none) ∧ σ709 8 = (Value.int .i64 i609) ∧ σ709 9 = (Value.int .i64 i610) ∧ σ709 10 = (Value.slice a697 l696.length c698) ∧ elems boolW w708 (In ok w [] [gsl 60 heldE (Value.slice a697 l696.length c698) l696]) a1 p1 ∧ K699 l696 = some r ∧ St [] w w708 [gsl 60 heldE (Value.slice a697 l696.length c698) l696]) ?_ ?_
            · refine WC.block ?_
              refine WC.loop (T := Nat) (fun k705 σ703 w702 => ∃ i692 : Int, ∃ l693 : List Hd, ∃ a694, ∃ c695, σ703 1 = (Value.slice a1 p1.length c1) ∧ σ703 5 = (Value.int .i64 (4 + (p0 % 13))) ∧ σ703 6 = (Value.pointer none) ∧ σ703 8 = (Value.int .i64 i609) ∧ σ703 9 = (Value.int .i64 i610) ∧ σ703 10 = (Value.slice a694 l693.length c695) ∧ σ703 11 = (Value.int .i64 i692) ∧ elems boolW w702 (In ok w [] [gsl 60 heldE (Value.slice a694 l693.length c695) l693]) a1 p1 ∧ run17_l2 p0 i610 K699 k705 i692 l693 = some r ∧ St [] w w702 [gsl 60 heldE (Value.slice a694 l693.length c695) l693]) (fun k705 => k705) 1000000 ⟨0, List.replicate (4 + (p0 % 13)).toNat Hd.none, (some ⟨b633, 0, none⟩), (4 + (p0 % 13)).toNat, s624, s625, s626, s627, s628, rfl, rfl, hr707, h701, hs639⟩ ?_
              rintro k705 σ703 w702 ⟨i692, l693, a694, c695, s713, s714, s715, s716, s717, s718, s719, he706, h712, hs704⟩
              rcases k705 with _ | k705
              · rw [run17_l2] at h712; cases h712
              rw [run17_l2] at h712
              refine WC.seq ?_
              refine WC.seq ?_
              refine WC.region ?_
              refine WL.val (R.move (v := Value.int .i64 i692) (by exact s719)) rfl ?_
              refine WL.val (R.move (v := Value.int .i64 (4 + (p0 % 13))) (by exact s714)) rfl ?_
              by_cases hc720 : i692 < (4 + (p0 % 13))
              · have h721 := ifT hc720 h712
                refine WL.val (R.lssT (k := .i64) (a := i692) (b := 4 + (p0 % 13)) un3 rfl rfl hc720) rfl ?_
                refine WL.nil ?_
                refine thenN ?_
                refine WC.condT rfl rfl ?_
                refine WC.skip ?_
                refine thenN ?_
                refine WC.seq ?_
                refine WC.block ?_
                refine WC.region ?_
                refine WL.val (R.move (v := Value.slice a694 l693.length c695) (by exact s718)) rfl ?_
                refine WL.val (R.move (v := Value.int .i64 i692) (by exact s719)) rfl ?_
                refine WL.val (R.move (v := Value.int .i64 i610) (by exact s717)) rfl ?_
                have hd722 : ∀ w, (Instr.build 58 #[(0, Value.int .i64 i610)]).run Try.prog w = .ok (Value.agg (List.toArray (encC (⟨i610, Cl.zero.offer, Cl.zero.report, Cl.zero.view⟩ : Cl)))) w := fun _ => by kernel_rfl
                refine WL.val (R.build (vs := [(0, Value.int .i64 i610)]) rfl hd722) rfl ?_
                have hd723 : ∀ w, (Instr.build 60 #[(0, Value.bool true), (1, Value.agg (List.toArray (encC (⟨i610, Cl.zero.offer, Cl.zero.report, Cl.zero.view⟩ : Cl))))]).run Try.prog w = .ok (Value.agg (List.toArray (encH (⟨true, (⟨i610, Cl.zero.offer, Cl.zero.report, Cl.zero.view⟩ : Cl)⟩ : Hd)))) w := fun _ => by kernel_rfl
                refine WL.val (R.build (vs := [(0, Value.bool true), (1, Value.agg (List.toArray (encC (⟨i610, Cl.zero.offer, Cl.zero.report, Cl.zero.view⟩ : Cl))))]) rfl hd723) rfl ?_
                obtain ⟨x724, hx725, h726⟩ := ob (o := rd l693 i692) h721
                obtain ⟨h0727, hx728, hl729, hm730⟩ := rdE hx725
                obtain ⟨b731, c732, hv733, _⟩ := hs704.gslAt (i := 0) rfl hx728
                refine WL.val (R.indexS (n := 56) (m := (i692).toNat) (ad := ⟨b731, 0, none⟩) (len := (l693).length) (cap := c732) (z := i692) un28 ag60.size (Eq.trans (show _ = Value.slice a694 l693.length c695 from rfl) hv733) rfl rfl hm730 hl729 rfl) rfl ?_
                refine WL.sto (L' := [gsl 60 heldE (Value.slice a694 l693.length c695) ((l693).set (i692).toNat (⟨true, (⟨i610, Cl.zero.offer, Cl.zero.report, Cl.zero.view⟩ : Cl)⟩ : Hd))]) (X.storeEl (i := 0) (j := (i692).toNat) (off := 0) (n := 56) (x := x724) (y := (⟨true, (⟨i610, Cl.zero.offer, Cl.zero.report, Cl.zero.view⟩ : Cl)⟩ : Hd)) (vs := encH (⟨true, (⟨i610, Cl.zero.offer, Cl.zero.report, Cl.zero.view⟩ : Cl)⟩ : Hd)) (u := Value.agg (List.toArray (encH (⟨true, (⟨i610, Cl.zero.offer, Cl.zero.report, Cl.zero.view⟩ : Cl)⟩ : Hd)))) (hs704.here) rfl hx728 hv733 ag60.size rfl rfl rfl rfl rfl rfl (by decide) (rfl) rfl) rfl rfl ?_
                intro w734 ht735
                have hs736 := hs704.trans ht735
                have hs737 : St [] w w734 [gsl 60 heldE (Value.slice a694 (((l693).set (i692).toNat (⟨true, (⟨i610, Cl.zero.offer, Cl.zero.report, Cl.zero.view⟩ : Cl)⟩ : Hd)).length) c695) ((l693).set (i692).toNat (⟨true, (⟨i610, Cl.zero.offer, Cl.zero.report, Cl.zero.view⟩ : Cl)⟩ : Hd))] := by simpa only [List.length_set] using hs736
                have ht738 : St [gsl 60 heldE (Value.slice a694 l693.length c695) l693] w702 w734 [gsl 60 heldE (Value.slice a694 (((l693).set (i692).toNat (⟨true, (⟨i610, Cl.zero.offer, Cl.zero.report, Cl.zero.view⟩ : Cl)⟩ : Hd)).length) c695) ((l693).set (i692).toNat (⟨true, (⟨i610, Cl.zero.offer, Cl.zero.report, Cl.zero.view⟩ : Cl)⟩ : Hd))] := by simpa only [List.length_set] using ht735
                refine WL.nil ?_
                refine blockN ?_
                refine thenN ?_
                refine WC.region ?_
                refine WL.val (R.move (v := Value.int .i64 i692) (by exact s719)) rfl ?_
                obtain ⟨hg739, h740⟩ := ckE (c := -9223372036854775808 ≤ i692 + 1 ∧ i692 + 1 ≤ 9223372036854775807) h726
                refine WL.val (R.add (a := i692) (b := 1) (z := i692 + 1) rfl rfl (w64e rfl hg739.1 hg739.2)) rfl ?_
                refine WL.val (R.assign (v := Value.int .i64 (i692 + 1)) rfl) rfl ?_
                refine WL.nil ?_
                have hr741 := elT ht738 he706
                exact roundEnd (s := k705) ⟨i692 + 1, (l693).set (i692).toNat (⟨true, (⟨i610, Cl.zero.offer, Cl.zero.report, Cl.zero.view⟩ : Cl)⟩ : Hd), a694, c695, s713, s714, s715, s716, s717, (Eq.trans (show _ = Value.slice a694 l693.length c695 from s718) (by simp only [List.length_set])), rfl, hr741, h740, hs737⟩ (Nat.lt_succ_self _)
              · have h742 := ifF hc720 h712
                refine WL.val (R.lssF (k := .i64) (a := i692) (b := 4 + (p0 % 13)) un3 rfl rfl hc720) rfl ?_
                refine WL.nil ?_
                refine thenN ?_
                refine WC.condF rfl rfl ?_
                refine WC.exit ?_
                refine thenE ?_
                refine thenE ?_
                refine blockHit ?_
                exact joinI ⟨l693, a694, c695, s713, s714, s715, s716, s717, s718, he706, h742, hs704⟩
            · rintro σ709 w708 ⟨l696, a697, c698, s744, s745, s746, s747, s748, s749, he711, h743, hs710⟩
              subst hK700
              refine thenN ?_
              refine WC.seq ?_
              refine WC.region ?_
              refine WL.val (R.move (v := Value.slice a697 l696.length c698) (by exact s749)) rfl ?_
              refine WL.val (R.move (v := Value.int .i64 i610) (by exact s748)) rfl ?_
              refine WL.val (R.move (v := Value.int .i64 (4 + (p0 % 13))) (by exact s745)) rfl ?_
              obtain ⟨hg750, h751⟩ := ckE (c := 0 ≤ i610 ∧ 0 < (4 + (p0 % 13) : Int) ∧ (4 + (p0 % 13) : Int) ≤ 9223372036854775807) h743
              refine WL.val (R.remG (a := i610) (b := 4 + (p0 % 13)) rfl rfl hg750 (by decide)) rfl ?_
              refine WL.val (R.move (v := Value.int .i64 i610) (by exact s748)) rfl ?_
              obtain ⟨hg752, h753⟩ := ckE (c := -9223372036854775808 ≤ i610 + 7 ∧ i610 + 7 ≤ 9223372036854775807) h751
              refine WL.val (R.add (a := i610) (b := 7) (z := i610 + 7) rfl rfl (w64e rfl hg752.1 hg752.2)) rfl ?_
              obtain ⟨x754, hx755, h756⟩ := ob (o := rd l696 (i610 % (4 + (p0 % 13)))) h753
              obtain ⟨h0757, hx758, hl759, hm760⟩ := rdE hx755
              obtain ⟨b761, c762, hv763, _⟩ := hs710.gslAt (i := 0) rfl hx758
              refine WL.val (R.indexS (n := 56) (m := (i610 % (4 + (p0 % 13))).toNat) (ad := ⟨b761, 0, none⟩) (len := (l696).length) (cap := c762) (z := i610 % (4 + (p0 % 13))) un28 ag60.size (Eq.trans (show _ = Value.slice a697 l696.length c698 from rfl) hv763) rfl rfl hm760 hl759 rfl) rfl ?_
              refine WL.val (R.fieldAddr (o := 0 + (i610 % (4 + (p0 % 13))).toNat * 56) (o' := 0 + (i610 % (4 + (p0 % 13))).toNat * 56 + 1) fa60_1 rfl rfl) rfl ?_
              refine WL.val (R.fieldAddr (o := 0 + (i610 % (4 + (p0 % 13))).toNat * 56 + 1) (o' := 0 + (i610 % (4 + (p0 % 13))).toNat * 56 + 1) fa58_0 rfl rfl) rfl ?_
              refine WL.sto (L' := [gsl 60 heldE (Value.slice a697 l696.length c698) ((l696).set (i610 % (4 + (p0 % 13))).toNat (⟨x754.is, (⟨i610 + 7, x754.cell.offer, x754.cell.report, x754.cell.view⟩ : Cl)⟩ : Hd))]) (X.storeEl (i := 0) (j := (i610 % (4 + (p0 % 13))).toNat) (off := 1) (n := 1) (x := x754) (y := (⟨x754.is, (⟨i610 + 7, x754.cell.offer, x754.cell.report, x754.cell.view⟩ : Cl)⟩ : Hd)) (vs := [Value.int .i64 (i610 + 7)]) (u := Value.int .i64 (i610 + 7)) (hs710.here) rfl hx758 hv763 lf2.size rfl rfl rfl rfl rfl rfl (by decide) (rfl) rfl) rfl rfl ?_
              intro w764 ht765
              have hs766 := hs710.trans ht765
              have hs767 : St [] w w764 [gsl 60 heldE (Value.slice a697 (((l696).set (i610 % (4 + (p0 % 13))).toNat (⟨x754.is, (⟨i610 + 7, x754.cell.offer, x754.cell.report, x754.cell.view⟩ : Cl)⟩ : Hd)).length) c698) ((l696).set (i610 % (4 + (p0 % 13))).toNat (⟨x754.is, (⟨i610 + 7, x754.cell.offer, x754.cell.report, x754.cell.view⟩ : Cl)⟩ : Hd))] := by simpa only [List.length_set] using hs766
              have ht768 : St [gsl 60 heldE (Value.slice a697 l696.length c698) l696] w708 w764 [gsl 60 heldE (Value.slice a697 (((l696).set (i610 % (4 + (p0 % 13))).toNat (⟨x754.is, (⟨i610 + 7, x754.cell.offer, x754.cell.report, x754.cell.view⟩ : Cl)⟩ : Hd)).length) c698) ((l696).set (i610 % (4 + (p0 % 13))).toNat (⟨x754.is, (⟨i610 + 7, x754.cell.offer, x754.cell.report, x754.cell.view⟩ : Cl)⟩ : Hd))] := by simpa only [List.length_set] using ht765
              refine WL.nil ?_
              refine thenN ?_
              refine WC.seq ?_
              refine WC.region ?_
              refine WL.val (R.move (v := Value.int .i64 i609) (by exact s747)) rfl ?_
              obtain ⟨hg769, h770⟩ := ckE (c := -9223372036854775808 ≤ i609 + 1 ∧ i609 + 1 ≤ 9223372036854775807) h756
              refine WL.val (R.add (a := i609) (b := 1) (z := i609 + 1) rfl rfl (w64e rfl hg769.1 hg769.2)) rfl ?_
              refine WL.val (R.assign (v := Value.int .i64 (i609 + 1)) rfl) rfl ?_
              refine WL.nil ?_
              refine thenN ?_
              refine WC.seq ?_
              refine WC.seq ?_
              refine WC.region ?_
              refine WL.val (R.move (v := Value.slice a1 p1.length c1) (by exact s744)) rfl ?_
              refine WL.val (R.move (v := Value.int .i64 i610) (by exact s748)) rfl ?_
              obtain ⟨x771, hx772, h773⟩ := ob (o := rd p1 i610) h770
              obtain ⟨h0774, hx775, hl776, hm777⟩ := rdE hx772
              have hr778 := elT ht768 he711
              obtain ⟨ad779, e784, ha780, hp781, hat782, hrd783⟩ := hr778 _ _ hx775
              obtain ⟨-, rfl⟩ := hrd783
              refine WL.val (R.indexS (n := 1) (m := (i610).toNat) (a := a1) (ad := ad779) (len := p1.length) (cap := c1) (z := i610) un85 lf4.size rfl ha780 rfl hm777 hl776 hp781) rfl ?_
              refine WL.val (R.loadL (v := Value.bool x771) lf4 rfl hat782) rfl ?_
              refine WL.nil ?_
              refine thenN ?_
              by_cases hc786 : x771 = true
              · have h787 := ifT hc786 h773
                refine WC.condT (Eq.trans (show _ = Value.bool x771 from rfl) (congrArg Value.bool hc786)) rfl ?_
                refine WC.seq ?_
                refine WC.region ?_
                refine WL.val (R.move (v := Value.slice a697 (((l696).set (i610 % (4 + (p0 % 13))).toNat (⟨x754.is, (⟨i610 + 7, x754.cell.offer, x754.cell.report, x754.cell.view⟩ : Cl)⟩ : Hd)).length) c698) (by exact (Eq.trans (show _ = Value.slice a697 l696.length c698 from s749) (by simp only [List.length_set])))) rfl ?_
                refine WL.val (R.move (v := Value.int .i64 i610) (by exact s748)) rfl ?_
                obtain ⟨hg788, h789⟩ := ckE (c := -9223372036854775808 ≤ i610 + 1 ∧ i610 + 1 ≤ 9223372036854775807) h787
                refine WL.val (R.add (a := i610) (b := 1) (z := i610 + 1) rfl rfl (w64e rfl hg788.1 hg788.2)) rfl ?_
                refine WL.val (R.move (v := Value.int .i64 (4 + (p0 % 13))) (by exact s745)) rfl ?_
                obtain ⟨hg790, h791⟩ := ckE (c := 0 ≤ i610 + 1 ∧ 0 < (4 + (p0 % 13) : Int) ∧ (4 + (p0 % 13) : Int) ≤ 9223372036854775807) h789
                refine WL.val (R.remG (a := i610 + 1) (b := 4 + (p0 % 13)) rfl rfl hg790 (by decide)) rfl ?_
                obtain ⟨x792, hx793, h794⟩ := ob (o := rd ((l696).set (i610 % (4 + (p0 % 13))).toNat (⟨x754.is, (⟨i610 + 7, x754.cell.offer, x754.cell.report, x754.cell.view⟩ : Cl)⟩ : Hd)) ((i610 + 1) % (4 + (p0 % 13)))) h791
                obtain ⟨h0795, hx796, hl797, hm798⟩ := rdE hx793
                obtain ⟨b799, c800, hv801, _⟩ := hs767.gslAt (i := 0) rfl hx796
                refine WL.val (R.indexS (n := 56) (m := ((i610 + 1) % (4 + (p0 % 13))).toNat) (ad := ⟨b799, 0, none⟩) (len := ((l696).set (i610 % (4 + (p0 % 13))).toNat (⟨x754.is, (⟨i610 + 7, x754.cell.offer, x754.cell.report, x754.cell.view⟩ : Cl)⟩ : Hd)).length) (cap := c800) (z := (i610 + 1) % (4 + (p0 % 13))) un28 ag60.size (Eq.trans (show _ = Value.slice a697 (((l696).set (i610 % (4 + (p0 % 13))).toNat (⟨x754.is, (⟨i610 + 7, x754.cell.offer, x754.cell.report, x754.cell.view⟩ : Cl)⟩ : Hd)).length) c698 from rfl) hv801) rfl rfl hm798 hl797 rfl) rfl ?_
                refine WL.val (R.fieldAddr (o := 0 + ((i610 + 1) % (4 + (p0 % 13))).toNat * 56) (o' := 0 + ((i610 + 1) % (4 + (p0 % 13))).toNat * 56) fa60_0 rfl rfl) rfl ?_
                refine WL.sto (L' := [gsl 60 heldE (Value.slice a697 (((l696).set (i610 % (4 + (p0 % 13))).toNat (⟨x754.is, (⟨i610 + 7, x754.cell.offer, x754.cell.report, x754.cell.view⟩ : Cl)⟩ : Hd)).length) c698) (((l696).set (i610 % (4 + (p0 % 13))).toNat (⟨x754.is, (⟨i610 + 7, x754.cell.offer, x754.cell.report, x754.cell.view⟩ : Cl)⟩ : Hd)).set ((i610 + 1) % (4 + (p0 % 13))).toNat (⟨false, x792.cell⟩ : Hd))]) (X.storeEl (i := 0) (j := ((i610 + 1) % (4 + (p0 % 13))).toNat) (off := 0) (n := 1) (x := x792) (y := (⟨false, x792.cell⟩ : Hd)) (vs := [Value.bool false]) (u := Value.bool false) (hs767.here) rfl hx796 hv801 lf4.size rfl rfl rfl rfl rfl rfl (by decide) (rfl) rfl) rfl rfl ?_
                intro w802 ht803
                have hs804 := hs767.trans ht803
                have hs805 : St [] w w802 [gsl 60 heldE (Value.slice a697 ((((l696).set (i610 % (4 + (p0 % 13))).toNat (⟨x754.is, (⟨i610 + 7, x754.cell.offer, x754.cell.report, x754.cell.view⟩ : Cl)⟩ : Hd)).set ((i610 + 1) % (4 + (p0 % 13))).toNat (⟨false, x792.cell⟩ : Hd)).length) c698) (((l696).set (i610 % (4 + (p0 % 13))).toNat (⟨x754.is, (⟨i610 + 7, x754.cell.offer, x754.cell.report, x754.cell.view⟩ : Cl)⟩ : Hd)).set ((i610 + 1) % (4 + (p0 % 13))).toNat (⟨false, x792.cell⟩ : Hd))] := by simpa only [List.length_set] using hs804
                have ht806 : St [gsl 60 heldE (Value.slice a697 (((l696).set (i610 % (4 + (p0 % 13))).toNat (⟨x754.is, (⟨i610 + 7, x754.cell.offer, x754.cell.report, x754.cell.view⟩ : Cl)⟩ : Hd)).length) c698) ((l696).set (i610 % (4 + (p0 % 13))).toNat (⟨x754.is, (⟨i610 + 7, x754.cell.offer, x754.cell.report, x754.cell.view⟩ : Cl)⟩ : Hd))] w764 w802 [gsl 60 heldE (Value.slice a697 ((((l696).set (i610 % (4 + (p0 % 13))).toNat (⟨x754.is, (⟨i610 + 7, x754.cell.offer, x754.cell.report, x754.cell.view⟩ : Cl)⟩ : Hd)).set ((i610 + 1) % (4 + (p0 % 13))).toNat (⟨false, x792.cell⟩ : Hd)).length) c698) (((l696).set (i610 % (4 + (p0 % 13))).toNat (⟨x754.is, (⟨i610 + 7, x754.cell.offer, x754.cell.report, x754.cell.view⟩ : Cl)⟩ : Hd)).set ((i610 + 1) % (4 + (p0 % 13))).toNat (⟨false, x792.cell⟩ : Hd))] := by simpa only [List.length_set] using ht803
                refine WL.nil ?_
                refine thenN ?_
                refine WC.region ?_
                refine WL.val (R.assign (v := Value.int .i64 0) rfl) rfl ?_
                refine WL.nil ?_
                refine thenN ?_
                refine WC.seq ?_
                refine WC.region ?_
                refine WL.val (R.move (v := Value.pointer none) (by exact s746)) rfl ?_
                refine WL.val (R.move (v := Value.slice a697 ((((l696).set (i610 % (4 + (p0 % 13))).toNat (⟨x754.is, (⟨i610 + 7, x754.cell.offer, x754.cell.report, x754.cell.view⟩ : Cl)⟩ : Hd)).set ((i610 + 1) % (4 + (p0 % 13))).toNat (⟨false, x792.cell⟩ : Hd)).length) c698) (by exact (Eq.trans (show _ = Value.slice a697 (((l696).set (i610 % (4 + (p0 % 13))).toNat (⟨x754.is, (⟨i610 + 7, x754.cell.offer, x754.cell.report, x754.cell.view⟩ : Cl)⟩ : Hd)).length) c698 from (Eq.trans (show _ = Value.slice a697 l696.length c698 from s749) (by simp only [List.length_set]))) (by simp only [List.length_set])))) rfl ?_
                refine WL.val (R.move (v := Value.int .i64 i610) (by exact s748)) rfl ?_
                obtain ⟨a807, c808, hv809, hl810, he811⟩ := el_freeze (k := heldW) (ok := ok) hs805 (List.Perm.refl _) rfl (fun _ _ _ => ⟨trivial, rfl⟩)
                obtain ⟨rfl, rfl⟩ : a697 = a807 ∧ c698 = c808 := ⟨(Value.slice.inj hv809).1, (Value.slice.inj hv809).2.2⟩
                have ht812 := (hs805.here).perm (L' := []) (G := [gsl 60 heldE (Value.slice a697 ((((l696).set (i610 % (4 + (p0 % 13))).toNat (⟨x754.is, (⟨i610 + 7, x754.cell.offer, x754.cell.report, x754.cell.view⟩ : Cl)⟩ : Hd)).set ((i610 + 1) % (4 + (p0 % 13))).toNat (⟨false, x792.cell⟩ : Hd)).length) c698) (((l696).set (i610 % (4 + (p0 % 13))).toNat (⟨x754.is, (⟨i610 + 7, x754.cell.offer, x754.cell.report, x754.cell.view⟩ : Cl)⟩ : Hd)).set ((i610 + 1) % (4 + (p0 % 13))).toNat (⟨false, x792.cell⟩ : Hd))]) ((List.Perm.refl _))
                have hs813 := hs805.trans ht812
                obtain ⟨y815, hx816, h817⟩ := ob (o := stepN17 (((l696).set (i610 % (4 + (p0 % 13))).toNat (⟨x754.is, (⟨i610 + 7, x754.cell.offer, x754.cell.report, x754.cell.view⟩ : Cl)⟩ : Hd)).set ((i610 + 1) % (4 + (p0 % 13))).toNat (⟨false, x792.cell⟩ : Hd)) i610) h794
                refine WL.call (stepN17_ok _ _ (((l696).set (i610 % (4 + (p0 % 13))).toNat (⟨x754.is, (⟨i610 + 7, x754.cell.offer, x754.cell.report, x754.cell.view⟩ : Cl)⟩ : Hd)).set ((i610 + 1) % (4 + (p0 % 13))).toNat (⟨false, x792.cell⟩ : Hd)) i610 _ _ he811 hl810 hx816) (R.call (vs := [Value.pointer none, Value.slice a697 ((((l696).set (i610 % (4 + (p0 % 13))).toNat (⟨x754.is, (⟨i610 + 7, x754.cell.offer, x754.cell.report, x754.cell.view⟩ : Cl)⟩ : Hd)).set ((i610 + 1) % (4 + (p0 % 13))).toNat (⟨false, x792.cell⟩ : Hd)).length) c698, Value.int .i64 i610]) (caps := []) bo47 rfl rfl) rfl ?_
                rintro v820 w821 ⟨rfl, ht818⟩
                have ht819 := hs813.call (N := []) (M := []) (List.Perm.refl _) ht818
                have hs822 := hs813.trans ht819
                refine WL.val (R.move (v := Value.int .i64 0) rfl) rfl ?_
                refine WL.val (R.move (v := Value.int .i64 (4 + (p0 % 13))) (by exact s745)) rfl ?_
                obtain ⟨hg823, h824⟩ := ckE (c := -9223372036854775808 ≤ 2 * (4 + (p0 % 13)) ∧ 2 * (4 + (p0 % 13)) ≤ 9223372036854775807) h817
                refine WL.val (R.mul (a := 2) (b := 4 + (p0 % 13)) (z := 2 * (4 + (p0 % 13))) rfl rfl (w64e rfl hg823.1 hg823.2)) rfl ?_
                by_cases hc825 : (2 * (4 + (p0 % 13))) ≤ 0
                · have h826 := ifT hc825 h824
                  refine WL.val (R.geqT (k := .i64) (a := 0) (b := 2 * (4 + (p0 % 13))) un3 rfl rfl hc825) rfl ?_
                  by_cases hc827 : y815 = true
                  · have h828 := ifT hc827 h826
                    refine WL.val (R.neB (a := true) (b := true) un4 (Eq.trans (show _ = Value.bool y815 from rfl) (congrArg Value.bool hc827)) rfl) rfl ?_
                    refine WL.nil ?_
                    refine thenN ?_
                    refine WC.condF rfl rfl ?_
                    refine WC.skip ?_
                    refine blockN ?_
                    refine thenN ?_
                    refine WC.region ?_
                    refine WL.val (R.move (v := Value.int .i64 i610) (by exact s748)) rfl ?_
                    refine WL.val (R.add (a := i610) (b := 1) (z := i610 + 1) rfl rfl (w64e rfl hg788.1 hg788.2)) rfl ?_
                    refine WL.val (R.assign (v := Value.int .i64 (i610 + 1)) rfl) rfl ?_
                    refine WL.nil ?_
                    have hr829 := elT ((ht806.trans ht812).trans ht819) hr778
                    exact roundEnd (s := k617) ⟨0, i610 + 1, s744, s745, s746, rfl, rfl, hr829, h828, hs822⟩ (Nat.lt_succ_self _)
                  · have h830 := ifF hc827 h826
                    refine WL.val (R.neB (a := false) (b := true) un4 (Eq.trans (show _ = Value.bool y815 from rfl) (congrArg Value.bool (Bool.eq_false_iff.2 hc827))) rfl) rfl ?_
                    refine WL.nil ?_
                    refine thenN ?_
                    refine WC.condT rfl rfl ?_
                    refine WC.seq ?_
                    refine WC.region ?_
                    refine WL.val (R.assign (v := Value.bool false) rfl) rfl ?_
                    refine WL.nil ?_
                    refine thenN ?_
                    refine WC.ret ?_
                    obtain rfl := Option.some.inj (show some false = some r from h830)
                    exact ret1 (P := Try.prog) (n := 78) (fn := Try.f7) (R := fun v w' => v = Value.bool false ∧ St [] w w' []) (t := 4) (v := Value.bool false) rfl rfl rfl ⟨rfl, hs822⟩
                · have h831 := ifF hc825 h824
                  refine WL.val (R.geqF (k := .i64) (a := 0) (b := 2 * (4 + (p0 % 13))) un3 rfl rfl hc825) rfl ?_
                  by_cases hc832 : y815 = true
                  · have h833 := ifT hc832 h831
                    refine WL.val (R.neB (a := true) (b := false) un4 (Eq.trans (show _ = Value.bool y815 from rfl) (congrArg Value.bool hc832)) rfl) rfl ?_
                    refine WL.nil ?_
                    refine thenN ?_
                    refine WC.condT rfl rfl ?_
                    refine WC.seq ?_
                    refine WC.region ?_
                    refine WL.val (R.assign (v := Value.bool false) rfl) rfl ?_
                    refine WL.nil ?_
                    refine thenN ?_
                    refine WC.ret ?_
                    obtain rfl := Option.some.inj (show some false = some r from h833)
                    exact ret1 (P := Try.prog) (n := 78) (fn := Try.f7) (R := fun v w' => v = Value.bool false ∧ St [] w w' []) (t := 4) (v := Value.bool false) rfl rfl rfl ⟨rfl, hs822⟩
                  · have h834 := ifF hc832 h831
                    refine WL.val (R.neB (a := false) (b := false) un4 (Eq.trans (show _ = Value.bool y815 from rfl) (congrArg Value.bool (Bool.eq_false_iff.2 hc832))) rfl) rfl ?_
                    refine WL.nil ?_
                    refine thenN ?_
                    refine WC.condF rfl rfl ?_
                    refine WC.skip ?_
                    refine blockN ?_
                    refine thenN ?_
                    refine WC.region ?_
                    refine WL.val (R.move (v := Value.int .i64 i610) (by exact s748)) rfl ?_
                    refine WL.val (R.add (a := i610) (b := 1) (z := i610 + 1) rfl rfl (w64e rfl hg788.1 hg788.2)) rfl ?_
                    refine WL.val (R.assign (v := Value.int .i64 (i610 + 1)) rfl) rfl ?_
                    refine WL.nil ?_
                    have hr835 := elT ((ht806.trans ht812).trans ht819) hr778
                    exact roundEnd (s := k617) ⟨0, i610 + 1, s744, s745, s746, rfl, rfl, hr835, h834, hs822⟩ (Nat.lt_succ_self _)
              · have h836 := ifF hc786 h773
                refine WC.condF (Eq.trans (show _ = Value.bool x771 from rfl) (congrArg Value.bool (Bool.eq_false_iff.2 hc786))) rfl ?_
                refine WC.skip ?_
                refine thenN ?_
                refine WC.seq ?_
                refine WC.region ?_
                refine WL.val (R.move (v := Value.pointer none) (by exact s746)) rfl ?_
                refine WL.val (R.move (v := Value.slice a697 (((l696).set (i610 % (4 + (p0 % 13))).toNat (⟨x754.is, (⟨i610 + 7, x754.cell.offer, x754.cell.report, x754.cell.view⟩ : Cl)⟩ : Hd)).length) c698) (by exact (Eq.trans (show _ = Value.slice a697 l696.length c698 from s749) (by simp only [List.length_set])))) rfl ?_
                refine WL.val (R.move (v := Value.int .i64 i610) (by exact s748)) rfl ?_
                obtain ⟨a837, c838, hv839, hl840, he841⟩ := el_freeze (k := heldW) (ok := ok) hs767 (List.Perm.refl _) rfl (fun _ _ _ => ⟨trivial, rfl⟩)
                obtain ⟨rfl, rfl⟩ : a697 = a837 ∧ c698 = c838 := ⟨(Value.slice.inj hv839).1, (Value.slice.inj hv839).2.2⟩
                have ht842 := (hs767.here).perm (L' := []) (G := [gsl 60 heldE (Value.slice a697 (((l696).set (i610 % (4 + (p0 % 13))).toNat (⟨x754.is, (⟨i610 + 7, x754.cell.offer, x754.cell.report, x754.cell.view⟩ : Cl)⟩ : Hd)).length) c698) ((l696).set (i610 % (4 + (p0 % 13))).toNat (⟨x754.is, (⟨i610 + 7, x754.cell.offer, x754.cell.report, x754.cell.view⟩ : Cl)⟩ : Hd))]) ((List.Perm.refl _))
                have hs843 := hs767.trans ht842
                obtain ⟨y845, hx846, h847⟩ := ob (o := stepN17 ((l696).set (i610 % (4 + (p0 % 13))).toNat (⟨x754.is, (⟨i610 + 7, x754.cell.offer, x754.cell.report, x754.cell.view⟩ : Cl)⟩ : Hd)) i610) h836
                refine WL.call (stepN17_ok _ _ ((l696).set (i610 % (4 + (p0 % 13))).toNat (⟨x754.is, (⟨i610 + 7, x754.cell.offer, x754.cell.report, x754.cell.view⟩ : Cl)⟩ : Hd)) i610 _ _ he841 hl840 hx846) (R.call (vs := [Value.pointer none, Value.slice a697 (((l696).set (i610 % (4 + (p0 % 13))).toNat (⟨x754.is, (⟨i610 + 7, x754.cell.offer, x754.cell.report, x754.cell.view⟩ : Cl)⟩ : Hd)).length) c698, Value.int .i64 i610]) (caps := []) bo47 rfl rfl) rfl ?_
                rintro v850 w851 ⟨rfl, ht848⟩
                have ht849 := hs843.call (N := []) (M := []) (List.Perm.refl _) ht848
                have hs852 := hs843.trans ht849
                refine WL.val (R.move (v := Value.int .i64 (i609 + 1)) rfl) rfl ?_
                refine WL.val (R.move (v := Value.int .i64 (4 + (p0 % 13))) (by exact s745)) rfl ?_
                obtain ⟨hg853, h854⟩ := ckE (c := -9223372036854775808 ≤ 2 * (4 + (p0 % 13)) ∧ 2 * (4 + (p0 % 13)) ≤ 9223372036854775807) h847
                refine WL.val (R.mul (a := 2) (b := 4 + (p0 % 13)) (z := 2 * (4 + (p0 % 13))) rfl rfl (w64e rfl hg853.1 hg853.2)) rfl ?_
                by_cases hc855 : (2 * (4 + (p0 % 13))) ≤ (i609 + 1)
                · have h856 := ifT hc855 h854
                  refine WL.val (R.geqT (k := .i64) (a := i609 + 1) (b := 2 * (4 + (p0 % 13))) un3 rfl rfl hc855) rfl ?_
                  by_cases hc857 : y845 = true
                  · have h858 := ifT hc857 h856
                    refine WL.val (R.neB (a := true) (b := true) un4 (Eq.trans (show _ = Value.bool y845 from rfl) (congrArg Value.bool hc857)) rfl) rfl ?_
                    refine WL.nil ?_
                    refine thenN ?_
                    refine WC.condF rfl rfl ?_
                    refine WC.skip ?_
                    refine blockN ?_
                    refine thenN ?_
                    refine WC.region ?_
                    refine WL.val (R.move (v := Value.int .i64 i610) (by exact s748)) rfl ?_
                    obtain ⟨hg859, h860⟩ := ckE (c := -9223372036854775808 ≤ i610 + 1 ∧ i610 + 1 ≤ 9223372036854775807) h858
                    refine WL.val (R.add (a := i610) (b := 1) (z := i610 + 1) rfl rfl (w64e rfl hg859.1 hg859.2)) rfl ?_
                    refine WL.val (R.assign (v := Value.int .i64 (i610 + 1)) rfl) rfl ?_
                    refine WL.nil ?_
                    have hr861 := elT (ht842.trans ht849) hr778
                    exact roundEnd (s := k617) ⟨i609 + 1, i610 + 1, s744, s745, s746, rfl, rfl, hr861, h860, hs852⟩ (Nat.lt_succ_self _)
                  · have h862 := ifF hc857 h856
                    refine WL.val (R.neB (a := false) (b := true) un4 (Eq.trans (show _ = Value.bool y845 from rfl) (congrArg Value.bool (Bool.eq_false_iff.2 hc857))) rfl) rfl ?_
                    refine WL.nil ?_
                    refine thenN ?_
                    refine WC.condT rfl rfl ?_
                    refine WC.seq ?_
                    refine WC.region ?_
                    refine WL.val (R.assign (v := Value.bool false) rfl) rfl ?_
                    refine WL.nil ?_
                    refine thenN ?_
                    refine WC.ret ?_
                    obtain rfl := Option.some.inj (show some false = some r from h862)
                    exact ret1 (P := Try.prog) (n := 78) (fn := Try.f7) (R := fun v w' => v = Value.bool false ∧ St [] w w' []) (t := 4) (v := Value.bool false) rfl rfl rfl ⟨rfl, hs852⟩
                · have h863 := ifF hc855 h854
                  refine WL.val (R.geqF (k := .i64) (a := i609 + 1) (b := 2 * (4 + (p0 % 13))) un3 rfl rfl hc855) rfl ?_
                  by_cases hc864 : y845 = true
                  · have h865 := ifT hc864 h863
                    refine WL.val (R.neB (a := true) (b := false) un4 (Eq.trans (show _ = Value.bool y845 from rfl) (congrArg Value.bool hc864)) rfl) rfl ?_
                    refine WL.nil ?_
                    refine thenN ?_
                    refine WC.condT rfl rfl ?_
                    refine WC.seq ?_
                    refine WC.region ?_
                    refine WL.val (R.assign (v := Value.bool false) rfl) rfl ?_
                    refine WL.nil ?_
                    refine thenN ?_
                    refine WC.ret ?_
                    obtain rfl := Option.some.inj (show some false = some r from h865)
                    exact ret1 (P := Try.prog) (n := 78) (fn := Try.f7) (R := fun v w' => v = Value.bool false ∧ St [] w w' []) (t := 4) (v := Value.bool false) rfl rfl rfl ⟨rfl, hs852⟩
                  · have h866 := ifF hc864 h863
                    refine WL.val (R.neB (a := false) (b := false) un4 (Eq.trans (show _ = Value.bool y845 from rfl) (congrArg Value.bool (Bool.eq_false_iff.2 hc864))) rfl) rfl ?_
                    refine WL.nil ?_
                    refine thenN ?_
                    refine WC.condF rfl rfl ?_
                    refine WC.skip ?_
                    refine blockN ?_
                    refine thenN ?_
                    refine WC.region ?_
                    refine WL.val (R.move (v := Value.int .i64 i610) (by exact s748)) rfl ?_
                    obtain ⟨hg867, h868⟩ := ckE (c := -9223372036854775808 ≤ i610 + 1 ∧ i610 + 1 ≤ 9223372036854775807) h866
                    refine WL.val (R.add (a := i610) (b := 1) (z := i610 + 1) rfl rfl (w64e rfl hg867.1 hg867.2)) rfl ?_
                    refine WL.val (R.assign (v := Value.int .i64 (i610 + 1)) rfl) rfl ?_
                    refine WL.nil ?_
                    have hr869 := elT (ht842.trans ht849) hr778
                    exact roundEnd (s := k617) ⟨i609 + 1, i610 + 1, s744, s745, s746, rfl, rfl, hr869, h868, hs852⟩ (Nat.lt_succ_self _)
          · have h870 := ifF hc629 h623
            refine WL.val (R.lssF (k := .i64) (a := i610) (b := ((p1.length : Nat) : Int)) un3 rfl rfl hc629) rfl ?_
            refine WL.nil ?_
            refine thenN ?_
            refine WC.condF rfl rfl ?_
            refine WC.exit ?_
            refine thenE ?_
            refine thenE ?_
            refine blockHit ?_
            exact joinI ⟨h870, hs616⟩
        · rintro σ621 w620 ⟨h871, hs622⟩
          subst hK612
          refine thenN ?_
          refine WC.seq ?_
          refine WC.region ?_
          obtain ⟨y872, hx873, h874⟩ := ob (o := lives17 ) h871
          refine WL.call (lives17_ok _ (In ok w [] [])   hx873) (R.call (vs := []) (caps := []) bo41 rfl rfl) rfl ?_
          rintro v877 w878 ⟨rfl, ht875⟩
          have ht876 := hs622.call (N := []) (M := []) (List.Perm.refl _) ht875
          have hs879 := hs622.trans ht876
          refine WL.val (R.assign (v := Value.bool y872) rfl) rfl ?_
          refine WL.nil ?_
          refine thenN ?_
          refine WC.ret ?_
          obtain rfl := Option.some.inj (show some y872 = some r from h874)
          exact ret1 (P := Try.prog) (n := 78) (fn := Try.f7) (R := fun v w' => v = Value.bool y872 ∧ St [] w w' []) (t := 4) (v := Value.bool y872) rfl rfl rfl ⟨rfl, hs879⟩
      · have h880 := ifF hc133 h129
        refine WL.val (R.neqT (k := .i64) (a := y119.2) (b := 0) un66 rfl rfl hc133) rfl ?_
        refine WL.nil ?_
        refine thenN ?_
        refine WC.condT rfl rfl ?_
        refine WC.seq ?_
        refine WC.region ?_
        refine WL.val (R.assign (v := Value.bool false) rfl) rfl ?_
        refine WL.nil ?_
        refine thenN ?_
        refine WC.ret ?_
        obtain rfl := Option.some.inj (show some false = some r from h880)
        exact ret1 (P := Try.prog) (n := 78) (fn := Try.f7) (R := fun v w' => v = Value.bool false ∧ St [] w w' []) (t := 4) (v := Value.bool false) rfl rfl rfl ⟨rfl, hs132⟩
    · rw [ho131] at ho126
      obtain ⟨b881, rfl, rfl⟩ := ho126
      have ht123 := hs100.call (N := []) (M := []) (List.Perm.refl _) ht122
      have hs883 := hs100.trans ht123
      refine WL.val (R.move (v := Value.tuple #[Value.pointer (some ⟨b881, 0, none⟩), Value.int .i64 y119.2]) rfl) rfl ?_
      refine WL.val (R.extract (v := Value.pointer (some ⟨b881, 0, none⟩)) rfl rfl) rfl ?_
      refine WL.val (R.extract (v := Value.int .i64 y119.2) rfl rfl) rfl ?_
      refine WL.val (R.assign (v := Value.pointer (some ⟨b881, 0, none⟩)) rfl) rfl ?_
      refine WL.val (R.assign (v := Value.int .i64 y119.2) rfl) rfl ?_
      refine WL.nil ?_
      refine thenN ?_
      refine WC.seq ?_
      refine WC.seq ?_
      refine WC.region ?_
      refine WL.val (R.move (v := Value.int .i64 y119.2) rfl) rfl ?_
      by_cases hc884 : y119.2 = 0
      · have h885 := ifT hc884 h129
        refine WL.val (R.neqF (k := .i64) (a := y119.2) (b := 0) un66 rfl rfl (not_not_intro hc884)) rfl ?_
        refine WL.nil ?_
        refine thenN ?_
        refine WC.condF rfl rfl ?_
        refine WC.skip ?_
        refine thenN ?_
        refine WC.seq ?_
        refine WC.region ?_
        refine WL.val (R.assign (v := Value.int .i64 0) rfl) rfl ?_
        refine WL.nil ?_
        refine thenN ?_
        refine WC.seq ?_
        refine WC.seq ?_
        refine WC.region ?_
        refine WL.val (R.assign (v := Value.int .i64 0) rfl) rfl ?_
        refine WL.nil ?_
        refine thenN ?_
        have hr1376 := elT ht123 he1001
        obtain ⟨K1368, hK1369, h1370⟩ := kE (G := fun K1368 => run17_l3 p1 p0 K1368 1000000 0 0 q130.1.1 q130.1.2 q130.2) h885
        refine WC.join (fun σ1378 w1377 => K1368 () = some r ∧ St [] w w1377 []) ?_ ?_
        · refine WC.block ?_
          refine WC.loop (T := Nat) (fun k1374 σ1372 w1371 => ∃ i1363 : Int, ∃ i1364 : Int, ∃ i1365 : Int, ∃ i1366 : Int, ∃ i1367 : Int, σ1372 1 = (Value.slice a1 p1.length c1) ∧ σ1372 5 = (Value.int .i64 (4 + (p0 % 13))) ∧ σ1372 6 = (Value.pointer (some ⟨b881, 0, none⟩)) ∧ σ1372 8 = (Value.int .i64 i1363) ∧ σ1372 9 = (Value.int .i64 i1364) ∧ elems boolW w1371 (In ok w [] [blk b881 83 ([Value.int .i64 i1365, Value.int .i64 i1366] ++ ((Value.int .i64 i1367) :: []))]) a1 p1 ∧ run17_l3 p1 p0 K1368 k1374 i1363 i1364 i1365 i1366 i1367 = some r ∧ St [] w w1371 [blk b881 83 ([Value.int .i64 i1365, Value.int .i64 i1366] ++ ((Value.int .i64 i1367) :: []))]) (fun k1374 => k1374) 1000000 ⟨0, 0, q130.1.1, q130.1.2, q130.2, rfl, rfl, rfl, rfl, rfl, hr1376, h1370, hs883⟩ ?_
          rintro k1374 σ1372 w1371 ⟨i1363, i1364, i1365, i1366, i1367, s1381, s1382, s1383, s1384, s1385, he1375, h1380, hs1373⟩
          rcases k1374 with _ | k1374
          · rw [run17_l3] at h1380; cases h1380
          rw [run17_l3] at h1380
          refine WC.seq ?_
          refine WC.seq ?_
          refine WC.region ?_
          refine WL.val (R.move (v := Value.int .i64 i1364) (by exact s1385)) rfl ?_
          refine WL.val (R.move (v := Value.slice a1 p1.length c1) (by exact s1381)) rfl ?_
          refine WL.val (R.len (a := a1) (n := p1.length) (c := c1) un85 rfl) rfl ?_
          by_cases hc1386 : i1364 < ((p1.length : Nat) : Int)
          · have h1387 := ifT hc1386 h1380
            refine WL.val (R.lssT (k := .i64) (a := i1364) (b := ((p1.length : Nat) : Int)) un3 rfl rfl hc1386) rfl ?_
            refine WL.nil ?_
            refine thenN ?_
            refine WC.condT rfl rfl ?_
            refine WC.skip ?_
            refine thenN ?_
            refine WC.seq ?_
            refine WC.block ?_
            refine WC.seq ?_
            refine WC.region ?_
            refine WL.val (R.move (v := Value.int .i64 (4 + (p0 % 13))) (by exact s1382)) rfl ?_
            obtain ⟨hg1388, h1389⟩ := ckE (c := 0 ≤ 4 + (p0 % 13) ∧ 4 + (p0 % 13) < 1000000) h1387
            refine WL.new (L' := fun b1390 => [blk b881 83 ([Value.int .i64 i1365, Value.int .i64 i1366] ++ ((Value.int .i64 i1367) :: [])), gsl 60 heldE (Value.slice (some ⟨b1390, 0, none⟩) ((List.replicate (4 + (p0 % 13)).toNat Hd.none).length) ((4 + (p0 % 13)).toNat)) (List.replicate (4 + (p0 % 13)).toNat Hd.none)]) (f := fun b1390 => Value.slice (some ⟨b1390, 0, none⟩) ((List.replicate (4 + (p0 % 13)).toNat Hd.none).length) ((4 + (p0 % 13)).toNat)) (X.makeSliceN (e := heldE) (z := Hd.none) (hs1373.here) sl28 rfl rfl rfl hg1388 (by decide) List.length_replicate (fun _ => rfl)) rfl ?_
            intro b1390 w1391 ht1395 he1392 hz1393
            have hs1396 := hs1373.trans ht1395
            refine WL.val (R.assign (v := Value.slice (some ⟨b1390, 0, none⟩) ((List.replicate (4 + (p0 % 13)).toNat Hd.none).length) ((4 + (p0 % 13)).toNat)) rfl) rfl ?_
            refine WL.nil ?_
            refine thenN ?_
            refine WC.seq ?_
            refine WC.seq ?_
            refine WC.region ?_
            refine WL.val (R.assign (v := Value.int .i64 0) rfl) rfl ?_
            refine WL.nil ?_
            refine thenN ?_
            have hr1464 := elT ht1395 he1375
            obtain ⟨K1456, hK1457, h1458⟩ := kE (G := fun K1456 => run17_l4 p0 i1364 K1456 1000000 0 (List.replicate (4 + (p0 % 13)).toNat Hd.none)) h1389
            refine WC.join (fun σ1466 w1465 => ∃ l1453 : List Hd, ∃ a1454, ∃ c1455, σ1466 1 = (Value.slice a1 p1.length c1) ∧ σ1466 5 = (Value.int .i64 (4 + (p0 % 13))) ∧ σ1466 6 = (Value.pointer (some ⟨b881, 0, none⟩)) ∧ σ1466 8 = (Value.int .i64 i1363) ∧ σ1466 9 = (Value.int .i64 i1364) ∧ σ1466 10 = (Value.slice a1454 l1453.length c1455) ∧ elems boolW w1465 (In ok w [] [blk b881 83 ([Value.int .i64 i1365, Value.int .i64 i1366] ++ ((Value.int .i64 i1367) :: [])), gsl 60 heldE (Value.slice a1454 l1453.length c1455) l1453]) a1 p1 ∧ K1456 l1453 = some r ∧ St [] w w1465 [blk b881 83 ([Value.int .i64 i1365, Value.int .i64 i1366] ++ ((Value.int .i64 i1367) :: [])), gsl 60 heldE (Value.slice a1454 l1453.length c1455) l1453]) ?_ ?_
            · refine WC.block ?_
              refine WC.loop (T := Nat) (fun k1462 σ1460 w1459 => ∃ i1449 : Int, ∃ l1450 : List Hd, ∃ a1451, ∃ c1452, σ1460 1 = (Value.slice a1 p1.length c1) ∧ σ1460 5 = (Value.int .i64 (4 + (p0 % 13))) ∧ σ1460 6 = (Value.pointer (some ⟨b881, 0, none⟩)) ∧ σ1460 8 = (Value.int .i64 i1363) ∧ σ1460 9 = (Value.int .i64 i1364) ∧ σ1460 10 = (Value.slice a1451 l1450.length c1452) ∧ σ1460 11 = (Value.int .i64 i1449) ∧ elems boolW w1459 (In ok w [] [blk b881 83 ([Value.int .i64 i1365, Value.int .i64 i1366] ++ ((Value.int .i64 i1367) :: [])), gsl 60 heldE (Value.slice a1451 l1450.length c1452) l1450]) a1 p1 ∧ run17_l4 p0 i1364 K1456 k1462 i1449 l1450 = some r ∧ St [] w w1459 [blk b881 83 ([Value.int .i64 i1365, Value.int .i64 i1366] ++ ((Value.int .i64 i1367) :: [])), gsl 60 heldE (Value.slice a1451 l1450.length c1452) l1450]) (fun k1462 => k1462) 1000000 ⟨0, List.replicate (4 + (p0 % 13)).toNat Hd.none, (some ⟨b1390, 0, none⟩), (4 + (p0 % 13)).toNat, s1381, s1382, s1383, s1384, s1385, rfl, rfl, hr1464, h1458, hs1396⟩ ?_
              rintro k1462 σ1460 w1459 ⟨i1449, l1450, a1451, c1452, s1470, s1471, s1472, s1473, s1474, s1475, s1476, he1463, h1469, hs1461⟩
              rcases k1462 with _ | k1462
              · rw [run17_l4] at h1469; cases h1469
              rw [run17_l4] at h1469
              refine WC.seq ?_
              refine WC.seq ?_
              refine WC.region ?_
              refine WL.val (R.move (v := Value.int .i64 i1449) (by exact s1476)) rfl ?_
              refine WL.val (R.move (v := Value.int .i64 (4 + (p0 % 13))) (by exact s1471)) rfl ?_
              by_cases hc1477 : i1449 < (4 + (p0 % 13))
              · have h1478 := ifT hc1477 h1469
                refine WL.val (R.lssT (k := .i64) (a := i1449) (b := 4 + (p0 % 13)) un3 rfl rfl hc1477) rfl ?_
                refine WL.nil ?_
                refine thenN ?_
                refine WC.condT rfl rfl ?_
                refine WC.skip ?_
                refine thenN ?_
                refine WC.seq ?_
                refine WC.block ?_
                refine WC.region ?_
                refine WL.val (R.move (v := Value.slice a1451 l1450.length c1452) (by exact s1475)) rfl ?_
                refine WL.val (R.move (v := Value.int .i64 i1449) (by exact s1476)) rfl ?_
                refine WL.val (R.move (v := Value.int .i64 i1364) (by exact s1474)) rfl ?_
                have hd1479 : ∀ w, (Instr.build 58 #[(0, Value.int .i64 i1364)]).run Try.prog w = .ok (Value.agg (List.toArray (encC (⟨i1364, Cl.zero.offer, Cl.zero.report, Cl.zero.view⟩ : Cl)))) w := fun _ => by kernel_rfl
                refine WL.val (R.build (vs := [(0, Value.int .i64 i1364)]) rfl hd1479) rfl ?_
                have hd1480 : ∀ w, (Instr.build 60 #[(0, Value.bool true), (1, Value.agg (List.toArray (encC (⟨i1364, Cl.zero.offer, Cl.zero.report, Cl.zero.view⟩ : Cl))))]).run Try.prog w = .ok (Value.agg (List.toArray (encH (⟨true, (⟨i1364, Cl.zero.offer, Cl.zero.report, Cl.zero.view⟩ : Cl)⟩ : Hd)))) w := fun _ => by kernel_rfl
                refine WL.val (R.build (vs := [(0, Value.bool true), (1, Value.agg (List.toArray (encC (⟨i1364, Cl.zero.offer, Cl.zero.report, Cl.zero.view⟩ : Cl))))]) rfl hd1480) rfl ?_
                obtain ⟨x1481, hx1482, h1483⟩ := ob (o := rd l1450 i1449) h1478
                obtain ⟨h01484, hx1485, hl1486, hm1487⟩ := rdE hx1482
                obtain ⟨b1488, c1489, hv1490, _⟩ := hs1461.gslAt (i := 1) rfl hx1485
                refine WL.val (R.indexS (n := 56) (m := (i1449).toNat) (ad := ⟨b1488, 0, none⟩) (len := (l1450).length) (cap := c1489) (z := i1449) un28 ag60.size (Eq.trans (show _ = Value.slice a1451 l1450.length c1452 from rfl) hv1490) rfl rfl hm1487 hl1486 rfl) rfl ?_
                refine WL.sto (L' := [blk b881 83 ([Value.int .i64 i1365, Value.int .i64 i1366] ++ ((Value.int .i64 i1367) :: [])), gsl 60 heldE (Value.slice a1451 l1450.length c1452) ((l1450).set (i1449).toNat (⟨true, (⟨i1364, Cl.zero.offer, Cl.zero.report, Cl.zero.view⟩ : Cl)⟩ : Hd))]) (X.storeEl (i := 1) (j := (i1449).toNat) (off := 0) (n := 56) (x := x1481) (y := (⟨true, (⟨i1364, Cl.zero.offer, Cl.zero.report, Cl.zero.view⟩ : Cl)⟩ : Hd)) (vs := encH (⟨true, (⟨i1364, Cl.zero.offer, Cl.zero.report, Cl.zero.view⟩ : Cl)⟩ : Hd)) (u := Value.agg (List.toArray (encH (⟨true, (⟨i1364, Cl.zero.offer, Cl.zero.report, Cl.zero.view⟩ : Cl)⟩ : Hd)))) (hs1461.here) rfl hx1485 hv1490 ag60.size rfl rfl rfl rfl rfl rfl (by decide) (rfl) rfl) rfl rfl ?_
                intro w1491 ht1492
                have hs1493 := hs1461.trans ht1492
                have hs1494 : St [] w w1491 [blk b881 83 ([Value.int .i64 i1365, Value.int .i64 i1366] ++ ((Value.int .i64 i1367) :: [])), gsl 60 heldE (Value.slice a1451 (((l1450).set (i1449).toNat (⟨true, (⟨i1364, Cl.zero.offer, Cl.zero.report, Cl.zero.view⟩ : Cl)⟩ : Hd)).length) c1452) ((l1450).set (i1449).toNat (⟨true, (⟨i1364, Cl.zero.offer, Cl.zero.report, Cl.zero.view⟩ : Cl)⟩ : Hd))] := by simpa only [List.length_set] using hs1493
                have ht1495 : St [blk b881 83 ([Value.int .i64 i1365, Value.int .i64 i1366] ++ ((Value.int .i64 i1367) :: [])), gsl 60 heldE (Value.slice a1451 l1450.length c1452) l1450] w1459 w1491 [blk b881 83 ([Value.int .i64 i1365, Value.int .i64 i1366] ++ ((Value.int .i64 i1367) :: [])), gsl 60 heldE (Value.slice a1451 (((l1450).set (i1449).toNat (⟨true, (⟨i1364, Cl.zero.offer, Cl.zero.report, Cl.zero.view⟩ : Cl)⟩ : Hd)).length) c1452) ((l1450).set (i1449).toNat (⟨true, (⟨i1364, Cl.zero.offer, Cl.zero.report, Cl.zero.view⟩ : Cl)⟩ : Hd))] := by simpa only [List.length_set] using ht1492
                refine WL.nil ?_
                refine blockN ?_
                refine thenN ?_
                refine WC.region ?_
                refine WL.val (R.move (v := Value.int .i64 i1449) (by exact s1476)) rfl ?_
                obtain ⟨hg1496, h1497⟩ := ckE (c := -9223372036854775808 ≤ i1449 + 1 ∧ i1449 + 1 ≤ 9223372036854775807) h1483
                refine WL.val (R.add (a := i1449) (b := 1) (z := i1449 + 1) rfl rfl (w64e rfl hg1496.1 hg1496.2)) rfl ?_
                refine WL.val (R.assign (v := Value.int .i64 (i1449 + 1)) rfl) rfl ?_
                refine WL.nil ?_
                have hr1498 := elT ht1495 he1463
                exact roundEnd (s := k1462) ⟨i1449 + 1, (l1450).set (i1449).toNat (⟨true, (⟨i1364, Cl.zero.offer, Cl.zero.report, Cl.zero.view⟩ : Cl)⟩ : Hd), a1451, c1452, s1470, s1471, s1472, s1473, s1474, (Eq.trans (show _ = Value.slice a1451 l1450.length c1452 from s1475) (by simp only [List.length_set])), rfl, hr1498, h1497, hs1494⟩ (Nat.lt_succ_self _)
              · have h1499 := ifF hc1477 h1469
                refine WL.val (R.lssF (k := .i64) (a := i1449) (b := 4 + (p0 % 13)) un3 rfl rfl hc1477) rfl ?_
                refine WL.nil ?_
                refine thenN ?_
                refine WC.condF rfl rfl ?_
                refine WC.exit ?_
                refine thenE ?_
                refine thenE ?_
                refine blockHit ?_
                exact joinI ⟨l1450, a1451, c1452, s1470, s1471, s1472, s1473, s1474, s1475, he1463, h1499, hs1461⟩
            · rintro σ1466 w1465 ⟨l1453, a1454, c1455, s1501, s1502, s1503, s1504, s1505, s1506, he1468, h1500, hs1467⟩
              subst hK1457
              refine thenN ?_
              refine WC.seq ?_
              refine WC.region ?_
              refine WL.val (R.move (v := Value.slice a1454 l1453.length c1455) (by exact s1506)) rfl ?_
              refine WL.val (R.move (v := Value.int .i64 i1364) (by exact s1505)) rfl ?_
              refine WL.val (R.move (v := Value.int .i64 (4 + (p0 % 13))) (by exact s1502)) rfl ?_
              obtain ⟨hg1507, h1508⟩ := ckE (c := 0 ≤ i1364 ∧ 0 < (4 + (p0 % 13) : Int) ∧ (4 + (p0 % 13) : Int) ≤ 9223372036854775807) h1500
              refine WL.val (R.remG (a := i1364) (b := 4 + (p0 % 13)) rfl rfl hg1507 (by decide)) rfl ?_
              refine WL.val (R.move (v := Value.int .i64 i1364) (by exact s1505)) rfl ?_
              obtain ⟨hg1509, h1510⟩ := ckE (c := -9223372036854775808 ≤ i1364 + 7 ∧ i1364 + 7 ≤ 9223372036854775807) h1508
              refine WL.val (R.add (a := i1364) (b := 7) (z := i1364 + 7) rfl rfl (w64e rfl hg1509.1 hg1509.2)) rfl ?_
              obtain ⟨x1511, hx1512, h1513⟩ := ob (o := rd l1453 (i1364 % (4 + (p0 % 13)))) h1510
              obtain ⟨h01514, hx1515, hl1516, hm1517⟩ := rdE hx1512
              obtain ⟨b1518, c1519, hv1520, _⟩ := hs1467.gslAt (i := 1) rfl hx1515
              refine WL.val (R.indexS (n := 56) (m := (i1364 % (4 + (p0 % 13))).toNat) (ad := ⟨b1518, 0, none⟩) (len := (l1453).length) (cap := c1519) (z := i1364 % (4 + (p0 % 13))) un28 ag60.size (Eq.trans (show _ = Value.slice a1454 l1453.length c1455 from rfl) hv1520) rfl rfl hm1517 hl1516 rfl) rfl ?_
              refine WL.val (R.fieldAddr (o := 0 + (i1364 % (4 + (p0 % 13))).toNat * 56) (o' := 0 + (i1364 % (4 + (p0 % 13))).toNat * 56 + 1) fa60_1 rfl rfl) rfl ?_
              refine WL.val (R.fieldAddr (o := 0 + (i1364 % (4 + (p0 % 13))).toNat * 56 + 1) (o' := 0 + (i1364 % (4 + (p0 % 13))).toNat * 56 + 1) fa58_0 rfl rfl) rfl ?_
              refine WL.sto (L' := [blk b881 83 ([Value.int .i64 i1365, Value.int .i64 i1366] ++ ((Value.int .i64 i1367) :: [])), gsl 60 heldE (Value.slice a1454 l1453.length c1455) ((l1453).set (i1364 % (4 + (p0 % 13))).toNat (⟨x1511.is, (⟨i1364 + 7, x1511.cell.offer, x1511.cell.report, x1511.cell.view⟩ : Cl)⟩ : Hd))]) (X.storeEl (i := 1) (j := (i1364 % (4 + (p0 % 13))).toNat) (off := 1) (n := 1) (x := x1511) (y := (⟨x1511.is, (⟨i1364 + 7, x1511.cell.offer, x1511.cell.report, x1511.cell.view⟩ : Cl)⟩ : Hd)) (vs := [Value.int .i64 (i1364 + 7)]) (u := Value.int .i64 (i1364 + 7)) (hs1467.here) rfl hx1515 hv1520 lf2.size rfl rfl rfl rfl rfl rfl (by decide) (rfl) rfl) rfl rfl ?_
              intro w1521 ht1522
              have hs1523 := hs1467.trans ht1522
              have hs1524 : St [] w w1521 [blk b881 83 ([Value.int .i64 i1365, Value.int .i64 i1366] ++ ((Value.int .i64 i1367) :: [])), gsl 60 heldE (Value.slice a1454 (((l1453).set (i1364 % (4 + (p0 % 13))).toNat (⟨x1511.is, (⟨i1364 + 7, x1511.cell.offer, x1511.cell.report, x1511.cell.view⟩ : Cl)⟩ : Hd)).length) c1455) ((l1453).set (i1364 % (4 + (p0 % 13))).toNat (⟨x1511.is, (⟨i1364 + 7, x1511.cell.offer, x1511.cell.report, x1511.cell.view⟩ : Cl)⟩ : Hd))] := by simpa only [List.length_set] using hs1523
              have ht1525 : St [blk b881 83 ([Value.int .i64 i1365, Value.int .i64 i1366] ++ ((Value.int .i64 i1367) :: [])), gsl 60 heldE (Value.slice a1454 l1453.length c1455) l1453] w1465 w1521 [blk b881 83 ([Value.int .i64 i1365, Value.int .i64 i1366] ++ ((Value.int .i64 i1367) :: [])), gsl 60 heldE (Value.slice a1454 (((l1453).set (i1364 % (4 + (p0 % 13))).toNat (⟨x1511.is, (⟨i1364 + 7, x1511.cell.offer, x1511.cell.report, x1511.cell.view⟩ : Cl)⟩ : Hd)).length) c1455) ((l1453).set (i1364 % (4 + (p0 % 13))).toNat (⟨x1511.is, (⟨i1364 + 7, x1511.cell.offer, x1511.cell.report, x1511.cell.view⟩ : Cl)⟩ : Hd))] := by simpa only [List.length_set] using ht1522
              refine WL.nil ?_
              refine thenN ?_
              refine WC.seq ?_
              refine WC.region ?_
              refine WL.val (R.move (v := Value.int .i64 i1363) (by exact s1504)) rfl ?_
              obtain ⟨hg1526, h1527⟩ := ckE (c := -9223372036854775808 ≤ i1363 + 1 ∧ i1363 + 1 ≤ 9223372036854775807) h1513
              refine WL.val (R.add (a := i1363) (b := 1) (z := i1363 + 1) rfl rfl (w64e rfl hg1526.1 hg1526.2)) rfl ?_
              refine WL.val (R.assign (v := Value.int .i64 (i1363 + 1)) rfl) rfl ?_
              refine WL.nil ?_
              refine thenN ?_
              refine WC.seq ?_
              refine WC.seq ?_
              refine WC.region ?_
              refine WL.val (R.move (v := Value.slice a1 p1.length c1) (by exact s1501)) rfl ?_
              refine WL.val (R.move (v := Value.int .i64 i1364) (by exact s1505)) rfl ?_
              obtain ⟨x1528, hx1529, h1530⟩ := ob (o := rd p1 i1364) h1527
              obtain ⟨h01531, hx1532, hl1533, hm1534⟩ := rdE hx1529
              have hr1535 := elT ht1525 he1468
              obtain ⟨ad1536, e1541, ha1537, hp1538, hat1539, hrd1540⟩ := hr1535 _ _ hx1532
              obtain ⟨-, rfl⟩ := hrd1540
              refine WL.val (R.indexS (n := 1) (m := (i1364).toNat) (a := a1) (ad := ad1536) (len := p1.length) (cap := c1) (z := i1364) un85 lf4.size rfl ha1537 rfl hm1534 hl1533 hp1538) rfl ?_
              refine WL.val (R.loadL (v := Value.bool x1528) lf4 rfl hat1539) rfl ?_
              refine WL.nil ?_
              refine thenN ?_
              by_cases hc1543 : x1528 = true
              · have h1544 := ifT hc1543 h1530
                refine WC.condT (Eq.trans (show _ = Value.bool x1528 from rfl) (congrArg Value.bool hc1543)) rfl ?_
                refine WC.seq ?_
                refine WC.region ?_
                refine WL.val (R.move (v := Value.slice a1454 (((l1453).set (i1364 % (4 + (p0 % 13))).toNat (⟨x1511.is, (⟨i1364 + 7, x1511.cell.offer, x1511.cell.report, x1511.cell.view⟩ : Cl)⟩ : Hd)).length) c1455) (by exact (Eq.trans (show _ = Value.slice a1454 l1453.length c1455 from s1506) (by simp only [List.length_set])))) rfl ?_
                refine WL.val (R.move (v := Value.int .i64 i1364) (by exact s1505)) rfl ?_
                obtain ⟨hg1545, h1546⟩ := ckE (c := -9223372036854775808 ≤ i1364 + 1 ∧ i1364 + 1 ≤ 9223372036854775807) h1544
                refine WL.val (R.add (a := i1364) (b := 1) (z := i1364 + 1) rfl rfl (w64e rfl hg1545.1 hg1545.2)) rfl ?_
                refine WL.val (R.move (v := Value.int .i64 (4 + (p0 % 13))) (by exact s1502)) rfl ?_
                obtain ⟨hg1547, h1548⟩ := ckE (c := 0 ≤ i1364 + 1 ∧ 0 < (4 + (p0 % 13) : Int) ∧ (4 + (p0 % 13) : Int) ≤ 9223372036854775807) h1546
                refine WL.val (R.remG (a := i1364 + 1) (b := 4 + (p0 % 13)) rfl rfl hg1547 (by decide)) rfl ?_
                obtain ⟨x1549, hx1550, h1551⟩ := ob (o := rd ((l1453).set (i1364 % (4 + (p0 % 13))).toNat (⟨x1511.is, (⟨i1364 + 7, x1511.cell.offer, x1511.cell.report, x1511.cell.view⟩ : Cl)⟩ : Hd)) ((i1364 + 1) % (4 + (p0 % 13)))) h1548
                obtain ⟨h01552, hx1553, hl1554, hm1555⟩ := rdE hx1550
                obtain ⟨b1556, c1557, hv1558, _⟩ := hs1524.gslAt (i := 1) rfl hx1553
                refine WL.val (R.indexS (n := 56) (m := ((i1364 + 1) % (4 + (p0 % 13))).toNat) (ad := ⟨b1556, 0, none⟩) (len := ((l1453).set (i1364 % (4 + (p0 % 13))).toNat (⟨x1511.is, (⟨i1364 + 7, x1511.cell.offer, x1511.cell.report, x1511.cell.view⟩ : Cl)⟩ : Hd)).length) (cap := c1557) (z := (i1364 + 1) % (4 + (p0 % 13))) un28 ag60.size (Eq.trans (show _ = Value.slice a1454 (((l1453).set (i1364 % (4 + (p0 % 13))).toNat (⟨x1511.is, (⟨i1364 + 7, x1511.cell.offer, x1511.cell.report, x1511.cell.view⟩ : Cl)⟩ : Hd)).length) c1455 from rfl) hv1558) rfl rfl hm1555 hl1554 rfl) rfl ?_
                refine WL.val (R.fieldAddr (o := 0 + ((i1364 + 1) % (4 + (p0 % 13))).toNat * 56) (o' := 0 + ((i1364 + 1) % (4 + (p0 % 13))).toNat * 56) fa60_0 rfl rfl) rfl ?_
                refine WL.sto (L' := [blk b881 83 ([Value.int .i64 i1365, Value.int .i64 i1366] ++ ((Value.int .i64 i1367) :: [])), gsl 60 heldE (Value.slice a1454 (((l1453).set (i1364 % (4 + (p0 % 13))).toNat (⟨x1511.is, (⟨i1364 + 7, x1511.cell.offer, x1511.cell.report, x1511.cell.view⟩ : Cl)⟩ : Hd)).length) c1455) (((l1453).set (i1364 % (4 + (p0 % 13))).toNat (⟨x1511.is, (⟨i1364 + 7, x1511.cell.offer, x1511.cell.report, x1511.cell.view⟩ : Cl)⟩ : Hd)).set ((i1364 + 1) % (4 + (p0 % 13))).toNat (⟨false, x1549.cell⟩ : Hd))]) (X.storeEl (i := 1) (j := ((i1364 + 1) % (4 + (p0 % 13))).toNat) (off := 0) (n := 1) (x := x1549) (y := (⟨false, x1549.cell⟩ : Hd)) (vs := [Value.bool false]) (u := Value.bool false) (hs1524.here) rfl hx1553 hv1558 lf4.size rfl rfl rfl rfl rfl rfl (by decide) (rfl) rfl) rfl rfl ?_
                intro w1559 ht1560
                have hs1561 := hs1524.trans ht1560
                have hs1562 : St [] w w1559 [blk b881 83 ([Value.int .i64 i1365, Value.int .i64 i1366] ++ ((Value.int .i64 i1367) :: [])), gsl 60 heldE (Value.slice a1454 ((((l1453).set (i1364 % (4 + (p0 % 13))).toNat (⟨x1511.is, (⟨i1364 + 7, x1511.cell.offer, x1511.cell.report, x1511.cell.view⟩ : Cl)⟩ : Hd)).set ((i1364 + 1) % (4 + (p0 % 13))).toNat (⟨false, x1549.cell⟩ : Hd)).length) c1455) (((l1453).set (i1364 % (4 + (p0 % 13))).toNat (⟨x1511.is, (⟨i1364 + 7, x1511.cell.offer, x1511.cell.report, x1511.cell.view⟩ : Cl)⟩ : Hd)).set ((i1364 + 1) % (4 + (p0 % 13))).toNat (⟨false, x1549.cell⟩ : Hd))] := by simpa only [List.length_set] using hs1561
                have ht1563 : St [blk b881 83 ([Value.int .i64 i1365, Value.int .i64 i1366] ++ ((Value.int .i64 i1367) :: [])), gsl 60 heldE (Value.slice a1454 (((l1453).set (i1364 % (4 + (p0 % 13))).toNat (⟨x1511.is, (⟨i1364 + 7, x1511.cell.offer, x1511.cell.report, x1511.cell.view⟩ : Cl)⟩ : Hd)).length) c1455) ((l1453).set (i1364 % (4 + (p0 % 13))).toNat (⟨x1511.is, (⟨i1364 + 7, x1511.cell.offer, x1511.cell.report, x1511.cell.view⟩ : Cl)⟩ : Hd))] w1521 w1559 [blk b881 83 ([Value.int .i64 i1365, Value.int .i64 i1366] ++ ((Value.int .i64 i1367) :: [])), gsl 60 heldE (Value.slice a1454 ((((l1453).set (i1364 % (4 + (p0 % 13))).toNat (⟨x1511.is, (⟨i1364 + 7, x1511.cell.offer, x1511.cell.report, x1511.cell.view⟩ : Cl)⟩ : Hd)).set ((i1364 + 1) % (4 + (p0 % 13))).toNat (⟨false, x1549.cell⟩ : Hd)).length) c1455) (((l1453).set (i1364 % (4 + (p0 % 13))).toNat (⟨x1511.is, (⟨i1364 + 7, x1511.cell.offer, x1511.cell.report, x1511.cell.view⟩ : Cl)⟩ : Hd)).set ((i1364 + 1) % (4 + (p0 % 13))).toNat (⟨false, x1549.cell⟩ : Hd))] := by simpa only [List.length_set] using ht1560
                refine WL.nil ?_
                refine thenN ?_
                refine WC.region ?_
                refine WL.val (R.assign (v := Value.int .i64 0) rfl) rfl ?_
                refine WL.nil ?_
                refine thenN ?_
                refine WC.seq ?_
                refine WC.region ?_
                refine WL.val (R.move (v := Value.pointer (some ⟨b881, 0, none⟩)) (by exact s1503)) rfl ?_
                refine WL.val (R.move (v := Value.slice a1454 ((((l1453).set (i1364 % (4 + (p0 % 13))).toNat (⟨x1511.is, (⟨i1364 + 7, x1511.cell.offer, x1511.cell.report, x1511.cell.view⟩ : Cl)⟩ : Hd)).set ((i1364 + 1) % (4 + (p0 % 13))).toNat (⟨false, x1549.cell⟩ : Hd)).length) c1455) (by exact (Eq.trans (show _ = Value.slice a1454 (((l1453).set (i1364 % (4 + (p0 % 13))).toNat (⟨x1511.is, (⟨i1364 + 7, x1511.cell.offer, x1511.cell.report, x1511.cell.view⟩ : Cl)⟩ : Hd)).length) c1455 from (Eq.trans (show _ = Value.slice a1454 l1453.length c1455 from s1506) (by simp only [List.length_set]))) (by simp only [List.length_set])))) rfl ?_
                refine WL.val (R.move (v := Value.int .i64 i1364) (by exact s1505)) rfl ?_
                obtain ⟨a1564, c1565, hv1566, hl1567, he1568⟩ := el_freeze (k := heldW) (ok := ok) hs1562 ((List.perm_middle (l₁ := [blk b881 83 ([Value.int .i64 i1365, Value.int .i64 i1366] ++ ((Value.int .i64 i1367) :: []))]) (a := gsl 60 heldE (Value.slice a1454 ((((l1453).set (i1364 % (4 + (p0 % 13))).toNat (⟨x1511.is, (⟨i1364 + 7, x1511.cell.offer, x1511.cell.report, x1511.cell.view⟩ : Cl)⟩ : Hd)).set ((i1364 + 1) % (4 + (p0 % 13))).toNat (⟨false, x1549.cell⟩ : Hd)).length) c1455) (((l1453).set (i1364 % (4 + (p0 % 13))).toNat (⟨x1511.is, (⟨i1364 + 7, x1511.cell.offer, x1511.cell.report, x1511.cell.view⟩ : Cl)⟩ : Hd)).set ((i1364 + 1) % (4 + (p0 % 13))).toNat (⟨false, x1549.cell⟩ : Hd))) (l₂ := [])).trans (List.Perm.cons _ (List.Perm.refl _))) rfl (fun _ _ _ => ⟨trivial, rfl⟩)
                obtain ⟨rfl, rfl⟩ : a1454 = a1564 ∧ c1455 = c1565 := ⟨(Value.slice.inj hv1566).1, (Value.slice.inj hv1566).2.2⟩
                have ht1569 := (hs1562.here).perm (L' := [blk b881 83 ([Value.int .i64 i1365, Value.int .i64 i1366] ++ ((Value.int .i64 i1367) :: []))]) (G := [gsl 60 heldE (Value.slice a1454 ((((l1453).set (i1364 % (4 + (p0 % 13))).toNat (⟨x1511.is, (⟨i1364 + 7, x1511.cell.offer, x1511.cell.report, x1511.cell.view⟩ : Cl)⟩ : Hd)).set ((i1364 + 1) % (4 + (p0 % 13))).toNat (⟨false, x1549.cell⟩ : Hd)).length) c1455) (((l1453).set (i1364 % (4 + (p0 % 13))).toNat (⟨x1511.is, (⟨i1364 + 7, x1511.cell.offer, x1511.cell.report, x1511.cell.view⟩ : Cl)⟩ : Hd)).set ((i1364 + 1) % (4 + (p0 % 13))).toNat (⟨false, x1549.cell⟩ : Hd))]) ((List.Perm.refl _))
                have hs1570 := hs1562.trans ht1569
                obtain ⟨y1572, hx1573, h1574⟩ := ob (o := step17 ((i1365, i1366), i1367) (((l1453).set (i1364 % (4 + (p0 % 13))).toNat (⟨x1511.is, (⟨i1364 + 7, x1511.cell.offer, x1511.cell.report, x1511.cell.view⟩ : Cl)⟩ : Hd)).set ((i1364 + 1) % (4 + (p0 % 13))).toNat (⟨false, x1549.cell⟩ : Hd)) i1364) h1551
                refine WL.call (step17_ok _ _ ((i1365, i1366), i1367) (((l1453).set (i1364 % (4 + (p0 % 13))).toNat (⟨x1511.is, (⟨i1364 + 7, x1511.cell.offer, x1511.cell.report, x1511.cell.view⟩ : Cl)⟩ : Hd)).set ((i1364 + 1) % (4 + (p0 % 13))).toNat (⟨false, x1549.cell⟩ : Hd)) i1364 _ _ he1568 hl1567 b881 (In.outM (M := [blk b881 83 ([Value.int .i64 i1365, Value.int .i64 i1366] ++ ((Value.int .i64 i1367) :: []))]) (N := []) ((List.Perm.refl _))) (show St [blk b881 83 ([Value.int .i64 i1365, Value.int .i64 i1366] ++ ((Value.int .i64 i1367) :: []))] _ _ [blk b881 83 ([Value.int .i64 i1365, Value.int .i64 i1366] ++ ((Value.int .i64 i1367) :: []))] from St.ofM (M := [blk b881 83 ([Value.int .i64 i1365, Value.int .i64 i1366] ++ ((Value.int .i64 i1367) :: []))]) (N := []) hs1570 ((List.Perm.refl _))) hx1573) (R.call (vs := [Value.pointer (some ⟨b881, 0, none⟩), Value.slice a1454 ((((l1453).set (i1364 % (4 + (p0 % 13))).toNat (⟨x1511.is, (⟨i1364 + 7, x1511.cell.offer, x1511.cell.report, x1511.cell.view⟩ : Cl)⟩ : Hd)).set ((i1364 + 1) % (4 + (p0 % 13))).toNat (⟨false, x1549.cell⟩ : Hd)).length) c1455, Value.int .i64 i1364]) (caps := []) bo47 rfl rfl) rfl ?_
                rintro v1577 w1578 ⟨rfl, ht1575⟩
                have ht1576 := hs1570.call (N := []) (M := [blk b881 83 ([Value.int .i64 i1365, Value.int .i64 i1366] ++ ((Value.int .i64 i1367) :: []))]) ((List.Perm.refl _)) ht1575
                have hs1579 := hs1570.trans ht1576
                refine WL.val (R.move (v := Value.int .i64 0) rfl) rfl ?_
                refine WL.val (R.move (v := Value.int .i64 (4 + (p0 % 13))) (by exact s1502)) rfl ?_
                obtain ⟨hg1580, h1581⟩ := ckE (c := -9223372036854775808 ≤ 2 * (4 + (p0 % 13)) ∧ 2 * (4 + (p0 % 13)) ≤ 9223372036854775807) h1574
                refine WL.val (R.mul (a := 2) (b := 4 + (p0 % 13)) (z := 2 * (4 + (p0 % 13))) rfl rfl (w64e rfl hg1580.1 hg1580.2)) rfl ?_
                by_cases hc1582 : (2 * (4 + (p0 % 13))) ≤ 0
                · have h1583 := ifT hc1582 h1581
                  refine WL.val (R.geqT (k := .i64) (a := 0) (b := 2 * (4 + (p0 % 13))) un3 rfl rfl hc1582) rfl ?_
                  by_cases hc1584 : y1572.1 = true
                  · have h1585 := ifT hc1584 h1583
                    refine WL.val (R.neB (a := true) (b := true) un4 (Eq.trans (show _ = Value.bool y1572.1 from rfl) (congrArg Value.bool hc1584)) rfl) rfl ?_
                    refine WL.nil ?_
                    refine thenN ?_
                    refine WC.condF rfl rfl ?_
                    refine WC.skip ?_
                    refine blockN ?_
                    refine thenN ?_
                    refine WC.region ?_
                    refine WL.val (R.move (v := Value.int .i64 i1364) (by exact s1505)) rfl ?_
                    refine WL.val (R.add (a := i1364) (b := 1) (z := i1364 + 1) rfl rfl (w64e rfl hg1545.1 hg1545.2)) rfl ?_
                    refine WL.val (R.assign (v := Value.int .i64 (i1364 + 1)) rfl) rfl ?_
                    refine WL.nil ?_
                    have hr1586 := elT ((ht1563.trans ht1569).trans ht1576) hr1535
                    exact roundEnd (s := k1374) ⟨0, i1364 + 1, y1572.2.1.1, y1572.2.1.2, y1572.2.2, s1501, s1502, s1503, rfl, rfl, hr1586, h1585, hs1579⟩ (Nat.lt_succ_self _)
                  · have h1587 := ifF hc1584 h1583
                    refine WL.val (R.neB (a := false) (b := true) un4 (Eq.trans (show _ = Value.bool y1572.1 from rfl) (congrArg Value.bool (Bool.eq_false_iff.2 hc1584))) rfl) rfl ?_
                    refine WL.nil ?_
                    refine thenN ?_
                    refine WC.condT rfl rfl ?_
                    refine WC.seq ?_
                    refine WC.region ?_
                    refine WL.val (R.assign (v := Value.bool false) rfl) rfl ?_
                    refine WL.nil ?_
                    refine thenN ?_
                    refine WC.ret ?_
                    have ht1588 := (hs1579.here).perm (L' := []) (G := [blk b881 83 ([Value.int .i64 y1572.2.1.1, Value.int .i64 y1572.2.1.2] ++ ((Value.int .i64 y1572.2.2) :: []))]) ((List.Perm.refl _))
                    have hs1589 := hs1579.trans ht1588
                    obtain rfl := Option.some.inj (show some false = some r from h1587)
                    exact ret1 (P := Try.prog) (n := 78) (fn := Try.f7) (R := fun v w' => v = Value.bool false ∧ St [] w w' []) (t := 4) (v := Value.bool false) rfl rfl rfl ⟨rfl, hs1589⟩
                · have h1590 := ifF hc1582 h1581
                  refine WL.val (R.geqF (k := .i64) (a := 0) (b := 2 * (4 + (p0 % 13))) un3 rfl rfl hc1582) rfl ?_
                  by_cases hc1591 : y1572.1 = true
                  · have h1592 := ifT hc1591 h1590
                    refine WL.val (R.neB (a := true) (b := false) un4 (Eq.trans (show _ = Value.bool y1572.1 from rfl) (congrArg Value.bool hc1591)) rfl) rfl ?_
                    refine WL.nil ?_
                    refine thenN ?_
                    refine WC.condT rfl rfl ?_
                    refine WC.seq ?_
                    refine WC.region ?_
                    refine WL.val (R.assign (v := Value.bool false) rfl) rfl ?_
                    refine WL.nil ?_
                    refine thenN ?_
                    refine WC.ret ?_
                    have ht1593 := (hs1579.here).perm (L' := []) (G := [blk b881 83 ([Value.int .i64 y1572.2.1.1, Value.int .i64 y1572.2.1.2] ++ ((Value.int .i64 y1572.2.2) :: []))]) ((List.Perm.refl _))
                    have hs1594 := hs1579.trans ht1593
                    obtain rfl := Option.some.inj (show some false = some r from h1592)
                    exact ret1 (P := Try.prog) (n := 78) (fn := Try.f7) (R := fun v w' => v = Value.bool false ∧ St [] w w' []) (t := 4) (v := Value.bool false) rfl rfl rfl ⟨rfl, hs1594⟩
                  · have h1595 := ifF hc1591 h1590
                    refine WL.val (R.neB (a := false) (b := false) un4 (Eq.trans (show _ = Value.bool y1572.1 from rfl) (congrArg Value.bool (Bool.eq_false_iff.2 hc1591))) rfl) rfl ?_
                    refine WL.nil ?_
                    refine thenN ?_
                    refine WC.condF rfl rfl ?_
                    refine WC.skip ?_
                    refine blockN ?_
                    refine thenN ?_
                    refine WC.region ?_
                    refine WL.val (R.move (v := Value.int .i64 i1364) (by exact s1505)) rfl ?_
                    refine WL.val (R.add (a := i1364) (b := 1) (z := i1364 + 1) rfl rfl (w64e rfl hg1545.1 hg1545.2)) rfl ?_
                    refine WL.val (R.assign (v := Value.int .i64 (i1364 + 1)) rfl) rfl ?_
                    refine WL.nil ?_
                    have hr1596 := elT ((ht1563.trans ht1569).trans ht1576) hr1535
                    exact roundEnd (s := k1374) ⟨0, i1364 + 1, y1572.2.1.1, y1572.2.1.2, y1572.2.2, s1501, s1502, s1503, rfl, rfl, hr1596, h1595, hs1579⟩ (Nat.lt_succ_self _)
              · have h1597 := ifF hc1543 h1530
                refine WC.condF (Eq.trans (show _ = Value.bool x1528 from rfl) (congrArg Value.bool (Bool.eq_false_iff.2 hc1543))) rfl ?_
                refine WC.skip ?_
                refine thenN ?_
                refine WC.seq ?_
                refine WC.region ?_
                refine WL.val (R.move (v := Value.pointer (some ⟨b881, 0, none⟩)) (by exact s1503)) rfl ?_
                refine WL.val (R.move (v := Value.slice a1454 (((l1453).set (i1364 % (4 + (p0 % 13))).toNat (⟨x1511.is, (⟨i1364 + 7, x1511.cell.offer, x1511.cell.report, x1511.cell.view⟩ : Cl)⟩ : Hd)).length) c1455) (by exact (Eq.trans (show _ = Value.slice a1454 l1453.length c1455 from s1506) (by simp only [List.length_set])))) rfl ?_
                refine WL.val (R.move (v := Value.int .i64 i1364) (by exact s1505)) rfl ?_
                obtain ⟨a1598, c1599, hv1600, hl1601, he1602⟩ := el_freeze (k := heldW) (ok := ok) hs1524 ((List.perm_middle (l₁ := [blk b881 83 ([Value.int .i64 i1365, Value.int .i64 i1366] ++ ((Value.int .i64 i1367) :: []))]) (a := gsl 60 heldE (Value.slice a1454 (((l1453).set (i1364 % (4 + (p0 % 13))).toNat (⟨x1511.is, (⟨i1364 + 7, x1511.cell.offer, x1511.cell.report, x1511.cell.view⟩ : Cl)⟩ : Hd)).length) c1455) ((l1453).set (i1364 % (4 + (p0 % 13))).toNat (⟨x1511.is, (⟨i1364 + 7, x1511.cell.offer, x1511.cell.report, x1511.cell.view⟩ : Cl)⟩ : Hd))) (l₂ := [])).trans (List.Perm.cons _ (List.Perm.refl _))) rfl (fun _ _ _ => ⟨trivial, rfl⟩)
                obtain ⟨rfl, rfl⟩ : a1454 = a1598 ∧ c1455 = c1599 := ⟨(Value.slice.inj hv1600).1, (Value.slice.inj hv1600).2.2⟩
                have ht1603 := (hs1524.here).perm (L' := [blk b881 83 ([Value.int .i64 i1365, Value.int .i64 i1366] ++ ((Value.int .i64 i1367) :: []))]) (G := [gsl 60 heldE (Value.slice a1454 (((l1453).set (i1364 % (4 + (p0 % 13))).toNat (⟨x1511.is, (⟨i1364 + 7, x1511.cell.offer, x1511.cell.report, x1511.cell.view⟩ : Cl)⟩ : Hd)).length) c1455) ((l1453).set (i1364 % (4 + (p0 % 13))).toNat (⟨x1511.is, (⟨i1364 + 7, x1511.cell.offer, x1511.cell.report, x1511.cell.view⟩ : Cl)⟩ : Hd))]) ((List.Perm.refl _))
                have hs1604 := hs1524.trans ht1603
                obtain ⟨y1606, hx1607, h1608⟩ := ob (o := step17 ((i1365, i1366), i1367) ((l1453).set (i1364 % (4 + (p0 % 13))).toNat (⟨x1511.is, (⟨i1364 + 7, x1511.cell.offer, x1511.cell.report, x1511.cell.view⟩ : Cl)⟩ : Hd)) i1364) h1597
                refine WL.call (step17_ok _ _ ((i1365, i1366), i1367) ((l1453).set (i1364 % (4 + (p0 % 13))).toNat (⟨x1511.is, (⟨i1364 + 7, x1511.cell.offer, x1511.cell.report, x1511.cell.view⟩ : Cl)⟩ : Hd)) i1364 _ _ he1602 hl1601 b881 (In.outM (M := [blk b881 83 ([Value.int .i64 i1365, Value.int .i64 i1366] ++ ((Value.int .i64 i1367) :: []))]) (N := []) ((List.Perm.refl _))) (show St [blk b881 83 ([Value.int .i64 i1365, Value.int .i64 i1366] ++ ((Value.int .i64 i1367) :: []))] _ _ [blk b881 83 ([Value.int .i64 i1365, Value.int .i64 i1366] ++ ((Value.int .i64 i1367) :: []))] from St.ofM (M := [blk b881 83 ([Value.int .i64 i1365, Value.int .i64 i1366] ++ ((Value.int .i64 i1367) :: []))]) (N := []) hs1604 ((List.Perm.refl _))) hx1607) (R.call (vs := [Value.pointer (some ⟨b881, 0, none⟩), Value.slice a1454 (((l1453).set (i1364 % (4 + (p0 % 13))).toNat (⟨x1511.is, (⟨i1364 + 7, x1511.cell.offer, x1511.cell.report, x1511.cell.view⟩ : Cl)⟩ : Hd)).length) c1455, Value.int .i64 i1364]) (caps := []) bo47 rfl rfl) rfl ?_
                rintro v1611 w1612 ⟨rfl, ht1609⟩
                have ht1610 := hs1604.call (N := []) (M := [blk b881 83 ([Value.int .i64 i1365, Value.int .i64 i1366] ++ ((Value.int .i64 i1367) :: []))]) ((List.Perm.refl _)) ht1609
                have hs1613 := hs1604.trans ht1610
                refine WL.val (R.move (v := Value.int .i64 (i1363 + 1)) rfl) rfl ?_
                refine WL.val (R.move (v := Value.int .i64 (4 + (p0 % 13))) (by exact s1502)) rfl ?_
                obtain ⟨hg1614, h1615⟩ := ckE (c := -9223372036854775808 ≤ 2 * (4 + (p0 % 13)) ∧ 2 * (4 + (p0 % 13)) ≤ 9223372036854775807) h1608
                refine WL.val (R.mul (a := 2) (b := 4 + (p0 % 13)) (z := 2 * (4 + (p0 % 13))) rfl rfl (w64e rfl hg1614.1 hg1614.2)) rfl ?_
                by_cases hc1616 : (2 * (4 + (p0 % 13))) ≤ (i1363 + 1)
                · have h1617 := ifT hc1616 h1615
                  refine WL.val (R.geqT (k := .i64) (a := i1363 + 1) (b := 2 * (4 + (p0 % 13))) un3 rfl rfl hc1616) rfl ?_
                  by_cases hc1618 : y1606.1 = true
                  · have h1619 := ifT hc1618 h1617
                    refine WL.val (R.neB (a := true) (b := true) un4 (Eq.trans (show _ = Value.bool y1606.1 from rfl) (congrArg Value.bool hc1618)) rfl) rfl ?_
                    refine WL.nil ?_
                    refine thenN ?_
                    refine WC.condF rfl rfl ?_
                    refine WC.skip ?_
                    refine blockN ?_
                    refine thenN ?_
                    refine WC.region ?_
                    refine WL.val (R.move (v := Value.int .i64 i1364) (by exact s1505)) rfl ?_
                    obtain ⟨hg1620, h1621⟩ := ckE (c := -9223372036854775808 ≤ i1364 + 1 ∧ i1364 + 1 ≤ 9223372036854775807) h1619
                    refine WL.val (R.add (a := i1364) (b := 1) (z := i1364 + 1) rfl rfl (w64e rfl hg1620.1 hg1620.2)) rfl ?_
                    refine WL.val (R.assign (v := Value.int .i64 (i1364 + 1)) rfl) rfl ?_
                    refine WL.nil ?_
                    have hr1622 := elT (ht1603.trans ht1610) hr1535
                    exact roundEnd (s := k1374) ⟨i1363 + 1, i1364 + 1, y1606.2.1.1, y1606.2.1.2, y1606.2.2, s1501, s1502, s1503, rfl, rfl, hr1622, h1621, hs1613⟩ (Nat.lt_succ_self _)
                  · have h1623 := ifF hc1618 h1617
                    refine WL.val (R.neB (a := false) (b := true) un4 (Eq.trans (show _ = Value.bool y1606.1 from rfl) (congrArg Value.bool (Bool.eq_false_iff.2 hc1618))) rfl) rfl ?_
                    refine WL.nil ?_
                    refine thenN ?_
                    refine WC.condT rfl rfl ?_
                    refine WC.seq ?_
                    refine WC.region ?_
                    refine WL.val (R.assign (v := Value.bool false) rfl) rfl ?_
                    refine WL.nil ?_
                    refine thenN ?_
                    refine WC.ret ?_
                    have ht1624 := (hs1613.here).perm (L' := []) (G := [blk b881 83 ([Value.int .i64 y1606.2.1.1, Value.int .i64 y1606.2.1.2] ++ ((Value.int .i64 y1606.2.2) :: []))]) ((List.Perm.refl _))
                    have hs1625 := hs1613.trans ht1624
                    obtain rfl := Option.some.inj (show some false = some r from h1623)
                    exact ret1 (P := Try.prog) (n := 78) (fn := Try.f7) (R := fun v w' => v = Value.bool false ∧ St [] w w' []) (t := 4) (v := Value.bool false) rfl rfl rfl ⟨rfl, hs1625⟩
                · have h1626 := ifF hc1616 h1615
                  refine WL.val (R.geqF (k := .i64) (a := i1363 + 1) (b := 2 * (4 + (p0 % 13))) un3 rfl rfl hc1616) rfl ?_
                  by_cases hc1627 : y1606.1 = true
                  · have h1628 := ifT hc1627 h1626
                    refine WL.val (R.neB (a := true) (b := false) un4 (Eq.trans (show _ = Value.bool y1606.1 from rfl) (congrArg Value.bool hc1627)) rfl) rfl ?_
                    refine WL.nil ?_
                    refine thenN ?_
                    refine WC.condT rfl rfl ?_
                    refine WC.seq ?_
                    refine WC.region ?_
                    refine WL.val (R.assign (v := Value.bool false) rfl) rfl ?_
                    refine WL.nil ?_
                    refine thenN ?_
                    refine WC.ret ?_
                    have ht1629 := (hs1613.here).perm (L' := []) (G := [blk b881 83 ([Value.int .i64 y1606.2.1.1, Value.int .i64 y1606.2.1.2] ++ ((Value.int .i64 y1606.2.2) :: []))]) ((List.Perm.refl _))
                    have hs1630 := hs1613.trans ht1629
                    obtain rfl := Option.some.inj (show some false = some r from h1628)
                    exact ret1 (P := Try.prog) (n := 78) (fn := Try.f7) (R := fun v w' => v = Value.bool false ∧ St [] w w' []) (t := 4) (v := Value.bool false) rfl rfl rfl ⟨rfl, hs1630⟩
                  · have h1631 := ifF hc1627 h1626
                    refine WL.val (R.neB (a := false) (b := false) un4 (Eq.trans (show _ = Value.bool y1606.1 from rfl) (congrArg Value.bool (Bool.eq_false_iff.2 hc1627))) rfl) rfl ?_
                    refine WL.nil ?_
                    refine thenN ?_
                    refine WC.condF rfl rfl ?_
                    refine WC.skip ?_
                    refine blockN ?_
                    refine thenN ?_
                    refine WC.region ?_
                    refine WL.val (R.move (v := Value.int .i64 i1364) (by exact s1505)) rfl ?_
                    obtain ⟨hg1632, h1633⟩ := ckE (c := -9223372036854775808 ≤ i1364 + 1 ∧ i1364 + 1 ≤ 9223372036854775807) h1631
                    refine WL.val (R.add (a := i1364) (b := 1) (z := i1364 + 1) rfl rfl (w64e rfl hg1632.1 hg1632.2)) rfl ?_
                    refine WL.val (R.assign (v := Value.int .i64 (i1364 + 1)) rfl) rfl ?_
                    refine WL.nil ?_
                    have hr1634 := elT (ht1603.trans ht1610) hr1535
                    exact roundEnd (s := k1374) ⟨i1363 + 1, i1364 + 1, y1606.2.1.1, y1606.2.1.2, y1606.2.2, s1501, s1502, s1503, rfl, rfl, hr1634, h1633, hs1613⟩ (Nat.lt_succ_self _)
          · have h1635 := ifF hc1386 h1380
            refine WL.val (R.lssF (k := .i64) (a := i1364) (b := ((p1.length : Nat) : Int)) un3 rfl rfl hc1386) rfl ?_
            refine WL.nil ?_
            refine thenN ?_
            refine WC.condF rfl rfl ?_
            refine WC.exit ?_
            refine thenE ?_
            refine thenE ?_
            refine blockHit ?_
            have ht1636 := (hs1373.here).perm (L' := []) (G := [blk b881 83 ([Value.int .i64 i1365, Value.int .i64 i1366] ++ ((Value.int .i64 i1367) :: []))]) ((List.Perm.refl _))
            have hs1637 := hs1373.trans ht1636
            exact joinI ⟨h1635, hs1637⟩
        · rintro σ1378 w1377 ⟨h1638, hs1379⟩
          subst hK1369
          refine thenN ?_
          refine WC.seq ?_
          refine WC.region ?_
          obtain ⟨y1639, hx1640, h1641⟩ := ob (o := lives17 ) h1638
          refine WL.call (lives17_ok _ (In ok w [] [])   hx1640) (R.call (vs := []) (caps := []) bo41 rfl rfl) rfl ?_
          rintro v1644 w1645 ⟨rfl, ht1642⟩
          have ht1643 := hs1379.call (N := []) (M := []) (List.Perm.refl _) ht1642
          have hs1646 := hs1379.trans ht1643
          refine WL.val (R.assign (v := Value.bool y1639) rfl) rfl ?_
          refine WL.nil ?_
          refine thenN ?_
          refine WC.ret ?_
          obtain rfl := Option.some.inj (show some y1639 = some r from h1641)
          exact ret1 (P := Try.prog) (n := 78) (fn := Try.f7) (R := fun v w' => v = Value.bool y1639 ∧ St [] w w' []) (t := 4) (v := Value.bool y1639) rfl rfl rfl ⟨rfl, hs1646⟩
      · have h1647 := ifF hc884 h129
        refine WL.val (R.neqT (k := .i64) (a := y119.2) (b := 0) un66 rfl rfl hc884) rfl ?_
        refine WL.nil ?_
        refine thenN ?_
        refine WC.condT rfl rfl ?_
        refine WC.seq ?_
        refine WC.region ?_
        refine WL.val (R.assign (v := Value.bool false) rfl) rfl ?_
        refine WL.nil ?_
        refine thenN ?_
        refine WC.ret ?_
        have ht1648 := (hs883.here).perm (L' := []) (G := [blk b881 83 ([Value.int .i64 q130.1.1, Value.int .i64 q130.1.2] ++ ((Value.int .i64 q130.2) :: []))]) ((List.Perm.refl _))
        have hs1649 := hs883.trans ht1648
        obtain rfl := Option.some.inj (show some false = some r from h1647)
        exact ret1 (P := Try.prog) (n := 78) (fn := Try.f7) (R := fun v w' => v = Value.bool false ∧ St [] w w' []) (t := 4) (v := Value.bool false) rfl rfl rfl ⟨rfl, hs1649⟩

end Go.Proofs.Ytckcldimnelklaa
