/- The functions come to what their twins answer: group 15o. -/
import Derived.Test.YtckcldimnelklaaW15a
import Derived.Test.YtckcldimnelklaaTQ
import Derived.Test.YtckcldimnelklaaD15o
namespace Go.Proofs.Ytckcldimnelklaa
open Go
set_option linter.unusedVariables false
set_option linter.unusedSimpArgs false
set_option maxRecDepth 100000
set_option maxHeartbeats 4000000

theorem said15_ok (w : World) (ok : Nat → Prop) (p0 : Int) (p1 : Int) (p2 : Int) {r : Rw} (h : said15 p0 p1 p2 = some r) :
    Ret Try.prog 101 [Value.int .i64 p0, Value.int .i64 p1, Value.int .i64 p2] w (fun v w' => ∃ ra0, ∃ rc0, v = Value.agg (List.toArray (encR r (Value.slice ra0 r.table.length rc0))) ∧ r.table.length ≤ rc0 ∧ elems heldW w' (In ok w [] []) ra0 r.table ∧ St [] w w' []) := by
  rw [said15] at h
  have hs100 : St [] w w [] := St.start w
  refine enter (n := 19) Try.func101 rfl rfl rfl ?_
  refine WC.seq ?_
  refine WC.region ?_
  refine WL.new (L' := fun b101 => [blk b101 62 (encR Rw.none (Value.slice none 0 0))]) (f := fun b101 => Value.pointer (some ⟨b101, 0, none⟩)) (X.alloc (c := encR Rw.none (Value.slice none 0 0)) (hs100.here) zr62 rfl (fun _ => rfl)) rfl ?_
  intro b101 w102 ht107 he104 hz105
  have hs108 := hs100.trans ht107
  refine WL.nil ?_
  refine thenN ?_
  refine WC.seq ?_
  refine WC.region ?_
  refine WL.val (R.move (v := Value.int .i64 p0) rfl) rfl ?_
  obtain ⟨hg109, h110⟩ := ckE (c := 0 ≤ p0 ∧ p0 < 1000000) h
  refine WL.new (L' := fun b111 => [blk b101 62 (encR Rw.none (Value.slice none 0 0)), gsl 60 heldE (Value.slice (some ⟨b111, 0, none⟩) ((List.replicate (p0).toNat Hd.none).length) ((p0).toNat)) (List.replicate (p0).toNat Hd.none)]) (f := fun b111 => Value.slice (some ⟨b111, 0, none⟩) ((List.replicate (p0).toNat Hd.none).length) ((p0).toNat)) (X.makeSliceN (e := heldE) (z := Hd.none) (hs108.here) sl28 rfl rfl rfl hg109 (by decide) List.length_replicate (fun _ => rfl)) rfl ?_
  intro b111 w112 ht116 he113 hz114
  have hs117 := hs108.trans ht116
  have hd118 : ∀ w, (Instr.build 62 #[(0, Value.bool true), (2, Value.slice (some ⟨b111, 0, none⟩) ((List.replicate (p0).toNat Hd.none).length) ((p0).toNat))]).run Try.prog w = .ok (Value.agg (List.toArray ((Value.bool true) :: ((encC Rw.none.cell) ++ ((Value.slice (some ⟨b111, 0, none⟩) ((List.replicate (p0).toNat Hd.none).length) ((p0).toNat)) :: []))))) w := fun _ => by kernel_rfl
  refine WL.val (R.build (vs := [(0, Value.bool true), (2, Value.slice (some ⟨b111, 0, none⟩) ((List.replicate (p0).toNat Hd.none).length) ((p0).toNat))]) rfl hd118) rfl ?_
  refine WL.new (L' := fun b119 => [blk b101 62 (encR Rw.none (Value.slice none 0 0)), gsl 60 heldE (Value.slice (some ⟨b111, 0, none⟩) ((List.replicate (p0).toNat Hd.none).length) ((p0).toNat)) (List.replicate (p0).toNat Hd.none), blk b119 62 (encR Rw.none (Value.slice none 0 0))]) (f := fun b119 => Value.pointer (some ⟨b119, 0, none⟩)) (X.alloc (c := encR Rw.none (Value.slice none 0 0)) (hs117.here) zr62 rfl (fun _ => rfl)) rfl ?_
  intro b119 w120 ht125 he122 hz123
  have hs126 := hs117.trans ht125
  refine WL.sto (L' := [blk b101 62 (encR Rw.none (Value.slice none 0 0)), gsl 60 heldE (Value.slice (some ⟨b111, 0, none⟩) ((List.replicate (p0).toNat Hd.none).length) ((p0).toNat)) (List.replicate (p0).toNat Hd.none), blk b119 62 ((Value.bool true) :: ((encC Rw.none.cell) ++ ((Value.slice (some ⟨b111, 0, none⟩) ((List.replicate (p0).toNat Hd.none).length) ((p0).toNat)) :: [])))]) (X.store (i := 2) (n := 57) (b := b119) (off := 0) (c := encR Rw.none (Value.slice none 0 0)) (U := 62) (vs := (Value.bool true) :: ((encC Rw.none.cell) ++ ((Value.slice (some ⟨b111, 0, none⟩) ((List.replicate (p0).toNat Hd.none).length) ((p0).toNat)) :: []))) (v := Value.agg (List.toArray ((Value.bool true) :: ((encC Rw.none.cell) ++ ((Value.slice (some ⟨b111, 0, none⟩) ((List.replicate (p0).toNat Hd.none).length) ((p0).toNat)) :: []))))) (c' := (Value.bool true) :: ((encC Rw.none.cell) ++ ((Value.slice (some ⟨b111, 0, none⟩) ((List.replicate (p0).toNat Hd.none).length) ((p0).toNat)) :: []))) (hs126.here) rfl ag62.size rfl rfl rfl rfl rfl rfl rfl rfl) rfl rfl ?_
  intro w127 ht128
  have hs129 := hs126.trans ht128
  refine WL.nil ?_
  refine thenN ?_
  refine WC.seq ?_
  refine WC.region ?_
  refine WL.val (R.fieldAddr (o := 0) (o' := 56) fa62_2 rfl rfl) rfl ?_
  refine WL.val (R.loadL (v := Value.slice (some ⟨b111, 0, none⟩) ((List.replicate (p0).toNat Hd.none).length) ((p0).toNat)) lf28 rfl (hs129.at (i := 2) (off := 56) (n := 1) (cs := [Value.slice (some ⟨b111, 0, none⟩) ((List.replicate (p0).toNat Hd.none).length) ((p0).toNat)]) rfl rfl rfl)) rfl ?_
  refine WL.val (R.move (v := Value.int .i64 p1) rfl) rfl ?_
  refine WL.val (R.move (v := Value.int .i64 p2) rfl) rfl ?_
  have hd130 : ∀ w, (Instr.build 58 #[(0, Value.int .i64 p2)]).run Try.prog w = .ok (Value.agg (List.toArray (encC (⟨p2, Cl.zero.offer, Cl.zero.report, Cl.zero.view⟩ : Cl)))) w := fun _ => by kernel_rfl
  refine WL.val (R.build (vs := [(0, Value.int .i64 p2)]) rfl hd130) rfl ?_
  have hd131 : ∀ w, (Instr.build 60 #[(0, Value.bool true), (1, Value.agg (List.toArray (encC (⟨p2, Cl.zero.offer, Cl.zero.report, Cl.zero.view⟩ : Cl))))]).run Try.prog w = .ok (Value.agg (List.toArray (encH (⟨true, (⟨p2, Cl.zero.offer, Cl.zero.report, Cl.zero.view⟩ : Cl)⟩ : Hd)))) w := fun _ => by kernel_rfl
  refine WL.val (R.build (vs := [(0, Value.bool true), (1, Value.agg (List.toArray (encC (⟨p2, Cl.zero.offer, Cl.zero.report, Cl.zero.view⟩ : Cl))))]) rfl hd131) rfl ?_
  obtain ⟨x132, hx133, h134⟩ := ob (o := rd (List.replicate (p0).toNat Hd.none) p1) h110
  obtain ⟨h0135, hx136, hl137, hm138⟩ := rdE hx133
  obtain ⟨b139, c140, hv141, _⟩ := hs129.gslAt (i := 1) rfl hx136
  refine WL.val (R.indexS (n := 56) (m := (p1).toNat) (ad := ⟨b139, 0, none⟩) (len := (List.replicate (p0).toNat Hd.none).length) (cap := c140) (z := p1) un28 ag60.size (Eq.trans (show _ = Value.slice (some ⟨b111, 0, none⟩) ((List.replicate (p0).toNat Hd.none).length) ((p0).toNat) from rfl) hv141) rfl rfl hm138 hl137 rfl) rfl ?_
  refine WL.sto (L' := [blk b101 62 (encR Rw.none (Value.slice none 0 0)), gsl 60 heldE (Value.slice (some ⟨b111, 0, none⟩) ((List.replicate (p0).toNat Hd.none).length) ((p0).toNat)) ((List.replicate (p0).toNat Hd.none).set (p1).toNat (⟨true, (⟨p2, Cl.zero.offer, Cl.zero.report, Cl.zero.view⟩ : Cl)⟩ : Hd)), blk b119 62 ((Value.bool true) :: ((encC Rw.none.cell) ++ ((Value.slice (some ⟨b111, 0, none⟩) ((List.replicate (p0).toNat Hd.none).length) ((p0).toNat)) :: [])))]) (X.storeEl (i := 1) (j := (p1).toNat) (off := 0) (n := 56) (x := x132) (y := (⟨true, (⟨p2, Cl.zero.offer, Cl.zero.report, Cl.zero.view⟩ : Cl)⟩ : Hd)) (vs := encH (⟨true, (⟨p2, Cl.zero.offer, Cl.zero.report, Cl.zero.view⟩ : Cl)⟩ : Hd)) (u := Value.agg (List.toArray (encH (⟨true, (⟨p2, Cl.zero.offer, Cl.zero.report, Cl.zero.view⟩ : Cl)⟩ : Hd)))) (hs129.here) rfl hx136 hv141 ag60.size rfl rfl rfl rfl rfl rfl (by decide) (rfl) rfl) rfl rfl ?_
  intro w142 ht143
  have hs144 := hs129.trans ht143
  have hs145 : St [] w w142 [blk b101 62 (encR Rw.none (Value.slice none 0 0)), gsl 60 heldE (Value.slice (some ⟨b111, 0, none⟩) (((List.replicate (p0).toNat Hd.none).set (p1).toNat (⟨true, (⟨p2, Cl.zero.offer, Cl.zero.report, Cl.zero.view⟩ : Cl)⟩ : Hd)).length) ((p0).toNat)) ((List.replicate (p0).toNat Hd.none).set (p1).toNat (⟨true, (⟨p2, Cl.zero.offer, Cl.zero.report, Cl.zero.view⟩ : Cl)⟩ : Hd)), blk b119 62 ((Value.bool true) :: ((encC Rw.none.cell) ++ ((Value.slice (some ⟨b111, 0, none⟩) (((List.replicate (p0).toNat Hd.none).set (p1).toNat (⟨true, (⟨p2, Cl.zero.offer, Cl.zero.report, Cl.zero.view⟩ : Cl)⟩ : Hd)).length) ((p0).toNat)) :: [])))] := by first | (simpa only [List.length_set] using hs144) | (simp only [List.length_set]; exact hs144)
  have ht146 : St [blk b101 62 (encR Rw.none (Value.slice none 0 0)), gsl 60 heldE (Value.slice (some ⟨b111, 0, none⟩) ((List.replicate (p0).toNat Hd.none).length) ((p0).toNat)) (List.replicate (p0).toNat Hd.none), blk b119 62 ((Value.bool true) :: ((encC Rw.none.cell) ++ ((Value.slice (some ⟨b111, 0, none⟩) ((List.replicate (p0).toNat Hd.none).length) ((p0).toNat)) :: [])))] w127 w142 [blk b101 62 (encR Rw.none (Value.slice none 0 0)), gsl 60 heldE (Value.slice (some ⟨b111, 0, none⟩) (((List.replicate (p0).toNat Hd.none).set (p1).toNat (⟨true, (⟨p2, Cl.zero.offer, Cl.zero.report, Cl.zero.view⟩ : Cl)⟩ : Hd)).length) ((p0).toNat)) ((List.replicate (p0).toNat Hd.none).set (p1).toNat (⟨true, (⟨p2, Cl.zero.offer, Cl.zero.report, Cl.zero.view⟩ : Cl)⟩ : Hd)), blk b119 62 ((Value.bool true) :: ((encC Rw.none.cell) ++ ((Value.slice (some ⟨b111, 0, none⟩) (((List.replicate (p0).toNat Hd.none).set (p1).toNat (⟨true, (⟨p2, Cl.zero.offer, Cl.zero.report, Cl.zero.view⟩ : Cl)⟩ : Hd)).length) ((p0).toNat)) :: [])))] := by first | (simpa only [List.length_set, List.nil_append, List.cons_append] using ht143) | (simp only [List.length_set]; exact ht143)
  refine WL.nil ?_
  refine thenN ?_
  refine WC.seq ?_
  refine WC.region ?_
  refine WL.val (R.loadA (cs := (Value.bool true) :: ((encC Rw.none.cell) ++ ((Value.slice (some ⟨b111, 0, none⟩) (((List.replicate (p0).toNat Hd.none).set (p1).toNat (⟨true, (⟨p2, Cl.zero.offer, Cl.zero.report, Cl.zero.view⟩ : Cl)⟩ : Hd)).length) ((p0).toNat)) :: []))) (n := 57) ag62 rfl (hs145.at (i := 2) (off := 0) (n := 57) (cs := (Value.bool true) :: ((encC Rw.none.cell) ++ ((Value.slice (some ⟨b111, 0, none⟩) (((List.replicate (p0).toNat Hd.none).set (p1).toNat (⟨true, (⟨p2, Cl.zero.offer, Cl.zero.report, Cl.zero.view⟩ : Cl)⟩ : Hd)).length) ((p0).toNat)) :: []))) rfl rfl rfl) rfl) rfl ?_
  refine WL.sto (L' := [blk b101 62 ((Value.bool true) :: ((encC Rw.none.cell) ++ ((Value.slice (some ⟨b111, 0, none⟩) (((List.replicate (p0).toNat Hd.none).set (p1).toNat (⟨true, (⟨p2, Cl.zero.offer, Cl.zero.report, Cl.zero.view⟩ : Cl)⟩ : Hd)).length) ((p0).toNat)) :: []))), gsl 60 heldE (Value.slice (some ⟨b111, 0, none⟩) (((List.replicate (p0).toNat Hd.none).set (p1).toNat (⟨true, (⟨p2, Cl.zero.offer, Cl.zero.report, Cl.zero.view⟩ : Cl)⟩ : Hd)).length) ((p0).toNat)) ((List.replicate (p0).toNat Hd.none).set (p1).toNat (⟨true, (⟨p2, Cl.zero.offer, Cl.zero.report, Cl.zero.view⟩ : Cl)⟩ : Hd)), blk b119 62 ((Value.bool true) :: ((encC Rw.none.cell) ++ ((Value.slice (some ⟨b111, 0, none⟩) (((List.replicate (p0).toNat Hd.none).set (p1).toNat (⟨true, (⟨p2, Cl.zero.offer, Cl.zero.report, Cl.zero.view⟩ : Cl)⟩ : Hd)).length) ((p0).toNat)) :: [])))]) (X.store (i := 0) (n := 57) (b := b101) (off := 0) (c := encR Rw.none (Value.slice none 0 0)) (U := 62) (vs := (Value.bool true) :: ((encC Rw.none.cell) ++ ((Value.slice (some ⟨b111, 0, none⟩) (((List.replicate (p0).toNat Hd.none).set (p1).toNat (⟨true, (⟨p2, Cl.zero.offer, Cl.zero.report, Cl.zero.view⟩ : Cl)⟩ : Hd)).length) ((p0).toNat)) :: []))) (v := Value.agg (List.toArray ((Value.bool true) :: ((encC Rw.none.cell) ++ ((Value.slice (some ⟨b111, 0, none⟩) (((List.replicate (p0).toNat Hd.none).set (p1).toNat (⟨true, (⟨p2, Cl.zero.offer, Cl.zero.report, Cl.zero.view⟩ : Cl)⟩ : Hd)).length) ((p0).toNat)) :: []))))) (c' := (Value.bool true) :: ((encC Rw.none.cell) ++ ((Value.slice (some ⟨b111, 0, none⟩) (((List.replicate (p0).toNat Hd.none).set (p1).toNat (⟨true, (⟨p2, Cl.zero.offer, Cl.zero.report, Cl.zero.view⟩ : Cl)⟩ : Hd)).length) ((p0).toNat)) :: []))) (hs145.here) rfl ag62.size rfl rfl rfl rfl rfl rfl rfl rfl) rfl rfl ?_
  intro w147 ht148
  have hs149 := hs145.trans ht148
  refine WL.nil ?_
  refine thenN ?_
  refine WC.ret ?_
  obtain ⟨a150, c151, hv152, hl153, he154⟩ := el_freeze (k := heldW) (ok := fun _ => False) hs149 ((List.perm_middle (l₁ := [blk b101 62 ((Value.bool true) :: ((encC Rw.none.cell) ++ ((Value.slice (some ⟨b111, 0, none⟩) (((List.replicate (p0).toNat Hd.none).set (p1).toNat (⟨true, (⟨p2, Cl.zero.offer, Cl.zero.report, Cl.zero.view⟩ : Cl)⟩ : Hd)).length) ((p0).toNat)) :: [])))]) (a := gsl 60 heldE (Value.slice (some ⟨b111, 0, none⟩) (((List.replicate (p0).toNat Hd.none).set (p1).toNat (⟨true, (⟨p2, Cl.zero.offer, Cl.zero.report, Cl.zero.view⟩ : Cl)⟩ : Hd)).length) ((p0).toNat)) ((List.replicate (p0).toNat Hd.none).set (p1).toNat (⟨true, (⟨p2, Cl.zero.offer, Cl.zero.report, Cl.zero.view⟩ : Cl)⟩ : Hd))) (l₂ := [blk b119 62 ((Value.bool true) :: ((encC Rw.none.cell) ++ ((Value.slice (some ⟨b111, 0, none⟩) (((List.replicate (p0).toNat Hd.none).set (p1).toNat (⟨true, (⟨p2, Cl.zero.offer, Cl.zero.report, Cl.zero.view⟩ : Cl)⟩ : Hd)).length) ((p0).toNat)) :: [])))])).trans (List.Perm.cons _ (List.Perm.refl _))) rfl (fun _ _ _ => ⟨trivial, rfl⟩)
  obtain ⟨rfl, rfl⟩ : (some ⟨b111, 0, none⟩) = a150 ∧ (p0).toNat = c151 := ⟨(Value.slice.inj hv152).1, (Value.slice.inj hv152).2.2⟩
  have ht155 := (hs149.here).perm (L' := [blk b101 62 ((Value.bool true) :: ((encC Rw.none.cell) ++ ((Value.slice (some ⟨b111, 0, none⟩) (((List.replicate (p0).toNat Hd.none).set (p1).toNat (⟨true, (⟨p2, Cl.zero.offer, Cl.zero.report, Cl.zero.view⟩ : Cl)⟩ : Hd)).length) ((p0).toNat)) :: []))), blk b119 62 ((Value.bool true) :: ((encC Rw.none.cell) ++ ((Value.slice (some ⟨b111, 0, none⟩) (((List.replicate (p0).toNat Hd.none).set (p1).toNat (⟨true, (⟨p2, Cl.zero.offer, Cl.zero.report, Cl.zero.view⟩ : Cl)⟩ : Hd)).length) ((p0).toNat)) :: [])))]) (G := [gsl 60 heldE (Value.slice (some ⟨b111, 0, none⟩) (((List.replicate (p0).toNat Hd.none).set (p1).toNat (⟨true, (⟨p2, Cl.zero.offer, Cl.zero.report, Cl.zero.view⟩ : Cl)⟩ : Hd)).length) ((p0).toNat)) ((List.replicate (p0).toNat Hd.none).set (p1).toNat (⟨true, (⟨p2, Cl.zero.offer, Cl.zero.report, Cl.zero.view⟩ : Cl)⟩ : Hd))]) ((List.Perm.cons _ ((List.perm_middle (l₁ := [gsl 60 heldE (Value.slice (some ⟨b111, 0, none⟩) (((List.replicate (p0).toNat Hd.none).set (p1).toNat (⟨true, (⟨p2, Cl.zero.offer, Cl.zero.report, Cl.zero.view⟩ : Cl)⟩ : Hd)).length) ((p0).toNat)) ((List.replicate (p0).toNat Hd.none).set (p1).toNat (⟨true, (⟨p2, Cl.zero.offer, Cl.zero.report, Cl.zero.view⟩ : Cl)⟩ : Hd))]) (a := blk b119 62 ((Value.bool true) :: ((encC Rw.none.cell) ++ ((Value.slice (some ⟨b111, 0, none⟩) (((List.replicate (p0).toNat Hd.none).set (p1).toNat (⟨true, (⟨p2, Cl.zero.offer, Cl.zero.report, Cl.zero.view⟩ : Cl)⟩ : Hd)).length) ((p0).toNat)) :: [])))) (l₂ := [])).trans (List.Perm.cons _ (List.Perm.refl _)))))
  have hs156 := hs149.trans ht155
  have hl158 := run_loadA (P := Try.prog) (n := 57) ag62 (hs156.at (i := 0) (off := 0) (n := 57) (cs := (Value.bool true) :: ((encC Rw.none.cell) ++ ((Value.slice (some ⟨b111, 0, none⟩) (((List.replicate (p0).toNat Hd.none).set (p1).toNat (⟨true, (⟨p2, Cl.zero.offer, Cl.zero.report, Cl.zero.view⟩ : Cl)⟩ : Hd)).length) ((p0).toNat)) :: []))) rfl rfl rfl) rfl
  have ht159 := (hs156.here).perm (L' := []) (G := [blk b101 62 ((Value.bool true) :: ((encC Rw.none.cell) ++ ((Value.slice (some ⟨b111, 0, none⟩) (((List.replicate (p0).toNat Hd.none).set (p1).toNat (⟨true, (⟨p2, Cl.zero.offer, Cl.zero.report, Cl.zero.view⟩ : Cl)⟩ : Hd)).length) ((p0).toNat)) :: []))), blk b119 62 ((Value.bool true) :: ((encC Rw.none.cell) ++ ((Value.slice (some ⟨b111, 0, none⟩) (((List.replicate (p0).toNat Hd.none).set (p1).toNat (⟨true, (⟨p2, Cl.zero.offer, Cl.zero.report, Cl.zero.view⟩ : Cl)⟩ : Hd)).length) ((p0).toNat)) :: [])))]) ((List.Perm.refl _))
  have hs160 := hs156.trans ht159
  have hr161 := elT ht159 he154
  obtain rfl := Option.some.inj (show some (⟨true, Rw.none.cell, (List.replicate (p0).toNat Hd.none).set (p1).toNat (⟨true, (⟨p2, Cl.zero.offer, Cl.zero.report, Cl.zero.view⟩ : Cl)⟩ : Hd)⟩ : Rw) = some r from h134)
  exact retCell (P := Try.prog) (n := 19) (fn := Try.f101) (R := fun v w' => ∃ ra0, ∃ rc0, v = Value.agg (List.toArray (encR (⟨true, Rw.none.cell, (List.replicate (p0).toNat Hd.none).set (p1).toNat (⟨true, (⟨p2, Cl.zero.offer, Cl.zero.report, Cl.zero.view⟩ : Cl)⟩ : Hd)⟩ : Rw) (Value.slice ra0 (⟨true, Rw.none.cell, (List.replicate (p0).toNat Hd.none).set (p1).toNat (⟨true, (⟨p2, Cl.zero.offer, Cl.zero.report, Cl.zero.view⟩ : Cl)⟩ : Hd)⟩ : Rw).table.length rc0))) ∧ (⟨true, Rw.none.cell, (List.replicate (p0).toNat Hd.none).set (p1).toNat (⟨true, (⟨p2, Cl.zero.offer, Cl.zero.report, Cl.zero.view⟩ : Cl)⟩ : Hd)⟩ : Rw).table.length ≤ rc0 ∧ elems heldW w' (In ok w [] []) ra0 (⟨true, Rw.none.cell, (List.replicate (p0).toNat Hd.none).set (p1).toNat (⟨true, (⟨p2, Cl.zero.offer, Cl.zero.report, Cl.zero.view⟩ : Cl)⟩ : Hd)⟩ : Rw).table ∧ St [] w w' []) (t := 6) (v := Value.agg (List.toArray ((Value.bool true) :: ((encC Rw.none.cell) ++ ((Value.slice (some ⟨b111, 0, none⟩) (((List.replicate (p0).toNat Hd.none).set (p1).toNat (⟨true, (⟨p2, Cl.zero.offer, Cl.zero.report, Cl.zero.view⟩ : Cl)⟩ : Hd)).length) ((p0).toNat)) :: []))))) rfl rfl rfl hl158 ⟨(some ⟨b111, 0, none⟩), (p0).toNat, rfl, hl153, (elN (ok' := ok) hr161), hs160⟩

theorem lives15_ok (w : World) (ok : Nat → Prop)  {r : Bool} (h : lives15  = some r) :
    Ret Try.prog 31 [] w (fun v w' => v = Value.bool r ∧ St [] w w' []) := by
  rw [lives15] at h
  have hs100 : St [] w w [] := St.start w
  refine enter (n := 92) Try.func31 rfl rfl rfl ?_
  refine WC.seq ?_
  refine WC.region ?_
  refine WL.val (R.assign (v := Value.bool false) rfl) rfl ?_
  refine WL.nil ?_
  refine thenN ?_
  refine WC.seq ?_
  refine WC.region ?_
  obtain ⟨y101, hx102, h103⟩ := ob (o := said15 4 0 9) h
  refine WL.call (said15_ok _ (In (fun _ => False) w [] []) 4 0 9  hx102) (R.call (vs := [Value.int .i64 4, Value.int .i64 0, Value.int .i64 9]) (caps := []) bo101 rfl rfl) rfl ?_
  rintro v110 w111 ⟨a106, c107, rfl, hl108, he109, ht104⟩
  have ht105 := hs100.call (N := []) (M := []) (List.Perm.refl _) ht104
  have he112 := elC hs100 (M := []) (List.Perm.refl _) ht104 he109
  have hs113 := hs100.trans ht105
  obtain ⟨y115, hx116, h117⟩ := ob (o := said15 4 0 5) h103
  refine WL.call (said15_ok _ (In (fun _ => False) w [] []) 4 0 5  hx116) (R.call (vs := [Value.int .i64 4, Value.int .i64 0, Value.int .i64 5]) (caps := []) bo101 rfl rfl) rfl ?_
  rintro v124 w125 ⟨a120, c121, rfl, hl122, he123, ht118⟩
  have ht119 := hs113.call (N := []) (M := []) (List.Perm.refl _) ht118
  have he126 := elC hs113 (M := []) (List.Perm.refl _) ht118 he123
  have hs127 := hs113.trans ht119
  obtain ⟨y129, hx130, h131⟩ := ob (o := said15 4 0 5) h117
  refine WL.call (said15_ok _ (In (fun _ => False) w [] []) 4 0 5  hx130) (R.call (vs := [Value.int .i64 4, Value.int .i64 0, Value.int .i64 5]) (caps := []) bo101 rfl rfl) rfl ?_
  rintro v138 w139 ⟨a134, c135, rfl, hl136, he137, ht132⟩
  have ht133 := hs127.call (N := []) (M := []) (List.Perm.refl _) ht132
  have he140 := elC hs127 (M := []) (List.Perm.refl _) ht132 he137
  have hs141 := hs127.trans ht133
  obtain ⟨y143, hx144, h145⟩ := ob (o := said15 4 0 5) h131
  refine WL.call (said15_ok _ (In (fun _ => False) w [] []) 4 0 5  hx144) (R.call (vs := [Value.int .i64 4, Value.int .i64 0, Value.int .i64 5]) (caps := []) bo101 rfl rfl) rfl ?_
  rintro v152 w153 ⟨a148, c149, rfl, hl150, he151, ht146⟩
  have ht147 := hs141.call (N := []) (M := []) (List.Perm.refl _) ht146
  have he154 := elC hs141 (M := []) (List.Perm.refl _) ht146 he151
  have hs155 := hs141.trans ht147
  have hd162 : ∀ w : World, (Instr.buildSlice 22 4 #[(0, Value.agg (List.toArray (encR y101 (Value.slice a106 y101.table.length c107)))), (1, Value.agg (List.toArray (encR y115 (Value.slice a120 y115.table.length c121)))), (2, Value.agg (List.toArray (encR y129 (Value.slice a134 y129.table.length c135)))), (3, Value.agg (List.toArray (encR y143 (Value.slice a148 y143.table.length c149))))]).run Try.prog w = .ok (.slice (some ⟨w.heap.size, 0, none⟩) 4 4) { w with heap := w.heap.push (.cells (List.toArray ((encR y101 (Value.slice a106 y101.table.length c107)) ++ ((encR y115 (Value.slice a120 y115.table.length c121)) ++ ((encR y129 (Value.slice a134 y129.table.length c135)) ++ ((encR y143 (Value.slice a148 y143.table.length c149))))))) 62) } := fun _ => by kernel_rfl
  refine WL.new (L' := fun b157 => [blk b157 62 ((encR y101 (Value.slice a106 y101.table.length c107)) ++ ((encR y115 (Value.slice a120 y115.table.length c121)) ++ ((encR y129 (Value.slice a134 y129.table.length c135)) ++ ((encR y143 (Value.slice a148 y143.table.length c149))))))]) (f := fun b157 => Value.slice (some ⟨b157, 0, none⟩) 4 4) (X.buildSlice (c := (encR y101 (Value.slice a106 y101.table.length c107)) ++ ((encR y115 (Value.slice a120 y115.table.length c121)) ++ ((encR y129 (Value.slice a134 y129.table.length c135)) ++ ((encR y143 (Value.slice a148 y143.table.length c149)))))) (vs := [(0, Value.agg (List.toArray (encR y101 (Value.slice a106 y101.table.length c107)))), (1, Value.agg (List.toArray (encR y115 (Value.slice a120 y115.table.length c121)))), (2, Value.agg (List.toArray (encR y129 (Value.slice a134 y129.table.length c135)))), (3, Value.agg (List.toArray (encR y143 (Value.slice a148 y143.table.length c149))))]) (hs155.here) rfl hd162 (fun _ => rfl)) rfl ?_
  intro b157 w158 ht164 he160 hz161
  have hs165 := hs155.trans ht164
  have hr167 := elT ht164 he154
  have hr168 := elT (ht147.trans ht164) he140
  have hr169 := elT ((ht133.trans ht147).trans ht164) he126
  have hr170 := elT (((ht119.trans ht133).trans ht147).trans ht164) he112
  have hr171 : readsL rowW w158 (In (fun _ => False) w [] [blk b157 62 ((encR y101 (Value.slice a106 y101.table.length c107)) ++ ((encR y115 (Value.slice a120 y115.table.length c121)) ++ ((encR y129 (Value.slice a134 y129.table.length c135)) ++ ((encR y143 (Value.slice a148 y143.table.length c149))))))]) [y101, y115, y129, y143] [(⟨encR y101 (Value.slice a106 y101.table.length c107), rfl, rfl⟩ : Raw 57), (⟨encR y115 (Value.slice a120 y115.table.length c121), rfl, rfl⟩ : Raw 57), (⟨encR y129 (Value.slice a134 y129.table.length c135), rfl, rfl⟩ : Raw 57), (⟨encR y143 (Value.slice a148 y143.table.length c149), rfl, rfl⟩ : Raw 57)] := (readsL_cons ⟨_, rfl, ⟨_, _, rfl, hl108, hr170⟩⟩ (readsL_cons ⟨_, rfl, ⟨_, _, rfl, hl122, hr169⟩⟩ (readsL_cons ⟨_, rfl, ⟨_, _, rfl, hl136, hr168⟩⟩ (readsL_cons ⟨_, rfl, ⟨_, _, rfl, hl150, hr167⟩⟩ readsL_nil))))
  have ht166 : St [blk b157 62 ((encR y101 (Value.slice a106 y101.table.length c107)) ++ ((encR y115 (Value.slice a120 y115.table.length c121)) ++ ((encR y129 (Value.slice a134 y129.table.length c135)) ++ ((encR y143 (Value.slice a148 y143.table.length c149))))))] w158 w158 [gsl 62 (rawE 57) (Value.slice (some ⟨b157, 0, none⟩) (([y101, y115, y129, y143]).length) 4) [(⟨encR y101 (Value.slice a106 y101.table.length c107), rfl, rfl⟩ : Raw 57), (⟨encR y115 (Value.slice a120 y115.table.length c121), rfl, rfl⟩ : Raw 57), (⟨encR y129 (Value.slice a134 y129.table.length c135), rfl, rfl⟩ : Raw 57), (⟨encR y143 (Value.slice a148 y143.table.length c149), rfl, rfl⟩ : Raw 57)]] := (hs165.here).conv (i := 0) rfl (arr_gsl (E := 62) (e := (rawE 57)) (xs := [(⟨encR y101 (Value.slice a106 y101.table.length c107), rfl, rfl⟩ : Raw 57), (⟨encR y115 (Value.slice a120 y115.table.length c121), rfl, rfl⟩ : Raw 57), (⟨encR y129 (Value.slice a134 y129.table.length c135), rfl, rfl⟩ : Raw 57), (⟨encR y143 (Value.slice a148 y143.table.length c149), rfl, rfl⟩ : Raw 57)]) (hs165.heap (i := 0) rfl) (show (4 : Nat) ≤ maxLen from by decide)) (fun b hb => (Option.some.inj hb).symm) rfl
  have hs173 := hs165.trans ht166
  have hr180 := rlT ht166 hr171
  obtain ⟨a174, c175, hv176, hl177, he178⟩ := el_freezeR hs173 (List.Perm.refl _) rfl hr180
  obtain ⟨rfl, rfl⟩ : (some ⟨b157, 0, none⟩) = a174 ∧ 4 = c175 := ⟨(Value.slice.inj hv176).1, (Value.slice.inj hv176).2.2⟩
  have ht179 := (hs173.here).perm (L' := []) (G := [gsl 62 (rawE 57) (Value.slice (some ⟨b157, 0, none⟩) (([y101, y115, y129, y143]).length) 4) [(⟨encR y101 (Value.slice a106 y101.table.length c107), rfl, rfl⟩ : Raw 57), (⟨encR y115 (Value.slice a120 y115.table.length c121), rfl, rfl⟩ : Raw 57), (⟨encR y129 (Value.slice a134 y129.table.length c135), rfl, rfl⟩ : Raw 57), (⟨encR y143 (Value.slice a148 y143.table.length c149), rfl, rfl⟩ : Raw 57)]]) ((List.Perm.refl _))
  have hs181 := hs173.trans ht179
  obtain ⟨y183, hx184, h185⟩ := ob (o := agree15 4 [y101, y115, y129, y143]) h145
  refine WL.call (agree15_ok _ _ 4 [y101, y115, y129, y143] _ _ he178 hl177 hx184) (R.call (vs := [Value.int .i64 4, Value.slice (some ⟨b157, 0, none⟩) 4 4]) (caps := []) bo34 rfl rfl) rfl ?_
  rintro v192 w193 ⟨a188, c189, rfl, hl190, he191, ht186⟩
  have ht187 := hs181.call (N := []) (M := []) (List.Perm.refl _) ht186
  have he194 := elC hs181 (M := []) (List.Perm.refl _) ht186 he191
  have hs195 := hs181.trans ht187
  refine WL.val (R.assign (v := Value.slice a188 y183.length c189) rfl) rfl ?_
  refine WL.nil ?_
  refine thenN ?_
  refine WC.seq ?_
  refine WC.region ?_
  obtain ⟨y197, hx198, h199⟩ := ob (o := said15 4 0 9) h185
  refine WL.call (said15_ok _ (In (fun _ => False) w [] []) 4 0 9  hx198) (R.call (vs := [Value.int .i64 4, Value.int .i64 0, Value.int .i64 9]) (caps := []) bo101 rfl rfl) rfl ?_
  rintro v206 w207 ⟨a202, c203, rfl, hl204, he205, ht200⟩
  have ht201 := hs195.call (N := []) (M := []) (List.Perm.refl _) ht200
  have he208 := elC hs195 (M := []) (List.Perm.refl _) ht200 he205
  have hs209 := hs195.trans ht201
  obtain ⟨y211, hx212, h213⟩ := ob (o := said15 4 0 5) h199
  refine WL.call (said15_ok _ (In (fun _ => False) w [] []) 4 0 5  hx212) (R.call (vs := [Value.int .i64 4, Value.int .i64 0, Value.int .i64 5]) (caps := []) bo101 rfl rfl) rfl ?_
  rintro v220 w221 ⟨a216, c217, rfl, hl218, he219, ht214⟩
  have ht215 := hs209.call (N := []) (M := []) (List.Perm.refl _) ht214
  have he222 := elC hs209 (M := []) (List.Perm.refl _) ht214 he219
  have hs223 := hs209.trans ht215
  obtain ⟨y225, hx226, h227⟩ := ob (o := said15 4 0 6) h213
  refine WL.call (said15_ok _ (In (fun _ => False) w [] []) 4 0 6  hx226) (R.call (vs := [Value.int .i64 4, Value.int .i64 0, Value.int .i64 6]) (caps := []) bo101 rfl rfl) rfl ?_
  rintro v234 w235 ⟨a230, c231, rfl, hl232, he233, ht228⟩
  have ht229 := hs223.call (N := []) (M := []) (List.Perm.refl _) ht228
  have he236 := elC hs223 (M := []) (List.Perm.refl _) ht228 he233
  have hs237 := hs223.trans ht229
  obtain ⟨y239, hx240, h241⟩ := ob (o := said15 4 0 5) h227
  refine WL.call (said15_ok _ (In (fun _ => False) w [] []) 4 0 5  hx240) (R.call (vs := [Value.int .i64 4, Value.int .i64 0, Value.int .i64 5]) (caps := []) bo101 rfl rfl) rfl ?_
  rintro v248 w249 ⟨a244, c245, rfl, hl246, he247, ht242⟩
  have ht243 := hs237.call (N := []) (M := []) (List.Perm.refl _) ht242
  have he250 := elC hs237 (M := []) (List.Perm.refl _) ht242 he247
  have hs251 := hs237.trans ht243
  have hd258 : ∀ w : World, (Instr.buildSlice 22 4 #[(0, Value.agg (List.toArray (encR y197 (Value.slice a202 y197.table.length c203)))), (1, Value.agg (List.toArray (encR y211 (Value.slice a216 y211.table.length c217)))), (2, Value.agg (List.toArray (encR y225 (Value.slice a230 y225.table.length c231)))), (3, Value.agg (List.toArray (encR y239 (Value.slice a244 y239.table.length c245))))]).run Try.prog w = .ok (.slice (some ⟨w.heap.size, 0, none⟩) 4 4) { w with heap := w.heap.push (.cells (List.toArray ((encR y197 (Value.slice a202 y197.table.length c203)) ++ ((encR y211 (Value.slice a216 y211.table.length c217)) ++ ((encR y225 (Value.slice a230 y225.table.length c231)) ++ ((encR y239 (Value.slice a244 y239.table.length c245))))))) 62) } := fun _ => by kernel_rfl
  refine WL.new (L' := fun b253 => [blk b253 62 ((encR y197 (Value.slice a202 y197.table.length c203)) ++ ((encR y211 (Value.slice a216 y211.table.length c217)) ++ ((encR y225 (Value.slice a230 y225.table.length c231)) ++ ((encR y239 (Value.slice a244 y239.table.length c245))))))]) (f := fun b253 => Value.slice (some ⟨b253, 0, none⟩) 4 4) (X.buildSlice (c := (encR y197 (Value.slice a202 y197.table.length c203)) ++ ((encR y211 (Value.slice a216 y211.table.length c217)) ++ ((encR y225 (Value.slice a230 y225.table.length c231)) ++ ((encR y239 (Value.slice a244 y239.table.length c245)))))) (vs := [(0, Value.agg (List.toArray (encR y197 (Value.slice a202 y197.table.length c203)))), (1, Value.agg (List.toArray (encR y211 (Value.slice a216 y211.table.length c217)))), (2, Value.agg (List.toArray (encR y225 (Value.slice a230 y225.table.length c231)))), (3, Value.agg (List.toArray (encR y239 (Value.slice a244 y239.table.length c245))))]) (hs251.here) rfl hd258 (fun _ => rfl)) rfl ?_
  intro b253 w254 ht260 he256 hz257
  have hs261 := hs251.trans ht260
  have hr263 := elT ht260 he250
  have hr264 := elT (ht243.trans ht260) he236
  have hr265 := elT ((ht229.trans ht243).trans ht260) he222
  have hr266 := elT (((ht215.trans ht229).trans ht243).trans ht260) he208
  have hr267 : readsL rowW w254 (In (fun _ => False) w [] [blk b253 62 ((encR y197 (Value.slice a202 y197.table.length c203)) ++ ((encR y211 (Value.slice a216 y211.table.length c217)) ++ ((encR y225 (Value.slice a230 y225.table.length c231)) ++ ((encR y239 (Value.slice a244 y239.table.length c245))))))]) [y197, y211, y225, y239] [(⟨encR y197 (Value.slice a202 y197.table.length c203), rfl, rfl⟩ : Raw 57), (⟨encR y211 (Value.slice a216 y211.table.length c217), rfl, rfl⟩ : Raw 57), (⟨encR y225 (Value.slice a230 y225.table.length c231), rfl, rfl⟩ : Raw 57), (⟨encR y239 (Value.slice a244 y239.table.length c245), rfl, rfl⟩ : Raw 57)] := (readsL_cons ⟨_, rfl, ⟨_, _, rfl, hl204, hr266⟩⟩ (readsL_cons ⟨_, rfl, ⟨_, _, rfl, hl218, hr265⟩⟩ (readsL_cons ⟨_, rfl, ⟨_, _, rfl, hl232, hr264⟩⟩ (readsL_cons ⟨_, rfl, ⟨_, _, rfl, hl246, hr263⟩⟩ readsL_nil))))
  have ht262 : St [blk b253 62 ((encR y197 (Value.slice a202 y197.table.length c203)) ++ ((encR y211 (Value.slice a216 y211.table.length c217)) ++ ((encR y225 (Value.slice a230 y225.table.length c231)) ++ ((encR y239 (Value.slice a244 y239.table.length c245))))))] w254 w254 [gsl 62 (rawE 57) (Value.slice (some ⟨b253, 0, none⟩) (([y197, y211, y225, y239]).length) 4) [(⟨encR y197 (Value.slice a202 y197.table.length c203), rfl, rfl⟩ : Raw 57), (⟨encR y211 (Value.slice a216 y211.table.length c217), rfl, rfl⟩ : Raw 57), (⟨encR y225 (Value.slice a230 y225.table.length c231), rfl, rfl⟩ : Raw 57), (⟨encR y239 (Value.slice a244 y239.table.length c245), rfl, rfl⟩ : Raw 57)]] := (hs261.here).conv (i := 0) rfl (arr_gsl (E := 62) (e := (rawE 57)) (xs := [(⟨encR y197 (Value.slice a202 y197.table.length c203), rfl, rfl⟩ : Raw 57), (⟨encR y211 (Value.slice a216 y211.table.length c217), rfl, rfl⟩ : Raw 57), (⟨encR y225 (Value.slice a230 y225.table.length c231), rfl, rfl⟩ : Raw 57), (⟨encR y239 (Value.slice a244 y239.table.length c245), rfl, rfl⟩ : Raw 57)]) (hs261.heap (i := 0) rfl) (show (4 : Nat) ≤ maxLen from by decide)) (fun b hb => (Option.some.inj hb).symm) rfl
  have hs269 := hs261.trans ht262
  have hr276 := rlT ht262 hr267
  obtain ⟨a270, c271, hv272, hl273, he274⟩ := el_freezeR hs269 (List.Perm.refl _) rfl hr276
  obtain ⟨rfl, rfl⟩ : (some ⟨b253, 0, none⟩) = a270 ∧ 4 = c271 := ⟨(Value.slice.inj hv272).1, (Value.slice.inj hv272).2.2⟩
  have ht275 := (hs269.here).perm (L' := []) (G := [gsl 62 (rawE 57) (Value.slice (some ⟨b253, 0, none⟩) (([y197, y211, y225, y239]).length) 4) [(⟨encR y197 (Value.slice a202 y197.table.length c203), rfl, rfl⟩ : Raw 57), (⟨encR y211 (Value.slice a216 y211.table.length c217), rfl, rfl⟩ : Raw 57), (⟨encR y225 (Value.slice a230 y225.table.length c231), rfl, rfl⟩ : Raw 57), (⟨encR y239 (Value.slice a244 y239.table.length c245), rfl, rfl⟩ : Raw 57)]]) ((List.Perm.refl _))
  have hs277 := hs269.trans ht275
  obtain ⟨y279, hx280, h281⟩ := ob (o := agree15 4 [y197, y211, y225, y239]) h241
  refine WL.call (agree15_ok _ _ 4 [y197, y211, y225, y239] _ _ he274 hl273 hx280) (R.call (vs := [Value.int .i64 4, Value.slice (some ⟨b253, 0, none⟩) 4 4]) (caps := []) bo34 rfl rfl) rfl ?_
  rintro v288 w289 ⟨a284, c285, rfl, hl286, he287, ht282⟩
  have ht283 := hs277.call (N := []) (M := []) (List.Perm.refl _) ht282
  have he290 := elC hs277 (M := []) (List.Perm.refl _) ht282 he287
  have hs291 := hs277.trans ht283
  refine WL.val (R.assign (v := Value.slice a284 y279.length c285) rfl) rfl ?_
  refine WL.nil ?_
  refine thenN ?_
  refine WC.seq ?_
  refine WC.region ?_
  obtain ⟨y293, hx294, h295⟩ := ob (o := said15 4 0 9) h281
  refine WL.call (said15_ok _ (In (fun _ => False) w [] []) 4 0 9  hx294) (R.call (vs := [Value.int .i64 4, Value.int .i64 0, Value.int .i64 9]) (caps := []) bo101 rfl rfl) rfl ?_
  rintro v302 w303 ⟨a298, c299, rfl, hl300, he301, ht296⟩
  have ht297 := hs291.call (N := []) (M := []) (List.Perm.refl _) ht296
  have he304 := elC hs291 (M := []) (List.Perm.refl _) ht296 he301
  have hs305 := hs291.trans ht297
  obtain ⟨y307, hx308, h309⟩ := ob (o := said15 4 0 5) h295
  refine WL.call (said15_ok _ (In (fun _ => False) w [] []) 4 0 5  hx308) (R.call (vs := [Value.int .i64 4, Value.int .i64 0, Value.int .i64 5]) (caps := []) bo101 rfl rfl) rfl ?_
  rintro v316 w317 ⟨a312, c313, rfl, hl314, he315, ht310⟩
  have ht311 := hs305.call (N := []) (M := []) (List.Perm.refl _) ht310
  have he318 := elC hs305 (M := []) (List.Perm.refl _) ht310 he315
  have hs319 := hs305.trans ht311
  obtain ⟨y321, hx322, h323⟩ := ob (o := said15 4 0 6) h309
  refine WL.call (said15_ok _ (In (fun _ => False) w [] []) 4 0 6  hx322) (R.call (vs := [Value.int .i64 4, Value.int .i64 0, Value.int .i64 6]) (caps := []) bo101 rfl rfl) rfl ?_
  rintro v330 w331 ⟨a326, c327, rfl, hl328, he329, ht324⟩
  have ht325 := hs319.call (N := []) (M := []) (List.Perm.refl _) ht324
  have he332 := elC hs319 (M := []) (List.Perm.refl _) ht324 he329
  have hs333 := hs319.trans ht325
  obtain ⟨y335, hx336, h337⟩ := ob (o := said15 4 0 7) h323
  refine WL.call (said15_ok _ (In (fun _ => False) w [] []) 4 0 7  hx336) (R.call (vs := [Value.int .i64 4, Value.int .i64 0, Value.int .i64 7]) (caps := []) bo101 rfl rfl) rfl ?_
  rintro v344 w345 ⟨a340, c341, rfl, hl342, he343, ht338⟩
  have ht339 := hs333.call (N := []) (M := []) (List.Perm.refl _) ht338
  have he346 := elC hs333 (M := []) (List.Perm.refl _) ht338 he343
  have hs347 := hs333.trans ht339
  have hd354 : ∀ w : World, (Instr.buildSlice 22 4 #[(0, Value.agg (List.toArray (encR y293 (Value.slice a298 y293.table.length c299)))), (1, Value.agg (List.toArray (encR y307 (Value.slice a312 y307.table.length c313)))), (2, Value.agg (List.toArray (encR y321 (Value.slice a326 y321.table.length c327)))), (3, Value.agg (List.toArray (encR y335 (Value.slice a340 y335.table.length c341))))]).run Try.prog w = .ok (.slice (some ⟨w.heap.size, 0, none⟩) 4 4) { w with heap := w.heap.push (.cells (List.toArray ((encR y293 (Value.slice a298 y293.table.length c299)) ++ ((encR y307 (Value.slice a312 y307.table.length c313)) ++ ((encR y321 (Value.slice a326 y321.table.length c327)) ++ ((encR y335 (Value.slice a340 y335.table.length c341))))))) 62) } := fun _ => by kernel_rfl
  refine WL.new (L' := fun b349 => [blk b349 62 ((encR y293 (Value.slice a298 y293.table.length c299)) ++ ((encR y307 (Value.slice a312 y307.table.length c313)) ++ ((encR y321 (Value.slice a326 y321.table.length c327)) ++ ((encR y335 (Value.slice a340 y335.table.length c341))))))]) (f := fun b349 => Value.slice (some ⟨b349, 0, none⟩) 4 4) (X.buildSlice (c := (encR y293 (Value.slice a298 y293.table.length c299)) ++ ((encR y307 (Value.slice a312 y307.table.length c313)) ++ ((encR y321 (Value.slice a326 y321.table.length c327)) ++ ((encR y335 (Value.slice a340 y335.table.length c341)))))) (vs := [(0, Value.agg (List.toArray (encR y293 (Value.slice a298 y293.table.length c299)))), (1, Value.agg (List.toArray (encR y307 (Value.slice a312 y307.table.length c313)))), (2, Value.agg (List.toArray (encR y321 (Value.slice a326 y321.table.length c327)))), (3, Value.agg (List.toArray (encR y335 (Value.slice a340 y335.table.length c341))))]) (hs347.here) rfl hd354 (fun _ => rfl)) rfl ?_
  intro b349 w350 ht356 he352 hz353
  have hs357 := hs347.trans ht356
  have hr359 := elT ht356 he346
  have hr360 := elT (ht339.trans ht356) he332
  have hr361 := elT ((ht325.trans ht339).trans ht356) he318
  have hr362 := elT (((ht311.trans ht325).trans ht339).trans ht356) he304
  have hr363 : readsL rowW w350 (In (fun _ => False) w [] [blk b349 62 ((encR y293 (Value.slice a298 y293.table.length c299)) ++ ((encR y307 (Value.slice a312 y307.table.length c313)) ++ ((encR y321 (Value.slice a326 y321.table.length c327)) ++ ((encR y335 (Value.slice a340 y335.table.length c341))))))]) [y293, y307, y321, y335] [(⟨encR y293 (Value.slice a298 y293.table.length c299), rfl, rfl⟩ : Raw 57), (⟨encR y307 (Value.slice a312 y307.table.length c313), rfl, rfl⟩ : Raw 57), (⟨encR y321 (Value.slice a326 y321.table.length c327), rfl, rfl⟩ : Raw 57), (⟨encR y335 (Value.slice a340 y335.table.length c341), rfl, rfl⟩ : Raw 57)] := (readsL_cons ⟨_, rfl, ⟨_, _, rfl, hl300, hr362⟩⟩ (readsL_cons ⟨_, rfl, ⟨_, _, rfl, hl314, hr361⟩⟩ (readsL_cons ⟨_, rfl, ⟨_, _, rfl, hl328, hr360⟩⟩ (readsL_cons ⟨_, rfl, ⟨_, _, rfl, hl342, hr359⟩⟩ readsL_nil))))
  have ht358 : St [blk b349 62 ((encR y293 (Value.slice a298 y293.table.length c299)) ++ ((encR y307 (Value.slice a312 y307.table.length c313)) ++ ((encR y321 (Value.slice a326 y321.table.length c327)) ++ ((encR y335 (Value.slice a340 y335.table.length c341))))))] w350 w350 [gsl 62 (rawE 57) (Value.slice (some ⟨b349, 0, none⟩) (([y293, y307, y321, y335]).length) 4) [(⟨encR y293 (Value.slice a298 y293.table.length c299), rfl, rfl⟩ : Raw 57), (⟨encR y307 (Value.slice a312 y307.table.length c313), rfl, rfl⟩ : Raw 57), (⟨encR y321 (Value.slice a326 y321.table.length c327), rfl, rfl⟩ : Raw 57), (⟨encR y335 (Value.slice a340 y335.table.length c341), rfl, rfl⟩ : Raw 57)]] := (hs357.here).conv (i := 0) rfl (arr_gsl (E := 62) (e := (rawE 57)) (xs := [(⟨encR y293 (Value.slice a298 y293.table.length c299), rfl, rfl⟩ : Raw 57), (⟨encR y307 (Value.slice a312 y307.table.length c313), rfl, rfl⟩ : Raw 57), (⟨encR y321 (Value.slice a326 y321.table.length c327), rfl, rfl⟩ : Raw 57), (⟨encR y335 (Value.slice a340 y335.table.length c341), rfl, rfl⟩ : Raw 57)]) (hs357.heap (i := 0) rfl) (show (4 : Nat) ≤ maxLen from by decide)) (fun b hb => (Option.some.inj hb).symm) rfl
  have hs365 := hs357.trans ht358
  have hr372 := rlT ht358 hr363
  obtain ⟨a366, c367, hv368, hl369, he370⟩ := el_freezeR hs365 (List.Perm.refl _) rfl hr372
  obtain ⟨rfl, rfl⟩ : (some ⟨b349, 0, none⟩) = a366 ∧ 4 = c367 := ⟨(Value.slice.inj hv368).1, (Value.slice.inj hv368).2.2⟩
  have ht371 := (hs365.here).perm (L' := []) (G := [gsl 62 (rawE 57) (Value.slice (some ⟨b349, 0, none⟩) (([y293, y307, y321, y335]).length) 4) [(⟨encR y293 (Value.slice a298 y293.table.length c299), rfl, rfl⟩ : Raw 57), (⟨encR y307 (Value.slice a312 y307.table.length c313), rfl, rfl⟩ : Raw 57), (⟨encR y321 (Value.slice a326 y321.table.length c327), rfl, rfl⟩ : Raw 57), (⟨encR y335 (Value.slice a340 y335.table.length c341), rfl, rfl⟩ : Raw 57)]]) ((List.Perm.refl _))
  have hs373 := hs365.trans ht371
  obtain ⟨y375, hx376, h377⟩ := ob (o := agree15 4 [y293, y307, y321, y335]) h337
  refine WL.call (agree15_ok _ _ 4 [y293, y307, y321, y335] _ _ he370 hl369 hx376) (R.call (vs := [Value.int .i64 4, Value.slice (some ⟨b349, 0, none⟩) 4 4]) (caps := []) bo34 rfl rfl) rfl ?_
  rintro v384 w385 ⟨a380, c381, rfl, hl382, he383, ht378⟩
  have ht379 := hs373.call (N := []) (M := []) (List.Perm.refl _) ht378
  have he386 := elC hs373 (M := []) (List.Perm.refl _) ht378 he383
  have hs387 := hs373.trans ht379
  refine WL.val (R.assign (v := Value.slice a380 y375.length c381) rfl) rfl ?_
  refine WL.nil ?_
  refine thenN ?_
  refine WC.seq ?_
  refine WC.region ?_
  have hd389 : ∀ w, (Instr.build 58 #[(0, Value.int .i64 3)]).run Try.prog w = .ok (Value.agg (List.toArray (encC (⟨3, Cl.zero.offer, Cl.zero.report, Cl.zero.view⟩ : Cl)))) w := fun _ => by kernel_rfl
  refine WL.val (R.build (vs := [(0, Value.int .i64 3)]) rfl hd389) rfl ?_
  have hd390 : ∀ w, (Instr.build 62 #[(0, Value.bool true), (1, Value.agg (List.toArray (encC (⟨3, Cl.zero.offer, Cl.zero.report, Cl.zero.view⟩ : Cl))))]).run Try.prog w = .ok (Value.agg (List.toArray ((Value.bool true) :: ((encC (⟨3, Cl.zero.offer, Cl.zero.report, Cl.zero.view⟩ : Cl)) ++ ((Value.slice none 0 0) :: []))))) w := fun _ => by kernel_rfl
  refine WL.val (R.build (vs := [(0, Value.bool true), (1, Value.agg (List.toArray (encC (⟨3, Cl.zero.offer, Cl.zero.report, Cl.zero.view⟩ : Cl))))]) rfl hd390) rfl ?_
  have hd391 : ∀ w, (Instr.build 62 #[]).run Try.prog w = .ok (Value.agg (List.toArray (encR Rw.none (Value.slice none 0 0)))) w := fun _ => by kernel_rfl
  refine WL.val (R.build (vs := []) rfl hd391) rfl ?_
  have hd397 : ∀ w : World, (Instr.buildSlice 22 2 #[(0, Value.agg (List.toArray ((Value.bool true) :: ((encC (⟨3, Cl.zero.offer, Cl.zero.report, Cl.zero.view⟩ : Cl)) ++ ((Value.slice none 0 0) :: []))))), (1, Value.agg (List.toArray (encR Rw.none (Value.slice none 0 0))))]).run Try.prog w = .ok (.slice (some ⟨w.heap.size, 0, none⟩) 2 2) { w with heap := w.heap.push (.cells (List.toArray (((Value.bool true) :: ((encC (⟨3, Cl.zero.offer, Cl.zero.report, Cl.zero.view⟩ : Cl)) ++ ((Value.slice none 0 0) :: []))) ++ ((encR Rw.none (Value.slice none 0 0))))) 62) } := fun _ => by kernel_rfl
  refine WL.new (L' := fun b392 => [blk b392 62 (((Value.bool true) :: ((encC (⟨3, Cl.zero.offer, Cl.zero.report, Cl.zero.view⟩ : Cl)) ++ ((Value.slice none 0 0) :: []))) ++ ((encR Rw.none (Value.slice none 0 0))))]) (f := fun b392 => Value.slice (some ⟨b392, 0, none⟩) 2 2) (X.buildSlice (c := ((Value.bool true) :: ((encC (⟨3, Cl.zero.offer, Cl.zero.report, Cl.zero.view⟩ : Cl)) ++ ((Value.slice none 0 0) :: []))) ++ ((encR Rw.none (Value.slice none 0 0)))) (vs := [(0, Value.agg (List.toArray ((Value.bool true) :: ((encC (⟨3, Cl.zero.offer, Cl.zero.report, Cl.zero.view⟩ : Cl)) ++ ((Value.slice none 0 0) :: []))))), (1, Value.agg (List.toArray (encR Rw.none (Value.slice none 0 0))))]) (hs387.here) rfl hd397 (fun _ => rfl)) rfl ?_
  intro b392 w393 ht399 he395 hz396
  have hs400 := hs387.trans ht399
  have hr402 : readsL rowW w393 (In (fun _ => False) w [] [blk b392 62 (((Value.bool true) :: ((encC (⟨3, Cl.zero.offer, Cl.zero.report, Cl.zero.view⟩ : Cl)) ++ ((Value.slice none 0 0) :: []))) ++ ((encR Rw.none (Value.slice none 0 0))))]) [(⟨true, (⟨3, Cl.zero.offer, Cl.zero.report, Cl.zero.view⟩ : Cl), []⟩ : Rw), Rw.none] [(⟨(Value.bool true) :: ((encC (⟨3, Cl.zero.offer, Cl.zero.report, Cl.zero.view⟩ : Cl)) ++ ((Value.slice none 0 0) :: [])), rfl, rfl⟩ : Raw 57), (⟨encR Rw.none (Value.slice none 0 0), rfl, rfl⟩ : Raw 57)] := (readsL_cons ⟨_, rfl, ⟨_, _, rfl, Nat.le_refl _, elems_nil⟩⟩ (readsL_cons ⟨_, rfl, ⟨_, _, rfl, Nat.le_refl _, elems_nil⟩⟩ readsL_nil))
  have ht401 : St [blk b392 62 (((Value.bool true) :: ((encC (⟨3, Cl.zero.offer, Cl.zero.report, Cl.zero.view⟩ : Cl)) ++ ((Value.slice none 0 0) :: []))) ++ ((encR Rw.none (Value.slice none 0 0))))] w393 w393 [gsl 62 (rawE 57) (Value.slice (some ⟨b392, 0, none⟩) (([(⟨true, (⟨3, Cl.zero.offer, Cl.zero.report, Cl.zero.view⟩ : Cl), []⟩ : Rw), Rw.none]).length) 2) [(⟨(Value.bool true) :: ((encC (⟨3, Cl.zero.offer, Cl.zero.report, Cl.zero.view⟩ : Cl)) ++ ((Value.slice none 0 0) :: [])), rfl, rfl⟩ : Raw 57), (⟨encR Rw.none (Value.slice none 0 0), rfl, rfl⟩ : Raw 57)]] := (hs400.here).conv (i := 0) rfl (arr_gsl (E := 62) (e := (rawE 57)) (xs := [(⟨(Value.bool true) :: ((encC (⟨3, Cl.zero.offer, Cl.zero.report, Cl.zero.view⟩ : Cl)) ++ ((Value.slice none 0 0) :: [])), rfl, rfl⟩ : Raw 57), (⟨encR Rw.none (Value.slice none 0 0), rfl, rfl⟩ : Raw 57)]) (hs400.heap (i := 0) rfl) (show (2 : Nat) ≤ maxLen from by decide)) (fun b hb => (Option.some.inj hb).symm) rfl
  have hs404 := hs400.trans ht401
  have hr411 := rlT ht401 hr402
  obtain ⟨a405, c406, hv407, hl408, he409⟩ := el_freezeR hs404 (List.Perm.refl _) rfl hr411
  obtain ⟨rfl, rfl⟩ : (some ⟨b392, 0, none⟩) = a405 ∧ 2 = c406 := ⟨(Value.slice.inj hv407).1, (Value.slice.inj hv407).2.2⟩
  have ht410 := (hs404.here).perm (L' := []) (G := [gsl 62 (rawE 57) (Value.slice (some ⟨b392, 0, none⟩) (([(⟨true, (⟨3, Cl.zero.offer, Cl.zero.report, Cl.zero.view⟩ : Cl), []⟩ : Rw), Rw.none]).length) 2) [(⟨(Value.bool true) :: ((encC (⟨3, Cl.zero.offer, Cl.zero.report, Cl.zero.view⟩ : Cl)) ++ ((Value.slice none 0 0) :: [])), rfl, rfl⟩ : Raw 57), (⟨encR Rw.none (Value.slice none 0 0), rfl, rfl⟩ : Raw 57)]]) ((List.Perm.refl _))
  have hs412 := hs404.trans ht410
  obtain ⟨y414, hx415, h416⟩ := ob (o := table15 [(⟨true, (⟨3, Cl.zero.offer, Cl.zero.report, Cl.zero.view⟩ : Cl), []⟩ : Rw), Rw.none]) h377
  refine WL.call (table15_ok _ _ [(⟨true, (⟨3, Cl.zero.offer, Cl.zero.report, Cl.zero.view⟩ : Cl), []⟩ : Rw), Rw.none] _ _ he409 hl408 hx415) (R.call (vs := [Value.slice (some ⟨b392, 0, none⟩) 2 2]) (caps := []) bo33 rfl rfl) rfl ?_
  rintro v423 w424 ⟨a419, c420, rfl, hl421, he422, ht417⟩
  have ht418 := hs412.call (N := []) (M := []) (List.Perm.refl _) ht417
  have he425 := elC hs412 (M := []) (List.Perm.refl _) ht417 he422
  have hs426 := hs412.trans ht418
  refine WL.val (R.assign (v := Value.slice a419 y414.length c420) rfl) rfl ?_
  refine WL.nil ?_
  refine thenN ?_
  refine WC.seq ?_
  refine WC.region ?_
  have hd428 : ∀ w, (Instr.build 58 #[(0, Value.int .i64 5)]).run Try.prog w = .ok (Value.agg (List.toArray (encC (⟨5, Cl.zero.offer, Cl.zero.report, Cl.zero.view⟩ : Cl)))) w := fun _ => by kernel_rfl
  refine WL.val (R.build (vs := [(0, Value.int .i64 5)]) rfl hd428) rfl ?_
  have hd429 : ∀ w, (Instr.build 60 #[(0, Value.bool true), (1, Value.agg (List.toArray (encC (⟨5, Cl.zero.offer, Cl.zero.report, Cl.zero.view⟩ : Cl))))]).run Try.prog w = .ok (Value.agg (List.toArray (encH (⟨true, (⟨5, Cl.zero.offer, Cl.zero.report, Cl.zero.view⟩ : Cl)⟩ : Hd)))) w := fun _ => by kernel_rfl
  refine WL.val (R.build (vs := [(0, Value.bool true), (1, Value.agg (List.toArray (encC (⟨5, Cl.zero.offer, Cl.zero.report, Cl.zero.view⟩ : Cl))))]) rfl hd429) rfl ?_
  refine WL.new (L' := fun b430 => [blk b430 60 (encH Hd.none)]) (f := fun b430 => Value.pointer (some ⟨b430, 0, none⟩)) (X.alloc (c := encH Hd.none) (hs426.here) zr60 rfl (fun _ => rfl)) rfl ?_
  intro b430 w431 ht436 he433 hz434
  have hs437 := hs426.trans ht436
  refine WL.sto (L' := [blk b430 60 (encH (⟨true, (⟨5, Cl.zero.offer, Cl.zero.report, Cl.zero.view⟩ : Cl)⟩ : Hd))]) (X.store (i := 0) (n := 56) (b := b430) (off := 0) (c := encH Hd.none) (U := 60) (vs := encH (⟨true, (⟨5, Cl.zero.offer, Cl.zero.report, Cl.zero.view⟩ : Cl)⟩ : Hd)) (v := Value.agg (List.toArray (encH (⟨true, (⟨5, Cl.zero.offer, Cl.zero.report, Cl.zero.view⟩ : Cl)⟩ : Hd)))) (c' := encH (⟨true, (⟨5, Cl.zero.offer, Cl.zero.report, Cl.zero.view⟩ : Cl)⟩ : Hd)) (hs437.here) rfl ag60.size rfl rfl rfl rfl rfl rfl rfl rfl) rfl rfl ?_
  intro w438 ht439
  have hs440 := hs437.trans ht439
  refine WL.nil ?_
  refine thenN ?_
  refine WC.seq ?_
  refine WC.drawE mixed (NP.then NP.rq) ?_
  have ht441 := (hs440.here).ext (Ext.drew _)
  have hs442 := hs440.trans ht441
  refine WE.take 0 rfl (by decide +kernel) (by decide +kernel) (by decide +kernel) (by decide +kernel) rfl rfl (fun wq hq => R.move (v := Value.slice a188 y183.length c189) rfl) ?_
  refine WE.take 1 rfl (by decide +kernel) (by decide +kernel) (by decide +kernel) (by decide +kernel) rfl rfl (fun wq hq => R.len (a := a188) (n := y183.length) (c := c189) un28 rfl) ?_
  by_cases hc443 : ((y183.length : Nat) : Int) = 4
  · have h444 := ifT hc443 h416
    refine WE.take 2 rfl (by decide +kernel) (by decide +kernel) (by decide +kernel) (by decide +kernel) rfl rfl (fun wq hq => R.eqlT (k := .i64) (a := ((y183.length : Nat) : Int)) (b := 4) un3 rfl rfl hc443) ?_
    refine WE.take 3 rfl (by decide +kernel) (by decide +kernel) (by decide +kernel) (by decide +kernel) rfl rfl (fun wq hq => R.move (v := Value.bool true) rfl) ?_
    refine WE.takeY 4 (e := 34) rfl (by decide +kernel) (by decide +kernel) (by decide +kernel) (by decide +kernel) rfl rfl rfl rfl rfl (fun wq hq => R.move (v := Value.slice a188 y183.length c189) rfl) ?_
    obtain ⟨x445, hx446, h447⟩ := ob (o := rd y183 0) h444
    obtain ⟨h0448, hx449, hl450, hm451⟩ := rdE hx446
    have hr452 := elT ((((((((((((((((((((((ht201.trans ht215).trans ht229).trans ht243).trans ht260).trans ht262).trans ht275).trans ht283).trans ht297).trans ht311).trans ht325).trans ht339).trans ht356).trans ht358).trans ht371).trans ht379).trans ht399).trans ht401).trans ht410).trans ht418).trans ht436).trans ht439).trans ht441) he194
    obtain ⟨ad453, e458, ha454, hp455, hat456, hrd457⟩ := hr452 _ _ hx449
    obtain ⟨-, rfl⟩ := hrd457
    refine WE.takeY 5 (e := 34) rfl (by decide +kernel) (by decide +kernel) (by decide +kernel) (by decide +kernel) rfl rfl rfl rfl rfl (fun wq hq => R.indexS (n := 56) (m := (0 : Int).toNat) (a := a188) (ad := ad453) (len := y183.length) (cap := c189) (z := 0) un28 ag60.size rfl ha454 rfl hm451 hl450 hp455) ?_
    refine WE.takeY 6 (e := 34) rfl (by decide +kernel) (by decide +kernel) (by decide +kernel) (by decide +kernel) rfl rfl rfl rfl rfl (fun wq hq => R.loadA (cs := encH x445) (n := 56) ag60 rfl (At.exT hq hat456) rfl) ?_
    refine WE.takeY 7 (e := 34) rfl (by decide +kernel) (by decide +kernel) (by decide +kernel) (by decide +kernel) rfl rfl rfl rfl rfl (fun wq hq => R.loadA (cs := encH (⟨true, (⟨5, Cl.zero.offer, Cl.zero.report, Cl.zero.view⟩ : Cl)⟩ : Hd)) (n := 56) ag60 rfl ((hs442.ext hq).at (i := 0) (off := 0) (n := 56) (cs := encH (⟨true, (⟨5, Cl.zero.offer, Cl.zero.report, Cl.zero.view⟩ : Cl)⟩ : Hd)) rfl rfl rfl) rfl) ?_
    refine WE.takeY 8 (e := 34) rfl (by decide +kernel) (by decide +kernel) (by decide +kernel) (by decide +kernel) rfl rfl rfl rfl rfl (fun wq hq => R.eqHeld (a := x445) (b := (⟨true, (⟨5, Cl.zero.offer, Cl.zero.report, Cl.zero.view⟩ : Cl)⟩ : Hd)) rfl rfl) ?_
    refine WE.take 9 rfl (by decide +kernel) (by decide +kernel) (by decide +kernel) (by decide +kernel) rfl rfl (fun wq hq => R.pickT (v := Value.bool (decide (x445 = (⟨true, (⟨5, Cl.zero.offer, Cl.zero.report, Cl.zero.view⟩ : Cl)⟩ : Hd)))) rfl rfl) ?_
    refine WE.take 10 rfl (by decide +kernel) (by decide +kernel) (by decide +kernel) (by decide +kernel) rfl rfl (fun wq hq => R.move (v := Value.bool (decide (x445 = (⟨true, (⟨5, Cl.zero.offer, Cl.zero.report, Cl.zero.view⟩ : Cl)⟩ : Hd)))) rfl) ?_
    by_cases hc460 : x445 = (⟨true, (⟨5, Cl.zero.offer, Cl.zero.report, Cl.zero.view⟩ : Cl)⟩ : Hd)
    · have h461 := ifT hc460 h447
      refine WE.takeY 11 (e := 41) rfl (by decide +kernel) (by decide +kernel) (by decide +kernel) (by decide +kernel) rfl rfl rfl rfl (Eq.trans (show _ = Value.bool (decide (x445 = (⟨true, (⟨5, Cl.zero.offer, Cl.zero.report, Cl.zero.view⟩ : Cl)⟩ : Hd))) from rfl) (congrArg Value.bool (decide_eq_true hc460))) (fun wq hq => R.move (v := Value.slice a188 y183.length c189) rfl) ?_
      obtain ⟨x462, hx463, h464⟩ := ob (o := rd y183 1) h461
      obtain ⟨h0465, hx466, hl467, hm468⟩ := rdE hx463
      obtain ⟨ad469, e474, ha470, hp471, hat472, hrd473⟩ := hr452 _ _ hx466
      obtain ⟨-, rfl⟩ := hrd473
      refine WE.takeY 12 (e := 41) rfl (by decide +kernel) (by decide +kernel) (by decide +kernel) (by decide +kernel) rfl rfl rfl rfl (Eq.trans (show _ = Value.bool (decide (x445 = (⟨true, (⟨5, Cl.zero.offer, Cl.zero.report, Cl.zero.view⟩ : Cl)⟩ : Hd))) from rfl) (congrArg Value.bool (decide_eq_true hc460))) (fun wq hq => R.indexS (n := 56) (m := (1 : Int).toNat) (a := a188) (ad := ad469) (len := y183.length) (cap := c189) (z := 1) un28 ag60.size rfl ha470 rfl hm468 hl467 hp471) ?_
      refine WE.takeY 13 (e := 41) rfl (by decide +kernel) (by decide +kernel) (by decide +kernel) (by decide +kernel) rfl rfl rfl rfl (Eq.trans (show _ = Value.bool (decide (x445 = (⟨true, (⟨5, Cl.zero.offer, Cl.zero.report, Cl.zero.view⟩ : Cl)⟩ : Hd))) from rfl) (congrArg Value.bool (decide_eq_true hc460))) (fun wq hq => R.fieldAddr (o := ad469.off + (1 : Int).toNat * 56) (o' := ad469.off + (1 : Int).toNat * 56) fa60_0 rfl rfl) ?_
      refine WE.takeY 14 (e := 41) rfl (by decide +kernel) (by decide +kernel) (by decide +kernel) (by decide +kernel) rfl rfl rfl rfl (Eq.trans (show _ = Value.bool (decide (x445 = (⟨true, (⟨5, Cl.zero.offer, Cl.zero.report, Cl.zero.view⟩ : Cl)⟩ : Hd))) from rfl) (congrArg Value.bool (decide_eq_true hc460))) (fun wq hq => R.loadL (v := Value.bool x462.is) lf4 rfl (At.sub (a := ⟨ad469.block, ad469.off + (1 : Int).toNat * 56, none⟩) (off := 0) (n := 1) (cs := encH x462) (ds := [Value.bool x462.is]) (At.exT hq hat472) rfl rfl)) ?_
      refine WE.takeY 15 (e := 41) rfl (by decide +kernel) (by decide +kernel) (by decide +kernel) (by decide +kernel) rfl rfl rfl rfl (Eq.trans (show _ = Value.bool (decide (x445 = (⟨true, (⟨5, Cl.zero.offer, Cl.zero.report, Cl.zero.view⟩ : Cl)⟩ : Hd))) from rfl) (congrArg Value.bool (decide_eq_true hc460))) (fun wq hq => R.not (b := x462.is) rfl) ?_
      refine WE.take 16 rfl (by decide +kernel) (by decide +kernel) (by decide +kernel) (by decide +kernel) rfl rfl (fun wq hq => R.pickT (v := Value.bool (!x462.is)) (Eq.trans (show _ = Value.bool (decide (x445 = (⟨true, (⟨5, Cl.zero.offer, Cl.zero.report, Cl.zero.view⟩ : Cl)⟩ : Hd))) from rfl) (congrArg Value.bool (decide_eq_true hc460))) rfl) ?_
      refine WE.take 17 rfl (by decide +kernel) (by decide +kernel) (by decide +kernel) (by decide +kernel) rfl rfl (fun wq hq => R.move (v := Value.bool (!x462.is)) rfl) ?_
      by_cases hc476 : x462.is = true
      · have h477 := ifT hc476 h464
        have hk478 : (!x462.is) = false := by simp [hc476]
        refine WE.takeN 18 (e := 48) (v := .bool false) rfl (by decide +kernel) (by decide +kernel) (by decide +kernel) (by decide +kernel) rfl rfl rfl (Eq.trans (show _ = Value.bool (!x462.is) from rfl) (congrArg Value.bool hk478)) rfl ?_
        refine WE.takeN 19 (e := 48) (v := .bool false) rfl (by decide +kernel) (by decide +kernel) (by decide +kernel) (by decide +kernel) rfl rfl rfl (Eq.trans (show _ = Value.bool (!x462.is) from rfl) (congrArg Value.bool hk478)) rfl ?_
        refine WE.takeN 20 (e := 48) (v := .bool false) rfl (by decide +kernel) (by decide +kernel) (by decide +kernel) (by decide +kernel) rfl rfl rfl (Eq.trans (show _ = Value.bool (!x462.is) from rfl) (congrArg Value.bool hk478)) rfl ?_
        refine WE.take 21 rfl (by decide +kernel) (by decide +kernel) (by decide +kernel) (by decide +kernel) rfl rfl (fun wq hq => R.pickF (v := Value.bool false) (Eq.trans (show _ = Value.bool (!x462.is) from rfl) (congrArg Value.bool hk478)) rfl) ?_
        refine WE.take 22 rfl (by decide +kernel) (by decide +kernel) (by decide +kernel) (by decide +kernel) rfl rfl (fun wq hq => R.move (v := Value.bool false) rfl) ?_
        refine WE.takeN 23 (e := 53) (v := .bool false) rfl (by decide +kernel) (by decide +kernel) (by decide +kernel) (by decide +kernel) rfl rfl rfl rfl rfl ?_
        refine WE.takeN 24 (e := 53) (v := .bool false) rfl (by decide +kernel) (by decide +kernel) (by decide +kernel) (by decide +kernel) rfl rfl rfl rfl rfl ?_
        refine WE.takeN 25 (e := 53) (v := .bool false) rfl (by decide +kernel) (by decide +kernel) (by decide +kernel) (by decide +kernel) rfl rfl rfl rfl rfl ?_
        refine WE.takeN 26 (e := 53) (v := .bool false) rfl (by decide +kernel) (by decide +kernel) (by decide +kernel) (by decide +kernel) rfl rfl rfl rfl rfl ?_
        refine WE.takeN 27 (e := 53) (v := .bool false) rfl (by decide +kernel) (by decide +kernel) (by decide +kernel) (by decide +kernel) rfl rfl rfl rfl rfl ?_
        refine WE.take 28 rfl (by decide +kernel) (by decide +kernel) (by decide +kernel) (by decide +kernel) rfl rfl (fun wq hq => R.pickF (v := Value.bool false) rfl rfl) ?_
        refine WE.take 29 rfl (by decide +kernel) (by decide +kernel) (by decide +kernel) (by decide +kernel) rfl rfl (fun wq hq => R.move (v := Value.bool false) rfl) ?_
        refine WE.takeN 30 (e := 60) (v := .bool false) rfl (by decide +kernel) (by decide +kernel) (by decide +kernel) (by decide +kernel) rfl rfl rfl rfl rfl ?_
        refine WE.takeN 31 (e := 60) (v := .bool false) rfl (by decide +kernel) (by decide +kernel) (by decide +kernel) (by decide +kernel) rfl rfl rfl rfl rfl ?_
        refine WE.takeN 32 (e := 60) (v := .bool false) rfl (by decide +kernel) (by decide +kernel) (by decide +kernel) (by decide +kernel) rfl rfl rfl rfl rfl ?_
        refine WE.take 33 rfl (by decide +kernel) (by decide +kernel) (by decide +kernel) (by decide +kernel) rfl rfl (fun wq hq => R.pickF (v := Value.bool false) rfl rfl) ?_
        refine WE.take 34 rfl (by decide +kernel) (by decide +kernel) (by decide +kernel) (by decide +kernel) rfl rfl (fun wq hq => R.move (v := Value.bool false) rfl) ?_
        refine WE.takeN 35 (e := 65) (v := .bool false) rfl (by decide +kernel) (by decide +kernel) (by decide +kernel) (by decide +kernel) rfl rfl rfl rfl rfl ?_
        refine WE.takeN 36 (e := 65) (v := .bool false) rfl (by decide +kernel) (by decide +kernel) (by decide +kernel) (by decide +kernel) rfl rfl rfl rfl rfl ?_
        refine WE.takeN 37 (e := 65) (v := .bool false) rfl (by decide +kernel) (by decide +kernel) (by decide +kernel) (by decide +kernel) rfl rfl rfl rfl rfl ?_
        refine WE.takeN 38 (e := 65) (v := .bool false) rfl (by decide +kernel) (by decide +kernel) (by decide +kernel) (by decide +kernel) rfl rfl rfl rfl rfl ?_
        refine WE.takeN 39 (e := 65) (v := .bool false) rfl (by decide +kernel) (by decide +kernel) (by decide +kernel) (by decide +kernel) rfl rfl rfl rfl rfl ?_
        refine WE.take 40 rfl (by decide +kernel) (by decide +kernel) (by decide +kernel) (by decide +kernel) rfl rfl (fun wq hq => R.pickF (v := Value.bool false) rfl rfl) ?_
        refine WE.take 41 rfl (by decide +kernel) (by decide +kernel) (by decide +kernel) (by decide +kernel) rfl rfl (fun wq hq => R.move (v := Value.bool false) rfl) ?_
        refine WE.takeN 42 (e := 72) (v := .bool false) rfl (by decide +kernel) (by decide +kernel) (by decide +kernel) (by decide +kernel) rfl rfl rfl rfl rfl ?_
        refine WE.takeN 43 (e := 72) (v := .bool false) rfl (by decide +kernel) (by decide +kernel) (by decide +kernel) (by decide +kernel) rfl rfl rfl rfl rfl ?_
        refine WE.takeN 44 (e := 72) (v := .bool false) rfl (by decide +kernel) (by decide +kernel) (by decide +kernel) (by decide +kernel) rfl rfl rfl rfl rfl ?_
        refine WE.take 45 rfl (by decide +kernel) (by decide +kernel) (by decide +kernel) (by decide +kernel) rfl rfl (fun wq hq => R.pickF (v := Value.bool false) rfl rfl) ?_
        refine WE.take 46 rfl (by decide +kernel) (by decide +kernel) (by decide +kernel) (by decide +kernel) rfl rfl (fun wq hq => R.move (v := Value.bool false) rfl) ?_
        refine WE.takeN 47 (e := 77) (v := .bool false) rfl (by decide +kernel) (by decide +kernel) (by decide +kernel) (by decide +kernel) rfl rfl rfl rfl rfl ?_
        refine WE.takeN 48 (e := 77) (v := .bool false) rfl (by decide +kernel) (by decide +kernel) (by decide +kernel) (by decide +kernel) rfl rfl rfl rfl rfl ?_
        refine WE.takeN 49 (e := 77) (v := .bool false) rfl (by decide +kernel) (by decide +kernel) (by decide +kernel) (by decide +kernel) rfl rfl rfl rfl rfl ?_
        refine WE.takeN 50 (e := 77) (v := .bool false) rfl (by decide +kernel) (by decide +kernel) (by decide +kernel) (by decide +kernel) rfl rfl rfl rfl rfl ?_
        refine WE.takeN 51 (e := 77) (v := .bool false) rfl (by decide +kernel) (by decide +kernel) (by decide +kernel) (by decide +kernel) rfl rfl rfl rfl rfl ?_
        refine WE.takeN 52 (e := 77) (v := .bool false) rfl (by decide +kernel) (by decide +kernel) (by decide +kernel) (by decide +kernel) rfl rfl rfl rfl rfl ?_
        refine WE.take 53 rfl (by decide +kernel) (by decide +kernel) (by decide +kernel) (by decide +kernel) rfl rfl (fun wq hq => R.pickF (v := Value.bool false) rfl rfl) ?_
        refine WE.take 54 rfl (by decide +kernel) (by decide +kernel) (by decide +kernel) (by decide +kernel) rfl rfl (fun wq hq => R.move (v := Value.bool false) rfl) ?_
        refine WE.takeN 55 (e := 85) (v := .bool false) rfl (by decide +kernel) (by decide +kernel) (by decide +kernel) (by decide +kernel) rfl rfl rfl rfl rfl ?_
        refine WE.takeN 56 (e := 85) (v := .bool false) rfl (by decide +kernel) (by decide +kernel) (by decide +kernel) (by decide +kernel) rfl rfl rfl rfl rfl ?_
        refine WE.takeN 57 (e := 85) (v := .bool false) rfl (by decide +kernel) (by decide +kernel) (by decide +kernel) (by decide +kernel) rfl rfl rfl rfl rfl ?_
        refine WE.takeN 58 (e := 85) (v := .bool false) rfl (by decide +kernel) (by decide +kernel) (by decide +kernel) (by decide +kernel) rfl rfl rfl rfl rfl ?_
        refine WE.takeN 59 (e := 85) (v := .bool false) rfl (by decide +kernel) (by decide +kernel) (by decide +kernel) (by decide +kernel) rfl rfl rfl rfl rfl ?_
        refine WE.take 60 rfl (by decide +kernel) (by decide +kernel) (by decide +kernel) (by decide +kernel) rfl rfl (fun wq hq => R.pickF (v := Value.bool false) rfl rfl) ?_
        refine WE.take 61 rfl (by decide +kernel) (by decide +kernel) (by decide +kernel) (by decide +kernel) rfl rfl (fun wq hq => R.assign (v := Value.bool false) rfl) ?_
        refine WE.done (by decide +kernel) ?_
        refine thenN ?_
        refine WC.ret ?_
        have ht479 := (hs442.here).perm (L' := []) (G := [blk b430 60 (encH (⟨true, (⟨5, Cl.zero.offer, Cl.zero.report, Cl.zero.view⟩ : Cl)⟩ : Hd))]) ((List.Perm.refl _))
        have hs480 := hs442.trans ht479
        obtain rfl := Option.some.inj (show some false = some r from h477)
        exact ret1 (P := Try.prog) (n := 92) (fn := Try.f31) (R := fun v w' => v = Value.bool false ∧ St [] w w' []) (t := 0) (v := Value.bool false) rfl rfl rfl ⟨rfl, hs480⟩
      · have h481 := ifF hc476 h464
        have hk482 : (!x462.is) = true := by simp [hc476]
        refine WE.takeY 18 (e := 48) rfl (by decide +kernel) (by decide +kernel) (by decide +kernel) (by decide +kernel) rfl rfl rfl rfl (Eq.trans (show _ = Value.bool (!x462.is) from rfl) (congrArg Value.bool hk482)) (fun wq hq => R.move (v := Value.slice a284 y279.length c285) rfl) ?_
        refine WE.takeY 19 (e := 48) rfl (by decide +kernel) (by decide +kernel) (by decide +kernel) (by decide +kernel) rfl rfl rfl rfl (Eq.trans (show _ = Value.bool (!x462.is) from rfl) (congrArg Value.bool hk482)) (fun wq hq => R.len (a := a284) (n := y279.length) (c := c285) un28 rfl) ?_
        by_cases hc483 : ((y279.length : Nat) : Int) = 4
        · have h484 := ifT hc483 h481
          refine WE.takeY 20 (e := 48) rfl (by decide +kernel) (by decide +kernel) (by decide +kernel) (by decide +kernel) rfl rfl rfl rfl (Eq.trans (show _ = Value.bool (!x462.is) from rfl) (congrArg Value.bool hk482)) (fun wq hq => R.eqlT (k := .i64) (a := ((y279.length : Nat) : Int)) (b := 4) un3 rfl rfl hc483) ?_
          refine WE.take 21 rfl (by decide +kernel) (by decide +kernel) (by decide +kernel) (by decide +kernel) rfl rfl (fun wq hq => R.pickT (v := Value.bool true) (Eq.trans (show _ = Value.bool (!x462.is) from rfl) (congrArg Value.bool hk482)) rfl) ?_
          refine WE.take 22 rfl (by decide +kernel) (by decide +kernel) (by decide +kernel) (by decide +kernel) rfl rfl (fun wq hq => R.move (v := Value.bool true) rfl) ?_
          refine WE.takeY 23 (e := 53) rfl (by decide +kernel) (by decide +kernel) (by decide +kernel) (by decide +kernel) rfl rfl rfl rfl rfl (fun wq hq => R.move (v := Value.slice a284 y279.length c285) rfl) ?_
          obtain ⟨x485, hx486, h487⟩ := ob (o := rd y279 0) h484
          obtain ⟨h0488, hx489, hl490, hm491⟩ := rdE hx486
          have hr492 := elT ((((((((((((((ht297.trans ht311).trans ht325).trans ht339).trans ht356).trans ht358).trans ht371).trans ht379).trans ht399).trans ht401).trans ht410).trans ht418).trans ht436).trans ht439).trans ht441) he290
          obtain ⟨ad493, e498, ha494, hp495, hat496, hrd497⟩ := hr492 _ _ hx489
          obtain ⟨-, rfl⟩ := hrd497
          refine WE.takeY 24 (e := 53) rfl (by decide +kernel) (by decide +kernel) (by decide +kernel) (by decide +kernel) rfl rfl rfl rfl rfl (fun wq hq => R.indexS (n := 56) (m := (0 : Int).toNat) (a := a284) (ad := ad493) (len := y279.length) (cap := c285) (z := 0) un28 ag60.size rfl ha494 rfl hm491 hl490 hp495) ?_
          refine WE.takeY 25 (e := 53) rfl (by decide +kernel) (by decide +kernel) (by decide +kernel) (by decide +kernel) rfl rfl rfl rfl rfl (fun wq hq => R.loadA (cs := encH x485) (n := 56) ag60 rfl (At.exT hq hat496) rfl) ?_
          refine WE.takeY 26 (e := 53) rfl (by decide +kernel) (by decide +kernel) (by decide +kernel) (by decide +kernel) rfl rfl rfl rfl rfl (fun wq hq => R.loadA (cs := encH (⟨true, (⟨5, Cl.zero.offer, Cl.zero.report, Cl.zero.view⟩ : Cl)⟩ : Hd)) (n := 56) ag60 rfl ((hs442.ext hq).at (i := 0) (off := 0) (n := 56) (cs := encH (⟨true, (⟨5, Cl.zero.offer, Cl.zero.report, Cl.zero.view⟩ : Cl)⟩ : Hd)) rfl rfl rfl) rfl) ?_
          refine WE.takeY 27 (e := 53) rfl (by decide +kernel) (by decide +kernel) (by decide +kernel) (by decide +kernel) rfl rfl rfl rfl rfl (fun wq hq => R.eqHeld (a := x485) (b := (⟨true, (⟨5, Cl.zero.offer, Cl.zero.report, Cl.zero.view⟩ : Cl)⟩ : Hd)) rfl rfl) ?_
          refine WE.take 28 rfl (by decide +kernel) (by decide +kernel) (by decide +kernel) (by decide +kernel) rfl rfl (fun wq hq => R.pickT (v := Value.bool (decide (x485 = (⟨true, (⟨5, Cl.zero.offer, Cl.zero.report, Cl.zero.view⟩ : Cl)⟩ : Hd)))) rfl rfl) ?_
          refine WE.take 29 rfl (by decide +kernel) (by decide +kernel) (by decide +kernel) (by decide +kernel) rfl rfl (fun wq hq => R.move (v := Value.bool (decide (x485 = (⟨true, (⟨5, Cl.zero.offer, Cl.zero.report, Cl.zero.view⟩ : Cl)⟩ : Hd)))) rfl) ?_
          by_cases hc500 : x485 = (⟨true, (⟨5, Cl.zero.offer, Cl.zero.report, Cl.zero.view⟩ : Cl)⟩ : Hd)
          · have h501 := ifT hc500 h487
            refine WE.takeY 30 (e := 60) rfl (by decide +kernel) (by decide +kernel) (by decide +kernel) (by decide +kernel) rfl rfl rfl rfl (Eq.trans (show _ = Value.bool (decide (x485 = (⟨true, (⟨5, Cl.zero.offer, Cl.zero.report, Cl.zero.view⟩ : Cl)⟩ : Hd))) from rfl) (congrArg Value.bool (decide_eq_true hc500))) (fun wq hq => R.move (v := Value.slice a380 y375.length c381) rfl) ?_
            refine WE.takeY 31 (e := 60) rfl (by decide +kernel) (by decide +kernel) (by decide +kernel) (by decide +kernel) rfl rfl rfl rfl (Eq.trans (show _ = Value.bool (decide (x485 = (⟨true, (⟨5, Cl.zero.offer, Cl.zero.report, Cl.zero.view⟩ : Cl)⟩ : Hd))) from rfl) (congrArg Value.bool (decide_eq_true hc500))) (fun wq hq => R.len (a := a380) (n := y375.length) (c := c381) un28 rfl) ?_
            by_cases hc502 : ((y375.length : Nat) : Int) = 4
            · have h503 := ifT hc502 h501
              refine WE.takeY 32 (e := 60) rfl (by decide +kernel) (by decide +kernel) (by decide +kernel) (by decide +kernel) rfl rfl rfl rfl (Eq.trans (show _ = Value.bool (decide (x485 = (⟨true, (⟨5, Cl.zero.offer, Cl.zero.report, Cl.zero.view⟩ : Cl)⟩ : Hd))) from rfl) (congrArg Value.bool (decide_eq_true hc500))) (fun wq hq => R.eqlT (k := .i64) (a := ((y375.length : Nat) : Int)) (b := 4) un3 rfl rfl hc502) ?_
              refine WE.take 33 rfl (by decide +kernel) (by decide +kernel) (by decide +kernel) (by decide +kernel) rfl rfl (fun wq hq => R.pickT (v := Value.bool true) (Eq.trans (show _ = Value.bool (decide (x485 = (⟨true, (⟨5, Cl.zero.offer, Cl.zero.report, Cl.zero.view⟩ : Cl)⟩ : Hd))) from rfl) (congrArg Value.bool (decide_eq_true hc500))) rfl) ?_
              refine WE.take 34 rfl (by decide +kernel) (by decide +kernel) (by decide +kernel) (by decide +kernel) rfl rfl (fun wq hq => R.move (v := Value.bool true) rfl) ?_
              refine WE.takeY 35 (e := 65) rfl (by decide +kernel) (by decide +kernel) (by decide +kernel) (by decide +kernel) rfl rfl rfl rfl rfl (fun wq hq => R.move (v := Value.slice a380 y375.length c381) rfl) ?_
              obtain ⟨x504, hx505, h506⟩ := ob (o := rd y375 0) h503
              obtain ⟨h0507, hx508, hl509, hm510⟩ := rdE hx505
              have hr511 := elT ((((((ht399.trans ht401).trans ht410).trans ht418).trans ht436).trans ht439).trans ht441) he386
              obtain ⟨ad512, e517, ha513, hp514, hat515, hrd516⟩ := hr511 _ _ hx508
              obtain ⟨-, rfl⟩ := hrd516
              refine WE.takeY 36 (e := 65) rfl (by decide +kernel) (by decide +kernel) (by decide +kernel) (by decide +kernel) rfl rfl rfl rfl rfl (fun wq hq => R.indexS (n := 56) (m := (0 : Int).toNat) (a := a380) (ad := ad512) (len := y375.length) (cap := c381) (z := 0) un28 ag60.size rfl ha513 rfl hm510 hl509 hp514) ?_
              refine WE.takeY 37 (e := 65) rfl (by decide +kernel) (by decide +kernel) (by decide +kernel) (by decide +kernel) rfl rfl rfl rfl rfl (fun wq hq => R.fieldAddr (o := ad512.off + (0 : Int).toNat * 56) (o' := ad512.off + (0 : Int).toNat * 56) fa60_0 rfl rfl) ?_
              refine WE.takeY 38 (e := 65) rfl (by decide +kernel) (by decide +kernel) (by decide +kernel) (by decide +kernel) rfl rfl rfl rfl rfl (fun wq hq => R.loadL (v := Value.bool x504.is) lf4 rfl (At.sub (a := ⟨ad512.block, ad512.off + (0 : Int).toNat * 56, none⟩) (off := 0) (n := 1) (cs := encH x504) (ds := [Value.bool x504.is]) (At.exT hq hat515) rfl rfl)) ?_
              refine WE.takeY 39 (e := 65) rfl (by decide +kernel) (by decide +kernel) (by decide +kernel) (by decide +kernel) rfl rfl rfl rfl rfl (fun wq hq => R.not (b := x504.is) rfl) ?_
              refine WE.take 40 rfl (by decide +kernel) (by decide +kernel) (by decide +kernel) (by decide +kernel) rfl rfl (fun wq hq => R.pickT (v := Value.bool (!x504.is)) rfl rfl) ?_
              refine WE.take 41 rfl (by decide +kernel) (by decide +kernel) (by decide +kernel) (by decide +kernel) rfl rfl (fun wq hq => R.move (v := Value.bool (!x504.is)) rfl) ?_
              by_cases hc519 : x504.is = true
              · have h520 := ifT hc519 h506
                have hk521 : (!x504.is) = false := by simp [hc519]
                refine WE.takeN 42 (e := 72) (v := .bool false) rfl (by decide +kernel) (by decide +kernel) (by decide +kernel) (by decide +kernel) rfl rfl rfl (Eq.trans (show _ = Value.bool (!x504.is) from rfl) (congrArg Value.bool hk521)) rfl ?_
                refine WE.takeN 43 (e := 72) (v := .bool false) rfl (by decide +kernel) (by decide +kernel) (by decide +kernel) (by decide +kernel) rfl rfl rfl (Eq.trans (show _ = Value.bool (!x504.is) from rfl) (congrArg Value.bool hk521)) rfl ?_
                refine WE.takeN 44 (e := 72) (v := .bool false) rfl (by decide +kernel) (by decide +kernel) (by decide +kernel) (by decide +kernel) rfl rfl rfl (Eq.trans (show _ = Value.bool (!x504.is) from rfl) (congrArg Value.bool hk521)) rfl ?_
                refine WE.take 45 rfl (by decide +kernel) (by decide +kernel) (by decide +kernel) (by decide +kernel) rfl rfl (fun wq hq => R.pickF (v := Value.bool false) (Eq.trans (show _ = Value.bool (!x504.is) from rfl) (congrArg Value.bool hk521)) rfl) ?_
                refine WE.take 46 rfl (by decide +kernel) (by decide +kernel) (by decide +kernel) (by decide +kernel) rfl rfl (fun wq hq => R.move (v := Value.bool false) rfl) ?_
                refine WE.takeN 47 (e := 77) (v := .bool false) rfl (by decide +kernel) (by decide +kernel) (by decide +kernel) (by decide +kernel) rfl rfl rfl rfl rfl ?_
                refine WE.takeN 48 (e := 77) (v := .bool false) rfl (by decide +kernel) (by decide +kernel) (by decide +kernel) (by decide +kernel) rfl rfl rfl rfl rfl ?_
                refine WE.takeN 49 (e := 77) (v := .bool false) rfl (by decide +kernel) (by decide +kernel) (by decide +kernel) (by decide +kernel) rfl rfl rfl rfl rfl ?_
                refine WE.takeN 50 (e := 77) (v := .bool false) rfl (by decide +kernel) (by decide +kernel) (by decide +kernel) (by decide +kernel) rfl rfl rfl rfl rfl ?_
                refine WE.takeN 51 (e := 77) (v := .bool false) rfl (by decide +kernel) (by decide +kernel) (by decide +kernel) (by decide +kernel) rfl rfl rfl rfl rfl ?_
                refine WE.takeN 52 (e := 77) (v := .bool false) rfl (by decide +kernel) (by decide +kernel) (by decide +kernel) (by decide +kernel) rfl rfl rfl rfl rfl ?_
                refine WE.take 53 rfl (by decide +kernel) (by decide +kernel) (by decide +kernel) (by decide +kernel) rfl rfl (fun wq hq => R.pickF (v := Value.bool false) rfl rfl) ?_
                refine WE.take 54 rfl (by decide +kernel) (by decide +kernel) (by decide +kernel) (by decide +kernel) rfl rfl (fun wq hq => R.move (v := Value.bool false) rfl) ?_
                refine WE.takeN 55 (e := 85) (v := .bool false) rfl (by decide +kernel) (by decide +kernel) (by decide +kernel) (by decide +kernel) rfl rfl rfl rfl rfl ?_
                refine WE.takeN 56 (e := 85) (v := .bool false) rfl (by decide +kernel) (by decide +kernel) (by decide +kernel) (by decide +kernel) rfl rfl rfl rfl rfl ?_
                refine WE.takeN 57 (e := 85) (v := .bool false) rfl (by decide +kernel) (by decide +kernel) (by decide +kernel) (by decide +kernel) rfl rfl rfl rfl rfl ?_
                refine WE.takeN 58 (e := 85) (v := .bool false) rfl (by decide +kernel) (by decide +kernel) (by decide +kernel) (by decide +kernel) rfl rfl rfl rfl rfl ?_
                refine WE.takeN 59 (e := 85) (v := .bool false) rfl (by decide +kernel) (by decide +kernel) (by decide +kernel) (by decide +kernel) rfl rfl rfl rfl rfl ?_
                refine WE.take 60 rfl (by decide +kernel) (by decide +kernel) (by decide +kernel) (by decide +kernel) rfl rfl (fun wq hq => R.pickF (v := Value.bool false) rfl rfl) ?_
                refine WE.take 61 rfl (by decide +kernel) (by decide +kernel) (by decide +kernel) (by decide +kernel) rfl rfl (fun wq hq => R.assign (v := Value.bool false) rfl) ?_
                refine WE.done (by decide +kernel) ?_
                refine thenN ?_
                refine WC.ret ?_
                have ht522 := (hs442.here).perm (L' := []) (G := [blk b430 60 (encH (⟨true, (⟨5, Cl.zero.offer, Cl.zero.report, Cl.zero.view⟩ : Cl)⟩ : Hd))]) ((List.Perm.refl _))
                have hs523 := hs442.trans ht522
                obtain rfl := Option.some.inj (show some false = some r from h520)
                exact ret1 (P := Try.prog) (n := 92) (fn := Try.f31) (R := fun v w' => v = Value.bool false ∧ St [] w w' []) (t := 0) (v := Value.bool false) rfl rfl rfl ⟨rfl, hs523⟩
              · have h524 := ifF hc519 h506
                have hk525 : (!x504.is) = true := by simp [hc519]
                refine WE.takeY 42 (e := 72) rfl (by decide +kernel) (by decide +kernel) (by decide +kernel) (by decide +kernel) rfl rfl rfl rfl (Eq.trans (show _ = Value.bool (!x504.is) from rfl) (congrArg Value.bool hk525)) (fun wq hq => R.move (v := Value.slice a419 y414.length c420) rfl) ?_
                refine WE.takeY 43 (e := 72) rfl (by decide +kernel) (by decide +kernel) (by decide +kernel) (by decide +kernel) rfl rfl rfl rfl (Eq.trans (show _ = Value.bool (!x504.is) from rfl) (congrArg Value.bool hk525)) (fun wq hq => R.len (a := a419) (n := y414.length) (c := c420) un28 rfl) ?_
                by_cases hc526 : ((y414.length : Nat) : Int) = 2
                · have h527 := ifT hc526 h524
                  refine WE.takeY 44 (e := 72) rfl (by decide +kernel) (by decide +kernel) (by decide +kernel) (by decide +kernel) rfl rfl rfl rfl (Eq.trans (show _ = Value.bool (!x504.is) from rfl) (congrArg Value.bool hk525)) (fun wq hq => R.eqlT (k := .i64) (a := ((y414.length : Nat) : Int)) (b := 2) un3 rfl rfl hc526) ?_
                  refine WE.take 45 rfl (by decide +kernel) (by decide +kernel) (by decide +kernel) (by decide +kernel) rfl rfl (fun wq hq => R.pickT (v := Value.bool true) (Eq.trans (show _ = Value.bool (!x504.is) from rfl) (congrArg Value.bool hk525)) rfl) ?_
                  refine WE.take 46 rfl (by decide +kernel) (by decide +kernel) (by decide +kernel) (by decide +kernel) rfl rfl (fun wq hq => R.move (v := Value.bool true) rfl) ?_
                  refine WE.takeY 47 (e := 77) rfl (by decide +kernel) (by decide +kernel) (by decide +kernel) (by decide +kernel) rfl rfl rfl rfl rfl (fun wq hq => R.move (v := Value.slice a419 y414.length c420) rfl) ?_
                  obtain ⟨x528, hx529, h530⟩ := ob (o := rd y414 0) h527
                  obtain ⟨h0531, hx532, hl533, hm534⟩ := rdE hx529
                  have hr535 := elT ((ht436.trans ht439).trans ht441) he425
                  obtain ⟨ad536, e541, ha537, hp538, hat539, hrd540⟩ := hr535 _ _ hx532
                  obtain ⟨-, rfl⟩ := hrd540
                  refine WE.takeY 48 (e := 77) rfl (by decide +kernel) (by decide +kernel) (by decide +kernel) (by decide +kernel) rfl rfl rfl rfl rfl (fun wq hq => R.indexS (n := 56) (m := (0 : Int).toNat) (a := a419) (ad := ad536) (len := y414.length) (cap := c420) (z := 0) un28 ag60.size rfl ha537 rfl hm534 hl533 hp538) ?_
                  refine WE.takeY 49 (e := 77) rfl (by decide +kernel) (by decide +kernel) (by decide +kernel) (by decide +kernel) rfl rfl rfl rfl rfl (fun wq hq => R.loadA (cs := encH x528) (n := 56) ag60 rfl (At.exT hq hat539) rfl) ?_
                  have hd543 : ∀ w, (Instr.build 58 #[(0, Value.int .i64 3)]).run Try.prog w = .ok (Value.agg (List.toArray (encC (⟨3, Cl.zero.offer, Cl.zero.report, Cl.zero.view⟩ : Cl)))) w := fun _ => by kernel_rfl
                  refine WE.takeY 50 (e := 77) rfl (by decide +kernel) (by decide +kernel) (by decide +kernel) (by decide +kernel) rfl rfl rfl rfl rfl (fun wq hq => R.build (vs := [(0, Value.int .i64 3)]) rfl hd543) ?_
                  have hd544 : ∀ w, (Instr.build 60 #[(0, Value.bool true), (1, Value.agg (List.toArray (encC (⟨3, Cl.zero.offer, Cl.zero.report, Cl.zero.view⟩ : Cl))))]).run Try.prog w = .ok (Value.agg (List.toArray (encH (⟨true, (⟨3, Cl.zero.offer, Cl.zero.report, Cl.zero.view⟩ : Cl)⟩ : Hd)))) w := fun _ => by kernel_rfl
                  refine WE.takeY 51 (e := 77) rfl (by decide +kernel) (by decide +kernel) (by decide +kernel) (by decide +kernel) rfl rfl rfl rfl rfl (fun wq hq => R.build (vs := [(0, Value.bool true), (1, Value.agg (List.toArray (encC (⟨3, Cl.zero.offer, Cl.zero.report, Cl.zero.view⟩ : Cl))))]) rfl hd544) ?_
                  refine WE.takeY 52 (e := 77) rfl (by decide +kernel) (by decide +kernel) (by decide +kernel) (by decide +kernel) rfl rfl rfl rfl rfl (fun wq hq => R.eqHeld (a := x528) (b := (⟨true, (⟨3, Cl.zero.offer, Cl.zero.report, Cl.zero.view⟩ : Cl)⟩ : Hd)) rfl rfl) ?_
                  refine WE.take 53 rfl (by decide +kernel) (by decide +kernel) (by decide +kernel) (by decide +kernel) rfl rfl (fun wq hq => R.pickT (v := Value.bool (decide (x528 = (⟨true, (⟨3, Cl.zero.offer, Cl.zero.report, Cl.zero.view⟩ : Cl)⟩ : Hd)))) rfl rfl) ?_
                  refine WE.take 54 rfl (by decide +kernel) (by decide +kernel) (by decide +kernel) (by decide +kernel) rfl rfl (fun wq hq => R.move (v := Value.bool (decide (x528 = (⟨true, (⟨3, Cl.zero.offer, Cl.zero.report, Cl.zero.view⟩ : Cl)⟩ : Hd)))) rfl) ?_
                  by_cases hc545 : x528 = (⟨true, (⟨3, Cl.zero.offer, Cl.zero.report, Cl.zero.view⟩ : Cl)⟩ : Hd)
                  · have h546 := ifT hc545 h530
                    refine WE.takeY 55 (e := 85) rfl (by decide +kernel) (by decide +kernel) (by decide +kernel) (by decide +kernel) rfl rfl rfl rfl (Eq.trans (show _ = Value.bool (decide (x528 = (⟨true, (⟨3, Cl.zero.offer, Cl.zero.report, Cl.zero.view⟩ : Cl)⟩ : Hd))) from rfl) (congrArg Value.bool (decide_eq_true hc545))) (fun wq hq => R.move (v := Value.slice a419 y414.length c420) rfl) ?_
                    obtain ⟨x547, hx548, h549⟩ := ob (o := rd y414 1) h546
                    obtain ⟨h0550, hx551, hl552, hm553⟩ := rdE hx548
                    obtain ⟨ad554, e559, ha555, hp556, hat557, hrd558⟩ := hr535 _ _ hx551
                    obtain ⟨-, rfl⟩ := hrd558
                    refine WE.takeY 56 (e := 85) rfl (by decide +kernel) (by decide +kernel) (by decide +kernel) (by decide +kernel) rfl rfl rfl rfl (Eq.trans (show _ = Value.bool (decide (x528 = (⟨true, (⟨3, Cl.zero.offer, Cl.zero.report, Cl.zero.view⟩ : Cl)⟩ : Hd))) from rfl) (congrArg Value.bool (decide_eq_true hc545))) (fun wq hq => R.indexS (n := 56) (m := (1 : Int).toNat) (a := a419) (ad := ad554) (len := y414.length) (cap := c420) (z := 1) un28 ag60.size rfl ha555 rfl hm553 hl552 hp556) ?_
                    refine WE.takeY 57 (e := 85) rfl (by decide +kernel) (by decide +kernel) (by decide +kernel) (by decide +kernel) rfl rfl rfl rfl (Eq.trans (show _ = Value.bool (decide (x528 = (⟨true, (⟨3, Cl.zero.offer, Cl.zero.report, Cl.zero.view⟩ : Cl)⟩ : Hd))) from rfl) (congrArg Value.bool (decide_eq_true hc545))) (fun wq hq => R.fieldAddr (o := ad554.off + (1 : Int).toNat * 56) (o' := ad554.off + (1 : Int).toNat * 56) fa60_0 rfl rfl) ?_
                    refine WE.takeY 58 (e := 85) rfl (by decide +kernel) (by decide +kernel) (by decide +kernel) (by decide +kernel) rfl rfl rfl rfl (Eq.trans (show _ = Value.bool (decide (x528 = (⟨true, (⟨3, Cl.zero.offer, Cl.zero.report, Cl.zero.view⟩ : Cl)⟩ : Hd))) from rfl) (congrArg Value.bool (decide_eq_true hc545))) (fun wq hq => R.loadL (v := Value.bool x547.is) lf4 rfl (At.sub (a := ⟨ad554.block, ad554.off + (1 : Int).toNat * 56, none⟩) (off := 0) (n := 1) (cs := encH x547) (ds := [Value.bool x547.is]) (At.exT hq hat557) rfl rfl)) ?_
                    refine WE.takeY 59 (e := 85) rfl (by decide +kernel) (by decide +kernel) (by decide +kernel) (by decide +kernel) rfl rfl rfl rfl (Eq.trans (show _ = Value.bool (decide (x528 = (⟨true, (⟨3, Cl.zero.offer, Cl.zero.report, Cl.zero.view⟩ : Cl)⟩ : Hd))) from rfl) (congrArg Value.bool (decide_eq_true hc545))) (fun wq hq => R.not (b := x547.is) rfl) ?_
                    refine WE.take 60 rfl (by decide +kernel) (by decide +kernel) (by decide +kernel) (by decide +kernel) rfl rfl (fun wq hq => R.pickT (v := Value.bool (!x547.is)) (Eq.trans (show _ = Value.bool (decide (x528 = (⟨true, (⟨3, Cl.zero.offer, Cl.zero.report, Cl.zero.view⟩ : Cl)⟩ : Hd))) from rfl) (congrArg Value.bool (decide_eq_true hc545))) rfl) ?_
                    refine WE.take 61 rfl (by decide +kernel) (by decide +kernel) (by decide +kernel) (by decide +kernel) rfl rfl (fun wq hq => R.assign (v := Value.bool (!x547.is)) rfl) ?_
                    refine WE.done (by decide +kernel) ?_
                    refine thenN ?_
                    refine WC.ret ?_
                    have ht561 := (hs442.here).perm (L' := []) (G := [blk b430 60 (encH (⟨true, (⟨5, Cl.zero.offer, Cl.zero.report, Cl.zero.view⟩ : Cl)⟩ : Hd))]) ((List.Perm.refl _))
                    have hs562 := hs442.trans ht561
                    obtain rfl := Option.some.inj (show some (!x547.is) = some r from h549)
                    exact ret1 (P := Try.prog) (n := 92) (fn := Try.f31) (R := fun v w' => v = Value.bool (!x547.is) ∧ St [] w w' []) (t := 0) (v := Value.bool (!x547.is)) rfl rfl rfl ⟨rfl, hs562⟩
                  · have h563 := ifF hc545 h530
                    refine WE.takeN 55 (e := 85) (v := .bool false) rfl (by decide +kernel) (by decide +kernel) (by decide +kernel) (by decide +kernel) rfl rfl rfl (Eq.trans (show _ = Value.bool (decide (x528 = (⟨true, (⟨3, Cl.zero.offer, Cl.zero.report, Cl.zero.view⟩ : Cl)⟩ : Hd))) from rfl) (congrArg Value.bool (decide_eq_false hc545))) rfl ?_
                    refine WE.takeN 56 (e := 85) (v := .bool false) rfl (by decide +kernel) (by decide +kernel) (by decide +kernel) (by decide +kernel) rfl rfl rfl (Eq.trans (show _ = Value.bool (decide (x528 = (⟨true, (⟨3, Cl.zero.offer, Cl.zero.report, Cl.zero.view⟩ : Cl)⟩ : Hd))) from rfl) (congrArg Value.bool (decide_eq_false hc545))) rfl ?_
                    refine WE.takeN 57 (e := 85) (v := .bool false) rfl (by decide +kernel) (by decide +kernel) (by decide +kernel) (by decide +kernel) rfl rfl rfl (Eq.trans (show _ = Value.bool (decide (x528 = (⟨true, (⟨3, Cl.zero.offer, Cl.zero.report, Cl.zero.view⟩ : Cl)⟩ : Hd))) from rfl) (congrArg Value.bool (decide_eq_false hc545))) rfl ?_
                    refine WE.takeN 58 (e := 85) (v := .bool false) rfl (by decide +kernel) (by decide +kernel) (by decide +kernel) (by decide +kernel) rfl rfl rfl (Eq.trans (show _ = Value.bool (decide (x528 = (⟨true, (⟨3, Cl.zero.offer, Cl.zero.report, Cl.zero.view⟩ : Cl)⟩ : Hd))) from rfl) (congrArg Value.bool (decide_eq_false hc545))) rfl ?_
                    refine WE.takeN 59 (e := 85) (v := .bool false) rfl (by decide +kernel) (by decide +kernel) (by decide +kernel) (by decide +kernel) rfl rfl rfl (Eq.trans (show _ = Value.bool (decide (x528 = (⟨true, (⟨3, Cl.zero.offer, Cl.zero.report, Cl.zero.view⟩ : Cl)⟩ : Hd))) from rfl) (congrArg Value.bool (decide_eq_false hc545))) rfl ?_
                    refine WE.take 60 rfl (by decide +kernel) (by decide +kernel) (by decide +kernel) (by decide +kernel) rfl rfl (fun wq hq => R.pickF (v := Value.bool false) (Eq.trans (show _ = Value.bool (decide (x528 = (⟨true, (⟨3, Cl.zero.offer, Cl.zero.report, Cl.zero.view⟩ : Cl)⟩ : Hd))) from rfl) (congrArg Value.bool (decide_eq_false hc545))) rfl) ?_
                    refine WE.take 61 rfl (by decide +kernel) (by decide +kernel) (by decide +kernel) (by decide +kernel) rfl rfl (fun wq hq => R.assign (v := Value.bool false) rfl) ?_
                    refine WE.done (by decide +kernel) ?_
                    refine thenN ?_
                    refine WC.ret ?_
                    have ht564 := (hs442.here).perm (L' := []) (G := [blk b430 60 (encH (⟨true, (⟨5, Cl.zero.offer, Cl.zero.report, Cl.zero.view⟩ : Cl)⟩ : Hd))]) ((List.Perm.refl _))
                    have hs565 := hs442.trans ht564
                    obtain rfl := Option.some.inj (show some false = some r from h563)
                    exact ret1 (P := Try.prog) (n := 92) (fn := Try.f31) (R := fun v w' => v = Value.bool false ∧ St [] w w' []) (t := 0) (v := Value.bool false) rfl rfl rfl ⟨rfl, hs565⟩
                · have h566 := ifF hc526 h524
                  refine WE.takeY 44 (e := 72) rfl (by decide +kernel) (by decide +kernel) (by decide +kernel) (by decide +kernel) rfl rfl rfl rfl (Eq.trans (show _ = Value.bool (!x504.is) from rfl) (congrArg Value.bool hk525)) (fun wq hq => R.eqlF (k := .i64) (a := ((y414.length : Nat) : Int)) (b := 2) un3 rfl rfl hc526) ?_
                  refine WE.take 45 rfl (by decide +kernel) (by decide +kernel) (by decide +kernel) (by decide +kernel) rfl rfl (fun wq hq => R.pickT (v := Value.bool false) (Eq.trans (show _ = Value.bool (!x504.is) from rfl) (congrArg Value.bool hk525)) rfl) ?_
                  refine WE.take 46 rfl (by decide +kernel) (by decide +kernel) (by decide +kernel) (by decide +kernel) rfl rfl (fun wq hq => R.move (v := Value.bool false) rfl) ?_
                  refine WE.takeN 47 (e := 77) (v := .bool false) rfl (by decide +kernel) (by decide +kernel) (by decide +kernel) (by decide +kernel) rfl rfl rfl rfl rfl ?_
                  refine WE.takeN 48 (e := 77) (v := .bool false) rfl (by decide +kernel) (by decide +kernel) (by decide +kernel) (by decide +kernel) rfl rfl rfl rfl rfl ?_
                  refine WE.takeN 49 (e := 77) (v := .bool false) rfl (by decide +kernel) (by decide +kernel) (by decide +kernel) (by decide +kernel) rfl rfl rfl rfl rfl ?_
                  refine WE.takeN 50 (e := 77) (v := .bool false) rfl (by decide +kernel) (by decide +kernel) (by decide +kernel) (by decide +kernel) rfl rfl rfl rfl rfl ?_
                  refine WE.takeN 51 (e := 77) (v := .bool false) rfl (by decide +kernel) (by decide +kernel) (by decide +kernel) (by decide +kernel) rfl rfl rfl rfl rfl ?_
                  refine WE.takeN 52 (e := 77) (v := .bool false) rfl (by decide +kernel) (by decide +kernel) (by decide +kernel) (by decide +kernel) rfl rfl rfl rfl rfl ?_
                  refine WE.take 53 rfl (by decide +kernel) (by decide +kernel) (by decide +kernel) (by decide +kernel) rfl rfl (fun wq hq => R.pickF (v := Value.bool false) rfl rfl) ?_
                  refine WE.take 54 rfl (by decide +kernel) (by decide +kernel) (by decide +kernel) (by decide +kernel) rfl rfl (fun wq hq => R.move (v := Value.bool false) rfl) ?_
                  refine WE.takeN 55 (e := 85) (v := .bool false) rfl (by decide +kernel) (by decide +kernel) (by decide +kernel) (by decide +kernel) rfl rfl rfl rfl rfl ?_
                  refine WE.takeN 56 (e := 85) (v := .bool false) rfl (by decide +kernel) (by decide +kernel) (by decide +kernel) (by decide +kernel) rfl rfl rfl rfl rfl ?_
                  refine WE.takeN 57 (e := 85) (v := .bool false) rfl (by decide +kernel) (by decide +kernel) (by decide +kernel) (by decide +kernel) rfl rfl rfl rfl rfl ?_
                  refine WE.takeN 58 (e := 85) (v := .bool false) rfl (by decide +kernel) (by decide +kernel) (by decide +kernel) (by decide +kernel) rfl rfl rfl rfl rfl ?_
                  refine WE.takeN 59 (e := 85) (v := .bool false) rfl (by decide +kernel) (by decide +kernel) (by decide +kernel) (by decide +kernel) rfl rfl rfl rfl rfl ?_
                  refine WE.take 60 rfl (by decide +kernel) (by decide +kernel) (by decide +kernel) (by decide +kernel) rfl rfl (fun wq hq => R.pickF (v := Value.bool false) rfl rfl) ?_
                  refine WE.take 61 rfl (by decide +kernel) (by decide +kernel) (by decide +kernel) (by decide +kernel) rfl rfl (fun wq hq => R.assign (v := Value.bool false) rfl) ?_
                  refine WE.done (by decide +kernel) ?_
                  refine thenN ?_
                  refine WC.ret ?_
                  have ht567 := (hs442.here).perm (L' := []) (G := [blk b430 60 (encH (⟨true, (⟨5, Cl.zero.offer, Cl.zero.report, Cl.zero.view⟩ : Cl)⟩ : Hd))]) ((List.Perm.refl _))
                  have hs568 := hs442.trans ht567
                  obtain rfl := Option.some.inj (show some false = some r from h566)
                  exact ret1 (P := Try.prog) (n := 92) (fn := Try.f31) (R := fun v w' => v = Value.bool false ∧ St [] w w' []) (t := 0) (v := Value.bool false) rfl rfl rfl ⟨rfl, hs568⟩
            · have h569 := ifF hc502 h501
              refine WE.takeY 32 (e := 60) rfl (by decide +kernel) (by decide +kernel) (by decide +kernel) (by decide +kernel) rfl rfl rfl rfl (Eq.trans (show _ = Value.bool (decide (x485 = (⟨true, (⟨5, Cl.zero.offer, Cl.zero.report, Cl.zero.view⟩ : Cl)⟩ : Hd))) from rfl) (congrArg Value.bool (decide_eq_true hc500))) (fun wq hq => R.eqlF (k := .i64) (a := ((y375.length : Nat) : Int)) (b := 4) un3 rfl rfl hc502) ?_
              refine WE.take 33 rfl (by decide +kernel) (by decide +kernel) (by decide +kernel) (by decide +kernel) rfl rfl (fun wq hq => R.pickT (v := Value.bool false) (Eq.trans (show _ = Value.bool (decide (x485 = (⟨true, (⟨5, Cl.zero.offer, Cl.zero.report, Cl.zero.view⟩ : Cl)⟩ : Hd))) from rfl) (congrArg Value.bool (decide_eq_true hc500))) rfl) ?_
              refine WE.take 34 rfl (by decide +kernel) (by decide +kernel) (by decide +kernel) (by decide +kernel) rfl rfl (fun wq hq => R.move (v := Value.bool false) rfl) ?_
              refine WE.takeN 35 (e := 65) (v := .bool false) rfl (by decide +kernel) (by decide +kernel) (by decide +kernel) (by decide +kernel) rfl rfl rfl rfl rfl ?_
              refine WE.takeN 36 (e := 65) (v := .bool false) rfl (by decide +kernel) (by decide +kernel) (by decide +kernel) (by decide +kernel) rfl rfl rfl rfl rfl ?_
              refine WE.takeN 37 (e := 65) (v := .bool false) rfl (by decide +kernel) (by decide +kernel) (by decide +kernel) (by decide +kernel) rfl rfl rfl rfl rfl ?_
              refine WE.takeN 38 (e := 65) (v := .bool false) rfl (by decide +kernel) (by decide +kernel) (by decide +kernel) (by decide +kernel) rfl rfl rfl rfl rfl ?_
              refine WE.takeN 39 (e := 65) (v := .bool false) rfl (by decide +kernel) (by decide +kernel) (by decide +kernel) (by decide +kernel) rfl rfl rfl rfl rfl ?_
              refine WE.take 40 rfl (by decide +kernel) (by decide +kernel) (by decide +kernel) (by decide +kernel) rfl rfl (fun wq hq => R.pickF (v := Value.bool false) rfl rfl) ?_
              refine WE.take 41 rfl (by decide +kernel) (by decide +kernel) (by decide +kernel) (by decide +kernel) rfl rfl (fun wq hq => R.move (v := Value.bool false) rfl) ?_
              refine WE.takeN 42 (e := 72) (v := .bool false) rfl (by decide +kernel) (by decide +kernel) (by decide +kernel) (by decide +kernel) rfl rfl rfl rfl rfl ?_
              refine WE.takeN 43 (e := 72) (v := .bool false) rfl (by decide +kernel) (by decide +kernel) (by decide +kernel) (by decide +kernel) rfl rfl rfl rfl rfl ?_
              refine WE.takeN 44 (e := 72) (v := .bool false) rfl (by decide +kernel) (by decide +kernel) (by decide +kernel) (by decide +kernel) rfl rfl rfl rfl rfl ?_
              refine WE.take 45 rfl (by decide +kernel) (by decide +kernel) (by decide +kernel) (by decide +kernel) rfl rfl (fun wq hq => R.pickF (v := Value.bool false) rfl rfl) ?_
              refine WE.take 46 rfl (by decide +kernel) (by decide +kernel) (by decide +kernel) (by decide +kernel) rfl rfl (fun wq hq => R.move (v := Value.bool false) rfl) ?_
              refine WE.takeN 47 (e := 77) (v := .bool false) rfl (by decide +kernel) (by decide +kernel) (by decide +kernel) (by decide +kernel) rfl rfl rfl rfl rfl ?_
              refine WE.takeN 48 (e := 77) (v := .bool false) rfl (by decide +kernel) (by decide +kernel) (by decide +kernel) (by decide +kernel) rfl rfl rfl rfl rfl ?_
              refine WE.takeN 49 (e := 77) (v := .bool false) rfl (by decide +kernel) (by decide +kernel) (by decide +kernel) (by decide +kernel) rfl rfl rfl rfl rfl ?_
              refine WE.takeN 50 (e := 77) (v := .bool false) rfl (by decide +kernel) (by decide +kernel) (by decide +kernel) (by decide +kernel) rfl rfl rfl rfl rfl ?_
              refine WE.takeN 51 (e := 77) (v := .bool false) rfl (by decide +kernel) (by decide +kernel) (by decide +kernel) (by decide +kernel) rfl rfl rfl rfl rfl ?_
              refine WE.takeN 52 (e := 77) (v := .bool false) rfl (by decide +kernel) (by decide +kernel) (by decide +kernel) (by decide +kernel) rfl rfl rfl rfl rfl ?_
              refine WE.take 53 rfl (by decide +kernel) (by decide +kernel) (by decide +kernel) (by decide +kernel) rfl rfl (fun wq hq => R.pickF (v := Value.bool false) rfl rfl) ?_
              refine WE.take 54 rfl (by decide +kernel) (by decide +kernel) (by decide +kernel) (by decide +kernel) rfl rfl (fun wq hq => R.move (v := Value.bool false) rfl) ?_
              refine WE.takeN 55 (e := 85) (v := .bool false) rfl (by decide +kernel) (by decide +kernel) (by decide +kernel) (by decide +kernel) rfl rfl rfl rfl rfl ?_
              refine WE.takeN 56 (e := 85) (v := .bool false) rfl (by decide +kernel) (by decide +kernel) (by decide +kernel) (by decide +kernel) rfl rfl rfl rfl rfl ?_
              refine WE.takeN 57 (e := 85) (v := .bool false) rfl (by decide +kernel) (by decide +kernel) (by decide +kernel) (by decide +kernel) rfl rfl rfl rfl rfl ?_
              refine WE.takeN 58 (e := 85) (v := .bool false) rfl (by decide +kernel) (by decide +kernel) (by decide +kernel) (by decide +kernel) rfl rfl rfl rfl rfl ?_
              refine WE.takeN 59 (e := 85) (v := .bool false) rfl (by decide +kernel) (by decide +kernel) (by decide +kernel) (by decide +kernel) rfl rfl rfl rfl rfl ?_
              refine WE.take 60 rfl (by decide +kernel) (by decide +kernel) (by decide +kernel) (by decide +kernel) rfl rfl (fun wq hq => R.pickF (v := Value.bool false) rfl rfl) ?_
              refine WE.take 61 rfl (by decide +kernel) (by decide +kernel) (by decide +kernel) (by decide +kernel) rfl rfl (fun wq hq => R.assign (v := Value.bool false) rfl) ?_
              refine WE.done (by decide +kernel) ?_
              refine thenN ?_
              refine WC.ret ?_
              have ht570 := (hs442.here).perm (L' := []) (G := [blk b430 60 (encH (⟨true, (⟨5, Cl.zero.offer, Cl.zero.report, Cl.zero.view⟩ : Cl)⟩ : Hd))]) ((List.Perm.refl _))
              have hs571 := hs442.trans ht570
              obtain rfl := Option.some.inj (show some false = some r from h569)
              exact ret1 (P := Try.prog) (n := 92) (fn := Try.f31) (R := fun v w' => v = Value.bool false ∧ St [] w w' []) (t := 0) (v := Value.bool false) rfl rfl rfl ⟨rfl, hs571⟩
          · have h572 := ifF hc500 h487
            refine WE.takeN 30 (e := 60) (v := .bool false) rfl (by decide +kernel) (by decide +kernel) (by decide +kernel) (by decide +kernel) rfl rfl rfl (Eq.trans (show _ = Value.bool (decide (x485 = (⟨true, (⟨5, Cl.zero.offer, Cl.zero.report, Cl.zero.view⟩ : Cl)⟩ : Hd))) from rfl) (congrArg Value.bool (decide_eq_false hc500))) rfl ?_
            refine WE.takeN 31 (e := 60) (v := .bool false) rfl (by decide +kernel) (by decide +kernel) (by decide +kernel) (by decide +kernel) rfl rfl rfl (Eq.trans (show _ = Value.bool (decide (x485 = (⟨true, (⟨5, Cl.zero.offer, Cl.zero.report, Cl.zero.view⟩ : Cl)⟩ : Hd))) from rfl) (congrArg Value.bool (decide_eq_false hc500))) rfl ?_
            refine WE.takeN 32 (e := 60) (v := .bool false) rfl (by decide +kernel) (by decide +kernel) (by decide +kernel) (by decide +kernel) rfl rfl rfl (Eq.trans (show _ = Value.bool (decide (x485 = (⟨true, (⟨5, Cl.zero.offer, Cl.zero.report, Cl.zero.view⟩ : Cl)⟩ : Hd))) from rfl) (congrArg Value.bool (decide_eq_false hc500))) rfl ?_
            refine WE.take 33 rfl (by decide +kernel) (by decide +kernel) (by decide +kernel) (by decide +kernel) rfl rfl (fun wq hq => R.pickF (v := Value.bool false) (Eq.trans (show _ = Value.bool (decide (x485 = (⟨true, (⟨5, Cl.zero.offer, Cl.zero.report, Cl.zero.view⟩ : Cl)⟩ : Hd))) from rfl) (congrArg Value.bool (decide_eq_false hc500))) rfl) ?_
            refine WE.take 34 rfl (by decide +kernel) (by decide +kernel) (by decide +kernel) (by decide +kernel) rfl rfl (fun wq hq => R.move (v := Value.bool false) rfl) ?_
            refine WE.takeN 35 (e := 65) (v := .bool false) rfl (by decide +kernel) (by decide +kernel) (by decide +kernel) (by decide +kernel) rfl rfl rfl rfl rfl ?_
            refine WE.takeN 36 (e := 65) (v := .bool false) rfl (by decide +kernel) (by decide +kernel) (by decide +kernel) (by decide +kernel) rfl rfl rfl rfl rfl ?_
            refine WE.takeN 37 (e := 65) (v := .bool false) rfl (by decide +kernel) (by decide +kernel) (by decide +kernel) (by decide +kernel) rfl rfl rfl rfl rfl ?_
            refine WE.takeN 38 (e := 65) (v := .bool false) rfl (by decide +kernel) (by decide +kernel) (by decide +kernel) (by decide +kernel) rfl rfl rfl rfl rfl ?_
            refine WE.takeN 39 (e := 65) (v := .bool false) rfl (by decide +kernel) (by decide +kernel) (by decide +kernel) (by decide +kernel) rfl rfl rfl rfl rfl ?_
            refine WE.take 40 rfl (by decide +kernel) (by decide +kernel) (by decide +kernel) (by decide +kernel) rfl rfl (fun wq hq => R.pickF (v := Value.bool false) rfl rfl) ?_
            refine WE.take 41 rfl (by decide +kernel) (by decide +kernel) (by decide +kernel) (by decide +kernel) rfl rfl (fun wq hq => R.move (v := Value.bool false) rfl) ?_
            refine WE.takeN 42 (e := 72) (v := .bool false) rfl (by decide +kernel) (by decide +kernel) (by decide +kernel) (by decide +kernel) rfl rfl rfl rfl rfl ?_
            refine WE.takeN 43 (e := 72) (v := .bool false) rfl (by decide +kernel) (by decide +kernel) (by decide +kernel) (by decide +kernel) rfl rfl rfl rfl rfl ?_
            refine WE.takeN 44 (e := 72) (v := .bool false) rfl (by decide +kernel) (by decide +kernel) (by decide +kernel) (by decide +kernel) rfl rfl rfl rfl rfl ?_
            refine WE.take 45 rfl (by decide +kernel) (by decide +kernel) (by decide +kernel) (by decide +kernel) rfl rfl (fun wq hq => R.pickF (v := Value.bool false) rfl rfl) ?_
            refine WE.take 46 rfl (by decide +kernel) (by decide +kernel) (by decide +kernel) (by decide +kernel) rfl rfl (fun wq hq => R.move (v := Value.bool false) rfl) ?_
            refine WE.takeN 47 (e := 77) (v := .bool false) rfl (by decide +kernel) (by decide +kernel) (by decide +kernel) (by decide +kernel) rfl rfl rfl rfl rfl ?_
            refine WE.takeN 48 (e := 77) (v := .bool false) rfl (by decide +kernel) (by decide +kernel) (by decide +kernel) (by decide +kernel) rfl rfl rfl rfl rfl ?_
            refine WE.takeN 49 (e := 77) (v := .bool false) rfl (by decide +kernel) (by decide +kernel) (by decide +kernel) (by decide +kernel) rfl rfl rfl rfl rfl ?_
            refine WE.takeN 50 (e := 77) (v := .bool false) rfl (by decide +kernel) (by decide +kernel) (by decide +kernel) (by decide +kernel) rfl rfl rfl rfl rfl ?_
            refine WE.takeN 51 (e := 77) (v := .bool false) rfl (by decide +kernel) (by decide +kernel) (by decide +kernel) (by decide +kernel) rfl rfl rfl rfl rfl ?_
            refine WE.takeN 52 (e := 77) (v := .bool false) rfl (by decide +kernel) (by decide +kernel) (by decide +kernel) (by decide +kernel) rfl rfl rfl rfl rfl ?_
            refine WE.take 53 rfl (by decide +kernel) (by decide +kernel) (by decide +kernel) (by decide +kernel) rfl rfl (fun wq hq => R.pickF (v := Value.bool false) rfl rfl) ?_
            refine WE.take 54 rfl (by decide +kernel) (by decide +kernel) (by decide +kernel) (by decide +kernel) rfl rfl (fun wq hq => R.move (v := Value.bool false) rfl) ?_
            refine WE.takeN 55 (e := 85) (v := .bool false) rfl (by decide +kernel) (by decide +kernel) (by decide +kernel) (by decide +kernel) rfl rfl rfl rfl rfl ?_
            refine WE.takeN 56 (e := 85) (v := .bool false) rfl (by decide +kernel) (by decide +kernel) (by decide +kernel) (by decide +kernel) rfl rfl rfl rfl rfl ?_
            refine WE.takeN 57 (e := 85) (v := .bool false) rfl (by decide +kernel) (by decide +kernel) (by decide +kernel) (by decide +kernel) rfl rfl rfl rfl rfl ?_
            refine WE.takeN 58 (e := 85) (v := .bool false) rfl (by decide +kernel) (by decide +kernel) (by decide +kernel) (by decide +kernel) rfl rfl rfl rfl rfl ?_
            refine WE.takeN 59 (e := 85) (v := .bool false) rfl (by decide +kernel) (by decide +kernel) (by decide +kernel) (by decide +kernel) rfl rfl rfl rfl rfl ?_
            refine WE.take 60 rfl (by decide +kernel) (by decide +kernel) (by decide +kernel) (by decide +kernel) rfl rfl (fun wq hq => R.pickF (v := Value.bool false) rfl rfl) ?_
            refine WE.take 61 rfl (by decide +kernel) (by decide +kernel) (by decide +kernel) (by decide +kernel) rfl rfl (fun wq hq => R.assign (v := Value.bool false) rfl) ?_
            refine WE.done (by decide +kernel) ?_
            refine thenN ?_
            refine WC.ret ?_
            have ht573 := (hs442.here).perm (L' := []) (G := [blk b430 60 (encH (⟨true, (⟨5, Cl.zero.offer, Cl.zero.report, Cl.zero.view⟩ : Cl)⟩ : Hd))]) ((List.Perm.refl _))
            have hs574 := hs442.trans ht573
            obtain rfl := Option.some.inj (show some false = some r from h572)
            exact ret1 (P := Try.prog) (n := 92) (fn := Try.f31) (R := fun v w' => v = Value.bool false ∧ St [] w w' []) (t := 0) (v := Value.bool false) rfl rfl rfl ⟨rfl, hs574⟩
        · have h575 := ifF hc483 h481
          refine WE.takeY 20 (e := 48) rfl (by decide +kernel) (by decide +kernel) (by decide +kernel) (by decide +kernel) rfl rfl rfl rfl (Eq.trans (show _ = Value.bool (!x462.is) from rfl) (congrArg Value.bool hk482)) (fun wq hq => R.eqlF (k := .i64) (a := ((y279.length : Nat) : Int)) (b := 4) un3 rfl rfl hc483) ?_
          refine WE.take 21 rfl (by decide +kernel) (by decide +kernel) (by decide +kernel) (by decide +kernel) rfl rfl (fun wq hq => R.pickT (v := Value.bool false) (Eq.trans (show _ = Value.bool (!x462.is) from rfl) (congrArg Value.bool hk482)) rfl) ?_
          refine WE.take 22 rfl (by decide +kernel) (by decide +kernel) (by decide +kernel) (by decide +kernel) rfl rfl (fun wq hq => R.move (v := Value.bool false) rfl) ?_
          refine WE.takeN 23 (e := 53) (v := .bool false) rfl (by decide +kernel) (by decide +kernel) (by decide +kernel) (by decide +kernel) rfl rfl rfl rfl rfl ?_
          refine WE.takeN 24 (e := 53) (v := .bool false) rfl (by decide +kernel) (by decide +kernel) (by decide +kernel) (by decide +kernel) rfl rfl rfl rfl rfl ?_
          refine WE.takeN 25 (e := 53) (v := .bool false) rfl (by decide +kernel) (by decide +kernel) (by decide +kernel) (by decide +kernel) rfl rfl rfl rfl rfl ?_
          refine WE.takeN 26 (e := 53) (v := .bool false) rfl (by decide +kernel) (by decide +kernel) (by decide +kernel) (by decide +kernel) rfl rfl rfl rfl rfl ?_
          refine WE.takeN 27 (e := 53) (v := .bool false) rfl (by decide +kernel) (by decide +kernel) (by decide +kernel) (by decide +kernel) rfl rfl rfl rfl rfl ?_
          refine WE.take 28 rfl (by decide +kernel) (by decide +kernel) (by decide +kernel) (by decide +kernel) rfl rfl (fun wq hq => R.pickF (v := Value.bool false) rfl rfl) ?_
          refine WE.take 29 rfl (by decide +kernel) (by decide +kernel) (by decide +kernel) (by decide +kernel) rfl rfl (fun wq hq => R.move (v := Value.bool false) rfl) ?_
          refine WE.takeN 30 (e := 60) (v := .bool false) rfl (by decide +kernel) (by decide +kernel) (by decide +kernel) (by decide +kernel) rfl rfl rfl rfl rfl ?_
          refine WE.takeN 31 (e := 60) (v := .bool false) rfl (by decide +kernel) (by decide +kernel) (by decide +kernel) (by decide +kernel) rfl rfl rfl rfl rfl ?_
          refine WE.takeN 32 (e := 60) (v := .bool false) rfl (by decide +kernel) (by decide +kernel) (by decide +kernel) (by decide +kernel) rfl rfl rfl rfl rfl ?_
          refine WE.take 33 rfl (by decide +kernel) (by decide +kernel) (by decide +kernel) (by decide +kernel) rfl rfl (fun wq hq => R.pickF (v := Value.bool false) rfl rfl) ?_
          refine WE.take 34 rfl (by decide +kernel) (by decide +kernel) (by decide +kernel) (by decide +kernel) rfl rfl (fun wq hq => R.move (v := Value.bool false) rfl) ?_
          refine WE.takeN 35 (e := 65) (v := .bool false) rfl (by decide +kernel) (by decide +kernel) (by decide +kernel) (by decide +kernel) rfl rfl rfl rfl rfl ?_
          refine WE.takeN 36 (e := 65) (v := .bool false) rfl (by decide +kernel) (by decide +kernel) (by decide +kernel) (by decide +kernel) rfl rfl rfl rfl rfl ?_
          refine WE.takeN 37 (e := 65) (v := .bool false) rfl (by decide +kernel) (by decide +kernel) (by decide +kernel) (by decide +kernel) rfl rfl rfl rfl rfl ?_
          refine WE.takeN 38 (e := 65) (v := .bool false) rfl (by decide +kernel) (by decide +kernel) (by decide +kernel) (by decide +kernel) rfl rfl rfl rfl rfl ?_
          refine WE.takeN 39 (e := 65) (v := .bool false) rfl (by decide +kernel) (by decide +kernel) (by decide +kernel) (by decide +kernel) rfl rfl rfl rfl rfl ?_
          refine WE.take 40 rfl (by decide +kernel) (by decide +kernel) (by decide +kernel) (by decide +kernel) rfl rfl (fun wq hq => R.pickF (v := Value.bool false) rfl rfl) ?_
          refine WE.take 41 rfl (by decide +kernel) (by decide +kernel) (by decide +kernel) (by decide +kernel) rfl rfl (fun wq hq => R.move (v := Value.bool false) rfl) ?_
          refine WE.takeN 42 (e := 72) (v := .bool false) rfl (by decide +kernel) (by decide +kernel) (by decide +kernel) (by decide +kernel) rfl rfl rfl rfl rfl ?_
          refine WE.takeN 43 (e := 72) (v := .bool false) rfl (by decide +kernel) (by decide +kernel) (by decide +kernel) (by decide +kernel) rfl rfl rfl rfl rfl ?_
          refine WE.takeN 44 (e := 72) (v := .bool false) rfl (by decide +kernel) (by decide +kernel) (by decide +kernel) (by decide +kernel) rfl rfl rfl rfl rfl ?_
          refine WE.take 45 rfl (by decide +kernel) (by decide +kernel) (by decide +kernel) (by decide +kernel) rfl rfl (fun wq hq => R.pickF (v := Value.bool false) rfl rfl) ?_
          refine WE.take 46 rfl (by decide +kernel) (by decide +kernel) (by decide +kernel) (by decide +kernel) rfl rfl (fun wq hq => R.move (v := Value.bool false) rfl) ?_
          refine WE.takeN 47 (e := 77) (v := .bool false) rfl (by decide +kernel) (by decide +kernel) (by decide +kernel) (by decide +kernel) rfl rfl rfl rfl rfl ?_
          refine WE.takeN 48 (e := 77) (v := .bool false) rfl (by decide +kernel) (by decide +kernel) (by decide +kernel) (by decide +kernel) rfl rfl rfl rfl rfl ?_
          refine WE.takeN 49 (e := 77) (v := .bool false) rfl (by decide +kernel) (by decide +kernel) (by decide +kernel) (by decide +kernel) rfl rfl rfl rfl rfl ?_
          refine WE.takeN 50 (e := 77) (v := .bool false) rfl (by decide +kernel) (by decide +kernel) (by decide +kernel) (by decide +kernel) rfl rfl rfl rfl rfl ?_
          refine WE.takeN 51 (e := 77) (v := .bool false) rfl (by decide +kernel) (by decide +kernel) (by decide +kernel) (by decide +kernel) rfl rfl rfl rfl rfl ?_
          refine WE.takeN 52 (e := 77) (v := .bool false) rfl (by decide +kernel) (by decide +kernel) (by decide +kernel) (by decide +kernel) rfl rfl rfl rfl rfl ?_
          refine WE.take 53 rfl (by decide +kernel) (by decide +kernel) (by decide +kernel) (by decide +kernel) rfl rfl (fun wq hq => R.pickF (v := Value.bool false) rfl rfl) ?_
          refine WE.take 54 rfl (by decide +kernel) (by decide +kernel) (by decide +kernel) (by decide +kernel) rfl rfl (fun wq hq => R.move (v := Value.bool false) rfl) ?_
          refine WE.takeN 55 (e := 85) (v := .bool false) rfl (by decide +kernel) (by decide +kernel) (by decide +kernel) (by decide +kernel) rfl rfl rfl rfl rfl ?_
          refine WE.takeN 56 (e := 85) (v := .bool false) rfl (by decide +kernel) (by decide +kernel) (by decide +kernel) (by decide +kernel) rfl rfl rfl rfl rfl ?_
          refine WE.takeN 57 (e := 85) (v := .bool false) rfl (by decide +kernel) (by decide +kernel) (by decide +kernel) (by decide +kernel) rfl rfl rfl rfl rfl ?_
          refine WE.takeN 58 (e := 85) (v := .bool false) rfl (by decide +kernel) (by decide +kernel) (by decide +kernel) (by decide +kernel) rfl rfl rfl rfl rfl ?_
          refine WE.takeN 59 (e := 85) (v := .bool false) rfl (by decide +kernel) (by decide +kernel) (by decide +kernel) (by decide +kernel) rfl rfl rfl rfl rfl ?_
          refine WE.take 60 rfl (by decide +kernel) (by decide +kernel) (by decide +kernel) (by decide +kernel) rfl rfl (fun wq hq => R.pickF (v := Value.bool false) rfl rfl) ?_
          refine WE.take 61 rfl (by decide +kernel) (by decide +kernel) (by decide +kernel) (by decide +kernel) rfl rfl (fun wq hq => R.assign (v := Value.bool false) rfl) ?_
          refine WE.done (by decide +kernel) ?_
          refine thenN ?_
          refine WC.ret ?_
          have ht576 := (hs442.here).perm (L' := []) (G := [blk b430 60 (encH (⟨true, (⟨5, Cl.zero.offer, Cl.zero.report, Cl.zero.view⟩ : Cl)⟩ : Hd))]) ((List.Perm.refl _))
          have hs577 := hs442.trans ht576
          obtain rfl := Option.some.inj (show some false = some r from h575)
          exact ret1 (P := Try.prog) (n := 92) (fn := Try.f31) (R := fun v w' => v = Value.bool false ∧ St [] w w' []) (t := 0) (v := Value.bool false) rfl rfl rfl ⟨rfl, hs577⟩
    · have h578 := ifF hc460 h447
      refine WE.takeN 11 (e := 41) (v := .bool false) rfl (by decide +kernel) (by decide +kernel) (by decide +kernel) (by decide +kernel) rfl rfl rfl (Eq.trans (show _ = Value.bool (decide (x445 = (⟨true, (⟨5, Cl.zero.offer, Cl.zero.report, Cl.zero.view⟩ : Cl)⟩ : Hd))) from rfl) (congrArg Value.bool (decide_eq_false hc460))) rfl ?_
      refine WE.takeN 12 (e := 41) (v := .bool false) rfl (by decide +kernel) (by decide +kernel) (by decide +kernel) (by decide +kernel) rfl rfl rfl (Eq.trans (show _ = Value.bool (decide (x445 = (⟨true, (⟨5, Cl.zero.offer, Cl.zero.report, Cl.zero.view⟩ : Cl)⟩ : Hd))) from rfl) (congrArg Value.bool (decide_eq_false hc460))) rfl ?_
      refine WE.takeN 13 (e := 41) (v := .bool false) rfl (by decide +kernel) (by decide +kernel) (by decide +kernel) (by decide +kernel) rfl rfl rfl (Eq.trans (show _ = Value.bool (decide (x445 = (⟨true, (⟨5, Cl.zero.offer, Cl.zero.report, Cl.zero.view⟩ : Cl)⟩ : Hd))) from rfl) (congrArg Value.bool (decide_eq_false hc460))) rfl ?_
      refine WE.takeN 14 (e := 41) (v := .bool false) rfl (by decide +kernel) (by decide +kernel) (by decide +kernel) (by decide +kernel) rfl rfl rfl (Eq.trans (show _ = Value.bool (decide (x445 = (⟨true, (⟨5, Cl.zero.offer, Cl.zero.report, Cl.zero.view⟩ : Cl)⟩ : Hd))) from rfl) (congrArg Value.bool (decide_eq_false hc460))) rfl ?_
      refine WE.takeN 15 (e := 41) (v := .bool false) rfl (by decide +kernel) (by decide +kernel) (by decide +kernel) (by decide +kernel) rfl rfl rfl (Eq.trans (show _ = Value.bool (decide (x445 = (⟨true, (⟨5, Cl.zero.offer, Cl.zero.report, Cl.zero.view⟩ : Cl)⟩ : Hd))) from rfl) (congrArg Value.bool (decide_eq_false hc460))) rfl ?_
      refine WE.take 16 rfl (by decide +kernel) (by decide +kernel) (by decide +kernel) (by decide +kernel) rfl rfl (fun wq hq => R.pickF (v := Value.bool false) (Eq.trans (show _ = Value.bool (decide (x445 = (⟨true, (⟨5, Cl.zero.offer, Cl.zero.report, Cl.zero.view⟩ : Cl)⟩ : Hd))) from rfl) (congrArg Value.bool (decide_eq_false hc460))) rfl) ?_
      refine WE.take 17 rfl (by decide +kernel) (by decide +kernel) (by decide +kernel) (by decide +kernel) rfl rfl (fun wq hq => R.move (v := Value.bool false) rfl) ?_
      refine WE.takeN 18 (e := 48) (v := .bool false) rfl (by decide +kernel) (by decide +kernel) (by decide +kernel) (by decide +kernel) rfl rfl rfl rfl rfl ?_
      refine WE.takeN 19 (e := 48) (v := .bool false) rfl (by decide +kernel) (by decide +kernel) (by decide +kernel) (by decide +kernel) rfl rfl rfl rfl rfl ?_
      refine WE.takeN 20 (e := 48) (v := .bool false) rfl (by decide +kernel) (by decide +kernel) (by decide +kernel) (by decide +kernel) rfl rfl rfl rfl rfl ?_
      refine WE.take 21 rfl (by decide +kernel) (by decide +kernel) (by decide +kernel) (by decide +kernel) rfl rfl (fun wq hq => R.pickF (v := Value.bool false) rfl rfl) ?_
      refine WE.take 22 rfl (by decide +kernel) (by decide +kernel) (by decide +kernel) (by decide +kernel) rfl rfl (fun wq hq => R.move (v := Value.bool false) rfl) ?_
      refine WE.takeN 23 (e := 53) (v := .bool false) rfl (by decide +kernel) (by decide +kernel) (by decide +kernel) (by decide +kernel) rfl rfl rfl rfl rfl ?_
      refine WE.takeN 24 (e := 53) (v := .bool false) rfl (by decide +kernel) (by decide +kernel) (by decide +kernel) (by decide +kernel) rfl rfl rfl rfl rfl ?_
      refine WE.takeN 25 (e := 53) (v := .bool false) rfl (by decide +kernel) (by decide +kernel) (by decide +kernel) (by decide +kernel) rfl rfl rfl rfl rfl ?_
      refine WE.takeN 26 (e := 53) (v := .bool false) rfl (by decide +kernel) (by decide +kernel) (by decide +kernel) (by decide +kernel) rfl rfl rfl rfl rfl ?_
      refine WE.takeN 27 (e := 53) (v := .bool false) rfl (by decide +kernel) (by decide +kernel) (by decide +kernel) (by decide +kernel) rfl rfl rfl rfl rfl ?_
      refine WE.take 28 rfl (by decide +kernel) (by decide +kernel) (by decide +kernel) (by decide +kernel) rfl rfl (fun wq hq => R.pickF (v := Value.bool false) rfl rfl) ?_
      refine WE.take 29 rfl (by decide +kernel) (by decide +kernel) (by decide +kernel) (by decide +kernel) rfl rfl (fun wq hq => R.move (v := Value.bool false) rfl) ?_
      refine WE.takeN 30 (e := 60) (v := .bool false) rfl (by decide +kernel) (by decide +kernel) (by decide +kernel) (by decide +kernel) rfl rfl rfl rfl rfl ?_
      refine WE.takeN 31 (e := 60) (v := .bool false) rfl (by decide +kernel) (by decide +kernel) (by decide +kernel) (by decide +kernel) rfl rfl rfl rfl rfl ?_
      refine WE.takeN 32 (e := 60) (v := .bool false) rfl (by decide +kernel) (by decide +kernel) (by decide +kernel) (by decide +kernel) rfl rfl rfl rfl rfl ?_
      refine WE.take 33 rfl (by decide +kernel) (by decide +kernel) (by decide +kernel) (by decide +kernel) rfl rfl (fun wq hq => R.pickF (v := Value.bool false) rfl rfl) ?_
      refine WE.take 34 rfl (by decide +kernel) (by decide +kernel) (by decide +kernel) (by decide +kernel) rfl rfl (fun wq hq => R.move (v := Value.bool false) rfl) ?_
      refine WE.takeN 35 (e := 65) (v := .bool false) rfl (by decide +kernel) (by decide +kernel) (by decide +kernel) (by decide +kernel) rfl rfl rfl rfl rfl ?_
      refine WE.takeN 36 (e := 65) (v := .bool false) rfl (by decide +kernel) (by decide +kernel) (by decide +kernel) (by decide +kernel) rfl rfl rfl rfl rfl ?_
      refine WE.takeN 37 (e := 65) (v := .bool false) rfl (by decide +kernel) (by decide +kernel) (by decide +kernel) (by decide +kernel) rfl rfl rfl rfl rfl ?_
      refine WE.takeN 38 (e := 65) (v := .bool false) rfl (by decide +kernel) (by decide +kernel) (by decide +kernel) (by decide +kernel) rfl rfl rfl rfl rfl ?_
      refine WE.takeN 39 (e := 65) (v := .bool false) rfl (by decide +kernel) (by decide +kernel) (by decide +kernel) (by decide +kernel) rfl rfl rfl rfl rfl ?_
      refine WE.take 40 rfl (by decide +kernel) (by decide +kernel) (by decide +kernel) (by decide +kernel) rfl rfl (fun wq hq => R.pickF (v := Value.bool false) rfl rfl) ?_
      refine WE.take 41 rfl (by decide +kernel) (by decide +kernel) (by decide +kernel) (by decide +kernel) rfl rfl (fun wq hq => R.move (v := Value.bool false) rfl) ?_
      refine WE.takeN 42 (e := 72) (v := .bool false) rfl (by decide +kernel) (by decide +kernel) (by decide +kernel) (by decide +kernel) rfl rfl rfl rfl rfl ?_
      refine WE.takeN 43 (e := 72) (v := .bool false) rfl (by decide +kernel) (by decide +kernel) (by decide +kernel) (by decide +kernel) rfl rfl rfl rfl rfl ?_
      refine WE.takeN 44 (e := 72) (v := .bool false) rfl (by decide +kernel) (by decide +kernel) (by decide +kernel) (by decide +kernel) rfl rfl rfl rfl rfl ?_
      refine WE.take 45 rfl (by decide +kernel) (by decide +kernel) (by decide +kernel) (by decide +kernel) rfl rfl (fun wq hq => R.pickF (v := Value.bool false) rfl rfl) ?_
      refine WE.take 46 rfl (by decide +kernel) (by decide +kernel) (by decide +kernel) (by decide +kernel) rfl rfl (fun wq hq => R.move (v := Value.bool false) rfl) ?_
      refine WE.takeN 47 (e := 77) (v := .bool false) rfl (by decide +kernel) (by decide +kernel) (by decide +kernel) (by decide +kernel) rfl rfl rfl rfl rfl ?_
      refine WE.takeN 48 (e := 77) (v := .bool false) rfl (by decide +kernel) (by decide +kernel) (by decide +kernel) (by decide +kernel) rfl rfl rfl rfl rfl ?_
      refine WE.takeN 49 (e := 77) (v := .bool false) rfl (by decide +kernel) (by decide +kernel) (by decide +kernel) (by decide +kernel) rfl rfl rfl rfl rfl ?_
      refine WE.takeN 50 (e := 77) (v := .bool false) rfl (by decide +kernel) (by decide +kernel) (by decide +kernel) (by decide +kernel) rfl rfl rfl rfl rfl ?_
      refine WE.takeN 51 (e := 77) (v := .bool false) rfl (by decide +kernel) (by decide +kernel) (by decide +kernel) (by decide +kernel) rfl rfl rfl rfl rfl ?_
      refine WE.takeN 52 (e := 77) (v := .bool false) rfl (by decide +kernel) (by decide +kernel) (by decide +kernel) (by decide +kernel) rfl rfl rfl rfl rfl ?_
      refine WE.take 53 rfl (by decide +kernel) (by decide +kernel) (by decide +kernel) (by decide +kernel) rfl rfl (fun wq hq => R.pickF (v := Value.bool false) rfl rfl) ?_
      refine WE.take 54 rfl (by decide +kernel) (by decide +kernel) (by decide +kernel) (by decide +kernel) rfl rfl (fun wq hq => R.move (v := Value.bool false) rfl) ?_
      refine WE.takeN 55 (e := 85) (v := .bool false) rfl (by decide +kernel) (by decide +kernel) (by decide +kernel) (by decide +kernel) rfl rfl rfl rfl rfl ?_
      refine WE.takeN 56 (e := 85) (v := .bool false) rfl (by decide +kernel) (by decide +kernel) (by decide +kernel) (by decide +kernel) rfl rfl rfl rfl rfl ?_
      refine WE.takeN 57 (e := 85) (v := .bool false) rfl (by decide +kernel) (by decide +kernel) (by decide +kernel) (by decide +kernel) rfl rfl rfl rfl rfl ?_
      refine WE.takeN 58 (e := 85) (v := .bool false) rfl (by decide +kernel) (by decide +kernel) (by decide +kernel) (by decide +kernel) rfl rfl rfl rfl rfl ?_
      refine WE.takeN 59 (e := 85) (v := .bool false) rfl (by decide +kernel) (by decide +kernel) (by decide +kernel) (by decide +kernel) rfl rfl rfl rfl rfl ?_
      refine WE.take 60 rfl (by decide +kernel) (by decide +kernel) (by decide +kernel) (by decide +kernel) rfl rfl (fun wq hq => R.pickF (v := Value.bool false) rfl rfl) ?_
      refine WE.take 61 rfl (by decide +kernel) (by decide +kernel) (by decide +kernel) (by decide +kernel) rfl rfl (fun wq hq => R.assign (v := Value.bool false) rfl) ?_
      refine WE.done (by decide +kernel) ?_
      refine thenN ?_
      refine WC.ret ?_
      have ht579 := (hs442.here).perm (L' := []) (G := [blk b430 60 (encH (⟨true, (⟨5, Cl.zero.offer, Cl.zero.report, Cl.zero.view⟩ : Cl)⟩ : Hd))]) ((List.Perm.refl _))
      have hs580 := hs442.trans ht579
      obtain rfl := Option.some.inj (show some false = some r from h578)
      exact ret1 (P := Try.prog) (n := 92) (fn := Try.f31) (R := fun v w' => v = Value.bool false ∧ St [] w w' []) (t := 0) (v := Value.bool false) rfl rfl rfl ⟨rfl, hs580⟩
  · have h581 := ifF hc443 h416
    refine WE.take 2 rfl (by decide +kernel) (by decide +kernel) (by decide +kernel) (by decide +kernel) rfl rfl (fun wq hq => R.eqlF (k := .i64) (a := ((y183.length : Nat) : Int)) (b := 4) un3 rfl rfl hc443) ?_
    refine WE.take 3 rfl (by decide +kernel) (by decide +kernel) (by decide +kernel) (by decide +kernel) rfl rfl (fun wq hq => R.move (v := Value.bool false) rfl) ?_
    refine WE.takeN 4 (e := 34) (v := .bool false) rfl (by decide +kernel) (by decide +kernel) (by decide +kernel) (by decide +kernel) rfl rfl rfl rfl rfl ?_
    refine WE.takeN 5 (e := 34) (v := .bool false) rfl (by decide +kernel) (by decide +kernel) (by decide +kernel) (by decide +kernel) rfl rfl rfl rfl rfl ?_
    refine WE.takeN 6 (e := 34) (v := .bool false) rfl (by decide +kernel) (by decide +kernel) (by decide +kernel) (by decide +kernel) rfl rfl rfl rfl rfl ?_
    refine WE.takeN 7 (e := 34) (v := .bool false) rfl (by decide +kernel) (by decide +kernel) (by decide +kernel) (by decide +kernel) rfl rfl rfl rfl rfl ?_
    refine WE.takeN 8 (e := 34) (v := .bool false) rfl (by decide +kernel) (by decide +kernel) (by decide +kernel) (by decide +kernel) rfl rfl rfl rfl rfl ?_
    refine WE.take 9 rfl (by decide +kernel) (by decide +kernel) (by decide +kernel) (by decide +kernel) rfl rfl (fun wq hq => R.pickF (v := Value.bool false) rfl rfl) ?_
    refine WE.take 10 rfl (by decide +kernel) (by decide +kernel) (by decide +kernel) (by decide +kernel) rfl rfl (fun wq hq => R.move (v := Value.bool false) rfl) ?_
    refine WE.takeN 11 (e := 41) (v := .bool false) rfl (by decide +kernel) (by decide +kernel) (by decide +kernel) (by decide +kernel) rfl rfl rfl rfl rfl ?_
    refine WE.takeN 12 (e := 41) (v := .bool false) rfl (by decide +kernel) (by decide +kernel) (by decide +kernel) (by decide +kernel) rfl rfl rfl rfl rfl ?_
    refine WE.takeN 13 (e := 41) (v := .bool false) rfl (by decide +kernel) (by decide +kernel) (by decide +kernel) (by decide +kernel) rfl rfl rfl rfl rfl ?_
    refine WE.takeN 14 (e := 41) (v := .bool false) rfl (by decide +kernel) (by decide +kernel) (by decide +kernel) (by decide +kernel) rfl rfl rfl rfl rfl ?_
    refine WE.takeN 15 (e := 41) (v := .bool false) rfl (by decide +kernel) (by decide +kernel) (by decide +kernel) (by decide +kernel) rfl rfl rfl rfl rfl ?_
    refine WE.take 16 rfl (by decide +kernel) (by decide +kernel) (by decide +kernel) (by decide +kernel) rfl rfl (fun wq hq => R.pickF (v := Value.bool false) rfl rfl) ?_
    refine WE.take 17 rfl (by decide +kernel) (by decide +kernel) (by decide +kernel) (by decide +kernel) rfl rfl (fun wq hq => R.move (v := Value.bool false) rfl) ?_
    refine WE.takeN 18 (e := 48) (v := .bool false) rfl (by decide +kernel) (by decide +kernel) (by decide +kernel) (by decide +kernel) rfl rfl rfl rfl rfl ?_
    refine WE.takeN 19 (e := 48) (v := .bool false) rfl (by decide +kernel) (by decide +kernel) (by decide +kernel) (by decide +kernel) rfl rfl rfl rfl rfl ?_
    refine WE.takeN 20 (e := 48) (v := .bool false) rfl (by decide +kernel) (by decide +kernel) (by decide +kernel) (by decide +kernel) rfl rfl rfl rfl rfl ?_
    refine WE.take 21 rfl (by decide +kernel) (by decide +kernel) (by decide +kernel) (by decide +kernel) rfl rfl (fun wq hq => R.pickF (v := Value.bool false) rfl rfl) ?_
    refine WE.take 22 rfl (by decide +kernel) (by decide +kernel) (by decide +kernel) (by decide +kernel) rfl rfl (fun wq hq => R.move (v := Value.bool false) rfl) ?_
    refine WE.takeN 23 (e := 53) (v := .bool false) rfl (by decide +kernel) (by decide +kernel) (by decide +kernel) (by decide +kernel) rfl rfl rfl rfl rfl ?_
    refine WE.takeN 24 (e := 53) (v := .bool false) rfl (by decide +kernel) (by decide +kernel) (by decide +kernel) (by decide +kernel) rfl rfl rfl rfl rfl ?_
    refine WE.takeN 25 (e := 53) (v := .bool false) rfl (by decide +kernel) (by decide +kernel) (by decide +kernel) (by decide +kernel) rfl rfl rfl rfl rfl ?_
    refine WE.takeN 26 (e := 53) (v := .bool false) rfl (by decide +kernel) (by decide +kernel) (by decide +kernel) (by decide +kernel) rfl rfl rfl rfl rfl ?_
    refine WE.takeN 27 (e := 53) (v := .bool false) rfl (by decide +kernel) (by decide +kernel) (by decide +kernel) (by decide +kernel) rfl rfl rfl rfl rfl ?_
    refine WE.take 28 rfl (by decide +kernel) (by decide +kernel) (by decide +kernel) (by decide +kernel) rfl rfl (fun wq hq => R.pickF (v := Value.bool false) rfl rfl) ?_
    refine WE.take 29 rfl (by decide +kernel) (by decide +kernel) (by decide +kernel) (by decide +kernel) rfl rfl (fun wq hq => R.move (v := Value.bool false) rfl) ?_
    refine WE.takeN 30 (e := 60) (v := .bool false) rfl (by decide +kernel) (by decide +kernel) (by decide +kernel) (by decide +kernel) rfl rfl rfl rfl rfl ?_
    refine WE.takeN 31 (e := 60) (v := .bool false) rfl (by decide +kernel) (by decide +kernel) (by decide +kernel) (by decide +kernel) rfl rfl rfl rfl rfl ?_
    refine WE.takeN 32 (e := 60) (v := .bool false) rfl (by decide +kernel) (by decide +kernel) (by decide +kernel) (by decide +kernel) rfl rfl rfl rfl rfl ?_
    refine WE.take 33 rfl (by decide +kernel) (by decide +kernel) (by decide +kernel) (by decide +kernel) rfl rfl (fun wq hq => R.pickF (v := Value.bool false) rfl rfl) ?_
    refine WE.take 34 rfl (by decide +kernel) (by decide +kernel) (by decide +kernel) (by decide +kernel) rfl rfl (fun wq hq => R.move (v := Value.bool false) rfl) ?_
    refine WE.takeN 35 (e := 65) (v := .bool false) rfl (by decide +kernel) (by decide +kernel) (by decide +kernel) (by decide +kernel) rfl rfl rfl rfl rfl ?_
    refine WE.takeN 36 (e := 65) (v := .bool false) rfl (by decide +kernel) (by decide +kernel) (by decide +kernel) (by decide +kernel) rfl rfl rfl rfl rfl ?_
    refine WE.takeN 37 (e := 65) (v := .bool false) rfl (by decide +kernel) (by decide +kernel) (by decide +kernel) (by decide +kernel) rfl rfl rfl rfl rfl ?_
    refine WE.takeN 38 (e := 65) (v := .bool false) rfl (by decide +kernel) (by decide +kernel) (by decide +kernel) (by decide +kernel) rfl rfl rfl rfl rfl ?_
    refine WE.takeN 39 (e := 65) (v := .bool false) rfl (by decide +kernel) (by decide +kernel) (by decide +kernel) (by decide +kernel) rfl rfl rfl rfl rfl ?_
    refine WE.take 40 rfl (by decide +kernel) (by decide +kernel) (by decide +kernel) (by decide +kernel) rfl rfl (fun wq hq => R.pickF (v := Value.bool false) rfl rfl) ?_
    refine WE.take 41 rfl (by decide +kernel) (by decide +kernel) (by decide +kernel) (by decide +kernel) rfl rfl (fun wq hq => R.move (v := Value.bool false) rfl) ?_
    refine WE.takeN 42 (e := 72) (v := .bool false) rfl (by decide +kernel) (by decide +kernel) (by decide +kernel) (by decide +kernel) rfl rfl rfl rfl rfl ?_
    refine WE.takeN 43 (e := 72) (v := .bool false) rfl (by decide +kernel) (by decide +kernel) (by decide +kernel) (by decide +kernel) rfl rfl rfl rfl rfl ?_
    refine WE.takeN 44 (e := 72) (v := .bool false) rfl (by decide +kernel) (by decide +kernel) (by decide +kernel) (by decide +kernel) rfl rfl rfl rfl rfl ?_
    refine WE.take 45 rfl (by decide +kernel) (by decide +kernel) (by decide +kernel) (by decide +kernel) rfl rfl (fun wq hq => R.pickF (v := Value.bool false) rfl rfl) ?_
    refine WE.take 46 rfl (by decide +kernel) (by decide +kernel) (by decide +kernel) (by decide +kernel) rfl rfl (fun wq hq => R.move (v := Value.bool false) rfl) ?_
    refine WE.takeN 47 (e := 77) (v := .bool false) rfl (by decide +kernel) (by decide +kernel) (by decide +kernel) (by decide +kernel) rfl rfl rfl rfl rfl ?_
    refine WE.takeN 48 (e := 77) (v := .bool false) rfl (by decide +kernel) (by decide +kernel) (by decide +kernel) (by decide +kernel) rfl rfl rfl rfl rfl ?_
    refine WE.takeN 49 (e := 77) (v := .bool false) rfl (by decide +kernel) (by decide +kernel) (by decide +kernel) (by decide +kernel) rfl rfl rfl rfl rfl ?_
    refine WE.takeN 50 (e := 77) (v := .bool false) rfl (by decide +kernel) (by decide +kernel) (by decide +kernel) (by decide +kernel) rfl rfl rfl rfl rfl ?_
    refine WE.takeN 51 (e := 77) (v := .bool false) rfl (by decide +kernel) (by decide +kernel) (by decide +kernel) (by decide +kernel) rfl rfl rfl rfl rfl ?_
    refine WE.takeN 52 (e := 77) (v := .bool false) rfl (by decide +kernel) (by decide +kernel) (by decide +kernel) (by decide +kernel) rfl rfl rfl rfl rfl ?_
    refine WE.take 53 rfl (by decide +kernel) (by decide +kernel) (by decide +kernel) (by decide +kernel) rfl rfl (fun wq hq => R.pickF (v := Value.bool false) rfl rfl) ?_
    refine WE.take 54 rfl (by decide +kernel) (by decide +kernel) (by decide +kernel) (by decide +kernel) rfl rfl (fun wq hq => R.move (v := Value.bool false) rfl) ?_
    refine WE.takeN 55 (e := 85) (v := .bool false) rfl (by decide +kernel) (by decide +kernel) (by decide +kernel) (by decide +kernel) rfl rfl rfl rfl rfl ?_
    refine WE.takeN 56 (e := 85) (v := .bool false) rfl (by decide +kernel) (by decide +kernel) (by decide +kernel) (by decide +kernel) rfl rfl rfl rfl rfl ?_
    refine WE.takeN 57 (e := 85) (v := .bool false) rfl (by decide +kernel) (by decide +kernel) (by decide +kernel) (by decide +kernel) rfl rfl rfl rfl rfl ?_
    refine WE.takeN 58 (e := 85) (v := .bool false) rfl (by decide +kernel) (by decide +kernel) (by decide +kernel) (by decide +kernel) rfl rfl rfl rfl rfl ?_
    refine WE.takeN 59 (e := 85) (v := .bool false) rfl (by decide +kernel) (by decide +kernel) (by decide +kernel) (by decide +kernel) rfl rfl rfl rfl rfl ?_
    refine WE.take 60 rfl (by decide +kernel) (by decide +kernel) (by decide +kernel) (by decide +kernel) rfl rfl (fun wq hq => R.pickF (v := Value.bool false) rfl rfl) ?_
    refine WE.take 61 rfl (by decide +kernel) (by decide +kernel) (by decide +kernel) (by decide +kernel) rfl rfl (fun wq hq => R.assign (v := Value.bool false) rfl) ?_
    refine WE.done (by decide +kernel) ?_
    refine thenN ?_
    refine WC.ret ?_
    have ht582 := (hs442.here).perm (L' := []) (G := [blk b430 60 (encH (⟨true, (⟨5, Cl.zero.offer, Cl.zero.report, Cl.zero.view⟩ : Cl)⟩ : Hd))]) ((List.Perm.refl _))
    have hs583 := hs442.trans ht582
    obtain rfl := Option.some.inj (show some false = some r from h581)
    exact ret1 (P := Try.prog) (n := 92) (fn := Try.f31) (R := fun v w' => v = Value.bool false ∧ St [] w w' []) (t := 0) (v := Value.bool false) rfl rfl rfl ⟨rfl, hs583⟩

end Go.Proofs.Ytckcldimnelklaa
