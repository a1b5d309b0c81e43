/- The functions come to what their twins answer: group 14x. -/
import Derived.Test.YtckcldimnelklaaWLc
import Derived.Test.YtckcldimnelklaaTY
import Derived.Test.YtckcldimnelklaaW14na
import Derived.Test.YtckcldimnelklaaD14x
namespace Go.Proofs.Ytckcldimnelklaa
open Go
set_option linter.unusedVariables false
set_option linter.unusedSimpArgs false
set_option maxRecDepth 100000
set_option maxHeartbeats 4000000

theorem lives14_ok (w : World) (ok : Nat → Prop)  {r : Bool} (h : lives14  = some r) :
    Ret Try.prog 77 [] w (fun v w' => v = Value.bool r ∧ St [] w w' []) := by
  rw [lives14] at h
  have hs100 : St [] w w [] := St.start w
  refine enter (n := 118) Try.func77 rfl rfl rfl ?_
  refine WC.seq ?_
  refine WC.region ?_
  refine WL.val (R.assign (v := Value.bool false) rfl) rfl ?_
  refine WL.nil ?_
  refine thenN ?_
  refine WC.seq ?_
  refine WC.region ?_
  obtain ⟨y101, hx102, h103⟩ := ob (o := lnew14 4 1) h
  refine WL.call (lnew14_ok _ (In (fun _ => False) w [] []) 4 1  hx102) (R.call (vs := [Value.int .i64 4, Value.int .i64 1]) (caps := []) bo78 rfl rfl) rfl ?_
  rintro v109 w110 ⟨rp106, rL107, rfl, ho108, ht104⟩
  rcases ocE h103 with ⟨ho113, h111⟩ | ⟨q112, ho113, h111⟩
  · rw [ho113] at ho108
    obtain ⟨rfl, rfl⟩ := ho108
    have ht105 := hs100.call (N := []) (M := []) (List.Perm.refl _) ht104
    have hs114 := hs100.trans ht105
    cases h111
  · rw [ho113] at ho108
    obtain ⟨b115, rfl, a116, c117, rs118, rfl, hq119⟩ := ho108
    have ht105 := hs100.call (N := []) (M := []) (List.Perm.refl _) ht104
    have he122 := rlC hs100 (M := []) (List.Perm.refl _) ht104 hq119
    have hs123 := hs100.trans ht105
    obtain ⟨hg125, h126⟩ := ckE (c := q112.2.2.2.1 = false) h111
    obtain ⟨g127, hb128, ht129, hf130⟩ := lane_mkB q112 hg125 (show St [blk b115 174 [Value.int .i64 q112.1, Value.int .i64 q112.2.1, Value.int .i64 q112.2.2.1, Value.bool q112.2.2.2.1, Value.slice a116 q112.2.2.2.2.length c117], gsl 249 (rawE 4) (Value.slice a116 q112.2.2.2.2.length c117) rs118] _ _ [blk b115 174 [Value.int .i64 q112.1, Value.int .i64 q112.2.1, Value.int .i64 q112.2.2.1, Value.bool q112.2.2.2.1, Value.slice a116 q112.2.2.2.2.length c117], gsl 249 (rawE 4) (Value.slice a116 q112.2.2.2.2.length c117) rs118] from St.ofM (M := [blk b115 174 [Value.int .i64 q112.1, Value.int .i64 q112.2.1, Value.int .i64 q112.2.2.1, Value.bool q112.2.2.2.1, Value.slice a116 q112.2.2.2.2.length c117], gsl 249 (rawE 4) (Value.slice a116 q112.2.2.2.2.length c117) rs118]) (N := []) hs123 ((List.Perm.refl _))) he122 (In.outM (M := [blk b115 174 [Value.int .i64 q112.1, Value.int .i64 q112.2.1, Value.int .i64 q112.2.2.1, Value.bool q112.2.2.2.1, Value.slice a116 q112.2.2.2.2.length c117], gsl 249 (rawE 4) (Value.slice a116 q112.2.2.2.2.length c117) rs118]) (N := []) ((List.Perm.refl _)))
    have ht131 := hs123.call (N := []) (M := [blk b115 174 [Value.int .i64 q112.1, Value.int .i64 q112.2.1, Value.int .i64 q112.2.2.1, Value.bool q112.2.2.2.1, Value.slice a116 q112.2.2.2.2.length c117], gsl 249 (rawE 4) (Value.slice a116 q112.2.2.2.2.length c117) rs118]) ((List.Perm.refl _)) ht129
    have hf132 := lfC hs123 (M := [blk b115 174 [Value.int .i64 q112.1, Value.int .i64 q112.2.1, Value.int .i64 q112.2.2.1, Value.bool q112.2.2.2.1, Value.slice a116 q112.2.2.2.2.length c117], gsl 249 (rawE 4) (Value.slice a116 q112.2.2.2.2.length c117) rs118]) ((List.Perm.refl _)) ht129 hf130
    have hs133 := hs123.trans ht131
    refine WL.val (R.move (v := Value.tuple #[Value.pointer (some ⟨b115, 0, none⟩), Value.int .i64 y101.2]) rfl) rfl ?_
    refine WL.val (R.extract (v := Value.pointer (some ⟨b115, 0, none⟩)) rfl rfl) rfl ?_
    refine WL.val (R.extract (v := Value.int .i64 y101.2) rfl rfl) rfl ?_
    refine WL.val (R.assign (v := Value.pointer (some ⟨b115, 0, none⟩)) rfl) rfl ?_
    refine WL.val (R.assign (v := Value.int .i64 y101.2) rfl) rfl ?_
    refine WL.nil ?_
    refine thenN ?_
    refine WC.seq ?_
    refine WC.region ?_
    have hd135 : ∀ w, (Instr.build 58 #[(0, Value.int .i64 7)]).run Try.prog w = .ok (Value.agg (List.toArray (encC (⟨7, Cl.zero.offer, Cl.zero.report, Cl.zero.view⟩ : Cl)))) w := fun _ => by kernel_rfl
    refine WL.val (R.build (vs := [(0, Value.int .i64 7)]) rfl hd135) rfl ?_
    obtain ⟨hg136, h137⟩ := ckE (c := (0 : Int) ≤ 4 ∧ (4 : Int) < 1000000) h126
    refine WL.new (L' := fun b138 => [laneE g127 q112, gsl 60 heldE (Value.slice (some ⟨b138, 0, none⟩) ((List.replicate (4 : Int).toNat Hd.none).length) ((4 : Int).toNat)) (List.replicate (4 : Int).toNat Hd.none)]) (f := fun b138 => Value.slice (some ⟨b138, 0, none⟩) ((List.replicate (4 : Int).toNat Hd.none).length) ((4 : Int).toNat)) (X.makeSliceN (e := heldE) (z := Hd.none) (hs133.here) sl28 rfl rfl rfl hg136 (by decide) List.length_replicate (fun _ => rfl)) rfl ?_
    intro b138 w139 ht143 he140 hz141
    have hs144 := hs133.trans ht143
    have hd145 : ∀ w, (Instr.build 62 #[(0, Value.bool true), (1, Value.agg (List.toArray (encC (⟨7, Cl.zero.offer, Cl.zero.report, Cl.zero.view⟩ : Cl)))), (2, Value.slice (some ⟨b138, 0, none⟩) ((List.replicate (4 : Int).toNat Hd.none).length) ((4 : Int).toNat))]).run Try.prog w = .ok (Value.agg (List.toArray ((Value.bool true) :: ((encC (⟨7, Cl.zero.offer, Cl.zero.report, Cl.zero.view⟩ : Cl)) ++ ((Value.slice (some ⟨b138, 0, none⟩) ((List.replicate (4 : Int).toNat Hd.none).length) ((4 : Int).toNat)) :: []))))) w := fun _ => by kernel_rfl
    refine WL.val (R.build (vs := [(0, Value.bool true), (1, Value.agg (List.toArray (encC (⟨7, Cl.zero.offer, Cl.zero.report, Cl.zero.view⟩ : Cl)))), (2, Value.slice (some ⟨b138, 0, none⟩) ((List.replicate (4 : Int).toNat Hd.none).length) ((4 : Int).toNat))]) rfl hd145) rfl ?_
    refine WL.new (L' := fun b146 => [laneE g127 q112, gsl 60 heldE (Value.slice (some ⟨b138, 0, none⟩) ((List.replicate (4 : Int).toNat Hd.none).length) ((4 : Int).toNat)) (List.replicate (4 : Int).toNat Hd.none), blk b146 62 (encR Rw.none (Value.slice none 0 0))]) (f := fun b146 => Value.pointer (some ⟨b146, 0, none⟩)) (X.alloc (c := encR Rw.none (Value.slice none 0 0)) (hs144.here) zr62 rfl (fun _ => rfl)) rfl ?_
    intro b146 w147 ht152 he149 hz150
    have hs153 := hs144.trans ht152
    refine WL.sto (L' := [laneE g127 q112, gsl 60 heldE (Value.slice (some ⟨b138, 0, none⟩) ((List.replicate (4 : Int).toNat Hd.none).length) ((4 : Int).toNat)) (List.replicate (4 : Int).toNat Hd.none), blk b146 62 ((Value.bool true) :: ((encC (⟨7, Cl.zero.offer, Cl.zero.report, Cl.zero.view⟩ : Cl)) ++ ((Value.slice (some ⟨b138, 0, none⟩) ((List.replicate (4 : Int).toNat Hd.none).length) ((4 : Int).toNat)) :: [])))]) (X.store (i := 2) (n := 57) (b := b146) (off := 0) (c := encR Rw.none (Value.slice none 0 0)) (U := 62) (vs := (Value.bool true) :: ((encC (⟨7, Cl.zero.offer, Cl.zero.report, Cl.zero.view⟩ : Cl)) ++ ((Value.slice (some ⟨b138, 0, none⟩) ((List.replicate (4 : Int).toNat Hd.none).length) ((4 : Int).toNat)) :: []))) (v := Value.agg (List.toArray ((Value.bool true) :: ((encC (⟨7, Cl.zero.offer, Cl.zero.report, Cl.zero.view⟩ : Cl)) ++ ((Value.slice (some ⟨b138, 0, none⟩) ((List.replicate (4 : Int).toNat Hd.none).length) ((4 : Int).toNat)) :: []))))) (c' := (Value.bool true) :: ((encC (⟨7, Cl.zero.offer, Cl.zero.report, Cl.zero.view⟩ : Cl)) ++ ((Value.slice (some ⟨b138, 0, none⟩) ((List.replicate (4 : Int).toNat Hd.none).length) ((4 : Int).toNat)) :: []))) (hs153.here) rfl ag62.size rfl rfl rfl rfl rfl rfl rfl rfl) rfl rfl ?_
    intro w154 ht155
    have hs156 := hs153.trans ht155
    refine WL.nil ?_
    refine thenN ?_
    refine WC.seq ?_
    refine WC.region ?_
    refine WL.val (R.loadA (cs := (Value.bool true) :: ((encC (⟨7, Cl.zero.offer, Cl.zero.report, Cl.zero.view⟩ : Cl)) ++ ((Value.slice (some ⟨b138, 0, none⟩) ((List.replicate (4 : Int).toNat Hd.none).length) ((4 : Int).toNat)) :: []))) (n := 57) ag62 rfl (hs156.at (i := 2) (off := 0) (n := 57) (cs := (Value.bool true) :: ((encC (⟨7, Cl.zero.offer, Cl.zero.report, Cl.zero.view⟩ : Cl)) ++ ((Value.slice (some ⟨b138, 0, none⟩) ((List.replicate (4 : Int).toNat Hd.none).length) ((4 : Int).toNat)) :: []))) rfl rfl rfl) rfl) rfl ?_
    have hd162 : ∀ w : World, (Instr.buildSlice 22 1 #[(0, Value.agg (List.toArray ((Value.bool true) :: ((encC (⟨7, Cl.zero.offer, Cl.zero.report, Cl.zero.view⟩ : Cl)) ++ ((Value.slice (some ⟨b138, 0, none⟩) ((List.replicate (4 : Int).toNat Hd.none).length) ((4 : Int).toNat)) :: [])))))]).run Try.prog w = .ok (.slice (some ⟨w.heap.size, 0, none⟩) 1 1) { w with heap := w.heap.push (.cells (List.toArray ((Value.bool true) :: ((encC (⟨7, Cl.zero.offer, Cl.zero.report, Cl.zero.view⟩ : Cl)) ++ ((Value.slice (some ⟨b138, 0, none⟩) ((List.replicate (4 : Int).toNat Hd.none).length) ((4 : Int).toNat)) :: [])))) 62) } := fun _ => by kernel_rfl
    refine WL.new (L' := fun b157 => [laneE g127 q112, gsl 60 heldE (Value.slice (some ⟨b138, 0, none⟩) ((List.replicate (4 : Int).toNat Hd.none).length) ((4 : Int).toNat)) (List.replicate (4 : Int).toNat Hd.none), blk b146 62 ((Value.bool true) :: ((encC (⟨7, Cl.zero.offer, Cl.zero.report, Cl.zero.view⟩ : Cl)) ++ ((Value.slice (some ⟨b138, 0, none⟩) ((List.replicate (4 : Int).toNat Hd.none).length) ((4 : Int).toNat)) :: []))), blk b157 62 ((Value.bool true) :: ((encC (⟨7, Cl.zero.offer, Cl.zero.report, Cl.zero.view⟩ : Cl)) ++ ((Value.slice (some ⟨b138, 0, none⟩) ((List.replicate (4 : Int).toNat Hd.none).length) ((4 : Int).toNat)) :: [])))]) (f := fun b157 => Value.slice (some ⟨b157, 0, none⟩) 1 1) (X.buildSlice (c := ((Value.bool true) :: ((encC (⟨7, Cl.zero.offer, Cl.zero.report, Cl.zero.view⟩ : Cl)) ++ ((Value.slice (some ⟨b138, 0, none⟩) ((List.replicate (4 : Int).toNat Hd.none).length) ((4 : Int).toNat)) :: [])))) (vs := [(0, Value.agg (List.toArray ((Value.bool true) :: ((encC (⟨7, Cl.zero.offer, Cl.zero.report, Cl.zero.view⟩ : Cl)) ++ ((Value.slice (some ⟨b138, 0, none⟩) ((List.replicate (4 : Int).toNat Hd.none).length) ((4 : Int).toNat)) :: [])))))]) (hs156.here) rfl hd162 (fun _ => rfl)) rfl ?_
    intro b157 w158 ht164 he160 hz161
    have hs165 := hs156.trans ht164
    have hd166 : ∀ w, (Instr.build 25 #[(0, Value.slice (some ⟨b157, 0, none⟩) 1 1)]).run Try.prog w = .ok (Value.agg (List.toArray [Value.slice (some ⟨b157, 0, none⟩) 1 1])) w := fun _ => by kernel_rfl
    refine WL.val (R.build (vs := [(0, Value.slice (some ⟨b157, 0, none⟩) 1 1)]) rfl hd166) rfl ?_
    refine WL.new (L' := fun b167 => [laneE g127 q112, gsl 60 heldE (Value.slice (some ⟨b138, 0, none⟩) ((List.replicate (4 : Int).toNat Hd.none).length) ((4 : Int).toNat)) (List.replicate (4 : Int).toNat Hd.none), blk b146 62 ((Value.bool true) :: ((encC (⟨7, Cl.zero.offer, Cl.zero.report, Cl.zero.view⟩ : Cl)) ++ ((Value.slice (some ⟨b138, 0, none⟩) ((List.replicate (4 : Int).toNat Hd.none).length) ((4 : Int).toNat)) :: []))), blk b157 62 ((Value.bool true) :: ((encC (⟨7, Cl.zero.offer, Cl.zero.report, Cl.zero.view⟩ : Cl)) ++ ((Value.slice (some ⟨b138, 0, none⟩) ((List.replicate (4 : Int).toNat Hd.none).length) ((4 : Int).toNat)) :: []))), blk b167 25 [Value.slice none 0 0]]) (f := fun b167 => Value.pointer (some ⟨b167, 0, none⟩)) (X.alloc (c := [Value.slice none 0 0]) (hs165.here) zr25 rfl (fun _ => rfl)) rfl ?_
    intro b167 w168 ht173 he170 hz171
    have hs174 := hs165.trans ht173
    refine WL.sto (L' := [laneE g127 q112, gsl 60 heldE (Value.slice (some ⟨b138, 0, none⟩) ((List.replicate (4 : Int).toNat Hd.none).length) ((4 : Int).toNat)) (List.replicate (4 : Int).toNat Hd.none), blk b146 62 ((Value.bool true) :: ((encC (⟨7, Cl.zero.offer, Cl.zero.report, Cl.zero.view⟩ : Cl)) ++ ((Value.slice (some ⟨b138, 0, none⟩) ((List.replicate (4 : Int).toNat Hd.none).length) ((4 : Int).toNat)) :: []))), blk b157 62 ((Value.bool true) :: ((encC (⟨7, Cl.zero.offer, Cl.zero.report, Cl.zero.view⟩ : Cl)) ++ ((Value.slice (some ⟨b138, 0, none⟩) ((List.replicate (4 : Int).toNat Hd.none).length) ((4 : Int).toNat)) :: []))), blk b167 25 [Value.slice (some ⟨b157, 0, none⟩) 1 1]]) (X.store (i := 4) (n := 1) (b := b167) (off := 0) (c := [Value.slice none 0 0]) (U := 25) (vs := [Value.slice (some ⟨b157, 0, none⟩) 1 1]) (v := Value.agg (List.toArray [Value.slice (some ⟨b157, 0, none⟩) 1 1])) (c' := [Value.slice (some ⟨b157, 0, none⟩) 1 1]) (hs174.here) rfl ag25.size rfl rfl rfl rfl rfl rfl rfl rfl) rfl rfl ?_
    intro w175 ht176
    have hs177 := hs174.trans ht176
    refine WL.nil ?_
    refine thenN ?_
    refine WC.seq ?_
    refine WC.region ?_
    refine WL.val (R.move (v := Value.pointer (some ⟨b115, 0, none⟩)) rfl) rfl ?_
    have hd178 : ∀ w, (Instr.build 158 #[]).run Try.prog w = .ok (Value.agg (List.toArray [Value.slice none 0 0, Value.slice none 0 0, Value.slice none 0 0, Value.slice none 0 0])) w := fun _ => by kernel_rfl
    refine WL.val (R.build (vs := []) rfl hd178) rfl ?_
    obtain ⟨y179, hx180, h181⟩ := ob (o := hearU q112 ([], [], [], [])) h137
    have hr182 := lfT (((((ht143.trans ht152).trans ht155).trans ht164).trans ht173).trans ht176) hf132
    refine WL.call (hearB_ok _ (In (fun _ => False) w [] [laneE g127 q112, gsl 60 heldE (Value.slice (some ⟨b138, 0, none⟩) ((List.replicate (4 : Int).toNat Hd.none).length) ((4 : Int).toNat)) (List.replicate (4 : Int).toNat Hd.none), blk b146 62 ((Value.bool true) :: ((encC (⟨7, Cl.zero.offer, Cl.zero.report, Cl.zero.view⟩ : Cl)) ++ ((Value.slice (some ⟨b138, 0, none⟩) ((List.replicate (4 : Int).toNat Hd.none).length) ((4 : Int).toNat)) :: []))), blk b157 62 ((Value.bool true) :: ((encC (⟨7, Cl.zero.offer, Cl.zero.report, Cl.zero.view⟩ : Cl)) ++ ((Value.slice (some ⟨b138, 0, none⟩) ((List.replicate (4 : Int).toNat Hd.none).length) ((4 : Int).toNat)) :: []))), blk b167 25 [Value.slice (some ⟨b157, 0, none⟩) 1 1]]) g127 q112 hb128 ([], [], [], []) _ _ elems_nil (Nat.le_refl _) _ _ elems_nil (Nat.le_refl _) _ _ elems_nil (Nat.le_refl _) _ _ elems_nil (Nat.le_refl _) hr182 (In.outM (M := [laneE g127 q112]) (N := [gsl 60 heldE (Value.slice (some ⟨b138, 0, none⟩) ((List.replicate (4 : Int).toNat Hd.none).length) ((4 : Int).toNat)) (List.replicate (4 : Int).toNat Hd.none), blk b146 62 ((Value.bool true) :: ((encC (⟨7, Cl.zero.offer, Cl.zero.report, Cl.zero.view⟩ : Cl)) ++ ((Value.slice (some ⟨b138, 0, none⟩) ((List.replicate (4 : Int).toNat Hd.none).length) ((4 : Int).toNat)) :: []))), blk b157 62 ((Value.bool true) :: ((encC (⟨7, Cl.zero.offer, Cl.zero.report, Cl.zero.view⟩ : Cl)) ++ ((Value.slice (some ⟨b138, 0, none⟩) ((List.replicate (4 : Int).toNat Hd.none).length) ((4 : Int).toNat)) :: []))), blk b167 25 [Value.slice (some ⟨b157, 0, none⟩) 1 1]]) ((List.Perm.refl _))) (show St [laneE g127 q112] _ _ [laneE g127 q112] from St.ofM (M := [laneE g127 q112]) (N := [gsl 60 heldE (Value.slice (some ⟨b138, 0, none⟩) ((List.replicate (4 : Int).toNat Hd.none).length) ((4 : Int).toNat)) (List.replicate (4 : Int).toNat Hd.none), blk b146 62 ((Value.bool true) :: ((encC (⟨7, Cl.zero.offer, Cl.zero.report, Cl.zero.view⟩ : Cl)) ++ ((Value.slice (some ⟨b138, 0, none⟩) ((List.replicate (4 : Int).toNat Hd.none).length) ((4 : Int).toNat)) :: []))), blk b157 62 ((Value.bool true) :: ((encC (⟨7, Cl.zero.offer, Cl.zero.report, Cl.zero.view⟩ : Cl)) ++ ((Value.slice (some ⟨b138, 0, none⟩) ((List.replicate (4 : Int).toNat Hd.none).length) ((4 : Int).toNat)) :: []))), blk b167 25 [Value.slice (some ⟨b157, 0, none⟩) 1 1]]) hs177 ((List.Perm.refl _))) hx180) (R.call (vs := [Value.pointer (some ⟨b115, 0, none⟩), Value.agg (List.toArray [Value.slice none 0 0, Value.slice none 0 0, Value.slice none 0 0, Value.slice none 0 0])]) (caps := []) bo80 rfl rfl) rfl ?_
    rintro v192 w193 ⟨g183, hb184, a188, c189, rfl, hl190, he191, hf187, ht185⟩
    have ht186 := hs177.call (N := [gsl 60 heldE (Value.slice (some ⟨b138, 0, none⟩) ((List.replicate (4 : Int).toNat Hd.none).length) ((4 : Int).toNat)) (List.replicate (4 : Int).toNat Hd.none), blk b146 62 ((Value.bool true) :: ((encC (⟨7, Cl.zero.offer, Cl.zero.report, Cl.zero.view⟩ : Cl)) ++ ((Value.slice (some ⟨b138, 0, none⟩) ((List.replicate (4 : Int).toNat Hd.none).length) ((4 : Int).toNat)) :: []))), blk b157 62 ((Value.bool true) :: ((encC (⟨7, Cl.zero.offer, Cl.zero.report, Cl.zero.view⟩ : Cl)) ++ ((Value.slice (some ⟨b138, 0, none⟩) ((List.replicate (4 : Int).toNat Hd.none).length) ((4 : Int).toNat)) :: []))), blk b167 25 [Value.slice (some ⟨b157, 0, none⟩) 1 1]]) (M := [laneE g127 q112]) ((List.Perm.refl _)) ht185
    have hf194 := lfC hs177 (M := [laneE g127 q112]) ((List.Perm.refl _)) ht185 hf187
    have he195 := elCN hs177 (M := [laneE g127 q112]) ((List.Perm.refl _)) ht185 he191
    have hs196 := hs177.trans ht186
    refine WL.nil ?_
    refine thenN ?_
    refine WC.seq ?_
    refine WC.region ?_
    refine WL.val (R.move (v := Value.pointer (some ⟨b115, 0, none⟩)) rfl) rfl ?_
    refine WL.val (R.loadA (cs := [Value.slice (some ⟨b157, 0, none⟩) 1 1]) (n := 1) ag25 rfl (hs196.at (i := 4) (off := 0) (n := 1) (cs := [Value.slice (some ⟨b157, 0, none⟩) 1 1]) rfl rfl rfl) rfl) rfl ?_
    have hd199 : ∀ w, (Instr.build 158 #[(0, Value.agg (List.toArray [Value.slice (some ⟨b157, 0, none⟩) 1 1]))]).run Try.prog w = .ok (Value.agg (List.toArray [Value.slice (some ⟨b157, 0, none⟩) 1 1, Value.slice none 0 0, Value.slice none 0 0, Value.slice none 0 0])) w := fun _ => by kernel_rfl
    refine WL.val (R.build (vs := [(0, Value.agg (List.toArray [Value.slice (some ⟨b157, 0, none⟩) 1 1]))]) rfl hd199) rfl ?_
    obtain ⟨a201, c202, hv203, hl204, he205⟩ := el_freeze (k := heldW) (ok := fun _ => False) hs196 ((List.perm_middle (l₁ := [laneE g183 y179.2]) (a := gsl 60 heldE (Value.slice (some ⟨b138, 0, none⟩) ((List.replicate (4 : Int).toNat Hd.none).length) ((4 : Int).toNat)) (List.replicate (4 : Int).toNat Hd.none)) (l₂ := [blk b146 62 ((Value.bool true) :: ((encC (⟨7, Cl.zero.offer, Cl.zero.report, Cl.zero.view⟩ : Cl)) ++ ((Value.slice (some ⟨b138, 0, none⟩) ((List.replicate (4 : Int).toNat Hd.none).length) ((4 : Int).toNat)) :: []))), blk b157 62 ((Value.bool true) :: ((encC (⟨7, Cl.zero.offer, Cl.zero.report, Cl.zero.view⟩ : Cl)) ++ ((Value.slice (some ⟨b138, 0, none⟩) ((List.replicate (4 : Int).toNat Hd.none).length) ((4 : Int).toNat)) :: []))), blk b167 25 [Value.slice (some ⟨b157, 0, none⟩) 1 1]])).trans (List.Perm.cons _ (List.Perm.refl _))) rfl (fun _ _ _ => ⟨trivial, rfl⟩)
    obtain ⟨rfl, rfl⟩ : (some ⟨b138, 0, none⟩) = a201 ∧ (4 : Int).toNat = c202 := ⟨(Value.slice.inj hv203).1, (Value.slice.inj hv203).2.2⟩
    have ht206 := (hs196.here).perm (L' := [laneE g183 y179.2, blk b146 62 ((Value.bool true) :: ((encC (⟨7, Cl.zero.offer, Cl.zero.report, Cl.zero.view⟩ : Cl)) ++ ((Value.slice (some ⟨b138, 0, none⟩) ((List.replicate (4 : Int).toNat Hd.none).length) ((4 : Int).toNat)) :: []))), blk b157 62 ((Value.bool true) :: ((encC (⟨7, Cl.zero.offer, Cl.zero.report, Cl.zero.view⟩ : Cl)) ++ ((Value.slice (some ⟨b138, 0, none⟩) ((List.replicate (4 : Int).toNat Hd.none).length) ((4 : Int).toNat)) :: []))), blk b167 25 [Value.slice (some ⟨b157, 0, none⟩) 1 1]]) (G := [gsl 60 heldE (Value.slice (some ⟨b138, 0, none⟩) ((List.replicate (4 : Int).toNat Hd.none).length) ((4 : Int).toNat)) (List.replicate (4 : Int).toNat Hd.none)]) ((List.Perm.cons _ ((List.perm_middle (l₁ := [gsl 60 heldE (Value.slice (some ⟨b138, 0, none⟩) ((List.replicate (4 : Int).toNat Hd.none).length) ((4 : Int).toNat)) (List.replicate (4 : Int).toNat Hd.none)]) (a := blk b146 62 ((Value.bool true) :: ((encC (⟨7, Cl.zero.offer, Cl.zero.report, Cl.zero.view⟩ : Cl)) ++ ((Value.slice (some ⟨b138, 0, none⟩) ((List.replicate (4 : Int).toNat Hd.none).length) ((4 : Int).toNat)) :: [])))) (l₂ := [blk b157 62 ((Value.bool true) :: ((encC (⟨7, Cl.zero.offer, Cl.zero.report, Cl.zero.view⟩ : Cl)) ++ ((Value.slice (some ⟨b138, 0, none⟩) ((List.replicate (4 : Int).toNat Hd.none).length) ((4 : Int).toNat)) :: []))), blk b167 25 [Value.slice (some ⟨b157, 0, none⟩) 1 1]])).trans (List.Perm.cons _ ((List.perm_middle (l₁ := [gsl 60 heldE (Value.slice (some ⟨b138, 0, none⟩) ((List.replicate (4 : Int).toNat Hd.none).length) ((4 : Int).toNat)) (List.replicate (4 : Int).toNat Hd.none)]) (a := blk b157 62 ((Value.bool true) :: ((encC (⟨7, Cl.zero.offer, Cl.zero.report, Cl.zero.view⟩ : Cl)) ++ ((Value.slice (some ⟨b138, 0, none⟩) ((List.replicate (4 : Int).toNat Hd.none).length) ((4 : Int).toNat)) :: [])))) (l₂ := [blk b167 25 [Value.slice (some ⟨b157, 0, none⟩) 1 1]])).trans (List.Perm.cons _ ((List.perm_middle (l₁ := [gsl 60 heldE (Value.slice (some ⟨b138, 0, none⟩) ((List.replicate (4 : Int).toNat Hd.none).length) ((4 : Int).toNat)) (List.replicate (4 : Int).toNat Hd.none)]) (a := blk b167 25 [Value.slice (some ⟨b157, 0, none⟩) 1 1]) (l₂ := [])).trans (List.Perm.cons _ (List.Perm.refl _)))))))))
    have hs207 := hs196.trans ht206
    have hr209 : readsL rowW w193 (In (fun _ => False) w [] [laneE g183 y179.2, blk b146 62 ((Value.bool true) :: ((encC (⟨7, Cl.zero.offer, Cl.zero.report, Cl.zero.view⟩ : Cl)) ++ ((Value.slice (some ⟨b138, 0, none⟩) ((List.replicate (4 : Int).toNat Hd.none).length) ((4 : Int).toNat)) :: []))), blk b157 62 ((Value.bool true) :: ((encC (⟨7, Cl.zero.offer, Cl.zero.report, Cl.zero.view⟩ : Cl)) ++ ((Value.slice (some ⟨b138, 0, none⟩) ((List.replicate (4 : Int).toNat Hd.none).length) ((4 : Int).toNat)) :: []))), blk b167 25 [Value.slice (some ⟨b157, 0, none⟩) 1 1]]) [(⟨true, (⟨7, Cl.zero.offer, Cl.zero.report, Cl.zero.view⟩ : Cl), List.replicate (4 : Int).toNat Hd.none⟩ : Rw)] [(⟨(Value.bool true) :: ((encC (⟨7, Cl.zero.offer, Cl.zero.report, Cl.zero.view⟩ : Cl)) ++ ((Value.slice (some ⟨b138, 0, none⟩) ((List.replicate (4 : Int).toNat Hd.none).length) ((4 : Int).toNat)) :: [])), rfl, rfl⟩ : Raw 57)] := (readsL_cons ⟨_, rfl, ⟨_, _, rfl, hl204, he205⟩⟩ readsL_nil)
    have ht200 : St [laneE g183 y179.2, blk b146 62 ((Value.bool true) :: ((encC (⟨7, Cl.zero.offer, Cl.zero.report, Cl.zero.view⟩ : Cl)) ++ ((Value.slice (some ⟨b138, 0, none⟩) ((List.replicate (4 : Int).toNat Hd.none).length) ((4 : Int).toNat)) :: []))), blk b157 62 ((Value.bool true) :: ((encC (⟨7, Cl.zero.offer, Cl.zero.report, Cl.zero.view⟩ : Cl)) ++ ((Value.slice (some ⟨b138, 0, none⟩) ((List.replicate (4 : Int).toNat Hd.none).length) ((4 : Int).toNat)) :: []))), blk b167 25 [Value.slice (some ⟨b157, 0, none⟩) 1 1]] w193 w193 [laneE g183 y179.2, blk b146 62 ((Value.bool true) :: ((encC (⟨7, Cl.zero.offer, Cl.zero.report, Cl.zero.view⟩ : Cl)) ++ ((Value.slice (some ⟨b138, 0, none⟩) ((List.replicate (4 : Int).toNat Hd.none).length) ((4 : Int).toNat)) :: []))), gsl 62 (rawE 57) (Value.slice (some ⟨b157, 0, none⟩) (([(⟨true, (⟨7, Cl.zero.offer, Cl.zero.report, Cl.zero.view⟩ : Cl), List.replicate (4 : Int).toNat Hd.none⟩ : Rw)]).length) 1) [(⟨(Value.bool true) :: ((encC (⟨7, Cl.zero.offer, Cl.zero.report, Cl.zero.view⟩ : Cl)) ++ ((Value.slice (some ⟨b138, 0, none⟩) ((List.replicate (4 : Int).toNat Hd.none).length) ((4 : Int).toNat)) :: [])), rfl, rfl⟩ : Raw 57)], blk b167 25 [Value.slice (some ⟨b157, 0, none⟩) 1 1]] := (hs207.here).conv (i := 2) rfl (arr_gsl (E := 62) (e := (rawE 57)) (xs := [(⟨(Value.bool true) :: ((encC (⟨7, Cl.zero.offer, Cl.zero.report, Cl.zero.view⟩ : Cl)) ++ ((Value.slice (some ⟨b138, 0, none⟩) ((List.replicate (4 : Int).toNat Hd.none).length) ((4 : Int).toNat)) :: [])), rfl, rfl⟩ : Raw 57)]) (hs207.heap (i := 2) rfl) (show (1 : Nat) ≤ maxLen from by decide)) (fun b hb => (Option.some.inj hb).symm) rfl
    have hs211 := hs207.trans ht200
    have hr218 := rlT ht200 hr209
    obtain ⟨a212, c213, hv214, hl215, he216⟩ := el_freezeR hs211 ((List.perm_middle (l₁ := [laneE g183 y179.2, blk b146 62 ((Value.bool true) :: ((encC (⟨7, Cl.zero.offer, Cl.zero.report, Cl.zero.view⟩ : Cl)) ++ ((Value.slice (some ⟨b138, 0, none⟩) ((List.replicate (4 : Int).toNat Hd.none).length) ((4 : Int).toNat)) :: [])))]) (a := gsl 62 (rawE 57) (Value.slice (some ⟨b157, 0, none⟩) (([(⟨true, (⟨7, Cl.zero.offer, Cl.zero.report, Cl.zero.view⟩ : Cl), List.replicate (4 : Int).toNat Hd.none⟩ : Rw)]).length) 1) [(⟨(Value.bool true) :: ((encC (⟨7, Cl.zero.offer, Cl.zero.report, Cl.zero.view⟩ : Cl)) ++ ((Value.slice (some ⟨b138, 0, none⟩) ((List.replicate (4 : Int).toNat Hd.none).length) ((4 : Int).toNat)) :: [])), rfl, rfl⟩ : Raw 57)]) (l₂ := [blk b167 25 [Value.slice (some ⟨b157, 0, none⟩) (([(⟨true, (⟨7, Cl.zero.offer, Cl.zero.report, Cl.zero.view⟩ : Cl), List.replicate (4 : Int).toNat Hd.none⟩ : Rw)]).length) 1]])).trans (List.Perm.cons _ (List.Perm.refl _))) rfl hr218
    obtain ⟨rfl, rfl⟩ : (some ⟨b157, 0, none⟩) = a212 ∧ 1 = c213 := ⟨(Value.slice.inj hv214).1, (Value.slice.inj hv214).2.2⟩
    have ht217 := (hs211.here).perm (L' := [laneE g183 y179.2, blk b146 62 ((Value.bool true) :: ((encC (⟨7, Cl.zero.offer, Cl.zero.report, Cl.zero.view⟩ : Cl)) ++ ((Value.slice (some ⟨b138, 0, none⟩) ((List.replicate (4 : Int).toNat Hd.none).length) ((4 : Int).toNat)) :: []))), blk b167 25 [Value.slice (some ⟨b157, 0, none⟩) (([(⟨true, (⟨7, Cl.zero.offer, Cl.zero.report, Cl.zero.view⟩ : Cl), List.replicate (4 : Int).toNat Hd.none⟩ : Rw)]).length) 1]]) (G := [gsl 62 (rawE 57) (Value.slice (some ⟨b157, 0, none⟩) (([(⟨true, (⟨7, Cl.zero.offer, Cl.zero.report, Cl.zero.view⟩ : Cl), List.replicate (4 : Int).toNat Hd.none⟩ : Rw)]).length) 1) [(⟨(Value.bool true) :: ((encC (⟨7, Cl.zero.offer, Cl.zero.report, Cl.zero.view⟩ : Cl)) ++ ((Value.slice (some ⟨b138, 0, none⟩) ((List.replicate (4 : Int).toNat Hd.none).length) ((4 : Int).toNat)) :: [])), rfl, rfl⟩ : Raw 57)]]) ((List.Perm.cons _ (List.Perm.cons _ ((List.perm_middle (l₁ := [gsl 62 (rawE 57) (Value.slice (some ⟨b157, 0, none⟩) (([(⟨true, (⟨7, Cl.zero.offer, Cl.zero.report, Cl.zero.view⟩ : Cl), List.replicate (4 : Int).toNat Hd.none⟩ : Rw)]).length) 1) [(⟨(Value.bool true) :: ((encC (⟨7, Cl.zero.offer, Cl.zero.report, Cl.zero.view⟩ : Cl)) ++ ((Value.slice (some ⟨b138, 0, none⟩) ((List.replicate (4 : Int).toNat Hd.none).length) ((4 : Int).toNat)) :: [])), rfl, rfl⟩ : Raw 57)]]) (a := blk b167 25 [Value.slice (some ⟨b157, 0, none⟩) (([(⟨true, (⟨7, Cl.zero.offer, Cl.zero.report, Cl.zero.view⟩ : Cl), List.replicate (4 : Int).toNat Hd.none⟩ : Rw)]).length) 1]) (l₂ := [])).trans (List.Perm.cons _ (List.Perm.refl _))))))
    have hs219 := hs211.trans ht217
    obtain ⟨y221, hx222, h223⟩ := ob (o := hearU y179.2 ([(⟨true, (⟨7, Cl.zero.offer, Cl.zero.report, Cl.zero.view⟩ : Cl), List.replicate (4 : Int).toNat Hd.none⟩ : Rw)], [], [], [])) h181
    have hr224 := lfT ((ht206.trans ht200).trans ht217) hf194
    refine WL.call (hearB_ok _ (In (fun _ => False) w [] [laneE g183 y179.2, blk b146 62 ((Value.bool true) :: ((encC (⟨7, Cl.zero.offer, Cl.zero.report, Cl.zero.view⟩ : Cl)) ++ ((Value.slice (some ⟨b138, 0, none⟩) ((List.replicate (4 : Int).toNat Hd.none).length) ((4 : Int).toNat)) :: []))), blk b167 25 [Value.slice (some ⟨b157, 0, none⟩) (([(⟨true, (⟨7, Cl.zero.offer, Cl.zero.report, Cl.zero.view⟩ : Cl), List.replicate (4 : Int).toNat Hd.none⟩ : Rw)]).length) 1]]) g183 y179.2 hb184 ([(⟨true, (⟨7, Cl.zero.offer, Cl.zero.report, Cl.zero.view⟩ : Cl), List.replicate (4 : Int).toNat Hd.none⟩ : Rw)], [], [], []) _ _ he216 hl215 _ _ elems_nil (Nat.le_refl _) _ _ elems_nil (Nat.le_refl _) _ _ elems_nil (Nat.le_refl _) hr224 (In.outM (M := [laneE g183 y179.2]) (N := [blk b146 62 ((Value.bool true) :: ((encC (⟨7, Cl.zero.offer, Cl.zero.report, Cl.zero.view⟩ : Cl)) ++ ((Value.slice (some ⟨b138, 0, none⟩) ((List.replicate (4 : Int).toNat Hd.none).length) ((4 : Int).toNat)) :: []))), blk b167 25 [Value.slice (some ⟨b157, 0, none⟩) (([(⟨true, (⟨7, Cl.zero.offer, Cl.zero.report, Cl.zero.view⟩ : Cl), List.replicate (4 : Int).toNat Hd.none⟩ : Rw)]).length) 1]]) ((List.Perm.refl _))) (show St [laneE g183 y179.2] _ _ [laneE g183 y179.2] from St.ofM (M := [laneE g183 y179.2]) (N := [blk b146 62 ((Value.bool true) :: ((encC (⟨7, Cl.zero.offer, Cl.zero.report, Cl.zero.view⟩ : Cl)) ++ ((Value.slice (some ⟨b138, 0, none⟩) ((List.replicate (4 : Int).toNat Hd.none).length) ((4 : Int).toNat)) :: []))), blk b167 25 [Value.slice (some ⟨b157, 0, none⟩) (([(⟨true, (⟨7, Cl.zero.offer, Cl.zero.report, Cl.zero.view⟩ : Cl), List.replicate (4 : Int).toNat Hd.none⟩ : Rw)]).length) 1]]) hs219 ((List.Perm.refl _))) hx222) (R.call (vs := [Value.pointer (some ⟨b115, 0, none⟩), Value.agg (List.toArray [Value.slice (some ⟨b157, 0, none⟩) 1 1, Value.slice none 0 0, Value.slice none 0 0, Value.slice none 0 0])]) (caps := []) bo80 rfl rfl) rfl ?_
    rintro v234 w235 ⟨g225, hb226, a230, c231, rfl, hl232, he233, hf229, ht227⟩
    have ht228 := hs219.call (N := [blk b146 62 ((Value.bool true) :: ((encC (⟨7, Cl.zero.offer, Cl.zero.report, Cl.zero.view⟩ : Cl)) ++ ((Value.slice (some ⟨b138, 0, none⟩) ((List.replicate (4 : Int).toNat Hd.none).length) ((4 : Int).toNat)) :: []))), blk b167 25 [Value.slice (some ⟨b157, 0, none⟩) (([(⟨true, (⟨7, Cl.zero.offer, Cl.zero.report, Cl.zero.view⟩ : Cl), List.replicate (4 : Int).toNat Hd.none⟩ : Rw)]).length) 1]]) (M := [laneE g183 y179.2]) ((List.Perm.refl _)) ht227
    have hf236 := lfC hs219 (M := [laneE g183 y179.2]) ((List.Perm.refl _)) ht227 hf229
    have he237 := elCN hs219 (M := [laneE g183 y179.2]) ((List.Perm.refl _)) ht227 he233
    have hs238 := hs219.trans ht228
    refine WL.nil ?_
    refine thenN ?_
    refine WC.seq ?_
    refine WC.region ?_
    refine WL.val (R.move (v := Value.pointer (some ⟨b115, 0, none⟩)) rfl) rfl ?_
    have hd241 : ∀ w, (Instr.build 62 #[]).run Try.prog w = .ok (Value.agg (List.toArray (encR Rw.none (Value.slice none 0 0)))) w := fun _ => by kernel_rfl
    refine WL.val (R.build (vs := []) rfl hd241) rfl ?_
    obtain ⟨y242, hx243, h244⟩ := ob (o := sayU y221.2 Rw.none) h223
    refine WL.call (sayB_ok _ (In (fun _ => False) w [] [laneE g225 y221.2, blk b146 62 ((Value.bool true) :: ((encC (⟨7, Cl.zero.offer, Cl.zero.report, Cl.zero.view⟩ : Cl)) ++ ((Value.slice (some ⟨b138, 0, none⟩) ((List.replicate (4 : Int).toNat Hd.none).length) ((4 : Int).toNat)) :: []))), blk b167 25 [Value.slice (some ⟨b157, 0, none⟩) (([(⟨true, (⟨7, Cl.zero.offer, Cl.zero.report, Cl.zero.view⟩ : Cl), List.replicate (4 : Int).toNat Hd.none⟩ : Rw)]).length) 1]]) g225 y221.2 hb226 Rw.none _ _ elems_nil (Nat.le_refl _) hf236 (In.outM (M := [laneE g225 y221.2]) (N := [blk b146 62 ((Value.bool true) :: ((encC (⟨7, Cl.zero.offer, Cl.zero.report, Cl.zero.view⟩ : Cl)) ++ ((Value.slice (some ⟨b138, 0, none⟩) ((List.replicate (4 : Int).toNat Hd.none).length) ((4 : Int).toNat)) :: []))), blk b167 25 [Value.slice (some ⟨b157, 0, none⟩) (([(⟨true, (⟨7, Cl.zero.offer, Cl.zero.report, Cl.zero.view⟩ : Cl), List.replicate (4 : Int).toNat Hd.none⟩ : Rw)]).length) 1]]) ((List.Perm.refl _))) (show St [laneE g225 y221.2] _ _ [laneE g225 y221.2] from St.ofM (M := [laneE g225 y221.2]) (N := [blk b146 62 ((Value.bool true) :: ((encC (⟨7, Cl.zero.offer, Cl.zero.report, Cl.zero.view⟩ : Cl)) ++ ((Value.slice (some ⟨b138, 0, none⟩) ((List.replicate (4 : Int).toNat Hd.none).length) ((4 : Int).toNat)) :: []))), blk b167 25 [Value.slice (some ⟨b157, 0, none⟩) (([(⟨true, (⟨7, Cl.zero.offer, Cl.zero.report, Cl.zero.view⟩ : Cl), List.replicate (4 : Int).toNat Hd.none⟩ : Rw)]).length) 1]]) hs238 ((List.Perm.refl _))) hx243) (R.call (vs := [Value.pointer (some ⟨b115, 0, none⟩), Value.agg (List.toArray (encR Rw.none (Value.slice none 0 0)))]) (caps := []) bo83 rfl rfl) rfl ?_
    rintro v258 w259 ⟨g245, hb246, a250, c251, a252, c253, rfl, hl254, he255, hl256, he257, hf249, ht247⟩
    have ht248 := hs238.call (N := [blk b146 62 ((Value.bool true) :: ((encC (⟨7, Cl.zero.offer, Cl.zero.report, Cl.zero.view⟩ : Cl)) ++ ((Value.slice (some ⟨b138, 0, none⟩) ((List.replicate (4 : Int).toNat Hd.none).length) ((4 : Int).toNat)) :: []))), blk b167 25 [Value.slice (some ⟨b157, 0, none⟩) (([(⟨true, (⟨7, Cl.zero.offer, Cl.zero.report, Cl.zero.view⟩ : Cl), List.replicate (4 : Int).toNat Hd.none⟩ : Rw)]).length) 1]]) (M := [laneE g225 y221.2]) ((List.Perm.refl _)) ht247
    have hf260 := lfC hs238 (M := [laneE g225 y221.2]) ((List.Perm.refl _)) ht247 hf249
    have he261 := elCN hs238 (M := [laneE g225 y221.2]) ((List.Perm.refl _)) ht247 he255
    have he262 := elCN hs238 (M := [laneE g225 y221.2]) ((List.Perm.refl _)) ht247 he257
    have hs263 := hs238.trans ht248
    refine WL.val (R.move (v := Value.tuple #[Value.agg (List.toArray [Value.slice a250 y242.1.length c251]), Value.agg (List.toArray [Value.slice a252 y242.2.1.length c253])]) rfl) rfl ?_
    refine WL.val (R.extract (v := Value.agg (List.toArray [Value.slice a250 y242.1.length c251])) rfl rfl) rfl ?_
    refine WL.val (R.extract (v := Value.agg (List.toArray [Value.slice a252 y242.2.1.length c253])) rfl rfl) rfl ?_
    refine WL.new (L' := fun b267 => [laneE g245 y242.2.2, blk b146 62 ((Value.bool true) :: ((encC (⟨7, Cl.zero.offer, Cl.zero.report, Cl.zero.view⟩ : Cl)) ++ ((Value.slice (some ⟨b138, 0, none⟩) ((List.replicate (4 : Int).toNat Hd.none).length) ((4 : Int).toNat)) :: []))), blk b167 25 [Value.slice (some ⟨b157, 0, none⟩) (([(⟨true, (⟨7, Cl.zero.offer, Cl.zero.report, Cl.zero.view⟩ : Cl), List.replicate (4 : Int).toNat Hd.none⟩ : Rw)]).length) 1], blk b267 25 [Value.slice none 0 0]]) (f := fun b267 => Value.pointer (some ⟨b267, 0, none⟩)) (X.alloc (c := [Value.slice none 0 0]) (hs263.here) zr25 rfl (fun _ => rfl)) rfl ?_
    intro b267 w268 ht273 he270 hz271
    have hs274 := hs263.trans ht273
    refine WL.new (L' := fun b275 => [laneE g245 y242.2.2, blk b146 62 ((Value.bool true) :: ((encC (⟨7, Cl.zero.offer, Cl.zero.report, Cl.zero.view⟩ : Cl)) ++ ((Value.slice (some ⟨b138, 0, none⟩) ((List.replicate (4 : Int).toNat Hd.none).length) ((4 : Int).toNat)) :: []))), blk b167 25 [Value.slice (some ⟨b157, 0, none⟩) (([(⟨true, (⟨7, Cl.zero.offer, Cl.zero.report, Cl.zero.view⟩ : Cl), List.replicate (4 : Int).toNat Hd.none⟩ : Rw)]).length) 1], blk b267 25 [Value.slice none 0 0], blk b275 25 [Value.slice none 0 0]]) (f := fun b275 => Value.pointer (some ⟨b275, 0, none⟩)) (X.alloc (c := [Value.slice none 0 0]) (hs274.here) zr25 rfl (fun _ => rfl)) rfl ?_
    intro b275 w276 ht281 he278 hz279
    have hs282 := hs274.trans ht281
    refine WL.sto (L' := [laneE g245 y242.2.2, blk b146 62 ((Value.bool true) :: ((encC (⟨7, Cl.zero.offer, Cl.zero.report, Cl.zero.view⟩ : Cl)) ++ ((Value.slice (some ⟨b138, 0, none⟩) ((List.replicate (4 : Int).toNat Hd.none).length) ((4 : Int).toNat)) :: []))), blk b167 25 [Value.slice (some ⟨b157, 0, none⟩) (([(⟨true, (⟨7, Cl.zero.offer, Cl.zero.report, Cl.zero.view⟩ : Cl), List.replicate (4 : Int).toNat Hd.none⟩ : Rw)]).length) 1], blk b267 25 [Value.slice a250 y242.1.length c251], blk b275 25 [Value.slice none 0 0]]) (X.store (i := 3) (n := 1) (b := b267) (off := 0) (c := [Value.slice none 0 0]) (U := 25) (vs := [Value.slice a250 y242.1.length c251]) (v := Value.agg (List.toArray [Value.slice a250 y242.1.length c251])) (c' := [Value.slice a250 y242.1.length c251]) (hs282.here) rfl ag25.size rfl rfl rfl rfl rfl rfl rfl rfl) rfl rfl ?_
    intro w283 ht284
    have hs285 := hs282.trans ht284
    refine WL.sto (L' := [laneE g245 y242.2.2, blk b146 62 ((Value.bool true) :: ((encC (⟨7, Cl.zero.offer, Cl.zero.report, Cl.zero.view⟩ : Cl)) ++ ((Value.slice (some ⟨b138, 0, none⟩) ((List.replicate (4 : Int).toNat Hd.none).length) ((4 : Int).toNat)) :: []))), blk b167 25 [Value.slice (some ⟨b157, 0, none⟩) (([(⟨true, (⟨7, Cl.zero.offer, Cl.zero.report, Cl.zero.view⟩ : Cl), List.replicate (4 : Int).toNat Hd.none⟩ : Rw)]).length) 1], blk b267 25 [Value.slice a250 y242.1.length c251], blk b275 25 [Value.slice a252 y242.2.1.length c253]]) (X.store (i := 4) (n := 1) (b := b275) (off := 0) (c := [Value.slice none 0 0]) (U := 25) (vs := [Value.slice a252 y242.2.1.length c253]) (v := Value.agg (List.toArray [Value.slice a252 y242.2.1.length c253])) (c' := [Value.slice a252 y242.2.1.length c253]) (hs285.here) rfl ag25.size rfl rfl rfl rfl rfl rfl rfl rfl) rfl rfl ?_
    intro w286 ht287
    have hs288 := hs285.trans ht287
    refine WL.nil ?_
    refine thenN ?_
    refine WC.seq ?_
    refine WC.region ?_
    refine WL.val (R.move (v := Value.pointer (some ⟨b115, 0, none⟩)) rfl) rfl ?_
    have hd289 : ∀ w, (Instr.build 62 #[]).run Try.prog w = .ok (Value.agg (List.toArray (encR Rw.none (Value.slice none 0 0)))) w := fun _ => by kernel_rfl
    refine WL.val (R.build (vs := []) rfl hd289) rfl ?_
    obtain ⟨y290, hx291, h292⟩ := ob (o := sayU y242.2.2 Rw.none) h244
    have hr293 := lfT (((ht273.trans ht281).trans ht284).trans ht287) hf260
    refine WL.call (sayB_ok _ (In (fun _ => False) w [] [laneE g245 y242.2.2, blk b146 62 ((Value.bool true) :: ((encC (⟨7, Cl.zero.offer, Cl.zero.report, Cl.zero.view⟩ : Cl)) ++ ((Value.slice (some ⟨b138, 0, none⟩) ((List.replicate (4 : Int).toNat Hd.none).length) ((4 : Int).toNat)) :: []))), blk b167 25 [Value.slice (some ⟨b157, 0, none⟩) (([(⟨true, (⟨7, Cl.zero.offer, Cl.zero.report, Cl.zero.view⟩ : Cl), List.replicate (4 : Int).toNat Hd.none⟩ : Rw)]).length) 1], blk b267 25 [Value.slice a250 y242.1.length c251], blk b275 25 [Value.slice a252 y242.2.1.length c253]]) g245 y242.2.2 hb246 Rw.none _ _ elems_nil (Nat.le_refl _) hr293 (In.outM (M := [laneE g245 y242.2.2]) (N := [blk b146 62 ((Value.bool true) :: ((encC (⟨7, Cl.zero.offer, Cl.zero.report, Cl.zero.view⟩ : Cl)) ++ ((Value.slice (some ⟨b138, 0, none⟩) ((List.replicate (4 : Int).toNat Hd.none).length) ((4 : Int).toNat)) :: []))), blk b167 25 [Value.slice (some ⟨b157, 0, none⟩) (([(⟨true, (⟨7, Cl.zero.offer, Cl.zero.report, Cl.zero.view⟩ : Cl), List.replicate (4 : Int).toNat Hd.none⟩ : Rw)]).length) 1], blk b267 25 [Value.slice a250 y242.1.length c251], blk b275 25 [Value.slice a252 y242.2.1.length c253]]) ((List.Perm.refl _))) (show St [laneE g245 y242.2.2] _ _ [laneE g245 y242.2.2] from St.ofM (M := [laneE g245 y242.2.2]) (N := [blk b146 62 ((Value.bool true) :: ((encC (⟨7, Cl.zero.offer, Cl.zero.report, Cl.zero.view⟩ : Cl)) ++ ((Value.slice (some ⟨b138, 0, none⟩) ((List.replicate (4 : Int).toNat Hd.none).length) ((4 : Int).toNat)) :: []))), blk b167 25 [Value.slice (some ⟨b157, 0, none⟩) (([(⟨true, (⟨7, Cl.zero.offer, Cl.zero.report, Cl.zero.view⟩ : Cl), List.replicate (4 : Int).toNat Hd.none⟩ : Rw)]).length) 1], blk b267 25 [Value.slice a250 y242.1.length c251], blk b275 25 [Value.slice a252 y242.2.1.length c253]]) hs288 ((List.Perm.refl _))) hx291) (R.call (vs := [Value.pointer (some ⟨b115, 0, none⟩), Value.agg (List.toArray (encR Rw.none (Value.slice none 0 0)))]) (caps := []) bo83 rfl rfl) rfl ?_
    rintro v307 w308 ⟨g294, hb295, a299, c300, a301, c302, rfl, hl303, he304, hl305, he306, hf298, ht296⟩
    have ht297 := hs288.call (N := [blk b146 62 ((Value.bool true) :: ((encC (⟨7, Cl.zero.offer, Cl.zero.report, Cl.zero.view⟩ : Cl)) ++ ((Value.slice (some ⟨b138, 0, none⟩) ((List.replicate (4 : Int).toNat Hd.none).length) ((4 : Int).toNat)) :: []))), blk b167 25 [Value.slice (some ⟨b157, 0, none⟩) (([(⟨true, (⟨7, Cl.zero.offer, Cl.zero.report, Cl.zero.view⟩ : Cl), List.replicate (4 : Int).toNat Hd.none⟩ : Rw)]).length) 1], blk b267 25 [Value.slice a250 y242.1.length c251], blk b275 25 [Value.slice a252 y242.2.1.length c253]]) (M := [laneE g245 y242.2.2]) ((List.Perm.refl _)) ht296
    have hf309 := lfC hs288 (M := [laneE g245 y242.2.2]) ((List.Perm.refl _)) ht296 hf298
    have he310 := elCN hs288 (M := [laneE g245 y242.2.2]) ((List.Perm.refl _)) ht296 he304
    have he311 := elCN hs288 (M := [laneE g245 y242.2.2]) ((List.Perm.refl _)) ht296 he306
    have hs312 := hs288.trans ht297
    refine WL.val (R.move (v := Value.tuple #[Value.agg (List.toArray [Value.slice a299 y290.1.length c300]), Value.agg (List.toArray [Value.slice a301 y290.2.1.length c302])]) rfl) rfl ?_
    refine WL.val (R.extract (v := Value.agg (List.toArray [Value.slice a299 y290.1.length c300])) rfl rfl) rfl ?_
    refine WL.val (R.extract (v := Value.agg (List.toArray [Value.slice a301 y290.2.1.length c302])) rfl rfl) rfl ?_
    refine WL.new (L' := fun b316 => [laneE g294 y290.2.2, blk b146 62 ((Value.bool true) :: ((encC (⟨7, Cl.zero.offer, Cl.zero.report, Cl.zero.view⟩ : Cl)) ++ ((Value.slice (some ⟨b138, 0, none⟩) ((List.replicate (4 : Int).toNat Hd.none).length) ((4 : Int).toNat)) :: []))), blk b167 25 [Value.slice (some ⟨b157, 0, none⟩) (([(⟨true, (⟨7, Cl.zero.offer, Cl.zero.report, Cl.zero.view⟩ : Cl), List.replicate (4 : Int).toNat Hd.none⟩ : Rw)]).length) 1], blk b267 25 [Value.slice a250 y242.1.length c251], blk b275 25 [Value.slice a252 y242.2.1.length c253], blk b316 25 [Value.slice none 0 0]]) (f := fun b316 => Value.pointer (some ⟨b316, 0, none⟩)) (X.alloc (c := [Value.slice none 0 0]) (hs312.here) zr25 rfl (fun _ => rfl)) rfl ?_
    intro b316 w317 ht322 he319 hz320
    have hs323 := hs312.trans ht322
    refine WL.new (L' := fun b324 => [laneE g294 y290.2.2, blk b146 62 ((Value.bool true) :: ((encC (⟨7, Cl.zero.offer, Cl.zero.report, Cl.zero.view⟩ : Cl)) ++ ((Value.slice (some ⟨b138, 0, none⟩) ((List.replicate (4 : Int).toNat Hd.none).length) ((4 : Int).toNat)) :: []))), blk b167 25 [Value.slice (some ⟨b157, 0, none⟩) (([(⟨true, (⟨7, Cl.zero.offer, Cl.zero.report, Cl.zero.view⟩ : Cl), List.replicate (4 : Int).toNat Hd.none⟩ : Rw)]).length) 1], blk b267 25 [Value.slice a250 y242.1.length c251], blk b275 25 [Value.slice a252 y242.2.1.length c253], blk b316 25 [Value.slice none 0 0], blk b324 25 [Value.slice none 0 0]]) (f := fun b324 => Value.pointer (some ⟨b324, 0, none⟩)) (X.alloc (c := [Value.slice none 0 0]) (hs323.here) zr25 rfl (fun _ => rfl)) rfl ?_
    intro b324 w325 ht330 he327 hz328
    have hs331 := hs323.trans ht330
    refine WL.sto (L' := [laneE g294 y290.2.2, blk b146 62 ((Value.bool true) :: ((encC (⟨7, Cl.zero.offer, Cl.zero.report, Cl.zero.view⟩ : Cl)) ++ ((Value.slice (some ⟨b138, 0, none⟩) ((List.replicate (4 : Int).toNat Hd.none).length) ((4 : Int).toNat)) :: []))), blk b167 25 [Value.slice (some ⟨b157, 0, none⟩) (([(⟨true, (⟨7, Cl.zero.offer, Cl.zero.report, Cl.zero.view⟩ : Cl), List.replicate (4 : Int).toNat Hd.none⟩ : Rw)]).length) 1], blk b267 25 [Value.slice a250 y242.1.length c251], blk b275 25 [Value.slice a252 y242.2.1.length c253], blk b316 25 [Value.slice a299 y290.1.length c300], blk b324 25 [Value.slice none 0 0]]) (X.store (i := 5) (n := 1) (b := b316) (off := 0) (c := [Value.slice none 0 0]) (U := 25) (vs := [Value.slice a299 y290.1.length c300]) (v := Value.agg (List.toArray [Value.slice a299 y290.1.length c300])) (c' := [Value.slice a299 y290.1.length c300]) (hs331.here) rfl ag25.size rfl rfl rfl rfl rfl rfl rfl rfl) rfl rfl ?_
    intro w332 ht333
    have hs334 := hs331.trans ht333
    refine WL.sto (L' := [laneE g294 y290.2.2, blk b146 62 ((Value.bool true) :: ((encC (⟨7, Cl.zero.offer, Cl.zero.report, Cl.zero.view⟩ : Cl)) ++ ((Value.slice (some ⟨b138, 0, none⟩) ((List.replicate (4 : Int).toNat Hd.none).length) ((4 : Int).toNat)) :: []))), blk b167 25 [Value.slice (some ⟨b157, 0, none⟩) (([(⟨true, (⟨7, Cl.zero.offer, Cl.zero.report, Cl.zero.view⟩ : Cl), List.replicate (4 : Int).toNat Hd.none⟩ : Rw)]).length) 1], blk b267 25 [Value.slice a250 y242.1.length c251], blk b275 25 [Value.slice a252 y242.2.1.length c253], blk b316 25 [Value.slice a299 y290.1.length c300], blk b324 25 [Value.slice a301 y290.2.1.length c302]]) (X.store (i := 6) (n := 1) (b := b324) (off := 0) (c := [Value.slice none 0 0]) (U := 25) (vs := [Value.slice a301 y290.2.1.length c302]) (v := Value.agg (List.toArray [Value.slice a301 y290.2.1.length c302])) (c' := [Value.slice a301 y290.2.1.length c302]) (hs334.here) rfl ag25.size rfl rfl rfl rfl rfl rfl rfl rfl) rfl rfl ?_
    intro w335 ht336
    have hs337 := hs334.trans ht336
    refine WL.nil ?_
    refine thenN ?_
    refine WC.seq ?_
    refine WC.seq ?_
    refine WC.drawE mixed (NP.then (NP.then NP.rq)) ?_
    have ht338 := (hs337.here).ext (Ext.drew _)
    have hs339 := hs337.trans ht338
    refine WE.take 0 rfl (by decide +kernel) (by decide +kernel) (by decide +kernel) (by decide +kernel) rfl rfl (fun wq hq => R.move (v := Value.int .i64 y101.2) rfl) ?_
    by_cases hc340 : y101.2 = 0
    · have h341 := ifT hc340 h292
      refine WE.take 1 rfl (by decide +kernel) (by decide +kernel) (by decide +kernel) (by decide +kernel) rfl rfl (fun wq hq => R.neqF (k := .i64) (a := y101.2) (b := 0) un66 rfl rfl (not_not_intro hc340)) ?_
      refine WE.take 2 rfl (by decide +kernel) (by decide +kernel) (by decide +kernel) (by decide +kernel) rfl rfl (fun wq hq => R.move (v := Value.bool false) rfl) ?_
      refine WE.takeY 3 (e := 42) rfl (by decide +kernel) (by decide +kernel) (by decide +kernel) (by decide +kernel) rfl rfl rfl rfl rfl (fun wq hq => R.fieldAddr (o := 0) (o' := 0) fa25_0 rfl rfl) ?_
      refine WE.takeY 4 (e := 42) rfl (by decide +kernel) (by decide +kernel) (by decide +kernel) (by decide +kernel) rfl rfl rfl rfl rfl (fun wq hq => R.loadL (v := Value.slice a250 y242.1.length c251) lf22 rfl ((hs339.ext hq).at (i := 3) (off := 0) (n := 1) (cs := [Value.slice a250 y242.1.length c251]) rfl rfl rfl)) ?_
      refine WE.takeY 5 (e := 42) rfl (by decide +kernel) (by decide +kernel) (by decide +kernel) (by decide +kernel) rfl rfl rfl rfl rfl (fun wq hq => R.len (a := a250) (n := y242.1.length) (c := c251) un22 rfl) ?_
      by_cases hc342 : ((y242.1.length : Nat) : Int) = 4
      · have h343 := ifT hc342 h341
        refine WE.takeY 6 (e := 42) rfl (by decide +kernel) (by decide +kernel) (by decide +kernel) (by decide +kernel) rfl rfl rfl rfl rfl (fun wq hq => R.neqF (k := .i64) (a := ((y242.1.length : Nat) : Int)) (b := 4) un3 rfl rfl (not_not_intro hc342)) ?_
        refine WE.take 7 rfl (by decide +kernel) (by decide +kernel) (by decide +kernel) (by decide +kernel) rfl rfl (fun wq hq => R.pickF (v := Value.bool false) rfl rfl) ?_
        refine WE.take 8 rfl (by decide +kernel) (by decide +kernel) (by decide +kernel) (by decide +kernel) rfl rfl (fun wq hq => R.move (v := Value.bool false) rfl) ?_
        refine WE.takeY 9 (e := 48) rfl (by decide +kernel) (by decide +kernel) (by decide +kernel) (by decide +kernel) rfl rfl rfl rfl rfl (fun wq hq => R.fieldAddr (o := 0) (o' := 0) fa25_0 rfl rfl) ?_
        refine WE.takeY 10 (e := 48) rfl (by decide +kernel) (by decide +kernel) (by decide +kernel) (by decide +kernel) rfl rfl rfl rfl rfl (fun wq hq => R.loadL (v := Value.slice a250 y242.1.length c251) lf22 rfl ((hs339.ext hq).at (i := 3) (off := 0) (n := 1) (cs := [Value.slice a250 y242.1.length c251]) rfl rfl rfl)) ?_
        obtain ⟨x344, hx345, h346⟩ := ob (o := rd y242.1 0) h343
        obtain ⟨h0347, hx348, hl349, hm350⟩ := rdE hx345
        have hr351 := elT (((((((((ht273.trans ht281).trans ht284).trans ht287).trans ht297).trans ht322).trans ht330).trans ht333).trans ht336).trans ht338) he261
        obtain ⟨ad352, e357, ha353, hp354, hat355, hrd356⟩ := hr351 _ _ hx348
        obtain ⟨t358, rfl, a360, c361, he364, hl362, he363⟩ := hrd356
        cases he364
        refine WE.takeY 11 (e := 48) rfl (by decide +kernel) (by decide +kernel) (by decide +kernel) (by decide +kernel) rfl rfl rfl rfl rfl (fun wq hq => R.indexS (n := 57) (m := (0 : Int).toNat) (a := a250) (ad := ad352) (len := y242.1.length) (cap := c251) (z := 0) un22 ag62.size rfl ha353 rfl hm350 hl349 hp354) ?_
        refine WE.takeY 12 (e := 48) rfl (by decide +kernel) (by decide +kernel) (by decide +kernel) (by decide +kernel) rfl rfl rfl rfl rfl (fun wq hq => R.loadA (cs := encR x344 (Value.slice a360 x344.table.length c361)) (n := 57) ag62 rfl (At.exT hq hat355) rfl) ?_
        refine WE.takeY 13 (e := 48) rfl (by decide +kernel) (by decide +kernel) (by decide +kernel) (by decide +kernel) rfl rfl rfl rfl rfl (fun wq hq => R.loadA (cs := (Value.bool true) :: ((encC (⟨7, Cl.zero.offer, Cl.zero.report, Cl.zero.view⟩ : Cl)) ++ ((Value.slice (some ⟨b138, 0, none⟩) ((List.replicate (4 : Int).toNat Hd.none).length) ((4 : Int).toNat)) :: []))) (n := 57) ag62 rfl ((hs339.ext hq).at (i := 1) (off := 0) (n := 57) (cs := (Value.bool true) :: ((encC (⟨7, Cl.zero.offer, Cl.zero.report, Cl.zero.view⟩ : Cl)) ++ ((Value.slice (some ⟨b138, 0, none⟩) ((List.replicate (4 : Int).toNat Hd.none).length) ((4 : Int).toNat)) :: []))) rfl rfl rfl) rfl) ?_
        obtain ⟨y367, hx368, h369⟩ := ob (o := samen14 x344 (⟨true, (⟨7, Cl.zero.offer, Cl.zero.report, Cl.zero.view⟩ : Cl), List.replicate (4 : Int).toNat Hd.none⟩ : Rw)) h346
        have hr370 := elT (((((((((((((ht200.trans ht217).trans ht228).trans ht248).trans ht273).trans ht281).trans ht284).trans ht287).trans ht297).trans ht322).trans ht330).trans ht333).trans ht336).trans ht338) he205
        refine WE.callY 14 (e := 48) (by decide +kernel) rfl rfl rfl rfl rfl rfl (samen14_ok _ _ x344 (⟨true, (⟨7, Cl.zero.offer, Cl.zero.report, Cl.zero.view⟩ : Cl), List.replicate (4 : Int).toNat Hd.none⟩ : Rw) _ _ he363 hl362 _ _ hr370 hl204 hx368) (R.call (vs := [Value.agg (List.toArray (encR x344 (Value.slice a360 x344.table.length c361))), Value.agg (List.toArray ((Value.bool true) :: ((encC (⟨7, Cl.zero.offer, Cl.zero.report, Cl.zero.view⟩ : Cl)) ++ ((Value.slice (some ⟨b138, 0, none⟩) ((List.replicate (4 : Int).toNat Hd.none).length) ((4 : Int).toNat)) :: []))))]) (caps := []) bo65 rfl rfl) ?_
        rintro v373 w374 ⟨rfl, ht371⟩
        refine ⟨.inr (show Ext _ _ from ht371.kept), ?_⟩
        have ht372 := hs339.call (N := [laneE g294 y290.2.2, blk b146 62 ((Value.bool true) :: ((encC (⟨7, Cl.zero.offer, Cl.zero.report, Cl.zero.view⟩ : Cl)) ++ ((Value.slice (some ⟨b138, 0, none⟩) ((List.replicate (4 : Int).toNat Hd.none).length) ((4 : Int).toNat)) :: []))), blk b167 25 [Value.slice (some ⟨b157, 0, none⟩) (([(⟨true, (⟨7, Cl.zero.offer, Cl.zero.report, Cl.zero.view⟩ : Cl), List.replicate (4 : Int).toNat Hd.none⟩ : Rw)]).length) 1], blk b267 25 [Value.slice a250 y242.1.length c251], blk b275 25 [Value.slice a252 y242.2.1.length c253], blk b316 25 [Value.slice a299 y290.1.length c300], blk b324 25 [Value.slice a301 y290.2.1.length c302]]) (M := []) (List.Perm.refl _) ht371
        have hs375 := hs339.trans ht372
        refine WE.takeY 15 (e := 48) rfl (by decide +kernel) (by decide +kernel) (by decide +kernel) (by decide +kernel) rfl rfl rfl rfl rfl (fun wq hq => R.not (b := y367) rfl) ?_
        refine WE.take 16 rfl (by decide +kernel) (by decide +kernel) (by decide +kernel) (by decide +kernel) rfl rfl (fun wq hq => R.pickF (v := Value.bool (!y367)) rfl rfl) ?_
        refine WE.take 17 rfl (by decide +kernel) (by decide +kernel) (by decide +kernel) (by decide +kernel) rfl rfl (fun wq hq => R.move (v := Value.bool (!y367)) rfl) ?_
        by_cases hc376 : y367 = true
        · have h377 := ifT hc376 h369
          have hk378 : (!y367) = false := by simp [hc376]
          refine WE.takeY 18 (e := 57) rfl (by decide +kernel) (by decide +kernel) (by decide +kernel) (by decide +kernel) rfl rfl rfl rfl (Eq.trans (show _ = Value.bool (!y367) from rfl) (congrArg Value.bool hk378)) (fun wq hq => R.fieldAddr (o := 0) (o' := 0) fa25_0 rfl rfl) ?_
          refine WE.takeY 19 (e := 57) rfl (by decide +kernel) (by decide +kernel) (by decide +kernel) (by decide +kernel) rfl rfl rfl rfl (Eq.trans (show _ = Value.bool (!y367) from rfl) (congrArg Value.bool hk378)) (fun wq hq => R.loadL (v := Value.slice a252 y242.2.1.length c253) lf22 rfl ((hs375.ext hq).at (i := 4) (off := 0) (n := 1) (cs := [Value.slice a252 y242.2.1.length c253]) rfl rfl rfl)) ?_
          refine WE.takeY 20 (e := 57) rfl (by decide +kernel) (by decide +kernel) (by decide +kernel) (by decide +kernel) rfl rfl rfl rfl (Eq.trans (show _ = Value.bool (!y367) from rfl) (congrArg Value.bool hk378)) (fun wq hq => R.len (a := a252) (n := y242.2.1.length) (c := c253) un22 rfl) ?_
          by_cases hc379 : ((y242.2.1.length : Nat) : Int) = 4
          · have h380 := ifT hc379 h377
            refine WE.takeY 21 (e := 57) rfl (by decide +kernel) (by decide +kernel) (by decide +kernel) (by decide +kernel) rfl rfl rfl rfl (Eq.trans (show _ = Value.bool (!y367) from rfl) (congrArg Value.bool hk378)) (fun wq hq => R.neqF (k := .i64) (a := ((y242.2.1.length : Nat) : Int)) (b := 4) un3 rfl rfl (not_not_intro hc379)) ?_
            refine WE.take 22 rfl (by decide +kernel) (by decide +kernel) (by decide +kernel) (by decide +kernel) rfl rfl (fun wq hq => R.pickF (v := Value.bool false) (Eq.trans (show _ = Value.bool (!y367) from rfl) (congrArg Value.bool hk378)) rfl) ?_
            refine WE.take 23 rfl (by decide +kernel) (by decide +kernel) (by decide +kernel) (by decide +kernel) rfl rfl (fun wq hq => R.move (v := Value.bool false) rfl) ?_
            refine WE.takeY 24 (e := 63) rfl (by decide +kernel) (by decide +kernel) (by decide +kernel) (by decide +kernel) rfl rfl rfl rfl rfl (fun wq hq => R.fieldAddr (o := 0) (o' := 0) fa25_0 rfl rfl) ?_
            refine WE.takeY 25 (e := 63) rfl (by decide +kernel) (by decide +kernel) (by decide +kernel) (by decide +kernel) rfl rfl rfl rfl rfl (fun wq hq => R.loadL (v := Value.slice a252 y242.2.1.length c253) lf22 rfl ((hs375.ext hq).at (i := 4) (off := 0) (n := 1) (cs := [Value.slice a252 y242.2.1.length c253]) rfl rfl rfl)) ?_
            obtain ⟨x381, hx382, h383⟩ := ob (o := rd y242.2.1 0) h380
            obtain ⟨h0384, hx385, hl386, hm387⟩ := rdE hx382
            have hr388 := elT ((((((((((ht273.trans ht281).trans ht284).trans ht287).trans ht297).trans ht322).trans ht330).trans ht333).trans ht336).trans ht338).trans ht372) he262
            obtain ⟨ad389, e394, ha390, hp391, hat392, hrd393⟩ := hr388 _ _ hx385
            obtain ⟨t395, rfl, a397, c398, he401, hl399, he400⟩ := hrd393
            cases he401
            refine WE.takeY 26 (e := 63) rfl (by decide +kernel) (by decide +kernel) (by decide +kernel) (by decide +kernel) rfl rfl rfl rfl rfl (fun wq hq => R.indexS (n := 57) (m := (0 : Int).toNat) (a := a252) (ad := ad389) (len := y242.2.1.length) (cap := c253) (z := 0) un22 ag62.size rfl ha390 rfl hm387 hl386 hp391) ?_
            refine WE.takeY 27 (e := 63) rfl (by decide +kernel) (by decide +kernel) (by decide +kernel) (by decide +kernel) rfl rfl rfl rfl rfl (fun wq hq => R.fieldAddr (o := ad389.off + (0 : Int).toNat * 57) (o' := ad389.off + (0 : Int).toNat * 57) fa62_0 rfl rfl) ?_
            refine WE.takeY 28 (e := 63) rfl (by decide +kernel) (by decide +kernel) (by decide +kernel) (by decide +kernel) rfl rfl rfl rfl rfl (fun wq hq => R.loadL (v := Value.bool x381.is) lf4 rfl (At.sub (a := ⟨ad389.block, ad389.off + (0 : Int).toNat * 57, none⟩) (off := 0) (n := 1) (cs := encR x381 (Value.slice a397 x381.table.length c398)) (ds := [Value.bool x381.is]) (At.exT hq hat392) rfl rfl)) ?_
            refine WE.take 29 rfl (by decide +kernel) (by decide +kernel) (by decide +kernel) (by decide +kernel) rfl rfl (fun wq hq => R.pickF (v := Value.bool x381.is) rfl rfl) ?_
            refine WE.take 30 rfl (by decide +kernel) (by decide +kernel) (by decide +kernel) (by decide +kernel) rfl rfl (fun wq hq => R.move (v := Value.bool x381.is) rfl) ?_
            by_cases hc404 : x381.is = true
            · have h405 := ifT hc404 h383
              refine WE.takeN 31 (e := 70) (v := .bool true) rfl (by decide +kernel) (by decide +kernel) (by decide +kernel) (by decide +kernel) rfl rfl rfl (Eq.trans (show _ = Value.bool x381.is from rfl) (congrArg Value.bool hc404)) rfl ?_
              refine WE.takeN 32 (e := 70) (v := .bool true) rfl (by decide +kernel) (by decide +kernel) (by decide +kernel) (by decide +kernel) rfl rfl rfl (Eq.trans (show _ = Value.bool x381.is from rfl) (congrArg Value.bool hc404)) rfl ?_
              refine WE.takeN 33 (e := 70) (v := .bool true) rfl (by decide +kernel) (by decide +kernel) (by decide +kernel) (by decide +kernel) rfl rfl rfl (Eq.trans (show _ = Value.bool x381.is from rfl) (congrArg Value.bool hc404)) rfl ?_
              refine WE.takeN 34 (e := 70) (v := .bool true) rfl (by decide +kernel) (by decide +kernel) (by decide +kernel) (by decide +kernel) rfl rfl rfl (Eq.trans (show _ = Value.bool x381.is from rfl) (congrArg Value.bool hc404)) rfl ?_
              refine WE.take 35 rfl (by decide +kernel) (by decide +kernel) (by decide +kernel) (by decide +kernel) rfl rfl (fun wq hq => R.pickT (v := Value.bool true) (Eq.trans (show _ = Value.bool x381.is from rfl) (congrArg Value.bool hc404)) rfl) ?_
              refine WE.done (by decide +kernel) ?_
              refine thenN ?_
              refine WC.condT rfl rfl ?_
              refine WC.seq ?_
              refine WC.region ?_
              refine WL.val (R.assign (v := Value.bool false) rfl) rfl ?_
              refine WL.nil ?_
              refine thenN ?_
              refine WC.ret ?_
              have ht406 := (hs375.here).perm (L' := []) (G := [laneE g294 y290.2.2, blk b146 62 ((Value.bool true) :: ((encC (⟨7, Cl.zero.offer, Cl.zero.report, Cl.zero.view⟩ : Cl)) ++ ((Value.slice (some ⟨b138, 0, none⟩) ((List.replicate (4 : Int).toNat Hd.none).length) ((4 : Int).toNat)) :: []))), blk b167 25 [Value.slice (some ⟨b157, 0, none⟩) (([(⟨true, (⟨7, Cl.zero.offer, Cl.zero.report, Cl.zero.view⟩ : Cl), List.replicate (4 : Int).toNat Hd.none⟩ : Rw)]).length) 1], blk b267 25 [Value.slice a250 y242.1.length c251], blk b275 25 [Value.slice a252 y242.2.1.length c253], blk b316 25 [Value.slice a299 y290.1.length c300], blk b324 25 [Value.slice a301 y290.2.1.length c302]]) ((List.Perm.refl _))
              have hs407 := hs375.trans ht406
              obtain rfl := Option.some.inj (show some false = some r from h405)
              exact ret1 (P := Try.prog) (n := 118) (fn := Try.f77) (R := fun v w' => v = Value.bool false ∧ St [] w w' []) (t := 0) (v := Value.bool false) rfl rfl rfl ⟨rfl, hs407⟩
            · have h408 := ifF hc404 h383
              refine WE.takeY 31 (e := 70) rfl (by decide +kernel) (by decide +kernel) (by decide +kernel) (by decide +kernel) rfl rfl rfl rfl (Eq.trans (show _ = Value.bool x381.is from rfl) (congrArg Value.bool (Bool.eq_false_iff.2 hc404))) (fun wq hq => R.fieldAddr (o := 0) (o' := 0) fa25_0 rfl rfl) ?_
              refine WE.takeY 32 (e := 70) rfl (by decide +kernel) (by decide +kernel) (by decide +kernel) (by decide +kernel) rfl rfl rfl rfl (Eq.trans (show _ = Value.bool x381.is from rfl) (congrArg Value.bool (Bool.eq_false_iff.2 hc404))) (fun wq hq => R.loadL (v := Value.slice a299 y290.1.length c300) lf22 rfl ((hs375.ext hq).at (i := 5) (off := 0) (n := 1) (cs := [Value.slice a299 y290.1.length c300]) rfl rfl rfl)) ?_
              refine WE.takeY 33 (e := 70) rfl (by decide +kernel) (by decide +kernel) (by decide +kernel) (by decide +kernel) rfl rfl rfl rfl (Eq.trans (show _ = Value.bool x381.is from rfl) (congrArg Value.bool (Bool.eq_false_iff.2 hc404))) (fun wq hq => R.len (a := a299) (n := y290.1.length) (c := c300) un22 rfl) ?_
              by_cases hc409 : ((y290.1.length : Nat) : Int) = 0
              · have h410 := ifT hc409 h408
                refine WE.takeY 34 (e := 70) rfl (by decide +kernel) (by decide +kernel) (by decide +kernel) (by decide +kernel) rfl rfl rfl rfl (Eq.trans (show _ = Value.bool x381.is from rfl) (congrArg Value.bool (Bool.eq_false_iff.2 hc404))) (fun wq hq => R.neqF (k := .i64) (a := ((y290.1.length : Nat) : Int)) (b := 0) un3 rfl rfl (not_not_intro hc409)) ?_
                refine WE.take 35 rfl (by decide +kernel) (by decide +kernel) (by decide +kernel) (by decide +kernel) rfl rfl (fun wq hq => R.pickF (v := Value.bool false) (Eq.trans (show _ = Value.bool x381.is from rfl) (congrArg Value.bool (Bool.eq_false_iff.2 hc404))) rfl) ?_
                refine WE.done (by decide +kernel) ?_
                refine thenN ?_
                refine WC.condF rfl rfl ?_
                refine WC.skip ?_
                refine thenN ?_
                refine WC.seq ?_
                refine WC.region ?_
                refine WL.val (R.move (v := Value.pointer (some ⟨b115, 0, none⟩)) rfl) rfl ?_
                have hd411 : ∀ w, (Instr.build 158 #[]).run Try.prog w = .ok (Value.agg (List.toArray [Value.slice none 0 0, Value.slice none 0 0, Value.slice none 0 0, Value.slice none 0 0])) w := fun _ => by kernel_rfl
                refine WL.val (R.build (vs := []) rfl hd411) rfl ?_
                obtain ⟨y412, hx413, h414⟩ := ob (o := hearU y290.2.2 ([], [], [], [])) h410
                have hr415 := lfT (((((ht322.trans ht330).trans ht333).trans ht336).trans ht338).trans ht372) hf309
                refine WL.call (hearB_ok _ (In (fun _ => False) w [] [laneE g294 y290.2.2, blk b146 62 ((Value.bool true) :: ((encC (⟨7, Cl.zero.offer, Cl.zero.report, Cl.zero.view⟩ : Cl)) ++ ((Value.slice (some ⟨b138, 0, none⟩) ((List.replicate (4 : Int).toNat Hd.none).length) ((4 : Int).toNat)) :: []))), blk b167 25 [Value.slice (some ⟨b157, 0, none⟩) (([(⟨true, (⟨7, Cl.zero.offer, Cl.zero.report, Cl.zero.view⟩ : Cl), List.replicate (4 : Int).toNat Hd.none⟩ : Rw)]).length) 1], blk b267 25 [Value.slice a250 y242.1.length c251], blk b275 25 [Value.slice a252 y242.2.1.length c253], blk b316 25 [Value.slice a299 y290.1.length c300], blk b324 25 [Value.slice a301 y290.2.1.length c302]]) g294 y290.2.2 hb295 ([], [], [], []) _ _ elems_nil (Nat.le_refl _) _ _ elems_nil (Nat.le_refl _) _ _ elems_nil (Nat.le_refl _) _ _ elems_nil (Nat.le_refl _) hr415 (In.outM (M := [laneE g294 y290.2.2]) (N := [blk b146 62 ((Value.bool true) :: ((encC (⟨7, Cl.zero.offer, Cl.zero.report, Cl.zero.view⟩ : Cl)) ++ ((Value.slice (some ⟨b138, 0, none⟩) ((List.replicate (4 : Int).toNat Hd.none).length) ((4 : Int).toNat)) :: []))), blk b167 25 [Value.slice (some ⟨b157, 0, none⟩) (([(⟨true, (⟨7, Cl.zero.offer, Cl.zero.report, Cl.zero.view⟩ : Cl), List.replicate (4 : Int).toNat Hd.none⟩ : Rw)]).length) 1], blk b267 25 [Value.slice a250 y242.1.length c251], blk b275 25 [Value.slice a252 y242.2.1.length c253], blk b316 25 [Value.slice a299 y290.1.length c300], blk b324 25 [Value.slice a301 y290.2.1.length c302]]) ((List.Perm.refl _))) (show St [laneE g294 y290.2.2] _ _ [laneE g294 y290.2.2] from St.ofM (M := [laneE g294 y290.2.2]) (N := [blk b146 62 ((Value.bool true) :: ((encC (⟨7, Cl.zero.offer, Cl.zero.report, Cl.zero.view⟩ : Cl)) ++ ((Value.slice (some ⟨b138, 0, none⟩) ((List.replicate (4 : Int).toNat Hd.none).length) ((4 : Int).toNat)) :: []))), blk b167 25 [Value.slice (some ⟨b157, 0, none⟩) (([(⟨true, (⟨7, Cl.zero.offer, Cl.zero.report, Cl.zero.view⟩ : Cl), List.replicate (4 : Int).toNat Hd.none⟩ : Rw)]).length) 1], blk b267 25 [Value.slice a250 y242.1.length c251], blk b275 25 [Value.slice a252 y242.2.1.length c253], blk b316 25 [Value.slice a299 y290.1.length c300], blk b324 25 [Value.slice a301 y290.2.1.length c302]]) hs375 ((List.Perm.refl _))) hx413) (R.call (vs := [Value.pointer (some ⟨b115, 0, none⟩), Value.agg (List.toArray [Value.slice none 0 0, Value.slice none 0 0, Value.slice none 0 0, Value.slice none 0 0])]) (caps := []) bo80 rfl rfl) rfl ?_
                rintro v425 w426 ⟨g416, hb417, a421, c422, rfl, hl423, he424, hf420, ht418⟩
                have ht419 := hs375.call (N := [blk b146 62 ((Value.bool true) :: ((encC (⟨7, Cl.zero.offer, Cl.zero.report, Cl.zero.view⟩ : Cl)) ++ ((Value.slice (some ⟨b138, 0, none⟩) ((List.replicate (4 : Int).toNat Hd.none).length) ((4 : Int).toNat)) :: []))), blk b167 25 [Value.slice (some ⟨b157, 0, none⟩) (([(⟨true, (⟨7, Cl.zero.offer, Cl.zero.report, Cl.zero.view⟩ : Cl), List.replicate (4 : Int).toNat Hd.none⟩ : Rw)]).length) 1], blk b267 25 [Value.slice a250 y242.1.length c251], blk b275 25 [Value.slice a252 y242.2.1.length c253], blk b316 25 [Value.slice a299 y290.1.length c300], blk b324 25 [Value.slice a301 y290.2.1.length c302]]) (M := [laneE g294 y290.2.2]) ((List.Perm.refl _)) ht418
                have hf427 := lfC hs375 (M := [laneE g294 y290.2.2]) ((List.Perm.refl _)) ht418 hf420
                have he428 := elCN hs375 (M := [laneE g294 y290.2.2]) ((List.Perm.refl _)) ht418 he424
                have hs429 := hs375.trans ht419
                refine WL.nil ?_
                refine thenN ?_
                refine WC.seq ?_
                refine WC.region ?_
                refine WL.val (R.move (v := Value.pointer (some ⟨b115, 0, none⟩)) rfl) rfl ?_
                refine WL.val (R.loadA (cs := [Value.slice (some ⟨b157, 0, none⟩) (([(⟨true, (⟨7, Cl.zero.offer, Cl.zero.report, Cl.zero.view⟩ : Cl), List.replicate (4 : Int).toNat Hd.none⟩ : Rw)]).length) 1]) (n := 1) ag25 rfl (hs429.at (i := 2) (off := 0) (n := 1) (cs := [Value.slice (some ⟨b157, 0, none⟩) (([(⟨true, (⟨7, Cl.zero.offer, Cl.zero.report, Cl.zero.view⟩ : Cl), List.replicate (4 : Int).toNat Hd.none⟩ : Rw)]).length) 1]) rfl rfl rfl) rfl) rfl ?_
                have hd432 : ∀ w, (Instr.build 158 #[(3, Value.agg (List.toArray [Value.slice (some ⟨b157, 0, none⟩) (([(⟨true, (⟨7, Cl.zero.offer, Cl.zero.report, Cl.zero.view⟩ : Cl), List.replicate (4 : Int).toNat Hd.none⟩ : Rw)]).length) 1]))]).run Try.prog w = .ok (Value.agg (List.toArray [Value.slice none 0 0, Value.slice none 0 0, Value.slice none 0 0, Value.slice (some ⟨b157, 0, none⟩) (([(⟨true, (⟨7, Cl.zero.offer, Cl.zero.report, Cl.zero.view⟩ : Cl), List.replicate (4 : Int).toNat Hd.none⟩ : Rw)]).length) 1])) w := fun _ => by kernel_rfl
                refine WL.val (R.build (vs := [(3, Value.agg (List.toArray [Value.slice (some ⟨b157, 0, none⟩) (([(⟨true, (⟨7, Cl.zero.offer, Cl.zero.report, Cl.zero.view⟩ : Cl), List.replicate (4 : Int).toNat Hd.none⟩ : Rw)]).length) 1]))]) rfl hd432) rfl ?_
                obtain ⟨y433, hx434, h435⟩ := ob (o := hearU y412.2 ([], [], [], [(⟨true, (⟨7, Cl.zero.offer, Cl.zero.report, Cl.zero.view⟩ : Cl), List.replicate (4 : Int).toNat Hd.none⟩ : Rw)])) h414
                have hr436 := elT (((((((((((((ht228.trans ht248).trans ht273).trans ht281).trans ht284).trans ht287).trans ht297).trans ht322).trans ht330).trans ht333).trans ht336).trans ht338).trans ht372).trans ht419) he216
                refine WL.call (hearB_ok _ (In (fun _ => False) w [] [laneE g416 y412.2, blk b146 62 ((Value.bool true) :: ((encC (⟨7, Cl.zero.offer, Cl.zero.report, Cl.zero.view⟩ : Cl)) ++ ((Value.slice (some ⟨b138, 0, none⟩) ((List.replicate (4 : Int).toNat Hd.none).length) ((4 : Int).toNat)) :: []))), blk b167 25 [Value.slice (some ⟨b157, 0, none⟩) (([(⟨true, (⟨7, Cl.zero.offer, Cl.zero.report, Cl.zero.view⟩ : Cl), List.replicate (4 : Int).toNat Hd.none⟩ : Rw)]).length) 1], blk b267 25 [Value.slice a250 y242.1.length c251], blk b275 25 [Value.slice a252 y242.2.1.length c253], blk b316 25 [Value.slice a299 y290.1.length c300], blk b324 25 [Value.slice a301 y290.2.1.length c302]]) g416 y412.2 hb417 ([], [], [], [(⟨true, (⟨7, Cl.zero.offer, Cl.zero.report, Cl.zero.view⟩ : Cl), List.replicate (4 : Int).toNat Hd.none⟩ : Rw)]) _ _ elems_nil (Nat.le_refl _) _ _ elems_nil (Nat.le_refl _) _ _ elems_nil (Nat.le_refl _) _ _ hr436 hl215 hf427 (In.outM (M := [laneE g416 y412.2]) (N := [blk b146 62 ((Value.bool true) :: ((encC (⟨7, Cl.zero.offer, Cl.zero.report, Cl.zero.view⟩ : Cl)) ++ ((Value.slice (some ⟨b138, 0, none⟩) ((List.replicate (4 : Int).toNat Hd.none).length) ((4 : Int).toNat)) :: []))), blk b167 25 [Value.slice (some ⟨b157, 0, none⟩) (([(⟨true, (⟨7, Cl.zero.offer, Cl.zero.report, Cl.zero.view⟩ : Cl), List.replicate (4 : Int).toNat Hd.none⟩ : Rw)]).length) 1], blk b267 25 [Value.slice a250 y242.1.length c251], blk b275 25 [Value.slice a252 y242.2.1.length c253], blk b316 25 [Value.slice a299 y290.1.length c300], blk b324 25 [Value.slice a301 y290.2.1.length c302]]) ((List.Perm.refl _))) (show St [laneE g416 y412.2] _ _ [laneE g416 y412.2] from St.ofM (M := [laneE g416 y412.2]) (N := [blk b146 62 ((Value.bool true) :: ((encC (⟨7, Cl.zero.offer, Cl.zero.report, Cl.zero.view⟩ : Cl)) ++ ((Value.slice (some ⟨b138, 0, none⟩) ((List.replicate (4 : Int).toNat Hd.none).length) ((4 : Int).toNat)) :: []))), blk b167 25 [Value.slice (some ⟨b157, 0, none⟩) (([(⟨true, (⟨7, Cl.zero.offer, Cl.zero.report, Cl.zero.view⟩ : Cl), List.replicate (4 : Int).toNat Hd.none⟩ : Rw)]).length) 1], blk b267 25 [Value.slice a250 y242.1.length c251], blk b275 25 [Value.slice a252 y242.2.1.length c253], blk b316 25 [Value.slice a299 y290.1.length c300], blk b324 25 [Value.slice a301 y290.2.1.length c302]]) hs429 ((List.Perm.refl _))) hx434) (R.call (vs := [Value.pointer (some ⟨b115, 0, none⟩), Value.agg (List.toArray [Value.slice none 0 0, Value.slice none 0 0, Value.slice none 0 0, Value.slice (some ⟨b157, 0, none⟩) (([(⟨true, (⟨7, Cl.zero.offer, Cl.zero.report, Cl.zero.view⟩ : Cl), List.replicate (4 : Int).toNat Hd.none⟩ : Rw)]).length) 1])]) (caps := []) bo80 rfl rfl) rfl ?_
                rintro v446 w447 ⟨g437, hb438, a442, c443, rfl, hl444, he445, hf441, ht439⟩
                have ht440 := hs429.call (N := [blk b146 62 ((Value.bool true) :: ((encC (⟨7, Cl.zero.offer, Cl.zero.report, Cl.zero.view⟩ : Cl)) ++ ((Value.slice (some ⟨b138, 0, none⟩) ((List.replicate (4 : Int).toNat Hd.none).length) ((4 : Int).toNat)) :: []))), blk b167 25 [Value.slice (some ⟨b157, 0, none⟩) (([(⟨true, (⟨7, Cl.zero.offer, Cl.zero.report, Cl.zero.view⟩ : Cl), List.replicate (4 : Int).toNat Hd.none⟩ : Rw)]).length) 1], blk b267 25 [Value.slice a250 y242.1.length c251], blk b275 25 [Value.slice a252 y242.2.1.length c253], blk b316 25 [Value.slice a299 y290.1.length c300], blk b324 25 [Value.slice a301 y290.2.1.length c302]]) (M := [laneE g416 y412.2]) ((List.Perm.refl _)) ht439
                have hf448 := lfC hs429 (M := [laneE g416 y412.2]) ((List.Perm.refl _)) ht439 hf441
                have he449 := elCN hs429 (M := [laneE g416 y412.2]) ((List.Perm.refl _)) ht439 he445
                have hs450 := hs429.trans ht440
                refine WL.nil ?_
                refine thenN ?_
                refine WC.seq ?_
                refine WC.region ?_
                refine WL.val (R.move (v := Value.pointer (some ⟨b115, 0, none⟩)) rfl) rfl ?_
                have hd453 : ∀ w, (Instr.build 158 #[]).run Try.prog w = .ok (Value.agg (List.toArray [Value.slice none 0 0, Value.slice none 0 0, Value.slice none 0 0, Value.slice none 0 0])) w := fun _ => by kernel_rfl
                refine WL.val (R.build (vs := []) rfl hd453) rfl ?_
                obtain ⟨y454, hx455, h456⟩ := ob (o := hearU y433.2 ([], [], [], [])) h435
                refine WL.call (hearB_ok _ (In (fun _ => False) w [] [laneE g437 y433.2, blk b146 62 ((Value.bool true) :: ((encC (⟨7, Cl.zero.offer, Cl.zero.report, Cl.zero.view⟩ : Cl)) ++ ((Value.slice (some ⟨b138, 0, none⟩) ((List.replicate (4 : Int).toNat Hd.none).length) ((4 : Int).toNat)) :: []))), blk b167 25 [Value.slice (some ⟨b157, 0, none⟩) (([(⟨true, (⟨7, Cl.zero.offer, Cl.zero.report, Cl.zero.view⟩ : Cl), List.replicate (4 : Int).toNat Hd.none⟩ : Rw)]).length) 1], blk b267 25 [Value.slice a250 y242.1.length c251], blk b275 25 [Value.slice a252 y242.2.1.length c253], blk b316 25 [Value.slice a299 y290.1.length c300], blk b324 25 [Value.slice a301 y290.2.1.length c302]]) g437 y433.2 hb438 ([], [], [], []) _ _ elems_nil (Nat.le_refl _) _ _ elems_nil (Nat.le_refl _) _ _ elems_nil (Nat.le_refl _) _ _ elems_nil (Nat.le_refl _) hf448 (In.outM (M := [laneE g437 y433.2]) (N := [blk b146 62 ((Value.bool true) :: ((encC (⟨7, Cl.zero.offer, Cl.zero.report, Cl.zero.view⟩ : Cl)) ++ ((Value.slice (some ⟨b138, 0, none⟩) ((List.replicate (4 : Int).toNat Hd.none).length) ((4 : Int).toNat)) :: []))), blk b167 25 [Value.slice (some ⟨b157, 0, none⟩) (([(⟨true, (⟨7, Cl.zero.offer, Cl.zero.report, Cl.zero.view⟩ : Cl), List.replicate (4 : Int).toNat Hd.none⟩ : Rw)]).length) 1], blk b267 25 [Value.slice a250 y242.1.length c251], blk b275 25 [Value.slice a252 y242.2.1.length c253], blk b316 25 [Value.slice a299 y290.1.length c300], blk b324 25 [Value.slice a301 y290.2.1.length c302]]) ((List.Perm.refl _))) (show St [laneE g437 y433.2] _ _ [laneE g437 y433.2] from St.ofM (M := [laneE g437 y433.2]) (N := [blk b146 62 ((Value.bool true) :: ((encC (⟨7, Cl.zero.offer, Cl.zero.report, Cl.zero.view⟩ : Cl)) ++ ((Value.slice (some ⟨b138, 0, none⟩) ((List.replicate (4 : Int).toNat Hd.none).length) ((4 : Int).toNat)) :: []))), blk b167 25 [Value.slice (some ⟨b157, 0, none⟩) (([(⟨true, (⟨7, Cl.zero.offer, Cl.zero.report, Cl.zero.view⟩ : Cl), List.replicate (4 : Int).toNat Hd.none⟩ : Rw)]).length) 1], blk b267 25 [Value.slice a250 y242.1.length c251], blk b275 25 [Value.slice a252 y242.2.1.length c253], blk b316 25 [Value.slice a299 y290.1.length c300], blk b324 25 [Value.slice a301 y290.2.1.length c302]]) hs450 ((List.Perm.refl _))) hx455) (R.call (vs := [Value.pointer (some ⟨b115, 0, none⟩), Value.agg (List.toArray [Value.slice none 0 0, Value.slice none 0 0, Value.slice none 0 0, Value.slice none 0 0])]) (caps := []) bo80 rfl rfl) rfl ?_
                rintro v466 w467 ⟨g457, hb458, a462, c463, rfl, hl464, he465, hf461, ht459⟩
                have ht460 := hs450.call (N := [blk b146 62 ((Value.bool true) :: ((encC (⟨7, Cl.zero.offer, Cl.zero.report, Cl.zero.view⟩ : Cl)) ++ ((Value.slice (some ⟨b138, 0, none⟩) ((List.replicate (4 : Int).toNat Hd.none).length) ((4 : Int).toNat)) :: []))), blk b167 25 [Value.slice (some ⟨b157, 0, none⟩) (([(⟨true, (⟨7, Cl.zero.offer, Cl.zero.report, Cl.zero.view⟩ : Cl), List.replicate (4 : Int).toNat Hd.none⟩ : Rw)]).length) 1], blk b267 25 [Value.slice a250 y242.1.length c251], blk b275 25 [Value.slice a252 y242.2.1.length c253], blk b316 25 [Value.slice a299 y290.1.length c300], blk b324 25 [Value.slice a301 y290.2.1.length c302]]) (M := [laneE g437 y433.2]) ((List.Perm.refl _)) ht459
                have hf468 := lfC hs450 (M := [laneE g437 y433.2]) ((List.Perm.refl _)) ht459 hf461
                have he469 := elCN hs450 (M := [laneE g437 y433.2]) ((List.Perm.refl _)) ht459 he465
                have hs470 := hs450.trans ht460
                refine WL.val (R.assign (v := Value.slice a462 y454.1.length c463) rfl) rfl ?_
                refine WL.nil ?_
                refine thenN ?_
                refine WC.seq ?_
                refine WC.region ?_
                refine WL.val (R.move (v := Value.pointer (some ⟨b115, 0, none⟩)) rfl) rfl ?_
                have hd473 : ∀ w, (Instr.build 158 #[]).run Try.prog w = .ok (Value.agg (List.toArray [Value.slice none 0 0, Value.slice none 0 0, Value.slice none 0 0, Value.slice none 0 0])) w := fun _ => by kernel_rfl
                refine WL.val (R.build (vs := []) rfl hd473) rfl ?_
                obtain ⟨y474, hx475, h476⟩ := ob (o := hearU y454.2 ([], [], [], [])) h456
                refine WL.call (hearB_ok _ (In (fun _ => False) w [] [laneE g457 y454.2, blk b146 62 ((Value.bool true) :: ((encC (⟨7, Cl.zero.offer, Cl.zero.report, Cl.zero.view⟩ : Cl)) ++ ((Value.slice (some ⟨b138, 0, none⟩) ((List.replicate (4 : Int).toNat Hd.none).length) ((4 : Int).toNat)) :: []))), blk b167 25 [Value.slice (some ⟨b157, 0, none⟩) (([(⟨true, (⟨7, Cl.zero.offer, Cl.zero.report, Cl.zero.view⟩ : Cl), List.replicate (4 : Int).toNat Hd.none⟩ : Rw)]).length) 1], blk b267 25 [Value.slice a250 y242.1.length c251], blk b275 25 [Value.slice a252 y242.2.1.length c253], blk b316 25 [Value.slice a299 y290.1.length c300], blk b324 25 [Value.slice a301 y290.2.1.length c302]]) g457 y454.2 hb458 ([], [], [], []) _ _ elems_nil (Nat.le_refl _) _ _ elems_nil (Nat.le_refl _) _ _ elems_nil (Nat.le_refl _) _ _ elems_nil (Nat.le_refl _) hf468 (In.outM (M := [laneE g457 y454.2]) (N := [blk b146 62 ((Value.bool true) :: ((encC (⟨7, Cl.zero.offer, Cl.zero.report, Cl.zero.view⟩ : Cl)) ++ ((Value.slice (some ⟨b138, 0, none⟩) ((List.replicate (4 : Int).toNat Hd.none).length) ((4 : Int).toNat)) :: []))), blk b167 25 [Value.slice (some ⟨b157, 0, none⟩) (([(⟨true, (⟨7, Cl.zero.offer, Cl.zero.report, Cl.zero.view⟩ : Cl), List.replicate (4 : Int).toNat Hd.none⟩ : Rw)]).length) 1], blk b267 25 [Value.slice a250 y242.1.length c251], blk b275 25 [Value.slice a252 y242.2.1.length c253], blk b316 25 [Value.slice a299 y290.1.length c300], blk b324 25 [Value.slice a301 y290.2.1.length c302]]) ((List.Perm.refl _))) (show St [laneE g457 y454.2] _ _ [laneE g457 y454.2] from St.ofM (M := [laneE g457 y454.2]) (N := [blk b146 62 ((Value.bool true) :: ((encC (⟨7, Cl.zero.offer, Cl.zero.report, Cl.zero.view⟩ : Cl)) ++ ((Value.slice (some ⟨b138, 0, none⟩) ((List.replicate (4 : Int).toNat Hd.none).length) ((4 : Int).toNat)) :: []))), blk b167 25 [Value.slice (some ⟨b157, 0, none⟩) (([(⟨true, (⟨7, Cl.zero.offer, Cl.zero.report, Cl.zero.view⟩ : Cl), List.replicate (4 : Int).toNat Hd.none⟩ : Rw)]).length) 1], blk b267 25 [Value.slice a250 y242.1.length c251], blk b275 25 [Value.slice a252 y242.2.1.length c253], blk b316 25 [Value.slice a299 y290.1.length c300], blk b324 25 [Value.slice a301 y290.2.1.length c302]]) hs470 ((List.Perm.refl _))) hx475) (R.call (vs := [Value.pointer (some ⟨b115, 0, none⟩), Value.agg (List.toArray [Value.slice none 0 0, Value.slice none 0 0, Value.slice none 0 0, Value.slice none 0 0])]) (caps := []) bo80 rfl rfl) rfl ?_
                rintro v486 w487 ⟨g477, hb478, a482, c483, rfl, hl484, he485, hf481, ht479⟩
                have ht480 := hs470.call (N := [blk b146 62 ((Value.bool true) :: ((encC (⟨7, Cl.zero.offer, Cl.zero.report, Cl.zero.view⟩ : Cl)) ++ ((Value.slice (some ⟨b138, 0, none⟩) ((List.replicate (4 : Int).toNat Hd.none).length) ((4 : Int).toNat)) :: []))), blk b167 25 [Value.slice (some ⟨b157, 0, none⟩) (([(⟨true, (⟨7, Cl.zero.offer, Cl.zero.report, Cl.zero.view⟩ : Cl), List.replicate (4 : Int).toNat Hd.none⟩ : Rw)]).length) 1], blk b267 25 [Value.slice a250 y242.1.length c251], blk b275 25 [Value.slice a252 y242.2.1.length c253], blk b316 25 [Value.slice a299 y290.1.length c300], blk b324 25 [Value.slice a301 y290.2.1.length c302]]) (M := [laneE g457 y454.2]) ((List.Perm.refl _)) ht479
                have hf488 := lfC hs470 (M := [laneE g457 y454.2]) ((List.Perm.refl _)) ht479 hf481
                have he489 := elCN hs470 (M := [laneE g457 y454.2]) ((List.Perm.refl _)) ht479 he485
                have hs490 := hs470.trans ht480
                refine WL.val (R.assign (v := Value.slice a482 y474.1.length c483) rfl) rfl ?_
                refine WL.nil ?_
                refine thenN ?_
                refine WC.seq ?_
                refine WC.drawE mixed (NP.then NP.rq) ?_
                have ht493 := (hs490.here).ext (Ext.drew _)
                have hs494 := hs490.trans ht493
                refine WE.take 0 rfl (by decide +kernel) (by decide +kernel) (by decide +kernel) (by decide +kernel) rfl rfl (fun wq hq => R.move (v := Value.slice a462 y454.1.length c463) rfl) ?_
                refine WE.take 1 rfl (by decide +kernel) (by decide +kernel) (by decide +kernel) (by decide +kernel) rfl rfl (fun wq hq => R.len (a := a462) (n := y454.1.length) (c := c463) un22 rfl) ?_
                by_cases hc495 : ((y454.1.length : Nat) : Int) = 4
                · have h496 := ifT hc495 h476
                  refine WE.take 2 rfl (by decide +kernel) (by decide +kernel) (by decide +kernel) (by decide +kernel) rfl rfl (fun wq hq => R.eqlT (k := .i64) (a := ((y454.1.length : Nat) : Int)) (b := 4) un3 rfl rfl hc495) ?_
                  refine WE.take 3 rfl (by decide +kernel) (by decide +kernel) (by decide +kernel) (by decide +kernel) rfl rfl (fun wq hq => R.move (v := Value.bool true) rfl) ?_
                  refine WE.takeY 4 (e := 92) rfl (by decide +kernel) (by decide +kernel) (by decide +kernel) (by decide +kernel) rfl rfl rfl rfl rfl (fun wq hq => R.move (v := Value.slice a462 y454.1.length c463) rfl) ?_
                  obtain ⟨x497, hx498, h499⟩ := ob (o := rd y454.1 0) h496
                  obtain ⟨h0500, hx501, hl502, hm503⟩ := rdE hx498
                  have hr504 := elT (ht480.trans ht493) he469
                  obtain ⟨ad505, e510, ha506, hp507, hat508, hrd509⟩ := hr504 _ _ hx501
                  obtain ⟨t511, rfl, a513, c514, he517, hl515, he516⟩ := hrd509
                  cases he517
                  refine WE.takeY 5 (e := 92) rfl (by decide +kernel) (by decide +kernel) (by decide +kernel) (by decide +kernel) rfl rfl rfl rfl rfl (fun wq hq => R.indexS (n := 57) (m := (0 : Int).toNat) (a := a462) (ad := ad505) (len := y454.1.length) (cap := c463) (z := 0) un22 ag62.size rfl ha506 rfl hm503 hl502 hp507) ?_
                  refine WE.takeY 6 (e := 92) rfl (by decide +kernel) (by decide +kernel) (by decide +kernel) (by decide +kernel) rfl rfl rfl rfl rfl (fun wq hq => R.loadA (cs := encR x497 (Value.slice a513 x497.table.length c514)) (n := 57) ag62 rfl (At.exT hq hat508) rfl) ?_
                  refine WE.takeY 7 (e := 92) rfl (by decide +kernel) (by decide +kernel) (by decide +kernel) (by decide +kernel) rfl rfl rfl rfl rfl (fun wq hq => R.loadA (cs := (Value.bool true) :: ((encC (⟨7, Cl.zero.offer, Cl.zero.report, Cl.zero.view⟩ : Cl)) ++ ((Value.slice (some ⟨b138, 0, none⟩) ((List.replicate (4 : Int).toNat Hd.none).length) ((4 : Int).toNat)) :: []))) (n := 57) ag62 rfl ((hs494.ext hq).at (i := 1) (off := 0) (n := 57) (cs := (Value.bool true) :: ((encC (⟨7, Cl.zero.offer, Cl.zero.report, Cl.zero.view⟩ : Cl)) ++ ((Value.slice (some ⟨b138, 0, none⟩) ((List.replicate (4 : Int).toNat Hd.none).length) ((4 : Int).toNat)) :: []))) rfl rfl rfl) rfl) ?_
                  obtain ⟨y520, hx521, h522⟩ := ob (o := samen14 x497 (⟨true, (⟨7, Cl.zero.offer, Cl.zero.report, Cl.zero.view⟩ : Cl), List.replicate (4 : Int).toNat Hd.none⟩ : Rw)) h499
                  have hr523 := elT (((((ht372.trans ht419).trans ht440).trans ht460).trans ht480).trans ht493) hr370
                  refine WE.callY 8 (e := 92) (by decide +kernel) rfl rfl rfl rfl rfl rfl (samen14_ok _ _ x497 (⟨true, (⟨7, Cl.zero.offer, Cl.zero.report, Cl.zero.view⟩ : Cl), List.replicate (4 : Int).toNat Hd.none⟩ : Rw) _ _ he516 hl515 _ _ hr523 hl204 hx521) (R.call (vs := [Value.agg (List.toArray (encR x497 (Value.slice a513 x497.table.length c514))), Value.agg (List.toArray ((Value.bool true) :: ((encC (⟨7, Cl.zero.offer, Cl.zero.report, Cl.zero.view⟩ : Cl)) ++ ((Value.slice (some ⟨b138, 0, none⟩) ((List.replicate (4 : Int).toNat Hd.none).length) ((4 : Int).toNat)) :: []))))]) (caps := []) bo65 rfl rfl) ?_
                  rintro v526 w527 ⟨rfl, ht524⟩
                  refine ⟨.inr (show Ext _ _ from ht524.kept), ?_⟩
                  have ht525 := hs494.call (N := [laneE g477 y474.2, blk b146 62 ((Value.bool true) :: ((encC (⟨7, Cl.zero.offer, Cl.zero.report, Cl.zero.view⟩ : Cl)) ++ ((Value.slice (some ⟨b138, 0, none⟩) ((List.replicate (4 : Int).toNat Hd.none).length) ((4 : Int).toNat)) :: []))), blk b167 25 [Value.slice (some ⟨b157, 0, none⟩) (([(⟨true, (⟨7, Cl.zero.offer, Cl.zero.report, Cl.zero.view⟩ : Cl), List.replicate (4 : Int).toNat Hd.none⟩ : Rw)]).length) 1], blk b267 25 [Value.slice a250 y242.1.length c251], blk b275 25 [Value.slice a252 y242.2.1.length c253], blk b316 25 [Value.slice a299 y290.1.length c300], blk b324 25 [Value.slice a301 y290.2.1.length c302]]) (M := []) (List.Perm.refl _) ht524
                  have hs528 := hs494.trans ht525
                  refine WE.take 9 rfl (by decide +kernel) (by decide +kernel) (by decide +kernel) (by decide +kernel) rfl rfl (fun wq hq => R.pickT (v := Value.bool y520) rfl rfl) ?_
                  refine WE.take 10 rfl (by decide +kernel) (by decide +kernel) (by decide +kernel) (by decide +kernel) rfl rfl (fun wq hq => R.move (v := Value.bool y520) rfl) ?_
                  by_cases hc529 : y520 = true
                  · have h530 := ifT hc529 h522
                    refine WE.takeY 11 (e := 99) rfl (by decide +kernel) (by decide +kernel) (by decide +kernel) (by decide +kernel) rfl rfl rfl rfl (Eq.trans (show _ = Value.bool y520 from rfl) (congrArg Value.bool hc529)) (fun wq hq => R.move (v := Value.slice a462 y454.1.length c463) rfl) ?_
                    obtain ⟨x531, hx532, h533⟩ := ob (o := rd y454.1 2) h530
                    obtain ⟨h0534, hx535, hl536, hm537⟩ := rdE hx532
                    have hr538 := elT ht525 hr504
                    obtain ⟨ad539, e544, ha540, hp541, hat542, hrd543⟩ := hr538 _ _ hx535
                    obtain ⟨t545, rfl, a547, c548, he551, hl549, he550⟩ := hrd543
                    cases he551
                    refine WE.takeY 12 (e := 99) rfl (by decide +kernel) (by decide +kernel) (by decide +kernel) (by decide +kernel) rfl rfl rfl rfl (Eq.trans (show _ = Value.bool y520 from rfl) (congrArg Value.bool hc529)) (fun wq hq => R.indexS (n := 57) (m := (2 : Int).toNat) (a := a462) (ad := ad539) (len := y454.1.length) (cap := c463) (z := 2) un22 ag62.size rfl ha540 rfl hm537 hl536 hp541) ?_
                    refine WE.takeY 13 (e := 99) rfl (by decide +kernel) (by decide +kernel) (by decide +kernel) (by decide +kernel) rfl rfl rfl rfl (Eq.trans (show _ = Value.bool y520 from rfl) (congrArg Value.bool hc529)) (fun wq hq => R.fieldAddr (o := ad539.off + (2 : Int).toNat * 57) (o' := ad539.off + (2 : Int).toNat * 57) fa62_0 rfl rfl) ?_
                    refine WE.takeY 14 (e := 99) rfl (by decide +kernel) (by decide +kernel) (by decide +kernel) (by decide +kernel) rfl rfl rfl rfl (Eq.trans (show _ = Value.bool y520 from rfl) (congrArg Value.bool hc529)) (fun wq hq => R.loadL (v := Value.bool x531.is) lf4 rfl (At.sub (a := ⟨ad539.block, ad539.off + (2 : Int).toNat * 57, none⟩) (off := 0) (n := 1) (cs := encR x531 (Value.slice a547 x531.table.length c548)) (ds := [Value.bool x531.is]) (At.exT hq hat542) rfl rfl)) ?_
                    refine WE.takeY 15 (e := 99) rfl (by decide +kernel) (by decide +kernel) (by decide +kernel) (by decide +kernel) rfl rfl rfl rfl (Eq.trans (show _ = Value.bool y520 from rfl) (congrArg Value.bool hc529)) (fun wq hq => R.not (b := x531.is) rfl) ?_
                    refine WE.take 16 rfl (by decide +kernel) (by decide +kernel) (by decide +kernel) (by decide +kernel) rfl rfl (fun wq hq => R.pickT (v := Value.bool (!x531.is)) (Eq.trans (show _ = Value.bool y520 from rfl) (congrArg Value.bool hc529)) rfl) ?_
                    refine WE.take 17 rfl (by decide +kernel) (by decide +kernel) (by decide +kernel) (by decide +kernel) rfl rfl (fun wq hq => R.move (v := Value.bool (!x531.is)) rfl) ?_
                    by_cases hc554 : x531.is = true
                    · have h555 := ifT hc554 h533
                      have hk556 : (!x531.is) = false := by simp [hc554]
                      refine WE.takeN 18 (e := 106) (v := .bool false) rfl (by decide +kernel) (by decide +kernel) (by decide +kernel) (by decide +kernel) rfl rfl rfl (Eq.trans (show _ = Value.bool (!x531.is) from rfl) (congrArg Value.bool hk556)) rfl ?_
                      refine WE.takeN 19 (e := 106) (v := .bool false) rfl (by decide +kernel) (by decide +kernel) (by decide +kernel) (by decide +kernel) rfl rfl rfl (Eq.trans (show _ = Value.bool (!x531.is) from rfl) (congrArg Value.bool hk556)) rfl ?_
                      refine WE.takeN 20 (e := 106) (v := .bool false) rfl (by decide +kernel) (by decide +kernel) (by decide +kernel) (by decide +kernel) rfl rfl rfl (Eq.trans (show _ = Value.bool (!x531.is) from rfl) (congrArg Value.bool hk556)) rfl ?_
                      refine WE.take 21 rfl (by decide +kernel) (by decide +kernel) (by decide +kernel) (by decide +kernel) rfl rfl (fun wq hq => R.pickF (v := Value.bool false) (Eq.trans (show _ = Value.bool (!x531.is) from rfl) (congrArg Value.bool hk556)) rfl) ?_
                      refine WE.take 22 rfl (by decide +kernel) (by decide +kernel) (by decide +kernel) (by decide +kernel) rfl rfl (fun wq hq => R.move (v := Value.bool false) rfl) ?_
                      refine WE.takeN 23 (e := 111) (v := .bool false) rfl (by decide +kernel) (by decide +kernel) (by decide +kernel) (by decide +kernel) rfl rfl rfl rfl rfl ?_
                      refine WE.takeN 24 (e := 111) (v := .bool false) rfl (by decide +kernel) (by decide +kernel) (by decide +kernel) (by decide +kernel) rfl rfl rfl rfl rfl ?_
                      refine WE.takeN 25 (e := 111) (v := .bool false) rfl (by decide +kernel) (by decide +kernel) (by decide +kernel) (by decide +kernel) rfl rfl rfl rfl rfl ?_
                      refine WE.takeN 26 (e := 111) (v := .bool false) rfl (by decide +kernel) (by decide +kernel) (by decide +kernel) (by decide +kernel) rfl rfl rfl rfl rfl ?_
                      refine WE.takeN 27 (e := 111) (v := .bool false) rfl (by decide +kernel) (by decide +kernel) (by decide +kernel) (by decide +kernel) rfl rfl rfl rfl rfl ?_
                      refine WE.take 28 rfl (by decide +kernel) (by decide +kernel) (by decide +kernel) (by decide +kernel) rfl rfl (fun wq hq => R.pickF (v := Value.bool false) rfl rfl) ?_
                      refine WE.take 29 rfl (by decide +kernel) (by decide +kernel) (by decide +kernel) (by decide +kernel) rfl rfl (fun wq hq => R.assign (v := Value.bool false) rfl) ?_
                      refine WE.done (by decide +kernel) ?_
                      refine thenN ?_
                      refine WC.ret ?_
                      have ht557 := (hs528.here).perm (L' := []) (G := [laneE g477 y474.2, blk b146 62 ((Value.bool true) :: ((encC (⟨7, Cl.zero.offer, Cl.zero.report, Cl.zero.view⟩ : Cl)) ++ ((Value.slice (some ⟨b138, 0, none⟩) ((List.replicate (4 : Int).toNat Hd.none).length) ((4 : Int).toNat)) :: []))), blk b167 25 [Value.slice (some ⟨b157, 0, none⟩) (([(⟨true, (⟨7, Cl.zero.offer, Cl.zero.report, Cl.zero.view⟩ : Cl), List.replicate (4 : Int).toNat Hd.none⟩ : Rw)]).length) 1], blk b267 25 [Value.slice a250 y242.1.length c251], blk b275 25 [Value.slice a252 y242.2.1.length c253], blk b316 25 [Value.slice a299 y290.1.length c300], blk b324 25 [Value.slice a301 y290.2.1.length c302]]) ((List.Perm.refl _))
                      have hs558 := hs528.trans ht557
                      obtain rfl := Option.some.inj (show some false = some r from h555)
                      exact ret1 (P := Try.prog) (n := 118) (fn := Try.f77) (R := fun v w' => v = Value.bool false ∧ St [] w w' []) (t := 0) (v := Value.bool false) rfl rfl rfl ⟨rfl, hs558⟩
                    · have h559 := ifF hc554 h533
                      have hk560 : (!x531.is) = true := by simp [hc554]
                      refine WE.takeY 18 (e := 106) rfl (by decide +kernel) (by decide +kernel) (by decide +kernel) (by decide +kernel) rfl rfl rfl rfl (Eq.trans (show _ = Value.bool (!x531.is) from rfl) (congrArg Value.bool hk560)) (fun wq hq => R.move (v := Value.slice a482 y474.1.length c483) rfl) ?_
                      refine WE.takeY 19 (e := 106) rfl (by decide +kernel) (by decide +kernel) (by decide +kernel) (by decide +kernel) rfl rfl rfl rfl (Eq.trans (show _ = Value.bool (!x531.is) from rfl) (congrArg Value.bool hk560)) (fun wq hq => R.len (a := a482) (n := y474.1.length) (c := c483) un22 rfl) ?_
                      by_cases hc561 : ((y474.1.length : Nat) : Int) = 4
                      · have h562 := ifT hc561 h559
                        refine WE.takeY 20 (e := 106) rfl (by decide +kernel) (by decide +kernel) (by decide +kernel) (by decide +kernel) rfl rfl rfl rfl (Eq.trans (show _ = Value.bool (!x531.is) from rfl) (congrArg Value.bool hk560)) (fun wq hq => R.eqlT (k := .i64) (a := ((y474.1.length : Nat) : Int)) (b := 4) un3 rfl rfl hc561) ?_
                        refine WE.take 21 rfl (by decide +kernel) (by decide +kernel) (by decide +kernel) (by decide +kernel) rfl rfl (fun wq hq => R.pickT (v := Value.bool true) (Eq.trans (show _ = Value.bool (!x531.is) from rfl) (congrArg Value.bool hk560)) rfl) ?_
                        refine WE.take 22 rfl (by decide +kernel) (by decide +kernel) (by decide +kernel) (by decide +kernel) rfl rfl (fun wq hq => R.move (v := Value.bool true) rfl) ?_
                        refine WE.takeY 23 (e := 111) rfl (by decide +kernel) (by decide +kernel) (by decide +kernel) (by decide +kernel) rfl rfl rfl rfl rfl (fun wq hq => R.move (v := Value.slice a482 y474.1.length c483) rfl) ?_
                        obtain ⟨x563, hx564, h565⟩ := ob (o := rd y474.1 0) h562
                        obtain ⟨h0566, hx567, hl568, hm569⟩ := rdE hx564
                        have hr570 := elT (ht493.trans ht525) he489
                        obtain ⟨ad571, e576, ha572, hp573, hat574, hrd575⟩ := hr570 _ _ hx567
                        obtain ⟨t577, rfl, a579, c580, he583, hl581, he582⟩ := hrd575
                        cases he583
                        refine WE.takeY 24 (e := 111) rfl (by decide +kernel) (by decide +kernel) (by decide +kernel) (by decide +kernel) rfl rfl rfl rfl rfl (fun wq hq => R.indexS (n := 57) (m := (0 : Int).toNat) (a := a482) (ad := ad571) (len := y474.1.length) (cap := c483) (z := 0) un22 ag62.size rfl ha572 rfl hm569 hl568 hp573) ?_
                        refine WE.takeY 25 (e := 111) rfl (by decide +kernel) (by decide +kernel) (by decide +kernel) (by decide +kernel) rfl rfl rfl rfl rfl (fun wq hq => R.fieldAddr (o := ad571.off + (0 : Int).toNat * 57) (o' := ad571.off + (0 : Int).toNat * 57) fa62_0 rfl rfl) ?_
                        refine WE.takeY 26 (e := 111) rfl (by decide +kernel) (by decide +kernel) (by decide +kernel) (by decide +kernel) rfl rfl rfl rfl rfl (fun wq hq => R.loadL (v := Value.bool x563.is) lf4 rfl (At.sub (a := ⟨ad571.block, ad571.off + (0 : Int).toNat * 57, none⟩) (off := 0) (n := 1) (cs := encR x563 (Value.slice a579 x563.table.length c580)) (ds := [Value.bool x563.is]) (At.exT hq hat574) rfl rfl)) ?_
                        refine WE.takeY 27 (e := 111) rfl (by decide +kernel) (by decide +kernel) (by decide +kernel) (by decide +kernel) rfl rfl rfl rfl rfl (fun wq hq => R.not (b := x563.is) rfl) ?_
                        refine WE.take 28 rfl (by decide +kernel) (by decide +kernel) (by decide +kernel) (by decide +kernel) rfl rfl (fun wq hq => R.pickT (v := Value.bool (!x563.is)) rfl rfl) ?_
                        refine WE.take 29 rfl (by decide +kernel) (by decide +kernel) (by decide +kernel) (by decide +kernel) rfl rfl (fun wq hq => R.assign (v := Value.bool (!x563.is)) rfl) ?_
                        refine WE.done (by decide +kernel) ?_
                        refine thenN ?_
                        refine WC.ret ?_
                        have ht586 := (hs528.here).perm (L' := []) (G := [laneE g477 y474.2, blk b146 62 ((Value.bool true) :: ((encC (⟨7, Cl.zero.offer, Cl.zero.report, Cl.zero.view⟩ : Cl)) ++ ((Value.slice (some ⟨b138, 0, none⟩) ((List.replicate (4 : Int).toNat Hd.none).length) ((4 : Int).toNat)) :: []))), blk b167 25 [Value.slice (some ⟨b157, 0, none⟩) (([(⟨true, (⟨7, Cl.zero.offer, Cl.zero.report, Cl.zero.view⟩ : Cl), List.replicate (4 : Int).toNat Hd.none⟩ : Rw)]).length) 1], blk b267 25 [Value.slice a250 y242.1.length c251], blk b275 25 [Value.slice a252 y242.2.1.length c253], blk b316 25 [Value.slice a299 y290.1.length c300], blk b324 25 [Value.slice a301 y290.2.1.length c302]]) ((List.Perm.refl _))
                        have hs587 := hs528.trans ht586
                        obtain rfl := Option.some.inj (show some (!x563.is) = some r from h565)
                        exact ret1 (P := Try.prog) (n := 118) (fn := Try.f77) (R := fun v w' => v = Value.bool (!x563.is) ∧ St [] w w' []) (t := 0) (v := Value.bool (!x563.is)) rfl rfl rfl ⟨rfl, hs587⟩
                      · have h588 := ifF hc561 h559
                        refine WE.takeY 20 (e := 106) rfl (by decide +kernel) (by decide +kernel) (by decide +kernel) (by decide +kernel) rfl rfl rfl rfl (Eq.trans (show _ = Value.bool (!x531.is) from rfl) (congrArg Value.bool hk560)) (fun wq hq => R.eqlF (k := .i64) (a := ((y474.1.length : Nat) : Int)) (b := 4) un3 rfl rfl hc561) ?_
                        refine WE.take 21 rfl (by decide +kernel) (by decide +kernel) (by decide +kernel) (by decide +kernel) rfl rfl (fun wq hq => R.pickT (v := Value.bool false) (Eq.trans (show _ = Value.bool (!x531.is) from rfl) (congrArg Value.bool hk560)) rfl) ?_
                        refine WE.take 22 rfl (by decide +kernel) (by decide +kernel) (by decide +kernel) (by decide +kernel) rfl rfl (fun wq hq => R.move (v := Value.bool false) rfl) ?_
                        refine WE.takeN 23 (e := 111) (v := .bool false) rfl (by decide +kernel) (by decide +kernel) (by decide +kernel) (by decide +kernel) rfl rfl rfl rfl rfl ?_
                        refine WE.takeN 24 (e := 111) (v := .bool false) rfl (by decide +kernel) (by decide +kernel) (by decide +kernel) (by decide +kernel) rfl rfl rfl rfl rfl ?_
                        refine WE.takeN 25 (e := 111) (v := .bool false) rfl (by decide +kernel) (by decide +kernel) (by decide +kernel) (by decide +kernel) rfl rfl rfl rfl rfl ?_
                        refine WE.takeN 26 (e := 111) (v := .bool false) rfl (by decide +kernel) (by decide +kernel) (by decide +kernel) (by decide +kernel) rfl rfl rfl rfl rfl ?_
                        refine WE.takeN 27 (e := 111) (v := .bool false) rfl (by decide +kernel) (by decide +kernel) (by decide +kernel) (by decide +kernel) rfl rfl rfl rfl rfl ?_
                        refine WE.take 28 rfl (by decide +kernel) (by decide +kernel) (by decide +kernel) (by decide +kernel) rfl rfl (fun wq hq => R.pickF (v := Value.bool false) rfl rfl) ?_
                        refine WE.take 29 rfl (by decide +kernel) (by decide +kernel) (by decide +kernel) (by decide +kernel) rfl rfl (fun wq hq => R.assign (v := Value.bool false) rfl) ?_
                        refine WE.done (by decide +kernel) ?_
                        refine thenN ?_
                        refine WC.ret ?_
                        have ht589 := (hs528.here).perm (L' := []) (G := [laneE g477 y474.2, blk b146 62 ((Value.bool true) :: ((encC (⟨7, Cl.zero.offer, Cl.zero.report, Cl.zero.view⟩ : Cl)) ++ ((Value.slice (some ⟨b138, 0, none⟩) ((List.replicate (4 : Int).toNat Hd.none).length) ((4 : Int).toNat)) :: []))), blk b167 25 [Value.slice (some ⟨b157, 0, none⟩) (([(⟨true, (⟨7, Cl.zero.offer, Cl.zero.report, Cl.zero.view⟩ : Cl), List.replicate (4 : Int).toNat Hd.none⟩ : Rw)]).length) 1], blk b267 25 [Value.slice a250 y242.1.length c251], blk b275 25 [Value.slice a252 y242.2.1.length c253], blk b316 25 [Value.slice a299 y290.1.length c300], blk b324 25 [Value.slice a301 y290.2.1.length c302]]) ((List.Perm.refl _))
                        have hs590 := hs528.trans ht589
                        obtain rfl := Option.some.inj (show some false = some r from h588)
                        exact ret1 (P := Try.prog) (n := 118) (fn := Try.f77) (R := fun v w' => v = Value.bool false ∧ St [] w w' []) (t := 0) (v := Value.bool false) rfl rfl rfl ⟨rfl, hs590⟩
                  · have h591 := ifF hc529 h522
                    refine WE.takeN 11 (e := 99) (v := .bool false) rfl (by decide +kernel) (by decide +kernel) (by decide +kernel) (by decide +kernel) rfl rfl rfl (Eq.trans (show _ = Value.bool y520 from rfl) (congrArg Value.bool (Bool.eq_false_iff.2 hc529))) rfl ?_
                    refine WE.takeN 12 (e := 99) (v := .bool false) rfl (by decide +kernel) (by decide +kernel) (by decide +kernel) (by decide +kernel) rfl rfl rfl (Eq.trans (show _ = Value.bool y520 from rfl) (congrArg Value.bool (Bool.eq_false_iff.2 hc529))) rfl ?_
                    refine WE.takeN 13 (e := 99) (v := .bool false) rfl (by decide +kernel) (by decide +kernel) (by decide +kernel) (by decide +kernel) rfl rfl rfl (Eq.trans (show _ = Value.bool y520 from rfl) (congrArg Value.bool (Bool.eq_false_iff.2 hc529))) rfl ?_
                    refine WE.takeN 14 (e := 99) (v := .bool false) rfl (by decide +kernel) (by decide +kernel) (by decide +kernel) (by decide +kernel) rfl rfl rfl (Eq.trans (show _ = Value.bool y520 from rfl) (congrArg Value.bool (Bool.eq_false_iff.2 hc529))) rfl ?_
                    refine WE.takeN 15 (e := 99) (v := .bool false) rfl (by decide +kernel) (by decide +kernel) (by decide +kernel) (by decide +kernel) rfl rfl rfl (Eq.trans (show _ = Value.bool y520 from rfl) (congrArg Value.bool (Bool.eq_false_iff.2 hc529))) rfl ?_
                    refine WE.take 16 rfl (by decide +kernel) (by decide +kernel) (by decide +kernel) (by decide +kernel) rfl rfl (fun wq hq => R.pickF (v := Value.bool false) (Eq.trans (show _ = Value.bool y520 from rfl) (congrArg Value.bool (Bool.eq_false_iff.2 hc529))) rfl) ?_
                    refine WE.take 17 rfl (by decide +kernel) (by decide +kernel) (by decide +kernel) (by decide +kernel) rfl rfl (fun wq hq => R.move (v := Value.bool false) rfl) ?_
                    refine WE.takeN 18 (e := 106) (v := .bool false) rfl (by decide +kernel) (by decide +kernel) (by decide +kernel) (by decide +kernel) rfl rfl rfl rfl rfl ?_
                    refine WE.takeN 19 (e := 106) (v := .bool false) rfl (by decide +kernel) (by decide +kernel) (by decide +kernel) (by decide +kernel) rfl rfl rfl rfl rfl ?_
                    refine WE.takeN 20 (e := 106) (v := .bool false) rfl (by decide +kernel) (by decide +kernel) (by decide +kernel) (by decide +kernel) rfl rfl rfl rfl rfl ?_
                    refine WE.take 21 rfl (by decide +kernel) (by decide +kernel) (by decide +kernel) (by decide +kernel) rfl rfl (fun wq hq => R.pickF (v := Value.bool false) rfl rfl) ?_
                    refine WE.take 22 rfl (by decide +kernel) (by decide +kernel) (by decide +kernel) (by decide +kernel) rfl rfl (fun wq hq => R.move (v := Value.bool false) rfl) ?_
                    refine WE.takeN 23 (e := 111) (v := .bool false) rfl (by decide +kernel) (by decide +kernel) (by decide +kernel) (by decide +kernel) rfl rfl rfl rfl rfl ?_
                    refine WE.takeN 24 (e := 111) (v := .bool false) rfl (by decide +kernel) (by decide +kernel) (by decide +kernel) (by decide +kernel) rfl rfl rfl rfl rfl ?_
                    refine WE.takeN 25 (e := 111) (v := .bool false) rfl (by decide +kernel) (by decide +kernel) (by decide +kernel) (by decide +kernel) rfl rfl rfl rfl rfl ?_
                    refine WE.takeN 26 (e := 111) (v := .bool false) rfl (by decide +kernel) (by decide +kernel) (by decide +kernel) (by decide +kernel) rfl rfl rfl rfl rfl ?_
                    refine WE.takeN 27 (e := 111) (v := .bool false) rfl (by decide +kernel) (by decide +kernel) (by decide +kernel) (by decide +kernel) rfl rfl rfl rfl rfl ?_
                    refine WE.take 28 rfl (by decide +kernel) (by decide +kernel) (by decide +kernel) (by decide +kernel) rfl rfl (fun wq hq => R.pickF (v := Value.bool false) rfl rfl) ?_
                    refine WE.take 29 rfl (by decide +kernel) (by decide +kernel) (by decide +kernel) (by decide +kernel) rfl rfl (fun wq hq => R.assign (v := Value.bool false) rfl) ?_
                    refine WE.done (by decide +kernel) ?_
                    refine thenN ?_
                    refine WC.ret ?_
                    have ht592 := (hs528.here).perm (L' := []) (G := [laneE g477 y474.2, blk b146 62 ((Value.bool true) :: ((encC (⟨7, Cl.zero.offer, Cl.zero.report, Cl.zero.view⟩ : Cl)) ++ ((Value.slice (some ⟨b138, 0, none⟩) ((List.replicate (4 : Int).toNat Hd.none).length) ((4 : Int).toNat)) :: []))), blk b167 25 [Value.slice (some ⟨b157, 0, none⟩) (([(⟨true, (⟨7, Cl.zero.offer, Cl.zero.report, Cl.zero.view⟩ : Cl), List.replicate (4 : Int).toNat Hd.none⟩ : Rw)]).length) 1], blk b267 25 [Value.slice a250 y242.1.length c251], blk b275 25 [Value.slice a252 y242.2.1.length c253], blk b316 25 [Value.slice a299 y290.1.length c300], blk b324 25 [Value.slice a301 y290.2.1.length c302]]) ((List.Perm.refl _))
                    have hs593 := hs528.trans ht592
                    obtain rfl := Option.some.inj (show some false = some r from h591)
                    exact ret1 (P := Try.prog) (n := 118) (fn := Try.f77) (R := fun v w' => v = Value.bool false ∧ St [] w w' []) (t := 0) (v := Value.bool false) rfl rfl rfl ⟨rfl, hs593⟩
                · have h594 := ifF hc495 h476
                  refine WE.take 2 rfl (by decide +kernel) (by decide +kernel) (by decide +kernel) (by decide +kernel) rfl rfl (fun wq hq => R.eqlF (k := .i64) (a := ((y454.1.length : Nat) : Int)) (b := 4) un3 rfl rfl hc495) ?_
                  refine WE.take 3 rfl (by decide +kernel) (by decide +kernel) (by decide +kernel) (by decide +kernel) rfl rfl (fun wq hq => R.move (v := Value.bool false) rfl) ?_
                  refine WE.takeN 4 (e := 92) (v := .bool false) rfl (by decide +kernel) (by decide +kernel) (by decide +kernel) (by decide +kernel) rfl rfl rfl rfl rfl ?_
                  refine WE.takeN 5 (e := 92) (v := .bool false) rfl (by decide +kernel) (by decide +kernel) (by decide +kernel) (by decide +kernel) rfl rfl rfl rfl rfl ?_
                  refine WE.takeN 6 (e := 92) (v := .bool false) rfl (by decide +kernel) (by decide +kernel) (by decide +kernel) (by decide +kernel) rfl rfl rfl rfl rfl ?_
                  refine WE.takeN 7 (e := 92) (v := .bool false) rfl (by decide +kernel) (by decide +kernel) (by decide +kernel) (by decide +kernel) rfl rfl rfl rfl rfl ?_
                  refine WE.takeN 8 (e := 92) (v := .bool false) rfl (by decide +kernel) (by decide +kernel) (by decide +kernel) (by decide +kernel) rfl rfl rfl rfl rfl ?_
                  refine WE.take 9 rfl (by decide +kernel) (by decide +kernel) (by decide +kernel) (by decide +kernel) rfl rfl (fun wq hq => R.pickF (v := Value.bool false) rfl rfl) ?_
                  refine WE.take 10 rfl (by decide +kernel) (by decide +kernel) (by decide +kernel) (by decide +kernel) rfl rfl (fun wq hq => R.move (v := Value.bool false) rfl) ?_
                  refine WE.takeN 11 (e := 99) (v := .bool false) rfl (by decide +kernel) (by decide +kernel) (by decide +kernel) (by decide +kernel) rfl rfl rfl rfl rfl ?_
                  refine WE.takeN 12 (e := 99) (v := .bool false) rfl (by decide +kernel) (by decide +kernel) (by decide +kernel) (by decide +kernel) rfl rfl rfl rfl rfl ?_
                  refine WE.takeN 13 (e := 99) (v := .bool false) rfl (by decide +kernel) (by decide +kernel) (by decide +kernel) (by decide +kernel) rfl rfl rfl rfl rfl ?_
                  refine WE.takeN 14 (e := 99) (v := .bool false) rfl (by decide +kernel) (by decide +kernel) (by decide +kernel) (by decide +kernel) rfl rfl rfl rfl rfl ?_
                  refine WE.takeN 15 (e := 99) (v := .bool false) rfl (by decide +kernel) (by decide +kernel) (by decide +kernel) (by decide +kernel) rfl rfl rfl rfl rfl ?_
                  refine WE.take 16 rfl (by decide +kernel) (by decide +kernel) (by decide +kernel) (by decide +kernel) rfl rfl (fun wq hq => R.pickF (v := Value.bool false) rfl rfl) ?_
                  refine WE.take 17 rfl (by decide +kernel) (by decide +kernel) (by decide +kernel) (by decide +kernel) rfl rfl (fun wq hq => R.move (v := Value.bool false) rfl) ?_
                  refine WE.takeN 18 (e := 106) (v := .bool false) rfl (by decide +kernel) (by decide +kernel) (by decide +kernel) (by decide +kernel) rfl rfl rfl rfl rfl ?_
                  refine WE.takeN 19 (e := 106) (v := .bool false) rfl (by decide +kernel) (by decide +kernel) (by decide +kernel) (by decide +kernel) rfl rfl rfl rfl rfl ?_
                  refine WE.takeN 20 (e := 106) (v := .bool false) rfl (by decide +kernel) (by decide +kernel) (by decide +kernel) (by decide +kernel) rfl rfl rfl rfl rfl ?_
                  refine WE.take 21 rfl (by decide +kernel) (by decide +kernel) (by decide +kernel) (by decide +kernel) rfl rfl (fun wq hq => R.pickF (v := Value.bool false) rfl rfl) ?_
                  refine WE.take 22 rfl (by decide +kernel) (by decide +kernel) (by decide +kernel) (by decide +kernel) rfl rfl (fun wq hq => R.move (v := Value.bool false) rfl) ?_
                  refine WE.takeN 23 (e := 111) (v := .bool false) rfl (by decide +kernel) (by decide +kernel) (by decide +kernel) (by decide +kernel) rfl rfl rfl rfl rfl ?_
                  refine WE.takeN 24 (e := 111) (v := .bool false) rfl (by decide +kernel) (by decide +kernel) (by decide +kernel) (by decide +kernel) rfl rfl rfl rfl rfl ?_
                  refine WE.takeN 25 (e := 111) (v := .bool false) rfl (by decide +kernel) (by decide +kernel) (by decide +kernel) (by decide +kernel) rfl rfl rfl rfl rfl ?_
                  refine WE.takeN 26 (e := 111) (v := .bool false) rfl (by decide +kernel) (by decide +kernel) (by decide +kernel) (by decide +kernel) rfl rfl rfl rfl rfl ?_
                  refine WE.takeN 27 (e := 111) (v := .bool false) rfl (by decide +kernel) (by decide +kernel) (by decide +kernel) (by decide +kernel) rfl rfl rfl rfl rfl ?_
                  refine WE.take 28 rfl (by decide +kernel) (by decide +kernel) (by decide +kernel) (by decide +kernel) rfl rfl (fun wq hq => R.pickF (v := Value.bool false) rfl rfl) ?_
                  refine WE.take 29 rfl (by decide +kernel) (by decide +kernel) (by decide +kernel) (by decide +kernel) rfl rfl (fun wq hq => R.assign (v := Value.bool false) rfl) ?_
                  refine WE.done (by decide +kernel) ?_
                  refine thenN ?_
                  refine WC.ret ?_
                  have ht595 := (hs494.here).perm (L' := []) (G := [laneE g477 y474.2, blk b146 62 ((Value.bool true) :: ((encC (⟨7, Cl.zero.offer, Cl.zero.report, Cl.zero.view⟩ : Cl)) ++ ((Value.slice (some ⟨b138, 0, none⟩) ((List.replicate (4 : Int).toNat Hd.none).length) ((4 : Int).toNat)) :: []))), blk b167 25 [Value.slice (some ⟨b157, 0, none⟩) (([(⟨true, (⟨7, Cl.zero.offer, Cl.zero.report, Cl.zero.view⟩ : Cl), List.replicate (4 : Int).toNat Hd.none⟩ : Rw)]).length) 1], blk b267 25 [Value.slice a250 y242.1.length c251], blk b275 25 [Value.slice a252 y242.2.1.length c253], blk b316 25 [Value.slice a299 y290.1.length c300], blk b324 25 [Value.slice a301 y290.2.1.length c302]]) ((List.Perm.refl _))
                  have hs596 := hs494.trans ht595
                  obtain rfl := Option.some.inj (show some false = some r from h594)
                  exact ret1 (P := Try.prog) (n := 118) (fn := Try.f77) (R := fun v w' => v = Value.bool false ∧ St [] w w' []) (t := 0) (v := Value.bool false) rfl rfl rfl ⟨rfl, hs596⟩
              · have h597 := ifF hc409 h408
                refine WE.takeY 34 (e := 70) rfl (by decide +kernel) (by decide +kernel) (by decide +kernel) (by decide +kernel) rfl rfl rfl rfl (Eq.trans (show _ = Value.bool x381.is from rfl) (congrArg Value.bool (Bool.eq_false_iff.2 hc404))) (fun wq hq => R.neqT (k := .i64) (a := ((y290.1.length : Nat) : Int)) (b := 0) un3 rfl rfl hc409) ?_
                refine WE.take 35 rfl (by decide +kernel) (by decide +kernel) (by decide +kernel) (by decide +kernel) rfl rfl (fun wq hq => R.pickF (v := Value.bool true) (Eq.trans (show _ = Value.bool x381.is from rfl) (congrArg Value.bool (Bool.eq_false_iff.2 hc404))) rfl) ?_
                refine WE.done (by decide +kernel) ?_
                refine thenN ?_
                refine WC.condT rfl rfl ?_
                refine WC.seq ?_
                refine WC.region ?_
                refine WL.val (R.assign (v := Value.bool false) rfl) rfl ?_
                refine WL.nil ?_
                refine thenN ?_
                refine WC.ret ?_
                have ht598 := (hs375.here).perm (L' := []) (G := [laneE g294 y290.2.2, blk b146 62 ((Value.bool true) :: ((encC (⟨7, Cl.zero.offer, Cl.zero.report, Cl.zero.view⟩ : Cl)) ++ ((Value.slice (some ⟨b138, 0, none⟩) ((List.replicate (4 : Int).toNat Hd.none).length) ((4 : Int).toNat)) :: []))), blk b167 25 [Value.slice (some ⟨b157, 0, none⟩) (([(⟨true, (⟨7, Cl.zero.offer, Cl.zero.report, Cl.zero.view⟩ : Cl), List.replicate (4 : Int).toNat Hd.none⟩ : Rw)]).length) 1], blk b267 25 [Value.slice a250 y242.1.length c251], blk b275 25 [Value.slice a252 y242.2.1.length c253], blk b316 25 [Value.slice a299 y290.1.length c300], blk b324 25 [Value.slice a301 y290.2.1.length c302]]) ((List.Perm.refl _))
                have hs599 := hs375.trans ht598
                obtain rfl := Option.some.inj (show some false = some r from h597)
                exact ret1 (P := Try.prog) (n := 118) (fn := Try.f77) (R := fun v w' => v = Value.bool false ∧ St [] w w' []) (t := 0) (v := Value.bool false) rfl rfl rfl ⟨rfl, hs599⟩
          · have h600 := ifF hc379 h377
            refine WE.takeY 21 (e := 57) rfl (by decide +kernel) (by decide +kernel) (by decide +kernel) (by decide +kernel) rfl rfl rfl rfl (Eq.trans (show _ = Value.bool (!y367) from rfl) (congrArg Value.bool hk378)) (fun wq hq => R.neqT (k := .i64) (a := ((y242.2.1.length : Nat) : Int)) (b := 4) un3 rfl rfl hc379) ?_
            refine WE.take 22 rfl (by decide +kernel) (by decide +kernel) (by decide +kernel) (by decide +kernel) rfl rfl (fun wq hq => R.pickF (v := Value.bool true) (Eq.trans (show _ = Value.bool (!y367) from rfl) (congrArg Value.bool hk378)) rfl) ?_
            refine WE.take 23 rfl (by decide +kernel) (by decide +kernel) (by decide +kernel) (by decide +kernel) rfl rfl (fun wq hq => R.move (v := Value.bool true) rfl) ?_
            refine WE.takeN 24 (e := 63) (v := .bool true) rfl (by decide +kernel) (by decide +kernel) (by decide +kernel) (by decide +kernel) rfl rfl rfl rfl rfl ?_
            refine WE.takeN 25 (e := 63) (v := .bool true) rfl (by decide +kernel) (by decide +kernel) (by decide +kernel) (by decide +kernel) rfl rfl rfl rfl rfl ?_
            refine WE.takeN 26 (e := 63) (v := .bool true) rfl (by decide +kernel) (by decide +kernel) (by decide +kernel) (by decide +kernel) rfl rfl rfl rfl rfl ?_
            refine WE.takeN 27 (e := 63) (v := .bool true) rfl (by decide +kernel) (by decide +kernel) (by decide +kernel) (by decide +kernel) rfl rfl rfl rfl rfl ?_
            refine WE.takeN 28 (e := 63) (v := .bool true) rfl (by decide +kernel) (by decide +kernel) (by decide +kernel) (by decide +kernel) rfl rfl rfl rfl rfl ?_
            refine WE.take 29 rfl (by decide +kernel) (by decide +kernel) (by decide +kernel) (by decide +kernel) rfl rfl (fun wq hq => R.pickT (v := Value.bool true) rfl rfl) ?_
            refine WE.take 30 rfl (by decide +kernel) (by decide +kernel) (by decide +kernel) (by decide +kernel) rfl rfl (fun wq hq => R.move (v := Value.bool true) rfl) ?_
            refine WE.takeN 31 (e := 70) (v := .bool true) rfl (by decide +kernel) (by decide +kernel) (by decide +kernel) (by decide +kernel) rfl rfl rfl rfl rfl ?_
            refine WE.takeN 32 (e := 70) (v := .bool true) rfl (by decide +kernel) (by decide +kernel) (by decide +kernel) (by decide +kernel) rfl rfl rfl rfl rfl ?_
            refine WE.takeN 33 (e := 70) (v := .bool true) rfl (by decide +kernel) (by decide +kernel) (by decide +kernel) (by decide +kernel) rfl rfl rfl rfl rfl ?_
            refine WE.takeN 34 (e := 70) (v := .bool true) rfl (by decide +kernel) (by decide +kernel) (by decide +kernel) (by decide +kernel) rfl rfl rfl rfl rfl ?_
            refine WE.take 35 rfl (by decide +kernel) (by decide +kernel) (by decide +kernel) (by decide +kernel) rfl rfl (fun wq hq => R.pickT (v := Value.bool true) rfl rfl) ?_
            refine WE.done (by decide +kernel) ?_
            refine thenN ?_
            refine WC.condT rfl rfl ?_
            refine WC.seq ?_
            refine WC.region ?_
            refine WL.val (R.assign (v := Value.bool false) rfl) rfl ?_
            refine WL.nil ?_
            refine thenN ?_
            refine WC.ret ?_
            have ht601 := (hs375.here).perm (L' := []) (G := [laneE g294 y290.2.2, blk b146 62 ((Value.bool true) :: ((encC (⟨7, Cl.zero.offer, Cl.zero.report, Cl.zero.view⟩ : Cl)) ++ ((Value.slice (some ⟨b138, 0, none⟩) ((List.replicate (4 : Int).toNat Hd.none).length) ((4 : Int).toNat)) :: []))), blk b167 25 [Value.slice (some ⟨b157, 0, none⟩) (([(⟨true, (⟨7, Cl.zero.offer, Cl.zero.report, Cl.zero.view⟩ : Cl), List.replicate (4 : Int).toNat Hd.none⟩ : Rw)]).length) 1], blk b267 25 [Value.slice a250 y242.1.length c251], blk b275 25 [Value.slice a252 y242.2.1.length c253], blk b316 25 [Value.slice a299 y290.1.length c300], blk b324 25 [Value.slice a301 y290.2.1.length c302]]) ((List.Perm.refl _))
            have hs602 := hs375.trans ht601
            obtain rfl := Option.some.inj (show some false = some r from h600)
            exact ret1 (P := Try.prog) (n := 118) (fn := Try.f77) (R := fun v w' => v = Value.bool false ∧ St [] w w' []) (t := 0) (v := Value.bool false) rfl rfl rfl ⟨rfl, hs602⟩
        · have h603 := ifF hc376 h369
          have hk604 : (!y367) = true := by simp [hc376]
          refine WE.takeN 18 (e := 57) (v := .bool true) rfl (by decide +kernel) (by decide +kernel) (by decide +kernel) (by decide +kernel) rfl rfl rfl (Eq.trans (show _ = Value.bool (!y367) from rfl) (congrArg Value.bool hk604)) rfl ?_
          refine WE.takeN 19 (e := 57) (v := .bool true) rfl (by decide +kernel) (by decide +kernel) (by decide +kernel) (by decide +kernel) rfl rfl rfl (Eq.trans (show _ = Value.bool (!y367) from rfl) (congrArg Value.bool hk604)) rfl ?_
          refine WE.takeN 20 (e := 57) (v := .bool true) rfl (by decide +kernel) (by decide +kernel) (by decide +kernel) (by decide +kernel) rfl rfl rfl (Eq.trans (show _ = Value.bool (!y367) from rfl) (congrArg Value.bool hk604)) rfl ?_
          refine WE.takeN 21 (e := 57) (v := .bool true) rfl (by decide +kernel) (by decide +kernel) (by decide +kernel) (by decide +kernel) rfl rfl rfl (Eq.trans (show _ = Value.bool (!y367) from rfl) (congrArg Value.bool hk604)) rfl ?_
          refine WE.take 22 rfl (by decide +kernel) (by decide +kernel) (by decide +kernel) (by decide +kernel) rfl rfl (fun wq hq => R.pickT (v := Value.bool true) (Eq.trans (show _ = Value.bool (!y367) from rfl) (congrArg Value.bool hk604)) rfl) ?_
          refine WE.take 23 rfl (by decide +kernel) (by decide +kernel) (by decide +kernel) (by decide +kernel) rfl rfl (fun wq hq => R.move (v := Value.bool true) rfl) ?_
          refine WE.takeN 24 (e := 63) (v := .bool true) rfl (by decide +kernel) (by decide +kernel) (by decide +kernel) (by decide +kernel) rfl rfl rfl rfl rfl ?_
          refine WE.takeN 25 (e := 63) (v := .bool true) rfl (by decide +kernel) (by decide +kernel) (by decide +kernel) (by decide +kernel) rfl rfl rfl rfl rfl ?_
          refine WE.takeN 26 (e := 63) (v := .bool true) rfl (by decide +kernel) (by decide +kernel) (by decide +kernel) (by decide +kernel) rfl rfl rfl rfl rfl ?_
          refine WE.takeN 27 (e := 63) (v := .bool true) rfl (by decide +kernel) (by decide +kernel) (by decide +kernel) (by decide +kernel) rfl rfl rfl rfl rfl ?_
          refine WE.takeN 28 (e := 63) (v := .bool true) rfl (by decide +kernel) (by decide +kernel) (by decide +kernel) (by decide +kernel) rfl rfl rfl rfl rfl ?_
          refine WE.take 29 rfl (by decide +kernel) (by decide +kernel) (by decide +kernel) (by decide +kernel) rfl rfl (fun wq hq => R.pickT (v := Value.bool true) rfl rfl) ?_
          refine WE.take 30 rfl (by decide +kernel) (by decide +kernel) (by decide +kernel) (by decide +kernel) rfl rfl (fun wq hq => R.move (v := Value.bool true) rfl) ?_
          refine WE.takeN 31 (e := 70) (v := .bool true) rfl (by decide +kernel) (by decide +kernel) (by decide +kernel) (by decide +kernel) rfl rfl rfl rfl rfl ?_
          refine WE.takeN 32 (e := 70) (v := .bool true) rfl (by decide +kernel) (by decide +kernel) (by decide +kernel) (by decide +kernel) rfl rfl rfl rfl rfl ?_
          refine WE.takeN 33 (e := 70) (v := .bool true) rfl (by decide +kernel) (by decide +kernel) (by decide +kernel) (by decide +kernel) rfl rfl rfl rfl rfl ?_
          refine WE.takeN 34 (e := 70) (v := .bool true) rfl (by decide +kernel) (by decide +kernel) (by decide +kernel) (by decide +kernel) rfl rfl rfl rfl rfl ?_
          refine WE.take 35 rfl (by decide +kernel) (by decide +kernel) (by decide +kernel) (by decide +kernel) rfl rfl (fun wq hq => R.pickT (v := Value.bool true) rfl rfl) ?_
          refine WE.done (by decide +kernel) ?_
          refine thenN ?_
          refine WC.condT rfl rfl ?_
          refine WC.seq ?_
          refine WC.region ?_
          refine WL.val (R.assign (v := Value.bool false) rfl) rfl ?_
          refine WL.nil ?_
          refine thenN ?_
          refine WC.ret ?_
          have ht605 := (hs375.here).perm (L' := []) (G := [laneE g294 y290.2.2, blk b146 62 ((Value.bool true) :: ((encC (⟨7, Cl.zero.offer, Cl.zero.report, Cl.zero.view⟩ : Cl)) ++ ((Value.slice (some ⟨b138, 0, none⟩) ((List.replicate (4 : Int).toNat Hd.none).length) ((4 : Int).toNat)) :: []))), blk b167 25 [Value.slice (some ⟨b157, 0, none⟩) (([(⟨true, (⟨7, Cl.zero.offer, Cl.zero.report, Cl.zero.view⟩ : Cl), List.replicate (4 : Int).toNat Hd.none⟩ : Rw)]).length) 1], blk b267 25 [Value.slice a250 y242.1.length c251], blk b275 25 [Value.slice a252 y242.2.1.length c253], blk b316 25 [Value.slice a299 y290.1.length c300], blk b324 25 [Value.slice a301 y290.2.1.length c302]]) ((List.Perm.refl _))
          have hs606 := hs375.trans ht605
          obtain rfl := Option.some.inj (show some false = some r from h603)
          exact ret1 (P := Try.prog) (n := 118) (fn := Try.f77) (R := fun v w' => v = Value.bool false ∧ St [] w w' []) (t := 0) (v := Value.bool false) rfl rfl rfl ⟨rfl, hs606⟩
      · have h607 := ifF hc342 h341
        refine WE.takeY 6 (e := 42) rfl (by decide +kernel) (by decide +kernel) (by decide +kernel) (by decide +kernel) rfl rfl rfl rfl rfl (fun wq hq => R.neqT (k := .i64) (a := ((y242.1.length : Nat) : Int)) (b := 4) un3 rfl rfl hc342) ?_
        refine WE.take 7 rfl (by decide +kernel) (by decide +kernel) (by decide +kernel) (by decide +kernel) rfl rfl (fun wq hq => R.pickF (v := Value.bool true) rfl rfl) ?_
        refine WE.take 8 rfl (by decide +kernel) (by decide +kernel) (by decide +kernel) (by decide +kernel) rfl rfl (fun wq hq => R.move (v := Value.bool true) rfl) ?_
        refine WE.takeN 9 (e := 48) (v := .bool true) rfl (by decide +kernel) (by decide +kernel) (by decide +kernel) (by decide +kernel) rfl rfl rfl rfl rfl ?_
        refine WE.takeN 10 (e := 48) (v := .bool true) rfl (by decide +kernel) (by decide +kernel) (by decide +kernel) (by decide +kernel) rfl rfl rfl rfl rfl ?_
        refine WE.takeN 11 (e := 48) (v := .bool true) rfl (by decide +kernel) (by decide +kernel) (by decide +kernel) (by decide +kernel) rfl rfl rfl rfl rfl ?_
        refine WE.takeN 12 (e := 48) (v := .bool true) rfl (by decide +kernel) (by decide +kernel) (by decide +kernel) (by decide +kernel) rfl rfl rfl rfl rfl ?_
        refine WE.takeN 13 (e := 48) (v := .bool true) rfl (by decide +kernel) (by decide +kernel) (by decide +kernel) (by decide +kernel) rfl rfl rfl rfl rfl ?_
        refine WE.takeN 14 (e := 48) (v := .bool true) rfl (by decide +kernel) (by decide +kernel) (by decide +kernel) (by decide +kernel) rfl rfl rfl rfl rfl ?_
        refine WE.takeN 15 (e := 48) (v := .bool true) rfl (by decide +kernel) (by decide +kernel) (by decide +kernel) (by decide +kernel) rfl rfl rfl rfl rfl ?_
        refine WE.take 16 rfl (by decide +kernel) (by decide +kernel) (by decide +kernel) (by decide +kernel) rfl rfl (fun wq hq => R.pickT (v := Value.bool true) rfl rfl) ?_
        refine WE.take 17 rfl (by decide +kernel) (by decide +kernel) (by decide +kernel) (by decide +kernel) rfl rfl (fun wq hq => R.move (v := Value.bool true) rfl) ?_
        refine WE.takeN 18 (e := 57) (v := .bool true) rfl (by decide +kernel) (by decide +kernel) (by decide +kernel) (by decide +kernel) rfl rfl rfl rfl rfl ?_
        refine WE.takeN 19 (e := 57) (v := .bool true) rfl (by decide +kernel) (by decide +kernel) (by decide +kernel) (by decide +kernel) rfl rfl rfl rfl rfl ?_
        refine WE.takeN 20 (e := 57) (v := .bool true) rfl (by decide +kernel) (by decide +kernel) (by decide +kernel) (by decide +kernel) rfl rfl rfl rfl rfl ?_
        refine WE.takeN 21 (e := 57) (v := .bool true) rfl (by decide +kernel) (by decide +kernel) (by decide +kernel) (by decide +kernel) rfl rfl rfl rfl rfl ?_
        refine WE.take 22 rfl (by decide +kernel) (by decide +kernel) (by decide +kernel) (by decide +kernel) rfl rfl (fun wq hq => R.pickT (v := Value.bool true) rfl rfl) ?_
        refine WE.take 23 rfl (by decide +kernel) (by decide +kernel) (by decide +kernel) (by decide +kernel) rfl rfl (fun wq hq => R.move (v := Value.bool true) rfl) ?_
        refine WE.takeN 24 (e := 63) (v := .bool true) rfl (by decide +kernel) (by decide +kernel) (by decide +kernel) (by decide +kernel) rfl rfl rfl rfl rfl ?_
        refine WE.takeN 25 (e := 63) (v := .bool true) rfl (by decide +kernel) (by decide +kernel) (by decide +kernel) (by decide +kernel) rfl rfl rfl rfl rfl ?_
        refine WE.takeN 26 (e := 63) (v := .bool true) rfl (by decide +kernel) (by decide +kernel) (by decide +kernel) (by decide +kernel) rfl rfl rfl rfl rfl ?_
        refine WE.takeN 27 (e := 63) (v := .bool true) rfl (by decide +kernel) (by decide +kernel) (by decide +kernel) (by decide +kernel) rfl rfl rfl rfl rfl ?_
        refine WE.takeN 28 (e := 63) (v := .bool true) rfl (by decide +kernel) (by decide +kernel) (by decide +kernel) (by decide +kernel) rfl rfl rfl rfl rfl ?_
        refine WE.take 29 rfl (by decide +kernel) (by decide +kernel) (by decide +kernel) (by decide +kernel) rfl rfl (fun wq hq => R.pickT (v := Value.bool true) rfl rfl) ?_
        refine WE.take 30 rfl (by decide +kernel) (by decide +kernel) (by decide +kernel) (by decide +kernel) rfl rfl (fun wq hq => R.move (v := Value.bool true) rfl) ?_
        refine WE.takeN 31 (e := 70) (v := .bool true) rfl (by decide +kernel) (by decide +kernel) (by decide +kernel) (by decide +kernel) rfl rfl rfl rfl rfl ?_
        refine WE.takeN 32 (e := 70) (v := .bool true) rfl (by decide +kernel) (by decide +kernel) (by decide +kernel) (by decide +kernel) rfl rfl rfl rfl rfl ?_
        refine WE.takeN 33 (e := 70) (v := .bool true) rfl (by decide +kernel) (by decide +kernel) (by decide +kernel) (by decide +kernel) rfl rfl rfl rfl rfl ?_
        refine WE.takeN 34 (e := 70) (v := .bool true) rfl (by decide +kernel) (by decide +kernel) (by decide +kernel) (by decide +kernel) rfl rfl rfl rfl rfl ?_
        refine WE.take 35 rfl (by decide +kernel) (by decide +kernel) (by decide +kernel) (by decide +kernel) rfl rfl (fun wq hq => R.pickT (v := Value.bool true) rfl rfl) ?_
        refine WE.done (by decide +kernel) ?_
        refine thenN ?_
        refine WC.condT rfl rfl ?_
        refine WC.seq ?_
        refine WC.region ?_
        refine WL.val (R.assign (v := Value.bool false) rfl) rfl ?_
        refine WL.nil ?_
        refine thenN ?_
        refine WC.ret ?_
        have ht608 := (hs339.here).perm (L' := []) (G := [laneE g294 y290.2.2, blk b146 62 ((Value.bool true) :: ((encC (⟨7, Cl.zero.offer, Cl.zero.report, Cl.zero.view⟩ : Cl)) ++ ((Value.slice (some ⟨b138, 0, none⟩) ((List.replicate (4 : Int).toNat Hd.none).length) ((4 : Int).toNat)) :: []))), blk b167 25 [Value.slice (some ⟨b157, 0, none⟩) (([(⟨true, (⟨7, Cl.zero.offer, Cl.zero.report, Cl.zero.view⟩ : Cl), List.replicate (4 : Int).toNat Hd.none⟩ : Rw)]).length) 1], blk b267 25 [Value.slice a250 y242.1.length c251], blk b275 25 [Value.slice a252 y242.2.1.length c253], blk b316 25 [Value.slice a299 y290.1.length c300], blk b324 25 [Value.slice a301 y290.2.1.length c302]]) ((List.Perm.refl _))
        have hs609 := hs339.trans ht608
        obtain rfl := Option.some.inj (show some false = some r from h607)
        exact ret1 (P := Try.prog) (n := 118) (fn := Try.f77) (R := fun v w' => v = Value.bool false ∧ St [] w w' []) (t := 0) (v := Value.bool false) rfl rfl rfl ⟨rfl, hs609⟩
    · have h610 := ifF hc340 h292
      refine WE.take 1 rfl (by decide +kernel) (by decide +kernel) (by decide +kernel) (by decide +kernel) rfl rfl (fun wq hq => R.neqT (k := .i64) (a := y101.2) (b := 0) un66 rfl rfl hc340) ?_
      refine WE.take 2 rfl (by decide +kernel) (by decide +kernel) (by decide +kernel) (by decide +kernel) rfl rfl (fun wq hq => R.move (v := Value.bool true) rfl) ?_
      refine WE.takeN 3 (e := 42) (v := .bool true) rfl (by decide +kernel) (by decide +kernel) (by decide +kernel) (by decide +kernel) rfl rfl rfl rfl rfl ?_
      refine WE.takeN 4 (e := 42) (v := .bool true) rfl (by decide +kernel) (by decide +kernel) (by decide +kernel) (by decide +kernel) rfl rfl rfl rfl rfl ?_
      refine WE.takeN 5 (e := 42) (v := .bool true) rfl (by decide +kernel) (by decide +kernel) (by decide +kernel) (by decide +kernel) rfl rfl rfl rfl rfl ?_
      refine WE.takeN 6 (e := 42) (v := .bool true) rfl (by decide +kernel) (by decide +kernel) (by decide +kernel) (by decide +kernel) rfl rfl rfl rfl rfl ?_
      refine WE.take 7 rfl (by decide +kernel) (by decide +kernel) (by decide +kernel) (by decide +kernel) rfl rfl (fun wq hq => R.pickT (v := Value.bool true) rfl rfl) ?_
      refine WE.take 8 rfl (by decide +kernel) (by decide +kernel) (by decide +kernel) (by decide +kernel) rfl rfl (fun wq hq => R.move (v := Value.bool true) rfl) ?_
      refine WE.takeN 9 (e := 48) (v := .bool true) rfl (by decide +kernel) (by decide +kernel) (by decide +kernel) (by decide +kernel) rfl rfl rfl rfl rfl ?_
      refine WE.takeN 10 (e := 48) (v := .bool true) rfl (by decide +kernel) (by decide +kernel) (by decide +kernel) (by decide +kernel) rfl rfl rfl rfl rfl ?_
      refine WE.takeN 11 (e := 48) (v := .bool true) rfl (by decide +kernel) (by decide +kernel) (by decide +kernel) (by decide +kernel) rfl rfl rfl rfl rfl ?_
      refine WE.takeN 12 (e := 48) (v := .bool true) rfl (by decide +kernel) (by decide +kernel) (by decide +kernel) (by decide +kernel) rfl rfl rfl rfl rfl ?_
      refine WE.takeN 13 (e := 48) (v := .bool true) rfl (by decide +kernel) (by decide +kernel) (by decide +kernel) (by decide +kernel) rfl rfl rfl rfl rfl ?_
      refine WE.takeN 14 (e := 48) (v := .bool true) rfl (by decide +kernel) (by decide +kernel) (by decide +kernel) (by decide +kernel) rfl rfl rfl rfl rfl ?_
      refine WE.takeN 15 (e := 48) (v := .bool true) rfl (by decide +kernel) (by decide +kernel) (by decide +kernel) (by decide +kernel) rfl rfl rfl rfl rfl ?_
      refine WE.take 16 rfl (by decide +kernel) (by decide +kernel) (by decide +kernel) (by decide +kernel) rfl rfl (fun wq hq => R.pickT (v := Value.bool true) rfl rfl) ?_
      refine WE.take 17 rfl (by decide +kernel) (by decide +kernel) (by decide +kernel) (by decide +kernel) rfl rfl (fun wq hq => R.move (v := Value.bool true) rfl) ?_
      refine WE.takeN 18 (e := 57) (v := .bool true) rfl (by decide +kernel) (by decide +kernel) (by decide +kernel) (by decide +kernel) rfl rfl rfl rfl rfl ?_
      refine WE.takeN 19 (e := 57) (v := .bool true) rfl (by decide +kernel) (by decide +kernel) (by decide +kernel) (by decide +kernel) rfl rfl rfl rfl rfl ?_
      refine WE.takeN 20 (e := 57) (v := .bool true) rfl (by decide +kernel) (by decide +kernel) (by decide +kernel) (by decide +kernel) rfl rfl rfl rfl rfl ?_
      refine WE.takeN 21 (e := 57) (v := .bool true) rfl (by decide +kernel) (by decide +kernel) (by decide +kernel) (by decide +kernel) rfl rfl rfl rfl rfl ?_
      refine WE.take 22 rfl (by decide +kernel) (by decide +kernel) (by decide +kernel) (by decide +kernel) rfl rfl (fun wq hq => R.pickT (v := Value.bool true) rfl rfl) ?_
      refine WE.take 23 rfl (by decide +kernel) (by decide +kernel) (by decide +kernel) (by decide +kernel) rfl rfl (fun wq hq => R.move (v := Value.bool true) rfl) ?_
      refine WE.takeN 24 (e := 63) (v := .bool true) rfl (by decide +kernel) (by decide +kernel) (by decide +kernel) (by decide +kernel) rfl rfl rfl rfl rfl ?_
      refine WE.takeN 25 (e := 63) (v := .bool true) rfl (by decide +kernel) (by decide +kernel) (by decide +kernel) (by decide +kernel) rfl rfl rfl rfl rfl ?_
      refine WE.takeN 26 (e := 63) (v := .bool true) rfl (by decide +kernel) (by decide +kernel) (by decide +kernel) (by decide +kernel) rfl rfl rfl rfl rfl ?_
      refine WE.takeN 27 (e := 63) (v := .bool true) rfl (by decide +kernel) (by decide +kernel) (by decide +kernel) (by decide +kernel) rfl rfl rfl rfl rfl ?_
      refine WE.takeN 28 (e := 63) (v := .bool true) rfl (by decide +kernel) (by decide +kernel) (by decide +kernel) (by decide +kernel) rfl rfl rfl rfl rfl ?_
      refine WE.take 29 rfl (by decide +kernel) (by decide +kernel) (by decide +kernel) (by decide +kernel) rfl rfl (fun wq hq => R.pickT (v := Value.bool true) rfl rfl) ?_
      refine WE.take 30 rfl (by decide +kernel) (by decide +kernel) (by decide +kernel) (by decide +kernel) rfl rfl (fun wq hq => R.move (v := Value.bool true) rfl) ?_
      refine WE.takeN 31 (e := 70) (v := .bool true) rfl (by decide +kernel) (by decide +kernel) (by decide +kernel) (by decide +kernel) rfl rfl rfl rfl rfl ?_
      refine WE.takeN 32 (e := 70) (v := .bool true) rfl (by decide +kernel) (by decide +kernel) (by decide +kernel) (by decide +kernel) rfl rfl rfl rfl rfl ?_
      refine WE.takeN 33 (e := 70) (v := .bool true) rfl (by decide +kernel) (by decide +kernel) (by decide +kernel) (by decide +kernel) rfl rfl rfl rfl rfl ?_
      refine WE.takeN 34 (e := 70) (v := .bool true) rfl (by decide +kernel) (by decide +kernel) (by decide +kernel) (by decide +kernel) rfl rfl rfl rfl rfl ?_
      refine WE.take 35 rfl (by decide +kernel) (by decide +kernel) (by decide +kernel) (by decide +kernel) rfl rfl (fun wq hq => R.pickT (v := Value.bool true) rfl rfl) ?_
      refine WE.done (by decide +kernel) ?_
      refine thenN ?_
      refine WC.condT rfl rfl ?_
      refine WC.seq ?_
      refine WC.region ?_
      refine WL.val (R.assign (v := Value.bool false) rfl) rfl ?_
      refine WL.nil ?_
      refine thenN ?_
      refine WC.ret ?_
      have ht611 := (hs339.here).perm (L' := []) (G := [laneE g294 y290.2.2, blk b146 62 ((Value.bool true) :: ((encC (⟨7, Cl.zero.offer, Cl.zero.report, Cl.zero.view⟩ : Cl)) ++ ((Value.slice (some ⟨b138, 0, none⟩) ((List.replicate (4 : Int).toNat Hd.none).length) ((4 : Int).toNat)) :: []))), blk b167 25 [Value.slice (some ⟨b157, 0, none⟩) (([(⟨true, (⟨7, Cl.zero.offer, Cl.zero.report, Cl.zero.view⟩ : Cl), List.replicate (4 : Int).toNat Hd.none⟩ : Rw)]).length) 1], blk b267 25 [Value.slice a250 y242.1.length c251], blk b275 25 [Value.slice a252 y242.2.1.length c253], blk b316 25 [Value.slice a299 y290.1.length c300], blk b324 25 [Value.slice a301 y290.2.1.length c302]]) ((List.Perm.refl _))
      have hs612 := hs339.trans ht611
      obtain rfl := Option.some.inj (show some false = some r from h610)
      exact ret1 (P := Try.prog) (n := 118) (fn := Try.f77) (R := fun v w' => v = Value.bool false ∧ St [] w w' []) (t := 0) (v := Value.bool false) rfl rfl rfl ⟨rfl, hs612⟩

theorem great14_ok (w : World) (ok : Nat → Prop) (p0 : List (((List Rw) × (List Rw) × (List Rw) × (List Rw)) × Rw × Int)) (a0 : Option Addr) (c0 : Nat) (he0 : elems (pairK (pairK (slW rowW) (pairK (slW rowW) (pairK (slW rowW) (slW rowW)))) (pairK rowW (intW .u8))) w ok a0 p0) (hc0 : p0.length ≤ c0) {r : Bool} (h : great14 p0 = some r) :
    Ret Try.prog 76 [Value.slice a0 p0.length c0] w (fun v w' => v = Value.bool r ∧ St [] w w' []) := by
  rw [great14] at h
  have hs100 : St [] w w [] := St.start w
  have he1000 := el0 (L0 := []) (fun b _ => out_nil b) he0
  refine enter (n := 94) Try.func76 rfl rfl rfl ?_
  refine WC.seq ?_
  refine WC.region ?_
  refine WL.val (R.assign (v := Value.bool false) rfl) rfl ?_
  refine WL.nil ?_
  refine thenN ?_
  refine WC.seq ?_
  refine WC.seq ?_
  refine WC.region ?_
  refine WL.val (R.move (v := Value.slice a0 p0.length c0) rfl) rfl ?_
  refine WL.val (R.len (a := a0) (n := p0.length) (c := c0) un149 rfl) rfl ?_
  by_cases hc102 : 40 < ((p0.length : Nat) : Int)
  · have h103 := ifT hc102 h
    refine WL.val (R.gtrT (k := .i64) (a := ((p0.length : Nat) : Int)) (b := 40) un3 rfl rfl hc102) rfl ?_
    refine WL.nil ?_
    refine thenN ?_
    refine WC.condT rfl rfl ?_
    refine WC.seq ?_
    refine WC.region ?_
    refine WL.val (R.assign (v := Value.bool true) rfl) rfl ?_
    refine WL.nil ?_
    refine thenN ?_
    refine WC.ret ?_
    obtain rfl := Option.some.inj (show some true = some r from h103)
    exact ret1 (P := Try.prog) (n := 94) (fn := Try.f76) (R := fun v w' => v = Value.bool true ∧ St [] w w' []) (t := 2) (v := Value.bool true) rfl rfl rfl ⟨rfl, hs100⟩
  · have h104 := ifF hc102 h
    refine WL.val (R.gtrF (k := .i64) (a := ((p0.length : Nat) : Int)) (b := 40) un3 rfl rfl hc102) rfl ?_
    refine WL.nil ?_
    refine thenN ?_
    refine WC.condF rfl rfl ?_
    refine WC.skip ?_
    refine thenN ?_
    refine WC.seq ?_
    refine WC.region ?_
    refine WL.val (R.assign (v := Value.int .i64 0) rfl) rfl ?_
    refine WL.nil ?_
    refine thenN ?_
    refine WC.seq ?_
    refine WC.seq ?_
    refine WC.region ?_
    refine WL.val (R.assign (v := Value.int .i64 0) rfl) rfl ?_
    refine WL.nil ?_
    refine thenN ?_
    obtain ⟨K2213, hK2214, h2215⟩ := kE (G := fun K2213 => great14_l1 p0 K2213 1000000 0 0) h104
    refine WC.join (fun σ2222 w2221 => ∃ i2212 : Int, σ2222 3 = (Value.int .i64 i2212) ∧ K2213 i2212 = some r ∧ St [] w w2221 []) ?_ ?_
    · refine WC.block ?_
      refine WC.loop (T := Nat) (fun k2219 σ2217 w2216 => ∃ i2210 : Int, ∃ i2211 : Int, σ2217 0 = (Value.slice a0 p0.length c0) ∧ σ2217 3 = (Value.int .i64 i2210) ∧ σ2217 4 = (Value.int .i64 i2211) ∧ elems (pairK (pairK (slW rowW) (pairK (slW rowW) (pairK (slW rowW) (slW rowW)))) (pairK rowW (intW .u8))) w2216 (In ok w [] []) a0 p0 ∧ great14_l1 p0 K2213 k2219 i2210 i2211 = some r ∧ St [] w w2216 []) (fun k2219 => k2219) 1000000 ⟨0, 0, rfl, rfl, rfl, he1000, h2215, hs100⟩ ?_
      rintro k2219 σ2217 w2216 ⟨i2210, i2211, s2225, s2226, s2227, he2220, h2224, hs2218⟩
      rcases k2219 with _ | k2219
      · rw [great14_l1] at h2224; cases h2224
      rw [great14_l1] at h2224
      refine WC.seq ?_
      refine WC.seq ?_
      refine WC.region ?_
      refine WL.val (R.move (v := Value.int .i64 i2211) (by exact s2227)) rfl ?_
      refine WL.val (R.move (v := Value.slice a0 p0.length c0) (by exact s2225)) rfl ?_
      refine WL.val (R.len (a := a0) (n := p0.length) (c := c0) un149 rfl) rfl ?_
      by_cases hc2228 : i2211 < ((p0.length : Nat) : Int)
      · have h2229 := ifT hc2228 h2224
        refine WL.val (R.lssT (k := .i64) (a := i2211) (b := ((p0.length : Nat) : Int)) un3 rfl rfl hc2228) rfl ?_
        refine WL.nil ?_
        refine thenN ?_
        refine WC.condT rfl rfl ?_
        refine WC.skip ?_
        refine thenN ?_
        refine WC.seq ?_
        refine WC.block ?_
        refine WC.seq ?_
        refine WC.drawE mixed (NP.then (NP.block (NP.then (NP.then (NP.block (NP.join (NP.then NP.rq))))))) ?_
        have ht2230 := (hs2218.here).ext (Ext.drew _)
        have hs2231 := hs2218.trans ht2230
        refine WE.take 0 rfl (by decide +kernel) (by decide +kernel) (by decide +kernel) (by decide +kernel) rfl rfl (fun wq hq => R.move (v := Value.slice a0 p0.length c0) (by exact s2225)) ?_
        refine WE.take 1 rfl (by decide +kernel) (by decide +kernel) (by decide +kernel) (by decide +kernel) rfl rfl (fun wq hq => R.move (v := Value.int .i64 i2211) (by exact s2227)) ?_
        obtain ⟨x2232, hx2233, h2234⟩ := ob (o := rd p0 i2211) h2229
        obtain ⟨h02235, hx2236, hl2237, hm2238⟩ := rdE hx2233
        have hr2239 := elT ht2230 he2220
        obtain ⟨ad2240, e2245, ha2241, hp2242, hat2243, hrd2244⟩ := hr2239 _ _ hx2236
        obtain ⟨cs2246, cs2247, rfl, hp2248, hp2249⟩ := hrd2244
        obtain ⟨cs2250, cs2251, rfl, hp2252, hp2253⟩ := hp2249
        obtain ⟨cs2254, cs2255, rfl, hp2256, hp2257⟩ := hp2248
        obtain ⟨cs2258, cs2259, rfl, hp2260, hp2261⟩ := hp2257
        obtain ⟨cs2262, cs2263, rfl, hp2264, hp2265⟩ := hp2261
        obtain ⟨a2266, c2267, rfl, hl2268, he2269⟩ := hp2256
        obtain ⟨a2271, c2272, rfl, hl2273, he2274⟩ := hp2260
        obtain ⟨a2276, c2277, rfl, hl2278, he2279⟩ := hp2264
        obtain ⟨a2281, c2282, rfl, hl2283, he2284⟩ := hp2265
        obtain ⟨t2286, rfl, a2288, c2289, he2292, hl2290, he2291⟩ := hp2252
        cases he2292
        obtain ⟨-, rfl⟩ := hp2253
        refine WE.take 2 rfl (by decide +kernel) (by decide +kernel) (by decide +kernel) (by decide +kernel) rfl rfl (fun wq hq => R.indexS (n := 62) (m := (i2211).toNat) (a := a0) (ad := ad2240) (len := p0.length) (cap := c0) (z := i2211) un149 ag160.size rfl ha2241 rfl hm2238 hl2237 hp2242) ?_
        refine WE.take 3 rfl (by decide +kernel) (by decide +kernel) (by decide +kernel) (by decide +kernel) rfl rfl (fun wq hq => R.fieldAddr (o := ad2240.off + (i2211).toNat * 62) (o' := ad2240.off + (i2211).toNat * 62) fa160_0 rfl rfl) ?_
        refine WE.take 4 rfl (by decide +kernel) (by decide +kernel) (by decide +kernel) (by decide +kernel) rfl rfl (fun wq hq => R.fieldAddr (o := ad2240.off + (i2211).toNat * 62) (o' := ad2240.off + (i2211).toNat * 62) fa158_0 rfl rfl) ?_
        refine WE.take 5 rfl (by decide +kernel) (by decide +kernel) (by decide +kernel) (by decide +kernel) rfl rfl (fun wq hq => R.loadA (cs := [Value.slice a2266 x2232.1.1.length c2267]) (n := 1) ag25 rfl (At.sub (a := ⟨ad2240.block, ad2240.off + (i2211).toNat * 62, none⟩) (off := 0) (n := 1) (cs := [Value.slice a2266 x2232.1.1.length c2267, Value.slice a2271 x2232.1.2.1.length c2272, Value.slice a2276 x2232.1.2.2.1.length c2277, Value.slice a2281 x2232.1.2.2.2.length c2282] ++ ((encR x2232.2.1 (Value.slice a2288 x2232.2.1.table.length c2289)) ++ ((Value.int .u8 x2232.2.2) :: []))) (ds := [Value.slice a2266 x2232.1.1.length c2267]) (At.exT hq hat2243) rfl rfl) rfl) ?_
        refine WE.take 6 rfl (by decide +kernel) (by decide +kernel) (by decide +kernel) (by decide +kernel) rfl rfl (fun wq hq => R.move (v := Value.slice a0 p0.length c0) (by exact s2225)) ?_
        refine WE.take 7 rfl (by decide +kernel) (by decide +kernel) (by decide +kernel) (by decide +kernel) rfl rfl (fun wq hq => R.move (v := Value.int .i64 i2211) (by exact s2227)) ?_
        refine WE.take 8 rfl (by decide +kernel) (by decide +kernel) (by decide +kernel) (by decide +kernel) rfl rfl (fun wq hq => R.indexS (n := 62) (m := (i2211).toNat) (a := a0) (ad := ad2240) (len := p0.length) (cap := c0) (z := i2211) un149 ag160.size rfl ha2241 rfl hm2238 hl2237 hp2242) ?_
        refine WE.take 9 rfl (by decide +kernel) (by decide +kernel) (by decide +kernel) (by decide +kernel) rfl rfl (fun wq hq => R.fieldAddr (o := ad2240.off + (i2211).toNat * 62) (o' := ad2240.off + (i2211).toNat * 62) fa160_0 rfl rfl) ?_
        refine WE.take 10 rfl (by decide +kernel) (by decide +kernel) (by decide +kernel) (by decide +kernel) rfl rfl (fun wq hq => R.fieldAddr (o := ad2240.off + (i2211).toNat * 62) (o' := ad2240.off + (i2211).toNat * 62 + 1) fa158_1 rfl rfl) ?_
        refine WE.take 11 rfl (by decide +kernel) (by decide +kernel) (by decide +kernel) (by decide +kernel) rfl rfl (fun wq hq => R.loadA (cs := [Value.slice a2271 x2232.1.2.1.length c2272]) (n := 1) ag25 rfl (At.sub (a := ⟨ad2240.block, ad2240.off + (i2211).toNat * 62, none⟩) (off := 1) (n := 1) (cs := [Value.slice a2266 x2232.1.1.length c2267, Value.slice a2271 x2232.1.2.1.length c2272, Value.slice a2276 x2232.1.2.2.1.length c2277, Value.slice a2281 x2232.1.2.2.2.length c2282] ++ ((encR x2232.2.1 (Value.slice a2288 x2232.2.1.table.length c2289)) ++ ((Value.int .u8 x2232.2.2) :: []))) (ds := [Value.slice a2271 x2232.1.2.1.length c2272]) (At.exT hq hat2243) rfl rfl) rfl) ?_
        refine WE.take 12 rfl (by decide +kernel) (by decide +kernel) (by decide +kernel) (by decide +kernel) rfl rfl (fun wq hq => R.move (v := Value.slice a0 p0.length c0) (by exact s2225)) ?_
        refine WE.take 13 rfl (by decide +kernel) (by decide +kernel) (by decide +kernel) (by decide +kernel) rfl rfl (fun wq hq => R.move (v := Value.int .i64 i2211) (by exact s2227)) ?_
        refine WE.take 14 rfl (by decide +kernel) (by decide +kernel) (by decide +kernel) (by decide +kernel) rfl rfl (fun wq hq => R.indexS (n := 62) (m := (i2211).toNat) (a := a0) (ad := ad2240) (len := p0.length) (cap := c0) (z := i2211) un149 ag160.size rfl ha2241 rfl hm2238 hl2237 hp2242) ?_
        refine WE.take 15 rfl (by decide +kernel) (by decide +kernel) (by decide +kernel) (by decide +kernel) rfl rfl (fun wq hq => R.fieldAddr (o := ad2240.off + (i2211).toNat * 62) (o' := ad2240.off + (i2211).toNat * 62) fa160_0 rfl rfl) ?_
        refine WE.take 16 rfl (by decide +kernel) (by decide +kernel) (by decide +kernel) (by decide +kernel) rfl rfl (fun wq hq => R.fieldAddr (o := ad2240.off + (i2211).toNat * 62) (o' := ad2240.off + (i2211).toNat * 62 + 2) fa158_2 rfl rfl) ?_
        refine WE.take 17 rfl (by decide +kernel) (by decide +kernel) (by decide +kernel) (by decide +kernel) rfl rfl (fun wq hq => R.loadA (cs := [Value.slice a2276 x2232.1.2.2.1.length c2277]) (n := 1) ag25 rfl (At.sub (a := ⟨ad2240.block, ad2240.off + (i2211).toNat * 62, none⟩) (off := 2) (n := 1) (cs := [Value.slice a2266 x2232.1.1.length c2267, Value.slice a2271 x2232.1.2.1.length c2272, Value.slice a2276 x2232.1.2.2.1.length c2277, Value.slice a2281 x2232.1.2.2.2.length c2282] ++ ((encR x2232.2.1 (Value.slice a2288 x2232.2.1.table.length c2289)) ++ ((Value.int .u8 x2232.2.2) :: []))) (ds := [Value.slice a2276 x2232.1.2.2.1.length c2277]) (At.exT hq hat2243) rfl rfl) rfl) ?_
        refine WE.take 18 rfl (by decide +kernel) (by decide +kernel) (by decide +kernel) (by decide +kernel) rfl rfl (fun wq hq => R.move (v := Value.slice a0 p0.length c0) (by exact s2225)) ?_
        refine WE.take 19 rfl (by decide +kernel) (by decide +kernel) (by decide +kernel) (by decide +kernel) rfl rfl (fun wq hq => R.move (v := Value.int .i64 i2211) (by exact s2227)) ?_
        refine WE.take 20 rfl (by decide +kernel) (by decide +kernel) (by decide +kernel) (by decide +kernel) rfl rfl (fun wq hq => R.indexS (n := 62) (m := (i2211).toNat) (a := a0) (ad := ad2240) (len := p0.length) (cap := c0) (z := i2211) un149 ag160.size rfl ha2241 rfl hm2238 hl2237 hp2242) ?_
        refine WE.take 21 rfl (by decide +kernel) (by decide +kernel) (by decide +kernel) (by decide +kernel) rfl rfl (fun wq hq => R.fieldAddr (o := ad2240.off + (i2211).toNat * 62) (o' := ad2240.off + (i2211).toNat * 62) fa160_0 rfl rfl) ?_
        refine WE.take 22 rfl (by decide +kernel) (by decide +kernel) (by decide +kernel) (by decide +kernel) rfl rfl (fun wq hq => R.fieldAddr (o := ad2240.off + (i2211).toNat * 62) (o' := ad2240.off + (i2211).toNat * 62 + 3) fa158_3 rfl rfl) ?_
        refine WE.take 23 rfl (by decide +kernel) (by decide +kernel) (by decide +kernel) (by decide +kernel) rfl rfl (fun wq hq => R.loadA (cs := [Value.slice a2281 x2232.1.2.2.2.length c2282]) (n := 1) ag25 rfl (At.sub (a := ⟨ad2240.block, ad2240.off + (i2211).toNat * 62, none⟩) (off := 3) (n := 1) (cs := [Value.slice a2266 x2232.1.1.length c2267, Value.slice a2271 x2232.1.2.1.length c2272, Value.slice a2276 x2232.1.2.2.1.length c2277, Value.slice a2281 x2232.1.2.2.2.length c2282] ++ ((encR x2232.2.1 (Value.slice a2288 x2232.2.1.table.length c2289)) ++ ((Value.int .u8 x2232.2.2) :: []))) (ds := [Value.slice a2281 x2232.1.2.2.2.length c2282]) (At.exT hq hat2243) rfl rfl) rfl) ?_
        refine WE.take 24 rfl (by decide +kernel) (by decide +kernel) (by decide +kernel) (by decide +kernel) rfl rfl (fun wq hq => R.move (v := Value.slice a0 p0.length c0) (by exact s2225)) ?_
        refine WE.take 25 rfl (by decide +kernel) (by decide +kernel) (by decide +kernel) (by decide +kernel) rfl rfl (fun wq hq => R.move (v := Value.int .i64 i2211) (by exact s2227)) ?_
        refine WE.take 26 rfl (by decide +kernel) (by decide +kernel) (by decide +kernel) (by decide +kernel) rfl rfl (fun wq hq => R.indexS (n := 62) (m := (i2211).toNat) (a := a0) (ad := ad2240) (len := p0.length) (cap := c0) (z := i2211) un149 ag160.size rfl ha2241 rfl hm2238 hl2237 hp2242) ?_
        refine WE.take 27 rfl (by decide +kernel) (by decide +kernel) (by decide +kernel) (by decide +kernel) rfl rfl (fun wq hq => R.fieldAddr (o := ad2240.off + (i2211).toNat * 62) (o' := ad2240.off + (i2211).toNat * 62 + 4) fa160_1 rfl rfl) ?_
        refine WE.take 28 rfl (by decide +kernel) (by decide +kernel) (by decide +kernel) (by decide +kernel) rfl rfl (fun wq hq => R.loadA (cs := encR x2232.2.1 (Value.slice a2288 x2232.2.1.table.length c2289)) (n := 57) ag62 rfl (At.sub (a := ⟨ad2240.block, ad2240.off + (i2211).toNat * 62, none⟩) (off := 4) (n := 57) (cs := [Value.slice a2266 x2232.1.1.length c2267, Value.slice a2271 x2232.1.2.1.length c2272, Value.slice a2276 x2232.1.2.2.1.length c2277, Value.slice a2281 x2232.1.2.2.2.length c2282] ++ ((encR x2232.2.1 (Value.slice a2288 x2232.2.1.table.length c2289)) ++ ((Value.int .u8 x2232.2.2) :: []))) (ds := encR x2232.2.1 (Value.slice a2288 x2232.2.1.table.length c2289)) (At.exT hq hat2243) rfl rfl) rfl) ?_
        have hd2300 : ∀ w : World, (Instr.buildSlice 22 1 #[(0, Value.agg (List.toArray (encR x2232.2.1 (Value.slice a2288 x2232.2.1.table.length c2289))))]).run Try.prog w = .ok (.slice (some ⟨w.heap.size, 0, none⟩) 1 1) { w with heap := w.heap.push (.cells (List.toArray (encR x2232.2.1 (Value.slice a2288 x2232.2.1.table.length c2289))) 62) } := fun _ => by kernel_rfl
        refine WE.new (L' := fun b2295 => [blk b2295 62 (encR x2232.2.1 (Value.slice a2288 x2232.2.1.table.length c2289))]) (f := fun b2295 => Value.slice (some ⟨b2295, 0, none⟩) 1 1) 29 (by decide +kernel) rfl rfl rfl (X.buildSlice (c := (encR x2232.2.1 (Value.slice a2288 x2232.2.1.table.length c2289))) (vs := [(0, Value.agg (List.toArray (encR x2232.2.1 (Value.slice a2288 x2232.2.1.table.length c2289))))]) (hs2231.here) rfl hd2300 (fun _ => rfl)) ?_
        intro b2295 w2296 ht2302 he2298 hz2299
        have hs2303 := hs2231.trans ht2302
        have hd2304 : ∀ w, (Instr.build 25 #[(0, Value.slice (some ⟨b2295, 0, none⟩) 1 1)]).run Try.prog w = .ok (Value.agg (List.toArray [Value.slice (some ⟨b2295, 0, none⟩) 1 1])) w := fun _ => by kernel_rfl
        refine WE.take 30 rfl (by decide +kernel) (by decide +kernel) (by decide +kernel) (by decide +kernel) rfl rfl (fun wq hq => R.build (vs := [(0, Value.slice (some ⟨b2295, 0, none⟩) 1 1)]) rfl hd2304) ?_
        have hd2310 : ∀ w : World, (Instr.buildSlice 241 5 #[(0, Value.agg (List.toArray [Value.slice a2266 x2232.1.1.length c2267])), (1, Value.agg (List.toArray [Value.slice a2271 x2232.1.2.1.length c2272])), (2, Value.agg (List.toArray [Value.slice a2276 x2232.1.2.2.1.length c2277])), (3, Value.agg (List.toArray [Value.slice a2281 x2232.1.2.2.2.length c2282])), (4, Value.agg (List.toArray [Value.slice (some ⟨b2295, 0, none⟩) 1 1]))]).run Try.prog w = .ok (.slice (some ⟨w.heap.size, 0, none⟩) 5 5) { w with heap := w.heap.push (.cells (List.toArray ([Value.slice a2266 x2232.1.1.length c2267] ++ ([Value.slice a2271 x2232.1.2.1.length c2272] ++ ([Value.slice a2276 x2232.1.2.2.1.length c2277] ++ ([Value.slice a2281 x2232.1.2.2.2.length c2282] ++ ([Value.slice (some ⟨b2295, 0, none⟩) 1 1])))))) 25) } := fun _ => by kernel_rfl
        refine WE.new (L' := fun b2305 => [blk b2295 62 (encR x2232.2.1 (Value.slice a2288 x2232.2.1.table.length c2289)), blk b2305 25 ([Value.slice a2266 x2232.1.1.length c2267] ++ ([Value.slice a2271 x2232.1.2.1.length c2272] ++ ([Value.slice a2276 x2232.1.2.2.1.length c2277] ++ ([Value.slice a2281 x2232.1.2.2.2.length c2282] ++ ([Value.slice (some ⟨b2295, 0, none⟩) 1 1])))))]) (f := fun b2305 => Value.slice (some ⟨b2305, 0, none⟩) 5 5) 31 (by decide +kernel) rfl rfl rfl (X.buildSlice (c := [Value.slice a2266 x2232.1.1.length c2267] ++ ([Value.slice a2271 x2232.1.2.1.length c2272] ++ ([Value.slice a2276 x2232.1.2.2.1.length c2277] ++ ([Value.slice a2281 x2232.1.2.2.2.length c2282] ++ ([Value.slice (some ⟨b2295, 0, none⟩) 1 1]))))) (vs := [(0, Value.agg (List.toArray [Value.slice a2266 x2232.1.1.length c2267])), (1, Value.agg (List.toArray [Value.slice a2271 x2232.1.2.1.length c2272])), (2, Value.agg (List.toArray [Value.slice a2276 x2232.1.2.2.1.length c2277])), (3, Value.agg (List.toArray [Value.slice a2281 x2232.1.2.2.2.length c2282])), (4, Value.agg (List.toArray [Value.slice (some ⟨b2295, 0, none⟩) 1 1]))]) (hs2303.here) rfl hd2310 (fun _ => rfl)) ?_
        intro b2305 w2306 ht2312 he2308 hz2309
        have hs2313 := hs2303.trans ht2312
        refine WE.take 32 rfl (by decide +kernel) (by decide +kernel) (by decide +kernel) (by decide +kernel) rfl rfl (fun wq hq => R.assign (v := Value.slice (some ⟨b2305, 0, none⟩) 5 5) rfl) ?_
        refine WE.done (by decide +kernel) ?_
        refine thenN ?_
        refine WC.seq ?_
        refine WC.region ?_
        have hr2316 := elT (ht2302.trans ht2312) he2291
        have hr2317 : readsL rowW w2306 (In ok w [] [blk b2295 62 (encR x2232.2.1 (Value.slice a2288 x2232.2.1.table.length c2289)), blk b2305 25 ([Value.slice a2266 x2232.1.1.length c2267] ++ ([Value.slice a2271 x2232.1.2.1.length c2272] ++ ([Value.slice a2276 x2232.1.2.2.1.length c2277] ++ ([Value.slice a2281 x2232.1.2.2.2.length c2282] ++ ([Value.slice (some ⟨b2295, 0, none⟩) 1 1])))))]) [x2232.2.1] [(⟨encR x2232.2.1 (Value.slice a2288 x2232.2.1.table.length c2289), rfl, rfl⟩ : Raw 57)] := (readsL_cons ⟨_, rfl, ⟨_, _, rfl, hl2290, hr2316⟩⟩ readsL_nil)
        have ht2315 : St [blk b2295 62 (encR x2232.2.1 (Value.slice a2288 x2232.2.1.table.length c2289)), blk b2305 25 ([Value.slice a2266 x2232.1.1.length c2267] ++ ([Value.slice a2271 x2232.1.2.1.length c2272] ++ ([Value.slice a2276 x2232.1.2.2.1.length c2277] ++ ([Value.slice a2281 x2232.1.2.2.2.length c2282] ++ ([Value.slice (some ⟨b2295, 0, none⟩) 1 1])))))] w2306 w2306 [gsl 62 (rawE 57) (Value.slice (some ⟨b2295, 0, none⟩) (([x2232.2.1]).length) 1) [(⟨encR x2232.2.1 (Value.slice a2288 x2232.2.1.table.length c2289), rfl, rfl⟩ : Raw 57)], blk b2305 25 ([Value.slice a2266 x2232.1.1.length c2267] ++ ([Value.slice a2271 x2232.1.2.1.length c2272] ++ ([Value.slice a2276 x2232.1.2.2.1.length c2277] ++ ([Value.slice a2281 x2232.1.2.2.2.length c2282] ++ ([Value.slice (some ⟨b2295, 0, none⟩) 1 1])))))] := (hs2313.here).conv (i := 0) rfl (arr_gsl (E := 62) (e := (rawE 57)) (xs := [(⟨encR x2232.2.1 (Value.slice a2288 x2232.2.1.table.length c2289), rfl, rfl⟩ : Raw 57)]) (hs2313.heap (i := 0) rfl) (show (1 : Nat) ≤ maxLen from by decide)) (fun b hb => (Option.some.inj hb).symm) rfl
        have hs2319 := hs2313.trans ht2315
        have hr2326 := rlT ht2315 hr2317
        obtain ⟨a2320, c2321, hv2322, hl2323, he2324⟩ := el_freezeR hs2319 (List.Perm.refl _) rfl hr2326
        obtain ⟨rfl, rfl⟩ : (some ⟨b2295, 0, none⟩) = a2320 ∧ 1 = c2321 := ⟨(Value.slice.inj hv2322).1, (Value.slice.inj hv2322).2.2⟩
        have ht2325 := (hs2319.here).perm (L' := [blk b2305 25 ([Value.slice a2266 x2232.1.1.length c2267] ++ ([Value.slice a2271 x2232.1.2.1.length c2272] ++ ([Value.slice a2276 x2232.1.2.2.1.length c2277] ++ ([Value.slice a2281 x2232.1.2.2.2.length c2282] ++ ([Value.slice (some ⟨b2295, 0, none⟩) 1 1])))))]) (G := [gsl 62 (rawE 57) (Value.slice (some ⟨b2295, 0, none⟩) (([x2232.2.1]).length) 1) [(⟨encR x2232.2.1 (Value.slice a2288 x2232.2.1.table.length c2289), rfl, rfl⟩ : Raw 57)]]) (((List.perm_middle (l₁ := [gsl 62 (rawE 57) (Value.slice (some ⟨b2295, 0, none⟩) (([x2232.2.1]).length) 1) [(⟨encR x2232.2.1 (Value.slice a2288 x2232.2.1.table.length c2289), rfl, rfl⟩ : Raw 57)]]) (a := blk b2305 25 ([Value.slice a2266 x2232.1.1.length c2267] ++ ([Value.slice a2271 x2232.1.2.1.length c2272] ++ ([Value.slice a2276 x2232.1.2.2.1.length c2277] ++ ([Value.slice a2281 x2232.1.2.2.2.length c2282] ++ ([Value.slice (some ⟨b2295, 0, none⟩) 1 1])))))) (l₂ := [])).trans (List.Perm.cons _ (List.Perm.refl _))))
        have hs2327 := hs2319.trans ht2325
        have hr2329 := elT (((ht2302.trans ht2312).trans ht2315).trans ht2325) he2284
        have hr2330 := elT (((ht2302.trans ht2312).trans ht2315).trans ht2325) he2279
        have hr2331 := elT (((ht2302.trans ht2312).trans ht2315).trans ht2325) he2274
        have hr2332 := elT (((ht2302.trans ht2312).trans ht2315).trans ht2325) he2269
        have hr2333 : readsL (slW rowW) w2306 (In ok w [] [blk b2305 25 ([Value.slice a2266 x2232.1.1.length c2267] ++ ([Value.slice a2271 x2232.1.2.1.length c2272] ++ ([Value.slice a2276 x2232.1.2.2.1.length c2277] ++ ([Value.slice a2281 x2232.1.2.2.2.length c2282] ++ ([Value.slice (some ⟨b2295, 0, none⟩) 1 1])))))]) [x2232.1.1, x2232.1.2.1, x2232.1.2.2.1, x2232.1.2.2.2, [x2232.2.1]] [(⟨[Value.slice a2266 x2232.1.1.length c2267], rfl, rfl⟩ : Raw 1), (⟨[Value.slice a2271 x2232.1.2.1.length c2272], rfl, rfl⟩ : Raw 1), (⟨[Value.slice a2276 x2232.1.2.2.1.length c2277], rfl, rfl⟩ : Raw 1), (⟨[Value.slice a2281 x2232.1.2.2.2.length c2282], rfl, rfl⟩ : Raw 1), (⟨[Value.slice (some ⟨b2295, 0, none⟩) (([x2232.2.1]).length) 1], rfl, rfl⟩ : Raw 1)] := (readsL_cons ⟨_, _, rfl, hl2268, hr2332⟩ (readsL_cons ⟨_, _, rfl, hl2273, hr2331⟩ (readsL_cons ⟨_, _, rfl, hl2278, hr2330⟩ (readsL_cons ⟨_, _, rfl, hl2283, hr2329⟩ (readsL_cons ⟨_, _, rfl, hl2323, he2324⟩ readsL_nil)))))
        have ht2314 : St [blk b2305 25 ([Value.slice a2266 x2232.1.1.length c2267] ++ ([Value.slice a2271 x2232.1.2.1.length c2272] ++ ([Value.slice a2276 x2232.1.2.2.1.length c2277] ++ ([Value.slice a2281 x2232.1.2.2.2.length c2282] ++ ([Value.slice (some ⟨b2295, 0, none⟩) 1 1])))))] w2306 w2306 [gsl 25 (rawE 1) (Value.slice (some ⟨b2305, 0, none⟩) (([x2232.1.1, x2232.1.2.1, x2232.1.2.2.1, x2232.1.2.2.2, [x2232.2.1]]).length) 5) [(⟨[Value.slice a2266 x2232.1.1.length c2267], rfl, rfl⟩ : Raw 1), (⟨[Value.slice a2271 x2232.1.2.1.length c2272], rfl, rfl⟩ : Raw 1), (⟨[Value.slice a2276 x2232.1.2.2.1.length c2277], rfl, rfl⟩ : Raw 1), (⟨[Value.slice a2281 x2232.1.2.2.2.length c2282], rfl, rfl⟩ : Raw 1), (⟨[Value.slice (some ⟨b2295, 0, none⟩) (([x2232.2.1]).length) 1], rfl, rfl⟩ : Raw 1)]] := (hs2327.here).conv (i := 0) rfl (arr_gsl (E := 25) (e := (rawE 1)) (xs := [(⟨[Value.slice a2266 x2232.1.1.length c2267], rfl, rfl⟩ : Raw 1), (⟨[Value.slice a2271 x2232.1.2.1.length c2272], rfl, rfl⟩ : Raw 1), (⟨[Value.slice a2276 x2232.1.2.2.1.length c2277], rfl, rfl⟩ : Raw 1), (⟨[Value.slice a2281 x2232.1.2.2.2.length c2282], rfl, rfl⟩ : Raw 1), (⟨[Value.slice (some ⟨b2295, 0, none⟩) (([x2232.2.1]).length) 1], rfl, rfl⟩ : Raw 1)]) (hs2327.heap (i := 0) rfl) (show (5 : Nat) ≤ maxLen from by decide)) (fun b hb => (Option.some.inj hb).symm) rfl
        have hs2335 := hs2327.trans ht2314
        refine WL.val (R.assign (v := Value.int .i64 0) rfl) rfl ?_
        refine WL.nil ?_
        refine thenN ?_
        have hr2957 := elT ((((ht2302.trans ht2312).trans ht2315).trans ht2325).trans ht2314) hr2239
        have hr2958 := rlT ht2314 hr2333
        obtain ⟨K2948, hK2949, h2950⟩ := kE (G := fun K2948 => great14_l2 x2232 K2948 1000000 i2210 0) h2234
        refine WC.join (fun σ2960 w2959 => ∃ i2947 : Int, σ2960 0 = (Value.slice a0 p0.length c0) ∧ σ2960 3 = (Value.int .i64 i2947) ∧ σ2960 4 = (Value.int .i64 i2211) ∧ elems (pairK (pairK (slW rowW) (pairK (slW rowW) (pairK (slW rowW) (slW rowW)))) (pairK rowW (intW .u8))) w2959 (In ok w [] []) a0 p0 ∧ K2948 i2947 = some r ∧ St [] w w2959 []) ?_ ?_
        · refine WC.block ?_
          refine WC.loop (T := Nat) (fun k2954 σ2952 w2951 => ∃ i2943 : Int, ∃ i2944 : Int, ∃ a2945, ∃ c2946, σ2952 0 = (Value.slice a0 p0.length c0) ∧ σ2952 3 = (Value.int .i64 i2943) ∧ σ2952 4 = (Value.int .i64 i2211) ∧ σ2952 5 = (Value.slice a2945 ([x2232.1.1, x2232.1.2.1, x2232.1.2.2.1, x2232.1.2.2.2, [x2232.2.1]].length) c2946) ∧ σ2952 6 = (Value.int .i64 i2944) ∧ elems (pairK (pairK (slW rowW) (pairK (slW rowW) (pairK (slW rowW) (slW rowW)))) (pairK rowW (intW .u8))) w2951 (In ok w [] [gsl 25 (rawE 1) (Value.slice a2945 ([x2232.1.1, x2232.1.2.1, x2232.1.2.2.1, x2232.1.2.2.2, [x2232.2.1]].length) c2946) [(⟨[Value.slice a2266 x2232.1.1.length c2267], rfl, rfl⟩ : Raw 1), (⟨[Value.slice a2271 x2232.1.2.1.length c2272], rfl, rfl⟩ : Raw 1), (⟨[Value.slice a2276 x2232.1.2.2.1.length c2277], rfl, rfl⟩ : Raw 1), (⟨[Value.slice a2281 x2232.1.2.2.2.length c2282], rfl, rfl⟩ : Raw 1), (⟨[Value.slice (some ⟨b2295, 0, none⟩) (([x2232.2.1]).length) 1], rfl, rfl⟩ : Raw 1)]]) a0 p0 ∧ readsL (slW rowW) w2951 (In ok w [] [gsl 25 (rawE 1) (Value.slice a2945 ([x2232.1.1, x2232.1.2.1, x2232.1.2.2.1, x2232.1.2.2.2, [x2232.2.1]].length) c2946) [(⟨[Value.slice a2266 x2232.1.1.length c2267], rfl, rfl⟩ : Raw 1), (⟨[Value.slice a2271 x2232.1.2.1.length c2272], rfl, rfl⟩ : Raw 1), (⟨[Value.slice a2276 x2232.1.2.2.1.length c2277], rfl, rfl⟩ : Raw 1), (⟨[Value.slice a2281 x2232.1.2.2.2.length c2282], rfl, rfl⟩ : Raw 1), (⟨[Value.slice (some ⟨b2295, 0, none⟩) (([x2232.2.1]).length) 1], rfl, rfl⟩ : Raw 1)]]) [x2232.1.1, x2232.1.2.1, x2232.1.2.2.1, x2232.1.2.2.2, [x2232.2.1]] [(⟨[Value.slice a2266 x2232.1.1.length c2267], rfl, rfl⟩ : Raw 1), (⟨[Value.slice a2271 x2232.1.2.1.length c2272], rfl, rfl⟩ : Raw 1), (⟨[Value.slice a2276 x2232.1.2.2.1.length c2277], rfl, rfl⟩ : Raw 1), (⟨[Value.slice a2281 x2232.1.2.2.2.length c2282], rfl, rfl⟩ : Raw 1), (⟨[Value.slice (some ⟨b2295, 0, none⟩) (([x2232.2.1]).length) 1], rfl, rfl⟩ : Raw 1)] ∧ great14_l2 x2232 K2948 k2954 i2943 i2944 = some r ∧ St [] w w2951 [gsl 25 (rawE 1) (Value.slice a2945 ([x2232.1.1, x2232.1.2.1, x2232.1.2.2.1, x2232.1.2.2.2, [x2232.2.1]].length) c2946) [(⟨[Value.slice a2266 x2232.1.1.length c2267], rfl, rfl⟩ : Raw 1), (⟨[Value.slice a2271 x2232.1.2.1.length c2272], rfl, rfl⟩ : Raw 1), (⟨[Value.slice a2276 x2232.1.2.2.1.length c2277], rfl, rfl⟩ : Raw 1), (⟨[Value.slice a2281 x2232.1.2.2.2.length c2282], rfl, rfl⟩ : Raw 1), (⟨[Value.slice (some ⟨b2295, 0, none⟩) (([x2232.2.1]).length) 1], rfl, rfl⟩ : Raw 1)]]) (fun k2954 => k2954) 1000000 ⟨i2210, 0, (some ⟨b2305, 0, none⟩), 5, s2225, s2226, s2227, rfl, rfl, hr2957, hr2958, h2950, hs2335⟩ ?_
          rintro k2954 σ2952 w2951 ⟨i2943, i2944, a2945, c2946, s2964, s2965, s2966, s2967, s2968, he2955, hr2956, h2963, hs2953⟩
          rcases k2954 with _ | k2954
          · rw [great14_l2] at h2963; cases h2963
          rw [great14_l2] at h2963
          refine WC.seq ?_
          refine WC.seq ?_
          refine WC.region ?_
          refine WL.val (R.move (v := Value.int .i64 i2944) (by exact s2968)) rfl ?_
          by_cases hc2969 : i2944 < 5
          · have h2970 := ifT hc2969 h2963
            refine WL.val (R.lssT (k := .i64) (a := i2944) (b := 5) un3 rfl rfl hc2969) rfl ?_
            refine WL.nil ?_
            refine thenN ?_
            refine WC.condT rfl rfl ?_
            refine WC.skip ?_
            refine thenN ?_
            refine WC.seq ?_
            refine WC.block ?_
            refine WC.seq ?_
            refine WC.seq ?_
            refine WC.region ?_
            refine WL.val (R.move (v := Value.slice a2945 ([x2232.1.1, x2232.1.2.1, x2232.1.2.2.1, x2232.1.2.2.2, [x2232.2.1]].length) c2946) (by exact s2967)) rfl ?_
            refine WL.val (R.move (v := Value.int .i64 i2944) (by exact s2968)) rfl ?_
            obtain ⟨x2971, hx2972, h2973⟩ := ob (o := rd [x2232.1.1, x2232.1.2.1, x2232.1.2.2.1, x2232.1.2.2.2, [x2232.2.1]] i2944) h2970
            obtain ⟨h02974, hx2975, hl2976, hm2977⟩ := rdE hx2972
            obtain ⟨⟨cs2984, hp2985⟩, hr2982, hk2983⟩ := readsL_at hr2956 hx2975
            obtain ⟨a2986, c2987, rfl, hl2988, he2989⟩ := hk2983
            obtain ⟨b2978, c2979, hv2980, _⟩ := hs2953.gslAt (i := 0) rfl hr2982
            refine WL.val (R.indexS (n := 1) (m := (i2944).toNat) (ad := ⟨b2978, 0, none⟩) (len := ([(⟨[Value.slice a2266 x2232.1.1.length c2267], rfl, rfl⟩ : Raw 1), (⟨[Value.slice a2271 x2232.1.2.1.length c2272], rfl, rfl⟩ : Raw 1), (⟨[Value.slice a2276 x2232.1.2.2.1.length c2277], rfl, rfl⟩ : Raw 1), (⟨[Value.slice a2281 x2232.1.2.2.2.length c2282], rfl, rfl⟩ : Raw 1), (⟨[Value.slice (some ⟨b2295, 0, none⟩) (([x2232.2.1]).length) 1], rfl, rfl⟩ : Raw 1)]).length) (cap := c2979) (z := i2944) un241 ag25.size (Eq.trans (show _ = Value.slice a2945 ([x2232.1.1, x2232.1.2.1, x2232.1.2.2.1, x2232.1.2.2.2, [x2232.2.1]].length) c2946 from rfl) hv2980) rfl rfl hm2977 ((hr2956).1 ▸ hl2976) rfl) rfl ?_
            refine WL.val (R.loadA (cs := [Value.slice a2986 x2971.length c2987]) (n := 1) ag25 rfl (hs2953.gslAtV (i := 0) rfl hr2982 hv2980) rfl) rfl ?_
            obtain ⟨y2991, hx2992, h2993⟩ := ob (o := greatn14 x2971) h2973
            refine WL.call (greatn14_ok _ _ x2971 _ _ he2989 hl2988 hx2992) (R.call (vs := [Value.agg (List.toArray [Value.slice a2986 x2971.length c2987])]) (caps := []) bo30 rfl rfl) rfl ?_
            rintro v2996 w2997 ⟨rfl, ht2994⟩
            have ht2995 := hs2953.call (N := [gsl 25 (rawE 1) (Value.slice a2945 ([x2232.1.1, x2232.1.2.1, x2232.1.2.2.1, x2232.1.2.2.2, [x2232.2.1]].length) c2946) [(⟨[Value.slice a2266 x2232.1.1.length c2267], rfl, rfl⟩ : Raw 1), (⟨[Value.slice a2271 x2232.1.2.1.length c2272], rfl, rfl⟩ : Raw 1), (⟨[Value.slice a2276 x2232.1.2.2.1.length c2277], rfl, rfl⟩ : Raw 1), (⟨[Value.slice a2281 x2232.1.2.2.2.length c2282], rfl, rfl⟩ : Raw 1), (⟨[Value.slice (some ⟨b2295, 0, none⟩) (([x2232.2.1]).length) 1], rfl, rfl⟩ : Raw 1)]]) (M := []) (List.Perm.refl _) ht2994
            have hs2998 := hs2953.trans ht2995
            refine WL.val (R.move (v := Value.bool y2991) rfl) rfl ?_
            by_cases hc2999 : y2991 = true
            · have h3000 := ifT hc2999 h2993
              refine WL.guardN (e := 58) (v := .bool true) (Eq.trans (show _ = Value.bool y2991 from rfl) (congrArg Value.bool hc2999)) rfl rfl rfl ?_
              refine WL.guardN (e := 58) (v := .bool true) (Eq.trans (show _ = Value.bool y2991 from rfl) (congrArg Value.bool hc2999)) rfl rfl rfl ?_
              refine WL.val (R.pickT (v := Value.bool true) (Eq.trans (show _ = Value.bool y2991 from rfl) (congrArg Value.bool hc2999)) rfl) rfl ?_
              refine WL.nil ?_
              refine thenN ?_
              refine WC.condT rfl rfl ?_
              refine WC.seq ?_
              refine WC.region ?_
              refine WL.val (R.assign (v := Value.bool true) rfl) rfl ?_
              refine WL.nil ?_
              refine thenN ?_
              refine WC.ret ?_
              have ht3001 := (hs2998.here).perm (L' := []) (G := [gsl 25 (rawE 1) (Value.slice a2945 ([x2232.1.1, x2232.1.2.1, x2232.1.2.2.1, x2232.1.2.2.2, [x2232.2.1]].length) c2946) [(⟨[Value.slice a2266 x2232.1.1.length c2267], rfl, rfl⟩ : Raw 1), (⟨[Value.slice a2271 x2232.1.2.1.length c2272], rfl, rfl⟩ : Raw 1), (⟨[Value.slice a2276 x2232.1.2.2.1.length c2277], rfl, rfl⟩ : Raw 1), (⟨[Value.slice a2281 x2232.1.2.2.2.length c2282], rfl, rfl⟩ : Raw 1), (⟨[Value.slice (some ⟨b2295, 0, none⟩) (([x2232.2.1]).length) 1], rfl, rfl⟩ : Raw 1)]]) ((List.Perm.refl _))
              have hs3002 := hs2998.trans ht3001
              obtain rfl := Option.some.inj (show some true = some r from h3000)
              exact ret1 (P := Try.prog) (n := 94) (fn := Try.f76) (R := fun v w' => v = Value.bool true ∧ St [] w w' []) (t := 2) (v := Value.bool true) rfl rfl rfl ⟨rfl, hs3002⟩
            · have h3003 := ifF hc2999 h2993
              refine WL.guardY (e := 58) (Eq.trans (show _ = Value.bool y2991 from rfl) (congrArg Value.bool (Bool.eq_false_iff.2 hc2999))) rfl rfl ?_
              refine WL.val (R.move (v := Value.int .i64 i2943) (by exact s2965)) rfl ?_
              refine WL.guardY (e := 58) (Eq.trans (show _ = Value.bool y2991 from rfl) (congrArg Value.bool (Bool.eq_false_iff.2 hc2999))) rfl rfl ?_
              by_cases hc3004 : 6000 < i2943
              · have h3005 := ifT hc3004 h3003
                refine WL.val (R.gtrT (k := .i64) (a := i2943) (b := 6000) un3 rfl rfl hc3004) rfl ?_
                refine WL.val (R.pickF (v := Value.bool true) (Eq.trans (show _ = Value.bool y2991 from rfl) (congrArg Value.bool (Bool.eq_false_iff.2 hc2999))) rfl) rfl ?_
                refine WL.nil ?_
                refine thenN ?_
                refine WC.condT rfl rfl ?_
                refine WC.seq ?_
                refine WC.region ?_
                refine WL.val (R.assign (v := Value.bool true) rfl) rfl ?_
                refine WL.nil ?_
                refine thenN ?_
                refine WC.ret ?_
                have ht3006 := (hs2998.here).perm (L' := []) (G := [gsl 25 (rawE 1) (Value.slice a2945 ([x2232.1.1, x2232.1.2.1, x2232.1.2.2.1, x2232.1.2.2.2, [x2232.2.1]].length) c2946) [(⟨[Value.slice a2266 x2232.1.1.length c2267], rfl, rfl⟩ : Raw 1), (⟨[Value.slice a2271 x2232.1.2.1.length c2272], rfl, rfl⟩ : Raw 1), (⟨[Value.slice a2276 x2232.1.2.2.1.length c2277], rfl, rfl⟩ : Raw 1), (⟨[Value.slice a2281 x2232.1.2.2.2.length c2282], rfl, rfl⟩ : Raw 1), (⟨[Value.slice (some ⟨b2295, 0, none⟩) (([x2232.2.1]).length) 1], rfl, rfl⟩ : Raw 1)]]) ((List.Perm.refl _))
                have hs3007 := hs2998.trans ht3006
                obtain rfl := Option.some.inj (show some true = some r from h3005)
                exact ret1 (P := Try.prog) (n := 94) (fn := Try.f76) (R := fun v w' => v = Value.bool true ∧ St [] w w' []) (t := 2) (v := Value.bool true) rfl rfl rfl ⟨rfl, hs3007⟩
              · have h3008 := ifF hc3004 h3003
                refine WL.val (R.gtrF (k := .i64) (a := i2943) (b := 6000) un3 rfl rfl hc3004) rfl ?_
                refine WL.val (R.pickF (v := Value.bool false) (Eq.trans (show _ = Value.bool y2991 from rfl) (congrArg Value.bool (Bool.eq_false_iff.2 hc2999))) rfl) rfl ?_
                refine WL.nil ?_
                refine thenN ?_
                refine WC.condF rfl rfl ?_
                refine WC.skip ?_
                refine thenN ?_
                refine WC.seq ?_
                refine WC.region ?_
                refine WL.val (R.move (v := Value.int .i64 i2943) (by exact s2965)) rfl ?_
                refine WL.val (R.move (v := Value.slice a2945 ([x2232.1.1, x2232.1.2.1, x2232.1.2.2.1, x2232.1.2.2.2, [x2232.2.1]].length) c2946) (by exact s2967)) rfl ?_
                refine WL.val (R.move (v := Value.int .i64 i2944) (by exact s2968)) rfl ?_
                obtain ⟨x3009, hx3010, h3011⟩ := ob (o := rd [x2232.1.1, x2232.1.2.1, x2232.1.2.2.1, x2232.1.2.2.2, [x2232.2.1]] i2944) h3008
                obtain ⟨h03012, hx3013, hl3014, hm3015⟩ := rdE hx3010
                have hr3024 := rlT ht2995 hr2956
                obtain ⟨⟨cs3022, hp3023⟩, hr3020, hk3021⟩ := readsL_at hr3024 hx3013
                obtain ⟨a3025, c3026, rfl, hl3027, he3028⟩ := hk3021
                obtain ⟨b3016, c3017, hv3018, _⟩ := hs2998.gslAt (i := 0) rfl hr3020
                refine WL.val (R.indexS (n := 1) (m := (i2944).toNat) (ad := ⟨b3016, 0, none⟩) (len := ([(⟨[Value.slice a2266 x2232.1.1.length c2267], rfl, rfl⟩ : Raw 1), (⟨[Value.slice a2271 x2232.1.2.1.length c2272], rfl, rfl⟩ : Raw 1), (⟨[Value.slice a2276 x2232.1.2.2.1.length c2277], rfl, rfl⟩ : Raw 1), (⟨[Value.slice a2281 x2232.1.2.2.2.length c2282], rfl, rfl⟩ : Raw 1), (⟨[Value.slice (some ⟨b2295, 0, none⟩) (([x2232.2.1]).length) 1], rfl, rfl⟩ : Raw 1)]).length) (cap := c3017) (z := i2944) un241 ag25.size (Eq.trans (show _ = Value.slice a2945 ([x2232.1.1, x2232.1.2.1, x2232.1.2.2.1, x2232.1.2.2.2, [x2232.2.1]].length) c2946 from rfl) hv3018) rfl rfl hm3015 ((hr3024).1 ▸ hl3014) rfl) rfl ?_
                refine WL.val (R.fieldAddr (o := 0 + (i2944).toNat * 1) (o' := 0 + (i2944).toNat * 1) fa25_0 rfl rfl) rfl ?_
                refine WL.val (R.loadL (v := Value.slice a3025 x3009.length c3026) lf22 rfl (hs2998.gslAtV (i := 0) rfl hr3020 hv3018)) rfl ?_
                refine WL.val (R.len (a := a3025) (n := x3009.length) (c := c3026) un22 rfl) rfl ?_
                refine WL.val (R.add (a := i2943) (b := ((x3009.length : Nat) : Int)) (z := IntKind.wrap .i64 (i2943 + ((x3009.length : Nat) : Int))) rfl rfl (rfl)) rfl ?_
                refine WL.val (R.assign (v := Value.int .i64 (IntKind.wrap .i64 (i2943 + ((x3009.length : Nat) : Int)))) rfl) rfl ?_
                refine WL.nil ?_
                refine thenN ?_
                refine WC.seq ?_
                refine WC.region ?_
                refine WL.val (R.assign (v := Value.int .i64 0) rfl) rfl ?_
                refine WL.nil ?_
                refine thenN ?_
                have hr3184 := elT ht2995 he2955
                obtain ⟨K3175, hK3176, h3177⟩ := kE (G := fun K3175 => great14_l3 x2232 i2944 K3175 1000000 (IntKind.wrap .i64 (i2943 + ((x3009.length : Nat) : Int))) 0) h3011
                refine WC.join (fun σ3186 w3185 => ∃ i3174 : Int, σ3186 0 = (Value.slice a0 p0.length c0) ∧ σ3186 3 = (Value.int .i64 i3174) ∧ σ3186 4 = (Value.int .i64 i2211) ∧ σ3186 5 = (Value.slice a2945 ([x2232.1.1, x2232.1.2.1, x2232.1.2.2.1, x2232.1.2.2.2, [x2232.2.1]].length) c2946) ∧ σ3186 6 = (Value.int .i64 i2944) ∧ elems (pairK (pairK (slW rowW) (pairK (slW rowW) (pairK (slW rowW) (slW rowW)))) (pairK rowW (intW .u8))) w3185 (In ok w [] [gsl 25 (rawE 1) (Value.slice a2945 ([x2232.1.1, x2232.1.2.1, x2232.1.2.2.1, x2232.1.2.2.2, [x2232.2.1]].length) c2946) [(⟨[Value.slice a2266 x2232.1.1.length c2267], rfl, rfl⟩ : Raw 1), (⟨[Value.slice a2271 x2232.1.2.1.length c2272], rfl, rfl⟩ : Raw 1), (⟨[Value.slice a2276 x2232.1.2.2.1.length c2277], rfl, rfl⟩ : Raw 1), (⟨[Value.slice a2281 x2232.1.2.2.2.length c2282], rfl, rfl⟩ : Raw 1), (⟨[Value.slice (some ⟨b2295, 0, none⟩) (([x2232.2.1]).length) 1], rfl, rfl⟩ : Raw 1)]]) a0 p0 ∧ readsL (slW rowW) w3185 (In ok w [] [gsl 25 (rawE 1) (Value.slice a2945 ([x2232.1.1, x2232.1.2.1, x2232.1.2.2.1, x2232.1.2.2.2, [x2232.2.1]].length) c2946) [(⟨[Value.slice a2266 x2232.1.1.length c2267], rfl, rfl⟩ : Raw 1), (⟨[Value.slice a2271 x2232.1.2.1.length c2272], rfl, rfl⟩ : Raw 1), (⟨[Value.slice a2276 x2232.1.2.2.1.length c2277], rfl, rfl⟩ : Raw 1), (⟨[Value.slice a2281 x2232.1.2.2.2.length c2282], rfl, rfl⟩ : Raw 1), (⟨[Value.slice (some ⟨b2295, 0, none⟩) (([x2232.2.1]).length) 1], rfl, rfl⟩ : Raw 1)]]) [x2232.1.1, x2232.1.2.1, x2232.1.2.2.1, x2232.1.2.2.2, [x2232.2.1]] [(⟨[Value.slice a2266 x2232.1.1.length c2267], rfl, rfl⟩ : Raw 1), (⟨[Value.slice a2271 x2232.1.2.1.length c2272], rfl, rfl⟩ : Raw 1), (⟨[Value.slice a2276 x2232.1.2.2.1.length c2277], rfl, rfl⟩ : Raw 1), (⟨[Value.slice a2281 x2232.1.2.2.2.length c2282], rfl, rfl⟩ : Raw 1), (⟨[Value.slice (some ⟨b2295, 0, none⟩) (([x2232.2.1]).length) 1], rfl, rfl⟩ : Raw 1)] ∧ K3175 i3174 = some r ∧ St [] w w3185 [gsl 25 (rawE 1) (Value.slice a2945 ([x2232.1.1, x2232.1.2.1, x2232.1.2.2.1, x2232.1.2.2.2, [x2232.2.1]].length) c2946) [(⟨[Value.slice a2266 x2232.1.1.length c2267], rfl, rfl⟩ : Raw 1), (⟨[Value.slice a2271 x2232.1.2.1.length c2272], rfl, rfl⟩ : Raw 1), (⟨[Value.slice a2276 x2232.1.2.2.1.length c2277], rfl, rfl⟩ : Raw 1), (⟨[Value.slice a2281 x2232.1.2.2.2.length c2282], rfl, rfl⟩ : Raw 1), (⟨[Value.slice (some ⟨b2295, 0, none⟩) (([x2232.2.1]).length) 1], rfl, rfl⟩ : Raw 1)]]) ?_ ?_
                · refine WC.block ?_
                  refine WC.loop (T := Nat) (fun k3181 σ3179 w3178 => ∃ i3172 : Int, ∃ i3173 : Int, σ3179 0 = (Value.slice a0 p0.length c0) ∧ σ3179 3 = (Value.int .i64 i3172) ∧ σ3179 4 = (Value.int .i64 i2211) ∧ σ3179 5 = (Value.slice a2945 ([x2232.1.1, x2232.1.2.1, x2232.1.2.2.1, x2232.1.2.2.2, [x2232.2.1]].length) c2946) ∧ σ3179 6 = (Value.int .i64 i2944) ∧ σ3179 7 = (Value.int .i64 i3173) ∧ elems (pairK (pairK (slW rowW) (pairK (slW rowW) (pairK (slW rowW) (slW rowW)))) (pairK rowW (intW .u8))) w3178 (In ok w [] [gsl 25 (rawE 1) (Value.slice a2945 ([x2232.1.1, x2232.1.2.1, x2232.1.2.2.1, x2232.1.2.2.2, [x2232.2.1]].length) c2946) [(⟨[Value.slice a2266 x2232.1.1.length c2267], rfl, rfl⟩ : Raw 1), (⟨[Value.slice a2271 x2232.1.2.1.length c2272], rfl, rfl⟩ : Raw 1), (⟨[Value.slice a2276 x2232.1.2.2.1.length c2277], rfl, rfl⟩ : Raw 1), (⟨[Value.slice a2281 x2232.1.2.2.2.length c2282], rfl, rfl⟩ : Raw 1), (⟨[Value.slice (some ⟨b2295, 0, none⟩) (([x2232.2.1]).length) 1], rfl, rfl⟩ : Raw 1)]]) a0 p0 ∧ readsL (slW rowW) w3178 (In ok w [] [gsl 25 (rawE 1) (Value.slice a2945 ([x2232.1.1, x2232.1.2.1, x2232.1.2.2.1, x2232.1.2.2.2, [x2232.2.1]].length) c2946) [(⟨[Value.slice a2266 x2232.1.1.length c2267], rfl, rfl⟩ : Raw 1), (⟨[Value.slice a2271 x2232.1.2.1.length c2272], rfl, rfl⟩ : Raw 1), (⟨[Value.slice a2276 x2232.1.2.2.1.length c2277], rfl, rfl⟩ : Raw 1), (⟨[Value.slice a2281 x2232.1.2.2.2.length c2282], rfl, rfl⟩ : Raw 1), (⟨[Value.slice (some ⟨b2295, 0, none⟩) (([x2232.2.1]).length) 1], rfl, rfl⟩ : Raw 1)]]) [x2232.1.1, x2232.1.2.1, x2232.1.2.2.1, x2232.1.2.2.2, [x2232.2.1]] [(⟨[Value.slice a2266 x2232.1.1.length c2267], rfl, rfl⟩ : Raw 1), (⟨[Value.slice a2271 x2232.1.2.1.length c2272], rfl, rfl⟩ : Raw 1), (⟨[Value.slice a2276 x2232.1.2.2.1.length c2277], rfl, rfl⟩ : Raw 1), (⟨[Value.slice a2281 x2232.1.2.2.2.length c2282], rfl, rfl⟩ : Raw 1), (⟨[Value.slice (some ⟨b2295, 0, none⟩) (([x2232.2.1]).length) 1], rfl, rfl⟩ : Raw 1)] ∧ great14_l3 x2232 i2944 K3175 k3181 i3172 i3173 = some r ∧ St [] w w3178 [gsl 25 (rawE 1) (Value.slice a2945 ([x2232.1.1, x2232.1.2.1, x2232.1.2.2.1, x2232.1.2.2.2, [x2232.2.1]].length) c2946) [(⟨[Value.slice a2266 x2232.1.1.length c2267], rfl, rfl⟩ : Raw 1), (⟨[Value.slice a2271 x2232.1.2.1.length c2272], rfl, rfl⟩ : Raw 1), (⟨[Value.slice a2276 x2232.1.2.2.1.length c2277], rfl, rfl⟩ : Raw 1), (⟨[Value.slice a2281 x2232.1.2.2.2.length c2282], rfl, rfl⟩ : Raw 1), (⟨[Value.slice (some ⟨b2295, 0, none⟩) (([x2232.2.1]).length) 1], rfl, rfl⟩ : Raw 1)]]) (fun k3181 => k3181) 1000000 ⟨IntKind.wrap .i64 (i2943 + ((x3009.length : Nat) : Int)), 0, s2964, rfl, s2966, s2967, s2968, rfl, hr3184, hr3024, h3177, hs2998⟩ ?_
                  rintro k3181 σ3179 w3178 ⟨i3172, i3173, s3191, s3192, s3193, s3194, s3195, s3196, he3182, hr3183, h3190, hs3180⟩
                  rcases k3181 with _ | k3181
                  · rw [great14_l3] at h3190; cases h3190
                  rw [great14_l3] at h3190
                  refine WC.seq ?_
                  refine WC.seq ?_
                  refine WC.region ?_
                  refine WL.val (R.move (v := Value.int .i64 i3173) (by exact s3196)) rfl ?_
                  refine WL.val (R.move (v := Value.slice a2945 ([x2232.1.1, x2232.1.2.1, x2232.1.2.2.1, x2232.1.2.2.2, [x2232.2.1]].length) c2946) (by exact s3194)) rfl ?_
                  refine WL.val (R.move (v := Value.int .i64 i2944) (by exact s3195)) rfl ?_
                  obtain ⟨x3197, hx3198, h3199⟩ := ob (o := rd [x2232.1.1, x2232.1.2.1, x2232.1.2.2.1, x2232.1.2.2.2, [x2232.2.1]] i2944) h3190
                  obtain ⟨h03200, hx3201, hl3202, hm3203⟩ := rdE hx3198
                  obtain ⟨⟨cs3210, hp3211⟩, hr3208, hk3209⟩ := readsL_at hr3183 hx3201
                  obtain ⟨a3212, c3213, rfl, hl3214, he3215⟩ := hk3209
                  obtain ⟨b3204, c3205, hv3206, _⟩ := hs3180.gslAt (i := 0) rfl hr3208
                  refine WL.val (R.indexS (n := 1) (m := (i2944).toNat) (ad := ⟨b3204, 0, none⟩) (len := ([(⟨[Value.slice a2266 x2232.1.1.length c2267], rfl, rfl⟩ : Raw 1), (⟨[Value.slice a2271 x2232.1.2.1.length c2272], rfl, rfl⟩ : Raw 1), (⟨[Value.slice a2276 x2232.1.2.2.1.length c2277], rfl, rfl⟩ : Raw 1), (⟨[Value.slice a2281 x2232.1.2.2.2.length c2282], rfl, rfl⟩ : Raw 1), (⟨[Value.slice (some ⟨b2295, 0, none⟩) (([x2232.2.1]).length) 1], rfl, rfl⟩ : Raw 1)]).length) (cap := c3205) (z := i2944) un241 ag25.size (Eq.trans (show _ = Value.slice a2945 ([x2232.1.1, x2232.1.2.1, x2232.1.2.2.1, x2232.1.2.2.2, [x2232.2.1]].length) c2946 from rfl) hv3206) rfl rfl hm3203 ((hr3183).1 ▸ hl3202) rfl) rfl ?_
                  refine WL.val (R.fieldAddr (o := 0 + (i2944).toNat * 1) (o' := 0 + (i2944).toNat * 1) fa25_0 rfl rfl) rfl ?_
                  refine WL.val (R.loadL (v := Value.slice a3212 x3197.length c3213) lf22 rfl (hs3180.gslAtV (i := 0) rfl hr3208 hv3206)) rfl ?_
                  refine WL.val (R.len (a := a3212) (n := x3197.length) (c := c3213) un22 rfl) rfl ?_
                  by_cases hc3217 : i3173 < ((x3197.length : Nat) : Int)
                  · have h3218 := ifT hc3217 h3199
                    refine WL.val (R.lssT (k := .i64) (a := i3173) (b := ((x3197.length : Nat) : Int)) un3 rfl rfl hc3217) rfl ?_
                    refine WL.nil ?_
                    refine thenN ?_
                    refine WC.condT rfl rfl ?_
                    refine WC.skip ?_
                    refine thenN ?_
                    refine WC.seq ?_
                    refine WC.block ?_
                    refine WC.region ?_
                    refine WL.val (R.move (v := Value.int .i64 i3172) (by exact s3192)) rfl ?_
                    refine WL.val (R.move (v := Value.slice a2945 ([x2232.1.1, x2232.1.2.1, x2232.1.2.2.1, x2232.1.2.2.2, [x2232.2.1]].length) c2946) (by exact s3194)) rfl ?_
                    refine WL.val (R.move (v := Value.int .i64 i2944) (by exact s3195)) rfl ?_
                    obtain ⟨x3219, hx3220, h3221⟩ := ob (o := rd [x2232.1.1, x2232.1.2.1, x2232.1.2.2.1, x2232.1.2.2.2, [x2232.2.1]] i2944) h3218
                    obtain ⟨h03222, hx3223, hl3224, hm3225⟩ := rdE hx3220
                    obtain ⟨⟨cs3232, hp3233⟩, hr3230, hk3231⟩ := readsL_at hr3183 hx3223
                    obtain ⟨a3234, c3235, rfl, hl3236, he3237⟩ := hk3231
                    obtain ⟨b3226, c3227, hv3228, _⟩ := hs3180.gslAt (i := 0) rfl hr3230
                    refine WL.val (R.indexS (n := 1) (m := (i2944).toNat) (ad := ⟨b3226, 0, none⟩) (len := ([(⟨[Value.slice a2266 x2232.1.1.length c2267], rfl, rfl⟩ : Raw 1), (⟨[Value.slice a2271 x2232.1.2.1.length c2272], rfl, rfl⟩ : Raw 1), (⟨[Value.slice a2276 x2232.1.2.2.1.length c2277], rfl, rfl⟩ : Raw 1), (⟨[Value.slice a2281 x2232.1.2.2.2.length c2282], rfl, rfl⟩ : Raw 1), (⟨[Value.slice (some ⟨b2295, 0, none⟩) (([x2232.2.1]).length) 1], rfl, rfl⟩ : Raw 1)]).length) (cap := c3227) (z := i2944) un241 ag25.size (Eq.trans (show _ = Value.slice a2945 ([x2232.1.1, x2232.1.2.1, x2232.1.2.2.1, x2232.1.2.2.2, [x2232.2.1]].length) c2946 from rfl) hv3228) rfl rfl hm3225 ((hr3183).1 ▸ hl3224) rfl) rfl ?_
                    refine WL.val (R.fieldAddr (o := 0 + (i2944).toNat * 1) (o' := 0 + (i2944).toNat * 1) fa25_0 rfl rfl) rfl ?_
                    refine WL.val (R.loadL (v := Value.slice a3234 x3219.length c3235) lf22 rfl (hs3180.gslAtV (i := 0) rfl hr3230 hv3228)) rfl ?_
                    refine WL.val (R.move (v := Value.int .i64 i3173) (by exact s3196)) rfl ?_
                    obtain ⟨x3239, hx3240, h3241⟩ := ob (o := rd x3219 i3173) h3221
                    obtain ⟨h03242, hx3243, hl3244, hm3245⟩ := rdE hx3240
                    obtain ⟨ad3246, e3251, ha3247, hp3248, hat3249, hrd3250⟩ := he3237 _ _ hx3243
                    obtain ⟨t3252, rfl, a3254, c3255, he3258, hl3256, he3257⟩ := hrd3250
                    cases he3258
                    refine WL.val (R.indexS (n := 57) (m := (i3173).toNat) (a := a3234) (ad := ad3246) (len := x3219.length) (cap := c3235) (z := i3173) un22 ag62.size rfl ha3247 rfl hm3245 hl3244 hp3248) rfl ?_
                    refine WL.val (R.fieldAddr (o := ad3246.off + (i3173).toNat * 57) (o' := ad3246.off + (i3173).toNat * 57 + 56) fa62_2 rfl rfl) rfl ?_
                    refine WL.val (R.loadL (v := Value.slice a3254 x3239.table.length c3255) lf28 rfl (At.sub (a := ⟨ad3246.block, ad3246.off + (i3173).toNat * 57, none⟩) (off := 56) (n := 1) (cs := encR x3239 (Value.slice a3254 x3239.table.length c3255)) (ds := [Value.slice a3254 x3239.table.length c3255]) hat3249 rfl rfl)) rfl ?_
                    refine WL.val (R.len (a := a3254) (n := x3239.table.length) (c := c3255) un28 rfl) rfl ?_
                    refine WL.val (R.add (a := i3172) (b := ((x3239.table.length : Nat) : Int)) (z := IntKind.wrap .i64 (i3172 + ((x3239.table.length : Nat) : Int))) rfl rfl (rfl)) rfl ?_
                    refine WL.val (R.assign (v := Value.int .i64 (IntKind.wrap .i64 (i3172 + ((x3239.table.length : Nat) : Int)))) rfl) rfl ?_
                    refine WL.nil ?_
                    refine blockN ?_
                    refine thenN ?_
                    refine WC.region ?_
                    refine WL.val (R.move (v := Value.int .i64 i3173) (by exact s3196)) rfl ?_
                    obtain ⟨hg3261, h3262⟩ := ckE (c := -9223372036854775808 ≤ i3173 + 1 ∧ i3173 + 1 ≤ 9223372036854775807) h3241
                    refine WL.val (R.add (a := i3173) (b := 1) (z := i3173 + 1) rfl rfl (w64e rfl hg3261.1 hg3261.2)) rfl ?_
                    refine WL.val (R.assign (v := Value.int .i64 (i3173 + 1)) rfl) rfl ?_
                    refine WL.nil ?_
                    exact roundEnd (s := k3181) ⟨IntKind.wrap .i64 (i3172 + ((x3239.table.length : Nat) : Int)), i3173 + 1, s3191, rfl, s3193, s3194, s3195, rfl, he3182, hr3183, h3262, hs3180⟩ (Nat.lt_succ_self _)
                  · have h3263 := ifF hc3217 h3199
                    refine WL.val (R.lssF (k := .i64) (a := i3173) (b := ((x3197.length : Nat) : Int)) un3 rfl rfl hc3217) rfl ?_
                    refine WL.nil ?_
                    refine thenN ?_
                    refine WC.condF rfl rfl ?_
                    refine WC.exit ?_
                    refine thenE ?_
                    refine thenE ?_
                    refine blockHit ?_
                    exact joinI ⟨i3172, s3191, s3192, s3193, s3194, s3195, he3182, hr3183, h3263, hs3180⟩
                · rintro σ3186 w3185 ⟨i3174, s3265, s3266, s3267, s3268, s3269, he3188, hr3189, h3264, hs3187⟩
                  subst hK3176
                  refine blockN ?_
                  refine thenN ?_
                  refine WC.region ?_
                  refine WL.val (R.move (v := Value.int .i64 i2944) (by exact s3269)) rfl ?_
                  obtain ⟨hg3270, h3271⟩ := ckE (c := -9223372036854775808 ≤ i2944 + 1 ∧ i2944 + 1 ≤ 9223372036854775807) h3264
                  refine WL.val (R.add (a := i2944) (b := 1) (z := i2944 + 1) rfl rfl (w64e rfl hg3270.1 hg3270.2)) rfl ?_
                  refine WL.val (R.assign (v := Value.int .i64 (i2944 + 1)) rfl) rfl ?_
                  refine WL.nil ?_
                  exact roundEnd (s := k2954) ⟨i3174, i2944 + 1, a2945, c2946, s3265, s3266, s3267, s3268, rfl, he3188, hr3189, h3271, hs3187⟩ (Nat.lt_succ_self _)
          · have h3272 := ifF hc2969 h2963
            refine WL.val (R.lssF (k := .i64) (a := i2944) (b := 5) un3 rfl rfl hc2969) rfl ?_
            refine WL.nil ?_
            refine thenN ?_
            refine WC.condF rfl rfl ?_
            refine WC.exit ?_
            refine thenE ?_
            refine thenE ?_
            refine blockHit ?_
            have ht3273 := (hs2953.here).perm (L' := []) (G := [gsl 25 (rawE 1) (Value.slice a2945 ([x2232.1.1, x2232.1.2.1, x2232.1.2.2.1, x2232.1.2.2.2, [x2232.2.1]].length) c2946) [(⟨[Value.slice a2266 x2232.1.1.length c2267], rfl, rfl⟩ : Raw 1), (⟨[Value.slice a2271 x2232.1.2.1.length c2272], rfl, rfl⟩ : Raw 1), (⟨[Value.slice a2276 x2232.1.2.2.1.length c2277], rfl, rfl⟩ : Raw 1), (⟨[Value.slice a2281 x2232.1.2.2.2.length c2282], rfl, rfl⟩ : Raw 1), (⟨[Value.slice (some ⟨b2295, 0, none⟩) (([x2232.2.1]).length) 1], rfl, rfl⟩ : Raw 1)]]) ((List.Perm.refl _))
            have hs3274 := hs2953.trans ht3273
            have hr3275 := elT ht3273 he2955
            exact joinI ⟨i2943, s2964, s2965, s2966, hr3275, h3272, hs3274⟩
        · rintro σ2960 w2959 ⟨i2947, s3277, s3278, s3279, he2962, h3276, hs2961⟩
          subst hK2949
          refine blockN ?_
          refine thenN ?_
          refine WC.region ?_
          refine WL.val (R.move (v := Value.int .i64 i2211) (by exact s3279)) rfl ?_
          obtain ⟨hg3280, h3281⟩ := ckE (c := -9223372036854775808 ≤ i2211 + 1 ∧ i2211 + 1 ≤ 9223372036854775807) h3276
          refine WL.val (R.add (a := i2211) (b := 1) (z := i2211 + 1) rfl rfl (w64e rfl hg3280.1 hg3280.2)) rfl ?_
          refine WL.val (R.assign (v := Value.int .i64 (i2211 + 1)) rfl) rfl ?_
          refine WL.nil ?_
          exact roundEnd (s := k2219) ⟨i2947, i2211 + 1, s3277, s3278, rfl, he2962, h3281, hs2961⟩ (Nat.lt_succ_self _)
      · have h3282 := ifF hc2228 h2224
        refine WL.val (R.lssF (k := .i64) (a := i2211) (b := ((p0.length : Nat) : Int)) un3 rfl rfl hc2228) rfl ?_
        refine WL.nil ?_
        refine thenN ?_
        refine WC.condF rfl rfl ?_
        refine WC.exit ?_
        refine thenE ?_
        refine thenE ?_
        refine blockHit ?_
        exact joinI ⟨i2210, s2226, h3282, hs2218⟩
    · rintro σ2222 w2221 ⟨i2212, s3284, h3283, hs2223⟩
      subst hK2214
      refine thenN ?_
      refine WC.seq ?_
      refine WC.region ?_
      refine WL.val (R.move (v := Value.int .i64 i2212) (by exact s3284)) rfl ?_
      by_cases hc3285 : 6000 < i2212
      · have h3286 := ifT hc3285 h3283
        refine WL.val (R.gtrT (k := .i64) (a := i2212) (b := 6000) un3 rfl rfl hc3285) rfl ?_
        refine WL.val (R.assign (v := Value.bool true) rfl) rfl ?_
        refine WL.nil ?_
        refine thenN ?_
        refine WC.ret ?_
        obtain rfl := Option.some.inj (show some true = some r from h3286)
        exact ret1 (P := Try.prog) (n := 94) (fn := Try.f76) (R := fun v w' => v = Value.bool true ∧ St [] w w' []) (t := 2) (v := Value.bool true) rfl rfl rfl ⟨rfl, hs2223⟩
      · have h3287 := ifF hc3285 h3283
        refine WL.val (R.gtrF (k := .i64) (a := i2212) (b := 6000) un3 rfl rfl hc3285) rfl ?_
        refine WL.val (R.assign (v := Value.bool false) rfl) rfl ?_
        refine WL.nil ?_
        refine thenN ?_
        refine WC.ret ?_
        obtain rfl := Option.some.inj (show some false = some r from h3287)
        exact ret1 (P := Try.prog) (n := 94) (fn := Try.f76) (R := fun v w' => v = Value.bool false ∧ St [] w w' []) (t := 2) (v := Value.bool false) rfl rfl rfl ⟨rfl, hs2223⟩

end Go.Proofs.Ytckcldimnelklaa
