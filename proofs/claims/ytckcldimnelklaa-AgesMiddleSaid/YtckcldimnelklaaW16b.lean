/- The functions come to what their twins answer: group 16. -/
import Derived.Test.YtckcldimnelklaaTS
import Derived.Test.YtckcldimnelklaaTU
import Derived.Test.YtckcldimnelklaaLG
import Derived.Test.YtckcldimnelklaaD16
import Derived.Test.YtckcldimnelklaaW16a
namespace Go.Proofs.Ytckcldimnelklaa
open Go
set_option linter.unusedVariables false
set_option linter.unusedSimpArgs false
set_option maxRecDepth 100000
set_option maxHeartbeats 4000000

theorem rstep16_ok (w : World) (ok : Nat → Prop) (q0 : Int × (List Int)) (p1 : Int) (p2 : Int) (b0o0 : Nat) (a0o0 : Option Addr) (c0o0a : Nat) (hok : ∀ b, ok b → out [blk b0o0 264 [Value.int .i64 q0.1, Value.slice a0o0 q0.2.length c0o0a], gsl 2 i64E (Value.slice a0o0 q0.2.length c0o0a) q0.2] b) (hL : St [blk b0o0 264 [Value.int .i64 q0.1, Value.slice a0o0 q0.2.length c0o0a], gsl 2 i64E (Value.slice a0o0 q0.2.length c0o0a) q0.2] w w [blk b0o0 264 [Value.int .i64 q0.1, Value.slice a0o0 q0.2.length c0o0a], gsl 2 i64E (Value.slice a0o0 q0.2.length c0o0a) q0.2]) {r : Int × Int × (Int × (List Int))} (h : rstep16 q0 p1 p2 = some r) :
    Ret Try.prog 100 [Value.pointer (some ⟨b0o0, 0, none⟩), Value.int .i64 p1, Value.int .i64 p2] w (fun v w' => ∃ ra1, ∃ rc2, v = Value.tuple #[Value.int .i64 r.1, Value.int .i64 r.2.1] ∧ St [blk b0o0 264 [Value.int .i64 q0.1, Value.slice a0o0 q0.2.length c0o0a], gsl 2 i64E (Value.slice a0o0 q0.2.length c0o0a) q0.2] w w' [blk b0o0 264 [Value.int .i64 r.2.2.1, Value.slice ra1 r.2.2.2.length rc2], gsl 2 i64E (Value.slice ra1 r.2.2.2.length rc2) r.2.2.2]) := by
  rw [rstep16] at h
  have hs100 : St [blk b0o0 264 [Value.int .i64 q0.1, Value.slice a0o0 q0.2.length c0o0a], gsl 2 i64E (Value.slice a0o0 q0.2.length c0o0a) q0.2] w w [blk b0o0 264 [Value.int .i64 q0.1, Value.slice a0o0 q0.2.length c0o0a], gsl 2 i64E (Value.slice a0o0 q0.2.length c0o0a) q0.2] := hL
  refine enter (n := 92) Try.func100 rfl rfl rfl ?_
  refine WC.seq ?_
  refine WC.region ?_
  refine WL.val (R.assign (v := Value.int .i64 0) rfl) rfl ?_
  refine WL.val (R.assign (v := Value.int .i64 0) rfl) rfl ?_
  refine WL.nil ?_
  refine thenN ?_
  refine WC.seq ?_
  refine WC.region ?_
  refine WL.val (R.assign (v := Value.int .i64 (-1)) rfl) rfl ?_
  refine WL.nil ?_
  refine thenN ?_
  obtain ⟨J108, hJ109, h110⟩ := jnE h
  refine WC.seq ?_
  refine WC.join (fun σ112 w111 => ∃ i107 : Int, σ112 0 = (Value.pointer (some ⟨b0o0, 0, none⟩)) ∧ σ112 1 = (Value.int .i64 p1) ∧ σ112 8 = (Value.int .i64 i107) ∧ J108 i107 = some r ∧ St [blk b0o0 264 [Value.int .i64 q0.1, Value.slice a0o0 q0.2.length c0o0a], gsl 2 i64E (Value.slice a0o0 q0.2.length c0o0a) q0.2] w w111 [blk b0o0 264 [Value.int .i64 q0.1, Value.slice a0o0 q0.2.length c0o0a], gsl 2 i64E (Value.slice a0o0 q0.2.length c0o0a) q0.2]) ?_ ?_
  · refine WC.seq ?_
    refine WC.region ?_
    refine WL.val (R.move (v := Value.int .i64 p2) rfl) rfl ?_
    by_cases hc114 : 0 ≤ p2
    · have h115 := ifT hc114 h110
      refine WL.val (R.geqT (k := .i64) (a := p2) (b := 0) un2 rfl rfl hc114) rfl ?_
      refine WL.val (R.move (v := Value.bool true) rfl) rfl ?_
      refine WL.guardY (e := 14) rfl rfl rfl ?_
      refine WL.val (R.move (v := Value.int .i64 p2) rfl) rfl ?_
      refine WL.guardY (e := 14) rfl rfl rfl ?_
      by_cases hc116 : p2 ≤ 1099511627776
      · have h117 := ifT hc116 h115
        refine WL.val (R.leqT (k := .i64) (a := p2) (b := 1099511627776) un2 rfl rfl hc116) rfl ?_
        refine WL.val (R.pickT (v := Value.bool true) rfl rfl) rfl ?_
        refine WL.nil ?_
        refine thenN ?_
        refine WC.condT rfl rfl ?_
        refine WC.region ?_
        refine WL.val (R.move (v := Value.int .i64 p2) rfl) rfl ?_
        refine WL.val (R.assign (v := Value.int .i64 p2) rfl) rfl ?_
        refine WL.nil ?_
        exact joinI ⟨p2, rfl, rfl, rfl, h117, hs100⟩
      · have h118 := ifF hc116 h115
        refine WL.val (R.leqF (k := .i64) (a := p2) (b := 1099511627776) un2 rfl rfl hc116) rfl ?_
        refine WL.val (R.pickT (v := Value.bool false) rfl rfl) rfl ?_
        refine WL.nil ?_
        refine thenN ?_
        refine WC.condF rfl rfl ?_
        refine WC.skip ?_
        exact joinI ⟨-1, rfl, rfl, rfl, h118, hs100⟩
    · have h119 := ifF hc114 h110
      refine WL.val (R.geqF (k := .i64) (a := p2) (b := 0) un2 rfl rfl hc114) rfl ?_
      refine WL.val (R.move (v := Value.bool false) rfl) rfl ?_
      refine WL.guardN (e := 14) (v := .bool false) rfl rfl rfl rfl ?_
      refine WL.guardN (e := 14) (v := .bool false) rfl rfl rfl rfl ?_
      refine WL.val (R.pickF (v := Value.bool false) rfl rfl) rfl ?_
      refine WL.nil ?_
      refine thenN ?_
      refine WC.condF rfl rfl ?_
      refine WC.skip ?_
      exact joinI ⟨-1, rfl, rfl, rfl, h119, hs100⟩
  · rintro σ112 w111 ⟨i107, s121, s122, s123, h120, hs113⟩
    subst hJ109
    refine thenN ?_
    obtain ⟨J138, hJ139, h140⟩ := jnE h120
    refine WC.seq ?_
    refine WC.join (fun σ142 w141 => ∃ i137 : Int, σ142 0 = (Value.pointer (some ⟨b0o0, 0, none⟩)) ∧ σ142 8 = (Value.int .i64 i137) ∧ J138 i137 = some r ∧ St [blk b0o0 264 [Value.int .i64 q0.1, Value.slice a0o0 q0.2.length c0o0a], gsl 2 i64E (Value.slice a0o0 q0.2.length c0o0a) q0.2] w w141 [blk b0o0 264 [Value.int .i64 q0.1, Value.slice a0o0 q0.2.length c0o0a], gsl 2 i64E (Value.slice a0o0 q0.2.length c0o0a) q0.2]) ?_ ?_
    · refine WC.seq ?_
      refine WC.region ?_
      refine WL.val (R.move (v := Value.int .i64 p1) (by exact s122)) rfl ?_
      by_cases hc144 : 0 ≤ p1
      · have h145 := ifT hc144 h140
        refine WL.val (R.geqT (k := .i64) (a := p1) (b := 0) un2 rfl rfl hc144) rfl ?_
        refine WL.val (R.move (v := Value.bool true) rfl) rfl ?_
        refine WL.guardY (e := 21) rfl rfl rfl ?_
        refine WL.val (R.move (v := Value.int .i64 p1) (by exact s122)) rfl ?_
        refine WL.guardY (e := 21) rfl rfl rfl ?_
        by_cases hc146 : p1 ≤ 1099511627776
        · have h147 := ifT hc146 h145
          refine WL.val (R.leqT (k := .i64) (a := p1) (b := 1099511627776) un2 rfl rfl hc146) rfl ?_
          refine WL.val (R.pickT (v := Value.bool true) rfl rfl) rfl ?_
          refine WL.nil ?_
          refine thenN ?_
          refine WC.condT rfl rfl ?_
          refine WC.seq ?_
          refine WC.region ?_
          refine WL.val (R.move (v := Value.int .i64 p1) (by exact s122)) rfl ?_
          refine WL.val (R.move (v := Value.pointer (some ⟨b0o0, 0, none⟩)) (by exact s121)) rfl ?_
          refine WL.val (R.nilCheckP (a := ⟨b0o0, 0, none⟩) rfl) rfl ?_
          refine WL.val (R.fieldAddr (o := 0) (o' := 0) fa264_0 rfl rfl) rfl ?_
          refine WL.val (R.loadL (v := Value.int .i64 q0.1) lf3 rfl (hs113.at (i := 0) (off := 0) (n := 1) (cs := [Value.int .i64 q0.1]) rfl rfl rfl)) rfl ?_
          obtain ⟨hg148, h149⟩ := ckE (c := -9223372036854775808 ≤ 2 * q0.1 ∧ 2 * q0.1 ≤ 9223372036854775807) h147
          refine WL.val (R.mul (a := 2) (b := q0.1) (z := 2 * q0.1) rfl rfl (w64e rfl hg148.1 hg148.2)) rfl ?_
          obtain ⟨hg150, h151⟩ := ckE (c := -9223372036854775808 ≤ p1 + (2 * q0.1) ∧ p1 + (2 * q0.1) ≤ 9223372036854775807) h149
          refine WL.val (R.add (a := p1) (b := 2 * q0.1) (z := p1 + (2 * q0.1)) rfl rfl (w64e rfl hg150.1 hg150.2)) rfl ?_
          refine WL.val (R.assign (v := Value.int .i64 (p1 + (2 * q0.1))) rfl) rfl ?_
          refine WL.nil ?_
          refine thenN ?_
          refine WC.seq ?_
          refine WC.region ?_
          refine WL.val (R.move (v := Value.int .i64 (p1 + (2 * q0.1))) rfl) rfl ?_
          by_cases hc152 : 1099511627776 < (p1 + (2 * q0.1))
          · have h153 := ifT hc152 h151
            refine WL.val (R.gtrT (k := .i64) (a := p1 + (2 * q0.1)) (b := 1099511627776) un2 rfl rfl hc152) rfl ?_
            refine WL.nil ?_
            refine thenN ?_
            refine WC.condT rfl rfl ?_
            refine WC.region ?_
            refine WL.val (R.assign (v := Value.int .i64 (-1)) rfl) rfl ?_
            refine WL.nil ?_
            exact joinI ⟨-1, s121, rfl, h153, hs113⟩
          · have h154 := ifF hc152 h151
            refine WL.val (R.gtrF (k := .i64) (a := p1 + (2 * q0.1)) (b := 1099511627776) un2 rfl rfl hc152) rfl ?_
            refine WL.nil ?_
            refine thenN ?_
            refine WC.condF rfl rfl ?_
            refine WC.skip ?_
            exact joinI ⟨p1 + (2 * q0.1), s121, rfl, h154, hs113⟩
        · have h155 := ifF hc146 h145
          refine WL.val (R.leqF (k := .i64) (a := p1) (b := 1099511627776) un2 rfl rfl hc146) rfl ?_
          refine WL.val (R.pickT (v := Value.bool false) rfl rfl) rfl ?_
          refine WL.nil ?_
          refine thenN ?_
          refine WC.condF rfl rfl ?_
          refine WC.skip ?_
          exact joinI ⟨i107, s121, s123, h155, hs113⟩
      · have h156 := ifF hc144 h140
        refine WL.val (R.geqF (k := .i64) (a := p1) (b := 0) un2 rfl rfl hc144) rfl ?_
        refine WL.val (R.move (v := Value.bool false) rfl) rfl ?_
        refine WL.guardN (e := 21) (v := .bool false) rfl rfl rfl rfl ?_
        refine WL.guardN (e := 21) (v := .bool false) rfl rfl rfl rfl ?_
        refine WL.val (R.pickF (v := Value.bool false) rfl rfl) rfl ?_
        refine WL.nil ?_
        refine thenN ?_
        refine WC.condF rfl rfl ?_
        refine WC.skip ?_
        exact joinI ⟨i107, s121, s123, h156, hs113⟩
    · rintro σ142 w141 ⟨i137, s158, s159, h157, hs143⟩
      subst hJ139
      refine thenN ?_
      refine WC.seq ?_
      refine WC.region ?_
      refine WL.val (R.move (v := Value.pointer (some ⟨b0o0, 0, none⟩)) (by exact s158)) rfl ?_
      refine WL.val (R.move (v := Value.pointer (some ⟨b0o0, 0, none⟩)) (by exact s158)) rfl ?_
      refine WL.val (R.nilCheckP (a := ⟨b0o0, 0, none⟩) rfl) rfl ?_
      refine WL.val (R.fieldAddr (o := 0) (o' := 1) fa264_1 rfl rfl) rfl ?_
      refine WL.val (R.loadL (v := Value.slice a0o0 q0.2.length c0o0a) lf196 rfl (hs143.at (i := 0) (off := 1) (n := 1) (cs := [Value.slice a0o0 q0.2.length c0o0a]) rfl rfl rfl)) rfl ?_
      refine WL.val (R.move (v := Value.int .i64 i137) (by exact s159)) rfl ?_
      have hd165 : ∀ w : World, (Instr.buildSlice 196 1 #[(0, Value.int .i64 i137)]).run Try.prog w = .ok (.slice (some ⟨w.heap.size, 0, none⟩) 1 1) { w with heap := w.heap.push (.cells (List.toArray [Value.int .i64 i137]) 2) } := fun _ => by kernel_rfl
      refine WL.new (L' := fun b160 => [blk b0o0 264 [Value.int .i64 q0.1, Value.slice a0o0 q0.2.length c0o0a], gsl 2 i64E (Value.slice a0o0 q0.2.length c0o0a) q0.2, blk b160 2 [Value.int .i64 i137]]) (f := fun b160 => Value.slice (some ⟨b160, 0, none⟩) 1 1) (X.buildSlice (c := [Value.int .i64 i137]) (vs := [(0, Value.int .i64 i137)]) (hs143.here) rfl hd165 (fun _ => rfl)) rfl ?_
      intro b160 w161 ht167 he163 hz164
      have hs168 := hs143.trans ht167
      obtain ⟨hg169, h170⟩ := ckE (c := q0.2.length < 1000000) h157
      refine WL.grow (L' := fun v171 => [blk b0o0 264 [Value.int .i64 q0.1, Value.slice a0o0 q0.2.length c0o0a], gsl 2 i64E v171 (q0.2 ++ [i137]), blk b160 2 [Value.int .i64 i137]]) (X.append (i := 1) (e := i64E) (xs := q0.2) (ys := [i137]) (ad := ⟨b160, 0, none⟩) (m := 1) (c := 1) (hs168.here) sl196 rfl rfl rfl rfl ((hs168.here).at (i := 2) (off := 0) (n := 1) (cs := flat i64E [i137]) rfl rfl rfl) rfl rfl (room (n := 1) hg169 rfl (by decide)) (room63 (n := 1) hg169 rfl (by decide)) (fun _ => rfl)) rfl ?_
      intro v171 w172 ht173
      obtain ⟨a174, c175, hv176⟩ := gsl_sl (ht173.get (i := 1) rfl)
      subst hv176
      have hs177 := hs168.trans ht173
      refine WL.val (R.nilCheckP (a := ⟨b0o0, 0, none⟩) rfl) rfl ?_
      refine WL.val (R.fieldAddr (o := 0) (o' := 1) fa264_1 rfl rfl) rfl ?_
      refine WL.sto (L' := [blk b0o0 264 [Value.int .i64 q0.1, Value.slice a174 ((q0.2 ++ [i137]).length) c175], gsl 2 i64E (Value.slice a174 ((q0.2 ++ [i137]).length) c175) (q0.2 ++ [i137]), blk b160 2 [Value.int .i64 i137]]) (X.store (i := 0) (n := 1) (b := b0o0) (off := 1) (c := [Value.int .i64 q0.1, Value.slice a0o0 q0.2.length c0o0a]) (U := 264) (vs := [Value.slice a174 ((q0.2 ++ [i137]).length) c175]) (v := Value.slice a174 ((q0.2 ++ [i137]).length) c175) (c' := [Value.int .i64 q0.1, Value.slice a174 ((q0.2 ++ [i137]).length) c175]) (hs177.here) rfl lf196.size rfl rfl rfl rfl rfl rfl rfl rfl) rfl rfl ?_
      intro w178 ht179
      have hs180 := hs177.trans ht179
      refine WL.nil ?_
      refine thenN ?_
      refine WC.seq ?_
      refine WC.region ?_
      refine WL.val (R.assign (v := Value.int .i64 (-1)) rfl) rfl ?_
      refine WL.nil ?_
      refine thenN ?_
      refine WC.seq ?_
      refine WC.seq ?_
      refine WC.region ?_
      refine WL.val (R.assign (v := Value.int .i64 0) rfl) rfl ?_
      refine WL.nil ?_
      refine thenN ?_
      have ht267 := (hs180.here).perm (L' := [blk b0o0 264 [Value.int .i64 q0.1, Value.slice a174 ((q0.2 ++ [i137]).length) c175], gsl 2 i64E (Value.slice a174 ((q0.2 ++ [i137]).length) c175) (q0.2 ++ [i137])]) (G := [blk b160 2 [Value.int .i64 i137]]) ((List.Perm.refl _))
      have hs268 := hs180.trans ht267
      obtain ⟨K260, hK261, h262⟩ := kE (G := fun K260 => rstep16_l1 q0 i137 K260 1000000 (-1) 0) h170
      refine WC.join (fun σ270 w269 => ∃ i259 : Int, σ270 8 = (Value.int .i64 i137) ∧ σ270 9 = (Value.int .i64 i259) ∧ K260 i259 = some r ∧ St [blk b0o0 264 [Value.int .i64 q0.1, Value.slice a0o0 q0.2.length c0o0a], gsl 2 i64E (Value.slice a0o0 q0.2.length c0o0a) q0.2] w w269 [blk b0o0 264 [Value.int .i64 q0.1, Value.slice a174 ((q0.2 ++ [i137]).length) c175], gsl 2 i64E (Value.slice a174 ((q0.2 ++ [i137]).length) c175) (q0.2 ++ [i137])]) ?_ ?_
      · refine WC.block ?_
        refine WC.loop (T := Nat) (fun k266 σ264 w263 => ∃ i257 : Int, ∃ i258 : Int, σ264 0 = (Value.pointer (some ⟨b0o0, 0, none⟩)) ∧ σ264 8 = (Value.int .i64 i137) ∧ σ264 9 = (Value.int .i64 i257) ∧ σ264 10 = (Value.int .i64 i258) ∧ rstep16_l1 q0 i137 K260 k266 i257 i258 = some r ∧ St [blk b0o0 264 [Value.int .i64 q0.1, Value.slice a0o0 q0.2.length c0o0a], gsl 2 i64E (Value.slice a0o0 q0.2.length c0o0a) q0.2] w w263 [blk b0o0 264 [Value.int .i64 q0.1, Value.slice a174 ((q0.2 ++ [i137]).length) c175], gsl 2 i64E (Value.slice a174 ((q0.2 ++ [i137]).length) c175) (q0.2 ++ [i137])]) (fun k266 => k266) 1000000 ⟨-1, 0, s158, s159, rfl, rfl, h262, hs268⟩ ?_
        rintro k266 σ264 w263 ⟨i257, i258, s273, s274, s275, s276, h272, hs265⟩
        rcases k266 with _ | k266
        · rw [rstep16_l1] at h272; cases h272
        rw [rstep16_l1] at h272
        refine WC.seq ?_
        refine WC.seq ?_
        refine WC.region ?_
        refine WL.val (R.move (v := Value.int .i64 i258) (by exact s276)) rfl ?_
        refine WL.val (R.move (v := Value.pointer (some ⟨b0o0, 0, none⟩)) (by exact s273)) rfl ?_
        refine WL.val (R.nilCheckP (a := ⟨b0o0, 0, none⟩) rfl) rfl ?_
        refine WL.val (R.fieldAddr (o := 0) (o' := 0) fa264_0 rfl rfl) rfl ?_
        refine WL.val (R.loadL (v := Value.int .i64 q0.1) lf3 rfl (hs265.at (i := 0) (off := 0) (n := 1) (cs := [Value.int .i64 q0.1]) rfl rfl rfl)) rfl ?_
        obtain ⟨hg277, h278⟩ := ckE (c := -9223372036854775808 ≤ 2 * q0.1 ∧ 2 * q0.1 ≤ 9223372036854775807) h272
        refine WL.val (R.mul (a := 2) (b := q0.1) (z := 2 * q0.1) rfl rfl (w64e rfl hg277.1 hg277.2)) rfl ?_
        by_cases hc279 : i258 < (2 * q0.1)
        · have h280 := ifT hc279 h278
          refine WL.val (R.lssT (k := .i64) (a := i258) (b := 2 * q0.1) un3 rfl rfl hc279) rfl ?_
          refine WL.val (R.move (v := Value.bool true) rfl) rfl ?_
          refine WL.guardY (e := 51) rfl rfl rfl ?_
          refine WL.val (R.move (v := Value.int .i64 i258) (by exact s276)) rfl ?_
          refine WL.guardY (e := 51) rfl rfl rfl ?_
          refine WL.val (R.move (v := Value.pointer (some ⟨b0o0, 0, none⟩)) (by exact s273)) rfl ?_
          refine WL.guardY (e := 51) rfl rfl rfl ?_
          refine WL.val (R.nilCheckP (a := ⟨b0o0, 0, none⟩) rfl) rfl ?_
          refine WL.guardY (e := 51) rfl rfl rfl ?_
          refine WL.val (R.fieldAddr (o := 0) (o' := 1) fa264_1 rfl rfl) rfl ?_
          refine WL.guardY (e := 51) rfl rfl rfl ?_
          refine WL.val (R.loadL (v := Value.slice a174 ((q0.2 ++ [i137]).length) c175) lf196 rfl (hs265.at (i := 0) (off := 1) (n := 1) (cs := [Value.slice a174 ((q0.2 ++ [i137]).length) c175]) rfl rfl rfl)) rfl ?_
          refine WL.guardY (e := 51) rfl rfl rfl ?_
          refine WL.val (R.len (a := a174) (n := ((q0.2 ++ [i137]).length)) (c := c175) un196 rfl) rfl ?_
          refine WL.guardY (e := 51) rfl rfl rfl ?_
          by_cases hc281 : i258 < (((q0.2 ++ [i137]).length : Nat) : Int)
          · have h282 := ifT hc281 h280
            refine WL.val (R.lssT (k := .i64) (a := i258) (b := (((q0.2 ++ [i137]).length : Nat) : Int)) un3 rfl rfl hc281) rfl ?_
            refine WL.val (R.pickT (v := Value.bool true) rfl rfl) rfl ?_
            refine WL.nil ?_
            refine thenN ?_
            refine WC.condT rfl rfl ?_
            refine WC.skip ?_
            refine thenN ?_
            refine WC.seq ?_
            refine WC.block ?_
            refine WC.seq ?_
            refine WC.drawE mixed (NP.then (NP.block (NP.then (NP.then (NP.block (NP.join (NP.then NP.rq))))))) ?_
            have ht283 := (hs265.here).ext (Ext.drew _)
            have hs284 := hs265.trans ht283
            refine WE.take 0 rfl (by decide +kernel) (by decide +kernel) (by decide +kernel) (by decide +kernel) rfl rfl (fun wq hq => R.move (v := Value.pointer (some ⟨b0o0, 0, none⟩)) (by exact s273)) ?_
            refine WE.take 1 rfl (by decide +kernel) (by decide +kernel) (by decide +kernel) (by decide +kernel) rfl rfl (fun wq hq => R.nilCheckP (a := ⟨b0o0, 0, none⟩) rfl) ?_
            refine WE.take 2 rfl (by decide +kernel) (by decide +kernel) (by decide +kernel) (by decide +kernel) rfl rfl (fun wq hq => R.fieldAddr (o := 0) (o' := 1) fa264_1 rfl rfl) ?_
            refine WE.take 3 rfl (by decide +kernel) (by decide +kernel) (by decide +kernel) (by decide +kernel) rfl rfl (fun wq hq => R.loadL (v := Value.slice a174 ((q0.2 ++ [i137]).length) c175) lf196 rfl ((hs284.ext hq).at (i := 0) (off := 1) (n := 1) (cs := [Value.slice a174 ((q0.2 ++ [i137]).length) c175]) rfl rfl rfl)) ?_
            refine WE.take 4 rfl (by decide +kernel) (by decide +kernel) (by decide +kernel) (by decide +kernel) rfl rfl (fun wq hq => R.move (v := Value.pointer (some ⟨b0o0, 0, none⟩)) (by exact s273)) ?_
            refine WE.take 5 rfl (by decide +kernel) (by decide +kernel) (by decide +kernel) (by decide +kernel) rfl rfl (fun wq hq => R.nilCheckP (a := ⟨b0o0, 0, none⟩) rfl) ?_
            refine WE.take 6 rfl (by decide +kernel) (by decide +kernel) (by decide +kernel) (by decide +kernel) rfl rfl (fun wq hq => R.fieldAddr (o := 0) (o' := 1) fa264_1 rfl rfl) ?_
            refine WE.take 7 rfl (by decide +kernel) (by decide +kernel) (by decide +kernel) (by decide +kernel) rfl rfl (fun wq hq => R.loadL (v := Value.slice a174 ((q0.2 ++ [i137]).length) c175) lf196 rfl ((hs284.ext hq).at (i := 0) (off := 1) (n := 1) (cs := [Value.slice a174 ((q0.2 ++ [i137]).length) c175]) rfl rfl rfl)) ?_
            refine WE.take 8 rfl (by decide +kernel) (by decide +kernel) (by decide +kernel) (by decide +kernel) rfl rfl (fun wq hq => R.len (a := a174) (n := ((q0.2 ++ [i137]).length)) (c := c175) un196 rfl) ?_
            obtain ⟨hg285, h286⟩ := ckE (c := -9223372036854775808 ≤ (((q0.2 ++ [i137]).length : Nat) : Int) - 1 ∧ (((q0.2 ++ [i137]).length : Nat) : Int) - 1 ≤ 9223372036854775807) h282
            refine WE.take 9 rfl (by decide +kernel) (by decide +kernel) (by decide +kernel) (by decide +kernel) rfl rfl (fun wq hq => R.sub (a := (((q0.2 ++ [i137]).length : Nat) : Int)) (b := 1) (z := (((q0.2 ++ [i137]).length : Nat) : Int) - 1) rfl rfl (w64e rfl hg285.1 hg285.2)) ?_
            refine WE.take 10 rfl (by decide +kernel) (by decide +kernel) (by decide +kernel) (by decide +kernel) rfl rfl (fun wq hq => R.move (v := Value.int .i64 i258) (by exact s276)) ?_
            obtain ⟨hg287, h288⟩ := ckE (c := -9223372036854775808 ≤ ((((q0.2 ++ [i137]).length : Nat) : Int) - 1) - i258 ∧ ((((q0.2 ++ [i137]).length : Nat) : Int) - 1) - i258 ≤ 9223372036854775807) h286
            refine WE.take 11 rfl (by decide +kernel) (by decide +kernel) (by decide +kernel) (by decide +kernel) rfl rfl (fun wq hq => R.sub (a := (((q0.2 ++ [i137]).length : Nat) : Int) - 1) (b := i258) (z := ((((q0.2 ++ [i137]).length : Nat) : Int) - 1) - i258) rfl rfl (w64e rfl hg287.1 hg287.2)) ?_
            obtain ⟨x289, hx290, h291⟩ := ob (o := rd (q0.2 ++ [i137]) (((((q0.2 ++ [i137]).length : Nat) : Int) - 1) - i258)) h288
            obtain ⟨h0292, hx293, hl294, hm295⟩ := rdE hx290
            obtain ⟨b296, c297, hv298, _⟩ := hs284.gslAt (i := 1) rfl hx293
            refine WE.take 12 rfl (by decide +kernel) (by decide +kernel) (by decide +kernel) (by decide +kernel) rfl rfl (fun wq hq => R.indexS (n := 1) (m := (((((q0.2 ++ [i137]).length : Nat) : Int) - 1) - i258).toNat) (ad := ⟨b296, 0, none⟩) (len := (q0.2 ++ [i137]).length) (cap := c297) (z := ((((q0.2 ++ [i137]).length : Nat) : Int) - 1) - i258) un196 lf2.size (Eq.trans (show _ = Value.slice a174 ((q0.2 ++ [i137]).length) c175 from rfl) hv298) rfl rfl hm295 hl294 rfl) ?_
            refine WE.take 13 rfl (by decide +kernel) (by decide +kernel) (by decide +kernel) (by decide +kernel) rfl rfl (fun wq hq => R.loadL (v := Value.int .i64 x289) lf2 rfl ((hs284.ext hq).gslAtV (i := 1) rfl hx293 hv298)) ?_
            refine WE.take 14 rfl (by decide +kernel) (by decide +kernel) (by decide +kernel) (by decide +kernel) rfl rfl (fun wq hq => R.assign (v := Value.int .i64 x289) rfl) ?_
            refine WE.done (by decide +kernel) ?_
            refine thenN ?_
            refine WC.seq ?_
            refine WC.region ?_
            refine WL.val (R.move (v := Value.int .i64 x289) rfl) rfl ?_
            by_cases hc299 : 0 ≤ x289
            · have h300 := ifT hc299 h291
              refine WL.val (R.geqT (k := .i64) (a := x289) (b := 0) un2 rfl rfl hc299) rfl ?_
              refine WL.val (R.move (v := Value.bool true) rfl) rfl ?_
              refine WL.guardY (e := 78) rfl rfl rfl ?_
              refine WL.val (R.move (v := Value.int .i64 x289) rfl) rfl ?_
              refine WL.guardY (e := 78) rfl rfl rfl ?_
              refine WL.val (R.move (v := Value.int .i64 i258) (by exact s276)) rfl ?_
              refine WL.guardY (e := 78) rfl rfl rfl ?_
              obtain ⟨hg301, h302⟩ := ckE (c := -9223372036854775808 ≤ x289 + i258 ∧ x289 + i258 ≤ 9223372036854775807) h300
              refine WL.val (R.add (a := x289) (b := i258) (z := x289 + i258) rfl rfl (w64e rfl hg301.1 hg301.2)) rfl ?_
              refine WL.guardY (e := 78) rfl rfl rfl ?_
              refine WL.val (R.move (v := Value.int .i64 i257) (by exact s275)) rfl ?_
              refine WL.guardY (e := 78) rfl rfl rfl ?_
              by_cases hc303 : i257 < (x289 + i258)
              · have h304 := ifT hc303 h302
                refine WL.val (R.gtrT (k := .i64) (a := x289 + i258) (b := i257) un2 rfl rfl hc303) rfl ?_
                refine WL.val (R.pickT (v := Value.bool true) rfl rfl) rfl ?_
                refine WL.nil ?_
                refine thenN ?_
                refine WC.condT rfl rfl ?_
                refine WC.region ?_
                refine WL.val (R.move (v := Value.int .i64 x289) rfl) rfl ?_
                refine WL.val (R.move (v := Value.int .i64 i258) (by exact s276)) rfl ?_
                refine WL.val (R.add (a := x289) (b := i258) (z := x289 + i258) rfl rfl (w64e rfl hg301.1 hg301.2)) rfl ?_
                refine WL.val (R.assign (v := Value.int .i64 (x289 + i258)) rfl) rfl ?_
                refine WL.nil ?_
                refine blockN ?_
                refine thenN ?_
                refine WC.region ?_
                refine WL.val (R.move (v := Value.int .i64 i258) (by exact s276)) rfl ?_
                obtain ⟨hg305, h306⟩ := ckE (c := -9223372036854775808 ≤ i258 + 1 ∧ i258 + 1 ≤ 9223372036854775807) h304
                refine WL.val (R.add (a := i258) (b := 1) (z := i258 + 1) rfl rfl (w64e rfl hg305.1 hg305.2)) rfl ?_
                refine WL.val (R.assign (v := Value.int .i64 (i258 + 1)) rfl) rfl ?_
                refine WL.nil ?_
                exact roundEnd (s := k266) ⟨x289 + i258, i258 + 1, s273, s274, rfl, rfl, h306, hs284⟩ (Nat.lt_succ_self _)
              · have h307 := ifF hc303 h302
                refine WL.val (R.gtrF (k := .i64) (a := x289 + i258) (b := i257) un2 rfl rfl hc303) rfl ?_
                refine WL.val (R.pickT (v := Value.bool false) rfl rfl) rfl ?_
                refine WL.nil ?_
                refine thenN ?_
                refine WC.condF rfl rfl ?_
                refine WC.skip ?_
                refine blockN ?_
                refine thenN ?_
                refine WC.region ?_
                refine WL.val (R.move (v := Value.int .i64 i258) (by exact s276)) rfl ?_
                obtain ⟨hg308, h309⟩ := ckE (c := -9223372036854775808 ≤ i258 + 1 ∧ i258 + 1 ≤ 9223372036854775807) h307
                refine WL.val (R.add (a := i258) (b := 1) (z := i258 + 1) rfl rfl (w64e rfl hg308.1 hg308.2)) rfl ?_
                refine WL.val (R.assign (v := Value.int .i64 (i258 + 1)) rfl) rfl ?_
                refine WL.nil ?_
                exact roundEnd (s := k266) ⟨i257, i258 + 1, s273, s274, s275, rfl, h309, hs284⟩ (Nat.lt_succ_self _)
            · have h310 := ifF hc299 h291
              refine WL.val (R.geqF (k := .i64) (a := x289) (b := 0) un2 rfl rfl hc299) rfl ?_
              refine WL.val (R.move (v := Value.bool false) rfl) rfl ?_
              refine WL.guardN (e := 78) (v := .bool false) rfl rfl rfl rfl ?_
              refine WL.guardN (e := 78) (v := .bool false) rfl rfl rfl rfl ?_
              refine WL.guardN (e := 78) (v := .bool false) rfl rfl rfl rfl ?_
              refine WL.guardN (e := 78) (v := .bool false) rfl rfl rfl rfl ?_
              refine WL.guardN (e := 78) (v := .bool false) rfl rfl rfl rfl ?_
              refine WL.val (R.pickF (v := Value.bool false) rfl rfl) rfl ?_
              refine WL.nil ?_
              refine thenN ?_
              refine WC.condF rfl rfl ?_
              refine WC.skip ?_
              refine blockN ?_
              refine thenN ?_
              refine WC.region ?_
              refine WL.val (R.move (v := Value.int .i64 i258) (by exact s276)) rfl ?_
              obtain ⟨hg311, h312⟩ := ckE (c := -9223372036854775808 ≤ i258 + 1 ∧ i258 + 1 ≤ 9223372036854775807) h310
              refine WL.val (R.add (a := i258) (b := 1) (z := i258 + 1) rfl rfl (w64e rfl hg311.1 hg311.2)) rfl ?_
              refine WL.val (R.assign (v := Value.int .i64 (i258 + 1)) rfl) rfl ?_
              refine WL.nil ?_
              exact roundEnd (s := k266) ⟨i257, i258 + 1, s273, s274, s275, rfl, h312, hs284⟩ (Nat.lt_succ_self _)
          · have h313 := ifF hc281 h280
            refine WL.val (R.lssF (k := .i64) (a := i258) (b := (((q0.2 ++ [i137]).length : Nat) : Int)) un3 rfl rfl hc281) rfl ?_
            refine WL.val (R.pickT (v := Value.bool false) rfl rfl) rfl ?_
            refine WL.nil ?_
            refine thenN ?_
            refine WC.condF rfl rfl ?_
            refine WC.exit ?_
            refine thenE ?_
            refine thenE ?_
            refine blockHit ?_
            exact joinI ⟨i257, s274, s275, h313, hs265⟩
        · have h314 := ifF hc279 h278
          refine WL.val (R.lssF (k := .i64) (a := i258) (b := 2 * q0.1) un3 rfl rfl hc279) rfl ?_
          refine WL.val (R.move (v := Value.bool false) rfl) rfl ?_
          refine WL.guardN (e := 51) (v := .bool false) rfl rfl rfl rfl ?_
          refine WL.guardN (e := 51) (v := .bool false) rfl rfl rfl rfl ?_
          refine WL.guardN (e := 51) (v := .bool false) rfl rfl rfl rfl ?_
          refine WL.guardN (e := 51) (v := .bool false) rfl rfl rfl rfl ?_
          refine WL.guardN (e := 51) (v := .bool false) rfl rfl rfl rfl ?_
          refine WL.guardN (e := 51) (v := .bool false) rfl rfl rfl rfl ?_
          refine WL.guardN (e := 51) (v := .bool false) rfl rfl rfl rfl ?_
          refine WL.val (R.pickF (v := Value.bool false) rfl rfl) rfl ?_
          refine WL.nil ?_
          refine thenN ?_
          refine WC.condF rfl rfl ?_
          refine WC.exit ?_
          refine thenE ?_
          refine thenE ?_
          refine blockHit ?_
          exact joinI ⟨i257, s274, s275, h314, hs265⟩
      · rintro σ270 w269 ⟨i259, s316, s317, h315, hs271⟩
        subst hK261
        refine thenN ?_
        refine WC.seq ?_
        refine WC.seq ?_
        refine WC.region ?_
        refine WL.val (R.move (v := Value.int .i64 i259) (by exact s317)) rfl ?_
        by_cases hc318 : 1099511627776 < i259
        · have h319 := ifT hc318 h315
          refine WL.val (R.gtrT (k := .i64) (a := i259) (b := 1099511627776) un2 rfl rfl hc318) rfl ?_
          refine WL.nil ?_
          refine thenN ?_
          refine WC.condT rfl rfl ?_
          refine WC.region ?_
          refine WL.val (R.assign (v := Value.int .i64 (-1)) rfl) rfl ?_
          refine WL.nil ?_
          refine thenN ?_
          refine WC.seq ?_
          refine WC.region ?_
          refine WL.val (R.move (v := Value.int .i64 i137) (by exact s316)) rfl ?_
          refine WL.val (R.move (v := Value.int .i64 (-1)) rfl) rfl ?_
          refine WL.val (R.assign (v := Value.int .i64 i137) rfl) rfl ?_
          refine WL.val (R.assign (v := Value.int .i64 (-1)) rfl) rfl ?_
          refine WL.nil ?_
          refine thenN ?_
          refine WC.ret ?_
          obtain rfl := Option.some.inj (show some (i137, -1, (q0.1, q0.2 ++ [i137])) = some r from h319)
          exact ret2 (P := Try.prog) (n := 92) (fn := Try.f100) (R := fun v w' => ∃ ra1, ∃ rc2, v = Value.tuple #[Value.int .i64 (i137, -1, (q0.1, q0.2 ++ [i137])).1, Value.int .i64 (i137, -1, (q0.1, q0.2 ++ [i137])).2.1] ∧ St [blk b0o0 264 [Value.int .i64 q0.1, Value.slice a0o0 q0.2.length c0o0a], gsl 2 i64E (Value.slice a0o0 q0.2.length c0o0a) q0.2] w w' [blk b0o0 264 [Value.int .i64 (i137, -1, (q0.1, q0.2 ++ [i137])).2.2.1, Value.slice ra1 (i137, -1, (q0.1, q0.2 ++ [i137])).2.2.2.length rc2], gsl 2 i64E (Value.slice ra1 (i137, -1, (q0.1, q0.2 ++ [i137])).2.2.2.length rc2) (i137, -1, (q0.1, q0.2 ++ [i137])).2.2.2]) (t := 6) (u := 7) (v := Value.int .i64 i137) (v' := Value.int .i64 (-1)) rfl rfl rfl rfl rfl ⟨a174, c175, rfl, hs271⟩
        · have h320 := ifF hc318 h315
          refine WL.val (R.gtrF (k := .i64) (a := i259) (b := 1099511627776) un2 rfl rfl hc318) rfl ?_
          refine WL.nil ?_
          refine thenN ?_
          refine WC.condF rfl rfl ?_
          refine WC.skip ?_
          refine thenN ?_
          refine WC.seq ?_
          refine WC.region ?_
          refine WL.val (R.move (v := Value.int .i64 i137) (by exact s316)) rfl ?_
          refine WL.val (R.move (v := Value.int .i64 i259) (by exact s317)) rfl ?_
          refine WL.val (R.assign (v := Value.int .i64 i137) rfl) rfl ?_
          refine WL.val (R.assign (v := Value.int .i64 i259) rfl) rfl ?_
          refine WL.nil ?_
          refine thenN ?_
          refine WC.ret ?_
          obtain rfl := Option.some.inj (show some (i137, i259, (q0.1, q0.2 ++ [i137])) = some r from h320)
          exact ret2 (P := Try.prog) (n := 92) (fn := Try.f100) (R := fun v w' => ∃ ra1, ∃ rc2, v = Value.tuple #[Value.int .i64 (i137, i259, (q0.1, q0.2 ++ [i137])).1, Value.int .i64 (i137, i259, (q0.1, q0.2 ++ [i137])).2.1] ∧ St [blk b0o0 264 [Value.int .i64 q0.1, Value.slice a0o0 q0.2.length c0o0a], gsl 2 i64E (Value.slice a0o0 q0.2.length c0o0a) q0.2] w w' [blk b0o0 264 [Value.int .i64 (i137, i259, (q0.1, q0.2 ++ [i137])).2.2.1, Value.slice ra1 (i137, i259, (q0.1, q0.2 ++ [i137])).2.2.2.length rc2], gsl 2 i64E (Value.slice ra1 (i137, i259, (q0.1, q0.2 ++ [i137])).2.2.2.length rc2) (i137, i259, (q0.1, q0.2 ++ [i137])).2.2.2]) (t := 6) (u := 7) (v := Value.int .i64 i137) (v' := Value.int .i64 i259) rfl rfl rfl rfl rfl ⟨a174, c175, rfl, hs271⟩

theorem avoid16_ok (w : World) (ok : Nat → Prop) (p0 : Int × Int) {r : Bool} (h : avoid16 p0 = some r) :
    Ret Try.prog 27 [Value.agg (List.toArray [Value.int .i64 p0.1, Value.int .i64 p0.2])] w (fun v w' => v = Value.bool r ∧ St [] w w' []) := by
  rw [avoid16] at h
  have hs100 : St [] w w [] := St.start w
  refine enter (n := 32) Try.func27 rfl rfl rfl ?_
  refine WC.seq ?_
  refine WC.region ?_
  refine WL.new (L' := fun b101 => [blk b101 213 [Value.int .i64 p0.1, Value.int .i64 p0.2]]) (f := fun b101 => Value.pointer (some ⟨b101, 0, none⟩)) (X.box (v := Value.agg (List.toArray [Value.int .i64 p0.1, Value.int .i64 p0.2])) (c := [Value.int .i64 p0.1, Value.int .i64 p0.2]) (hs100.here) rfl rfl (fun _ => rfl)) rfl ?_
  intro b101 w102 ht107 he104 hz105
  have hs108 := hs100.trans ht107
  refine WL.val (R.assign (v := Value.bool false) rfl) rfl ?_
  refine WL.nil ?_
  refine thenN ?_
  refine WC.seq ?_
  refine WC.region ?_
  refine WL.new (L' := fun b109 => [blk b101 213 [Value.int .i64 p0.1, Value.int .i64 p0.2], blk b109 216 [Value.int .i64 0, Value.slice none 0 0]]) (f := fun b109 => Value.pointer (some ⟨b109, 0, none⟩)) (X.alloc (c := [Value.int .i64 0, Value.slice none 0 0]) (hs108.here) zr216 rfl (fun _ => rfl)) rfl ?_
  intro b109 w110 ht115 he112 hz113
  have hs116 := hs108.trans ht115
  refine WL.nil ?_
  refine thenN ?_
  refine WC.seq ?_
  refine WC.region ?_
  have hd122 : ∀ w : World, (Instr.buildSlice 217 2 #[(0, Value.pointer none), (1, Value.pointer (some ⟨b109, 0, none⟩))]).run Try.prog w = .ok (.slice (some ⟨w.heap.size, 0, none⟩) 2 2) { w with heap := w.heap.push (.cells (List.toArray [Value.pointer none, Value.pointer (some ⟨b109, 0, none⟩)]) 117) } := fun _ => by kernel_rfl
  refine WL.new (L' := fun b117 => [blk b101 213 [Value.int .i64 p0.1, Value.int .i64 p0.2], blk b109 216 [Value.int .i64 0, Value.slice none 0 0], blk b117 117 [Value.pointer none, Value.pointer (some ⟨b109, 0, none⟩)]]) (f := fun b117 => Value.slice (some ⟨b117, 0, none⟩) 2 2) (X.buildSlice (c := [Value.pointer none, Value.pointer (some ⟨b109, 0, none⟩)]) (vs := [(0, Value.pointer none), (1, Value.pointer (some ⟨b109, 0, none⟩))]) (hs116.here) rfl hd122 (fun _ => rfl)) rfl ?_
  intro b117 w118 ht124 he120 hz121
  have hs125 := hs116.trans ht124
  refine WL.val (R.assign (v := Value.slice (some ⟨b117, 0, none⟩) 2 2) rfl) rfl ?_
  refine WL.nil ?_
  refine thenN ?_
  refine WC.seq ?_
  refine WC.seq ?_
  refine WC.region ?_
  refine WL.val (R.assign (v := Value.int .i64 0) rfl) rfl ?_
  refine WL.nil ?_
  refine thenN ?_
  have ht198 := (hs125.here).addNil 2 i64E rfl
  have hs200 := hs125.trans ht198
  have ht333 : St [blk b101 213 [Value.int .i64 p0.1, Value.int .i64 p0.2], blk b109 216 [Value.int .i64 0, Value.slice none (([] : List Int).length) 0], blk b117 117 [Value.pointer none, Value.pointer (some ⟨b109, 0, none⟩)], gsl 2 i64E (Value.slice none 0 0) ([] : List Int)] w118 w118 [blk b101 213 [Value.int .i64 p0.1, Value.int .i64 p0.2], blk b109 216 [Value.int .i64 0, Value.slice none (([] : List Int).length) 0], blk b117 117 [Value.pointer none, Value.pointer (some ⟨b109, 0, none⟩)], gslU 2 i64E (Value.slice none 0 0) ([] : List Int)] := (hs200.here).conv (i := 3) rfl (gslU_of (hs200.get (i := 3) rfl)) (fun _ hb => hb) rfl
  have hs334 := hs200.trans ht333
  have ht335 := (hs334.here).perm (L' := [blk b101 213 [Value.int .i64 p0.1, Value.int .i64 p0.2], blk b117 117 [Value.pointer none, Value.pointer (some ⟨b109, 0, none⟩)], blk b109 216 [Value.int .i64 0, Value.slice none (([] : List Int).length) 0], gslU 2 i64E (Value.slice none 0 0) ([] : List Int)]) (G := []) ((List.Perm.cons _ ((List.perm_middle (l₁ := [blk b109 216 [Value.int .i64 0, Value.slice none (([] : List Int).length) 0]]) (a := blk b117 117 [Value.pointer none, Value.pointer (some ⟨b109, 0, none⟩)]) (l₂ := [gslU 2 i64E (Value.slice none 0 0) ([] : List Int)])).trans (List.Perm.cons _ (List.Perm.refl _)))))
  have hs336 := hs334.trans ht335
  obtain ⟨K326, hK327, h328⟩ := kE (G := fun K326 => avoid16_l1 p0 K326 1000000 0 0 ([] : List Int)) h
  refine WC.join (fun σ338 w337 => K326 () = some r ∧ St [] w w337 []) ?_ ?_
  · refine WC.block ?_
    refine WC.loop (T := Nat) (fun k332 σ330 w329 => ∃ i321 : Int, ∃ i322 : Int, ∃ l323 : List Int, ∃ a324, ∃ c325, σ330 1 = (Value.pointer (some ⟨b101, 0, none⟩)) ∧ σ330 4 = (Value.slice (some ⟨b117, 0, none⟩) 2 2) ∧ σ330 5 = (Value.int .i64 i321) ∧ avoid16_l1 p0 K326 k332 i321 i322 l323 = some r ∧ St [] w w329 [blk b101 213 [Value.int .i64 p0.1, Value.int .i64 p0.2], blk b117 117 [Value.pointer none, Value.pointer (some ⟨b109, 0, none⟩)], blk b109 216 [Value.int .i64 i322, Value.slice a324 l323.length c325], gslU 2 i64E (Value.slice a324 l323.length c325) l323]) (fun k332 => k332) 1000000 ⟨0, 0, ([] : List Int), none, 0, rfl, rfl, rfl, h328, hs336⟩ ?_
    rintro k332 σ330 w329 ⟨i321, i322, l323, a324, c325, s341, s342, s343, h340, hs331⟩
    rcases k332 with _ | k332
    · rw [avoid16_l1] at h340; cases h340
    rw [avoid16_l1] at h340
    refine WC.seq ?_
    refine WC.seq ?_
    refine WC.region ?_
    refine WL.val (R.move (v := Value.int .i64 i321) (by exact s343)) rfl ?_
    by_cases hc344 : i321 < 2
    · have h345 := ifT hc344 h340
      refine WL.val (R.lssT (k := .i64) (a := i321) (b := 2) un3 rfl rfl hc344) rfl ?_
      refine WL.nil ?_
      refine thenN ?_
      refine WC.condT rfl rfl ?_
      refine WC.skip ?_
      refine thenN ?_
      refine WC.seq ?_
      refine WC.block ?_
      refine WC.seq ?_
      refine WC.drawE mixed (NP.then (NP.block (NP.then (NP.then (NP.block (NP.join (NP.then NP.rq))))))) ?_
      have ht346 := (hs331.here).ext (Ext.drew _)
      have hs347 := hs331.trans ht346
      refine WE.take 0 rfl (by decide +kernel) (by decide +kernel) (by decide +kernel) (by decide +kernel) rfl rfl (fun wq hq => R.move (v := Value.slice (some ⟨b117, 0, none⟩) 2 2) (by exact s342)) ?_
      refine WE.take 1 rfl (by decide +kernel) (by decide +kernel) (by decide +kernel) (by decide +kernel) rfl rfl (fun wq hq => R.move (v := Value.int .i64 i321) (by exact s343)) ?_
      by_cases hc348 : i321 = 0
      · have h349 := ifT hc348 h345
        refine WE.take 2 rfl (by decide +kernel) (by decide +kernel) (by decide +kernel) (by decide +kernel) rfl rfl (fun wq hq => R.indexS (n := 1) (m := 0) (ad := ⟨b117, 0, none⟩) (len := 2) (cap := 2) (z := 0) un217 lf117.size rfl rfl (Eq.trans (show _ = Value.int .i64 i321 from rfl) (congrArg (Value.int .i64) hc348)) rfl (by decide) rfl) ?_
        refine WE.take 3 rfl (by decide +kernel) (by decide +kernel) (by decide +kernel) (by decide +kernel) rfl rfl (fun wq hq => R.loadL (v := Value.pointer none) lf117 rfl ((hs347.ext hq).at (i := 1) (off := 0) (n := 1) (cs := [Value.pointer none]) rfl rfl rfl)) ?_
        refine WE.take 4 rfl (by decide +kernel) (by decide +kernel) (by decide +kernel) (by decide +kernel) rfl rfl (fun wq hq => R.indexA (n := 1) (m := 0) (b := b101) (o := 0) (z := 0) un213 lf2.size (by exact s341) rfl rfl (by decide)) ?_
        refine WE.take 5 rfl (by decide +kernel) (by decide +kernel) (by decide +kernel) (by decide +kernel) rfl rfl (fun wq hq => R.loadL (v := Value.int .i64 p0.1) lf2 rfl ((hs347.ext hq).at (i := 0) (off := 0) (n := 1) (cs := [Value.int .i64 p0.1]) rfl rfl rfl)) ?_
        refine WE.take 6 rfl (by decide +kernel) (by decide +kernel) (by decide +kernel) (by decide +kernel) rfl rfl (fun wq hq => R.indexA (n := 1) (m := 1) (b := b101) (o := 0) (z := 1) un213 lf2.size (by exact s341) rfl rfl (by decide)) ?_
        refine WE.take 7 rfl (by decide +kernel) (by decide +kernel) (by decide +kernel) (by decide +kernel) rfl rfl (fun wq hq => R.loadL (v := Value.int .i64 p0.2) lf2 rfl ((hs347.ext hq).at (i := 0) (off := 1) (n := 1) (cs := [Value.int .i64 p0.2]) rfl rfl rfl)) ?_
        obtain ⟨y350, hx351, h352⟩ := ob (o := astepN16 p0.1 p0.2) h349
        refine WE.call 8 (by decide +kernel) rfl rfl rfl (astepN16_ok _ (In ok w [] [blk b101 213 [Value.int .i64 p0.1, Value.int .i64 p0.2], blk b117 117 [Value.pointer none, Value.pointer (some ⟨b109, 0, none⟩)], blk b109 216 [Value.int .i64 i322, Value.slice a324 l323.length c325], gslU 2 i64E (Value.slice a324 l323.length c325) l323]) p0.1 p0.2  hx351) (R.call (vs := [Value.pointer none, Value.int .i64 p0.1, Value.int .i64 p0.2]) (caps := []) bo99 rfl rfl) ?_
        rintro v355 w356 ⟨rfl, ht353⟩
        refine ⟨.inr (show Ext _ _ from ht353.kept), ?_⟩
        have ht354 := hs347.call (N := [blk b101 213 [Value.int .i64 p0.1, Value.int .i64 p0.2], blk b117 117 [Value.pointer none, Value.pointer (some ⟨b109, 0, none⟩)], blk b109 216 [Value.int .i64 i322, Value.slice a324 l323.length c325], gslU 2 i64E (Value.slice a324 l323.length c325) l323]) (M := []) (List.Perm.refl _) ht353
        have hs357 := hs347.trans ht354
        refine WE.take 9 rfl (by decide +kernel) (by decide +kernel) (by decide +kernel) (by decide +kernel) rfl rfl (fun wq hq => R.move (v := Value.tuple #[Value.int .i64 y350.1, Value.int .i64 y350.2]) rfl) ?_
        refine WE.take 10 rfl (by decide +kernel) (by decide +kernel) (by decide +kernel) (by decide +kernel) rfl rfl (fun wq hq => R.extract (v := Value.int .i64 y350.1) rfl rfl) ?_
        refine WE.take 11 rfl (by decide +kernel) (by decide +kernel) (by decide +kernel) (by decide +kernel) rfl rfl (fun wq hq => R.extract (v := Value.int .i64 y350.2) rfl rfl) ?_
        refine WE.take 12 rfl (by decide +kernel) (by decide +kernel) (by decide +kernel) (by decide +kernel) rfl rfl (fun wq hq => R.assign (v := Value.int .i64 y350.1) rfl) ?_
        refine WE.take 13 rfl (by decide +kernel) (by decide +kernel) (by decide +kernel) (by decide +kernel) rfl rfl (fun wq hq => R.assign (v := Value.int .i64 y350.2) rfl) ?_
        refine WE.done (by decide +kernel) ?_
        refine thenN ?_
        refine WC.seq ?_
        refine WC.region ?_
        refine WL.val (R.move (v := Value.int .i64 y350.1) rfl) rfl ?_
        by_cases hc358 : y350.1 = (-1)
        · have h359 := ifT hc358 h352
          refine WL.val (R.neqF (k := .i64) (a := y350.1) (b := -1) un2 rfl rfl (not_not_intro hc358)) rfl ?_
          refine WL.val (R.move (v := Value.bool false) rfl) rfl ?_
          refine WL.guardY (e := 27) rfl rfl rfl ?_
          refine WL.val (R.move (v := Value.int .i64 y350.2) rfl) rfl ?_
          refine WL.guardY (e := 27) rfl rfl rfl ?_
          by_cases hc360 : y350.2 = (-1)
          · have h361 := ifT hc360 h359
            refine WL.val (R.neqF (k := .i64) (a := y350.2) (b := -1) un2 rfl rfl (not_not_intro hc360)) rfl ?_
            refine WL.val (R.pickF (v := Value.bool false) rfl rfl) rfl ?_
            refine WL.nil ?_
            refine thenN ?_
            refine WC.condF rfl rfl ?_
            refine WC.skip ?_
            refine blockN ?_
            refine thenN ?_
            refine WC.region ?_
            refine WL.val (R.move (v := Value.int .i64 i321) (by exact s343)) rfl ?_
            obtain ⟨hg362, h363⟩ := ckE (c := -9223372036854775808 ≤ i321 + 1 ∧ i321 + 1 ≤ 9223372036854775807) h361
            refine WL.val (R.add (a := i321) (b := 1) (z := i321 + 1) rfl rfl (w64e rfl hg362.1 hg362.2)) rfl ?_
            refine WL.val (R.assign (v := Value.int .i64 (i321 + 1)) rfl) rfl ?_
            refine WL.nil ?_
            exact roundEnd (s := k332) ⟨i321 + 1, i322, l323, a324, c325, s341, s342, rfl, h363, hs357⟩ (Nat.lt_succ_self _)
          · have h364 := ifF hc360 h359
            refine WL.val (R.neqT (k := .i64) (a := y350.2) (b := -1) un2 rfl rfl hc360) rfl ?_
            refine WL.val (R.pickF (v := Value.bool true) rfl rfl) rfl ?_
            refine WL.nil ?_
            refine thenN ?_
            refine WC.condT rfl rfl ?_
            refine WC.seq ?_
            refine WC.region ?_
            refine WL.val (R.assign (v := Value.bool false) rfl) rfl ?_
            refine WL.nil ?_
            refine thenN ?_
            refine WC.ret ?_
            have ht365 := (hs357.here).perm (L' := []) (G := [blk b101 213 [Value.int .i64 p0.1, Value.int .i64 p0.2], blk b117 117 [Value.pointer none, Value.pointer (some ⟨b109, 0, none⟩)], blk b109 216 [Value.int .i64 i322, Value.slice a324 l323.length c325], gslU 2 i64E (Value.slice a324 l323.length c325) l323]) ((List.Perm.refl _))
            have hs366 := hs357.trans ht365
            obtain rfl := Option.some.inj (show some false = some r from h364)
            exact ret1 (P := Try.prog) (n := 32) (fn := Try.f27) (R := fun v w' => v = Value.bool false ∧ St [] w w' []) (t := 2) (v := Value.bool false) rfl rfl rfl ⟨rfl, hs366⟩
        · have h367 := ifF hc358 h352
          refine WL.val (R.neqT (k := .i64) (a := y350.1) (b := -1) un2 rfl rfl hc358) rfl ?_
          refine WL.val (R.move (v := Value.bool true) rfl) rfl ?_
          refine WL.guardN (e := 27) (v := .bool true) rfl rfl rfl rfl ?_
          refine WL.guardN (e := 27) (v := .bool true) rfl rfl rfl rfl ?_
          refine WL.val (R.pickT (v := Value.bool true) rfl rfl) rfl ?_
          refine WL.nil ?_
          refine thenN ?_
          refine WC.condT rfl rfl ?_
          refine WC.seq ?_
          refine WC.region ?_
          refine WL.val (R.assign (v := Value.bool false) rfl) rfl ?_
          refine WL.nil ?_
          refine thenN ?_
          refine WC.ret ?_
          have ht368 := (hs357.here).perm (L' := []) (G := [blk b101 213 [Value.int .i64 p0.1, Value.int .i64 p0.2], blk b117 117 [Value.pointer none, Value.pointer (some ⟨b109, 0, none⟩)], blk b109 216 [Value.int .i64 i322, Value.slice a324 l323.length c325], gslU 2 i64E (Value.slice a324 l323.length c325) l323]) ((List.Perm.refl _))
          have hs369 := hs357.trans ht368
          obtain rfl := Option.some.inj (show some false = some r from h367)
          exact ret1 (P := Try.prog) (n := 32) (fn := Try.f27) (R := fun v w' => v = Value.bool false ∧ St [] w w' []) (t := 2) (v := Value.bool false) rfl rfl rfl ⟨rfl, hs369⟩
      · have h370 := ifF hc348 h345
        obtain ⟨hg371, h372⟩ := ckE (c := i321 = 1) h370
        refine WE.take 2 rfl (by decide +kernel) (by decide +kernel) (by decide +kernel) (by decide +kernel) rfl rfl (fun wq hq => R.indexS (n := 1) (m := 1) (ad := ⟨b117, 0, none⟩) (len := 2) (cap := 2) (z := 1) un217 lf117.size rfl rfl (Eq.trans (show _ = Value.int .i64 i321 from rfl) (congrArg (Value.int .i64) hg371)) rfl (by decide) rfl) ?_
        refine WE.take 3 rfl (by decide +kernel) (by decide +kernel) (by decide +kernel) (by decide +kernel) rfl rfl (fun wq hq => R.loadL (v := Value.pointer (some ⟨b109, 0, none⟩)) lf117 rfl ((hs347.ext hq).at (i := 1) (off := 1) (n := 1) (cs := [Value.pointer (some ⟨b109, 0, none⟩)]) rfl rfl rfl)) ?_
        refine WE.take 4 rfl (by decide +kernel) (by decide +kernel) (by decide +kernel) (by decide +kernel) rfl rfl (fun wq hq => R.indexA (n := 1) (m := 0) (b := b101) (o := 0) (z := 0) un213 lf2.size (by exact s341) rfl rfl (by decide)) ?_
        refine WE.take 5 rfl (by decide +kernel) (by decide +kernel) (by decide +kernel) (by decide +kernel) rfl rfl (fun wq hq => R.loadL (v := Value.int .i64 p0.1) lf2 rfl ((hs347.ext hq).at (i := 0) (off := 0) (n := 1) (cs := [Value.int .i64 p0.1]) rfl rfl rfl)) ?_
        refine WE.take 6 rfl (by decide +kernel) (by decide +kernel) (by decide +kernel) (by decide +kernel) rfl rfl (fun wq hq => R.indexA (n := 1) (m := 1) (b := b101) (o := 0) (z := 1) un213 lf2.size (by exact s341) rfl rfl (by decide)) ?_
        refine WE.take 7 rfl (by decide +kernel) (by decide +kernel) (by decide +kernel) (by decide +kernel) rfl rfl (fun wq hq => R.loadL (v := Value.int .i64 p0.2) lf2 rfl ((hs347.ext hq).at (i := 0) (off := 1) (n := 1) (cs := [Value.int .i64 p0.2]) rfl rfl rfl)) ?_
        obtain ⟨y373, hx374, h375⟩ := ob (o := astep16 (i322, l323) p0.1 p0.2) h372
        refine WE.call 8 (by decide +kernel) rfl rfl rfl (astep16_ok _ (In ok w [] [blk b101 213 [Value.int .i64 p0.1, Value.int .i64 p0.2], blk b117 117 [Value.pointer none, Value.pointer (some ⟨b109, 0, none⟩)], blk b109 216 [Value.int .i64 i322, Value.slice a324 l323.length c325], gslU 2 i64E (Value.slice a324 l323.length c325) l323]) (i322, l323) p0.1 p0.2  b109 _ _ (In.outM (M := [blk b109 216 [Value.int .i64 i322, Value.slice a324 l323.length c325], gslU 2 i64E (Value.slice a324 l323.length c325) l323]) (N := [blk b101 213 [Value.int .i64 p0.1, Value.int .i64 p0.2], blk b117 117 [Value.pointer none, Value.pointer (some ⟨b109, 0, none⟩)]]) (((List.perm_middle (l₁ := [blk b101 213 [Value.int .i64 p0.1, Value.int .i64 p0.2], blk b117 117 [Value.pointer none, Value.pointer (some ⟨b109, 0, none⟩)]]) (a := blk b109 216 [Value.int .i64 i322, Value.slice a324 l323.length c325]) (l₂ := [gslU 2 i64E (Value.slice a324 l323.length c325) l323])).trans (List.Perm.cons _ ((List.perm_middle (l₁ := [blk b101 213 [Value.int .i64 p0.1, Value.int .i64 p0.2], blk b117 117 [Value.pointer none, Value.pointer (some ⟨b109, 0, none⟩)]]) (a := gslU 2 i64E (Value.slice a324 l323.length c325) l323) (l₂ := [])).trans (List.Perm.cons _ (List.Perm.refl _))))))) (show St [blk b109 216 [Value.int .i64 i322, Value.slice a324 l323.length c325], gslU 2 i64E (Value.slice a324 l323.length c325) l323] _ _ [blk b109 216 [Value.int .i64 i322, Value.slice a324 l323.length c325], gslU 2 i64E (Value.slice a324 l323.length c325) l323] from St.ofM (M := [blk b109 216 [Value.int .i64 i322, Value.slice a324 l323.length c325], gslU 2 i64E (Value.slice a324 l323.length c325) l323]) (N := [blk b101 213 [Value.int .i64 p0.1, Value.int .i64 p0.2], blk b117 117 [Value.pointer none, Value.pointer (some ⟨b109, 0, none⟩)]]) hs347 (((List.perm_middle (l₁ := [blk b101 213 [Value.int .i64 p0.1, Value.int .i64 p0.2], blk b117 117 [Value.pointer none, Value.pointer (some ⟨b109, 0, none⟩)]]) (a := blk b109 216 [Value.int .i64 i322, Value.slice a324 l323.length c325]) (l₂ := [gslU 2 i64E (Value.slice a324 l323.length c325) l323])).trans (List.Perm.cons _ ((List.perm_middle (l₁ := [blk b101 213 [Value.int .i64 p0.1, Value.int .i64 p0.2], blk b117 117 [Value.pointer none, Value.pointer (some ⟨b109, 0, none⟩)]]) (a := gslU 2 i64E (Value.slice a324 l323.length c325) l323) (l₂ := [])).trans (List.Perm.cons _ (List.Perm.refl _))))))) hx374) (R.call (vs := [Value.pointer (some ⟨b109, 0, none⟩), Value.int .i64 p0.1, Value.int .i64 p0.2]) (caps := []) bo99 rfl rfl) ?_
        rintro v380 w381 ⟨a378, c379, rfl, ht376⟩
        refine ⟨.inl (by decide +kernel), ?_⟩
        have ht377 := hs347.call (N := [blk b101 213 [Value.int .i64 p0.1, Value.int .i64 p0.2], blk b117 117 [Value.pointer none, Value.pointer (some ⟨b109, 0, none⟩)]]) (M := [blk b109 216 [Value.int .i64 i322, Value.slice a324 l323.length c325], gslU 2 i64E (Value.slice a324 l323.length c325) l323]) (((List.perm_middle (l₁ := [blk b101 213 [Value.int .i64 p0.1, Value.int .i64 p0.2], blk b117 117 [Value.pointer none, Value.pointer (some ⟨b109, 0, none⟩)]]) (a := blk b109 216 [Value.int .i64 i322, Value.slice a324 l323.length c325]) (l₂ := [gslU 2 i64E (Value.slice a324 l323.length c325) l323])).trans (List.Perm.cons _ ((List.perm_middle (l₁ := [blk b101 213 [Value.int .i64 p0.1, Value.int .i64 p0.2], blk b117 117 [Value.pointer none, Value.pointer (some ⟨b109, 0, none⟩)]]) (a := gslU 2 i64E (Value.slice a324 l323.length c325) l323) (l₂ := [])).trans (List.Perm.cons _ (List.Perm.refl _)))))) ht376
        have hs382 := hs347.trans ht377
        refine WE.take 9 rfl (by decide +kernel) (by decide +kernel) (by decide +kernel) (by decide +kernel) rfl rfl (fun wq hq => R.move (v := Value.tuple #[Value.int .i64 y373.1, Value.int .i64 y373.2.1]) rfl) ?_
        refine WE.take 10 rfl (by decide +kernel) (by decide +kernel) (by decide +kernel) (by decide +kernel) rfl rfl (fun wq hq => R.extract (v := Value.int .i64 y373.1) rfl rfl) ?_
        refine WE.take 11 rfl (by decide +kernel) (by decide +kernel) (by decide +kernel) (by decide +kernel) rfl rfl (fun wq hq => R.extract (v := Value.int .i64 y373.2.1) rfl rfl) ?_
        refine WE.take 12 rfl (by decide +kernel) (by decide +kernel) (by decide +kernel) (by decide +kernel) rfl rfl (fun wq hq => R.assign (v := Value.int .i64 y373.1) rfl) ?_
        refine WE.take 13 rfl (by decide +kernel) (by decide +kernel) (by decide +kernel) (by decide +kernel) rfl rfl (fun wq hq => R.assign (v := Value.int .i64 y373.2.1) rfl) ?_
        refine WE.done (by decide +kernel) ?_
        refine thenN ?_
        refine WC.seq ?_
        refine WC.region ?_
        refine WL.val (R.move (v := Value.int .i64 y373.1) rfl) rfl ?_
        by_cases hc383 : y373.1 = (-1)
        · have h384 := ifT hc383 h375
          refine WL.val (R.neqF (k := .i64) (a := y373.1) (b := -1) un2 rfl rfl (not_not_intro hc383)) rfl ?_
          refine WL.val (R.move (v := Value.bool false) rfl) rfl ?_
          refine WL.guardY (e := 27) rfl rfl rfl ?_
          refine WL.val (R.move (v := Value.int .i64 y373.2.1) rfl) rfl ?_
          refine WL.guardY (e := 27) rfl rfl rfl ?_
          by_cases hc385 : y373.2.1 = (-1)
          · have h386 := ifT hc385 h384
            refine WL.val (R.neqF (k := .i64) (a := y373.2.1) (b := -1) un2 rfl rfl (not_not_intro hc385)) rfl ?_
            refine WL.val (R.pickF (v := Value.bool false) rfl rfl) rfl ?_
            refine WL.nil ?_
            refine thenN ?_
            refine WC.condF rfl rfl ?_
            refine WC.skip ?_
            refine blockN ?_
            refine thenN ?_
            refine WC.region ?_
            refine WL.val (R.move (v := Value.int .i64 i321) (by exact s343)) rfl ?_
            obtain ⟨hg387, h388⟩ := ckE (c := -9223372036854775808 ≤ i321 + 1 ∧ i321 + 1 ≤ 9223372036854775807) h386
            refine WL.val (R.add (a := i321) (b := 1) (z := i321 + 1) rfl rfl (w64e rfl hg387.1 hg387.2)) rfl ?_
            refine WL.val (R.assign (v := Value.int .i64 (i321 + 1)) rfl) rfl ?_
            refine WL.nil ?_
            have ht389 := (hs382.here).perm (L' := [blk b101 213 [Value.int .i64 p0.1, Value.int .i64 p0.2], blk b117 117 [Value.pointer none, Value.pointer (some ⟨b109, 0, none⟩)], blk b109 216 [Value.int .i64 y373.2.2.1, Value.slice a378 y373.2.2.2.length c379], gslU 2 i64E (Value.slice a378 y373.2.2.2.length c379) y373.2.2.2]) (G := []) (((List.perm_middle (l₁ := [blk b109 216 [Value.int .i64 y373.2.2.1, Value.slice a378 y373.2.2.2.length c379], gslU 2 i64E (Value.slice a378 y373.2.2.2.length c379) y373.2.2.2]) (a := blk b101 213 [Value.int .i64 p0.1, Value.int .i64 p0.2]) (l₂ := [blk b117 117 [Value.pointer none, Value.pointer (some ⟨b109, 0, none⟩)]])).trans (List.Perm.cons _ ((List.perm_middle (l₁ := [blk b109 216 [Value.int .i64 y373.2.2.1, Value.slice a378 y373.2.2.2.length c379], gslU 2 i64E (Value.slice a378 y373.2.2.2.length c379) y373.2.2.2]) (a := blk b117 117 [Value.pointer none, Value.pointer (some ⟨b109, 0, none⟩)]) (l₂ := [])).trans (List.Perm.cons _ (List.Perm.refl _))))))
            have hs390 := hs382.trans ht389
            exact roundEnd (s := k332) ⟨i321 + 1, y373.2.2.1, y373.2.2.2, a378, c379, s341, s342, rfl, h388, hs390⟩ (Nat.lt_succ_self _)
          · have h391 := ifF hc385 h384
            refine WL.val (R.neqT (k := .i64) (a := y373.2.1) (b := -1) un2 rfl rfl hc385) rfl ?_
            refine WL.val (R.pickF (v := Value.bool true) rfl rfl) rfl ?_
            refine WL.nil ?_
            refine thenN ?_
            refine WC.condT rfl rfl ?_
            refine WC.seq ?_
            refine WC.region ?_
            refine WL.val (R.assign (v := Value.bool false) rfl) rfl ?_
            refine WL.nil ?_
            refine thenN ?_
            refine WC.ret ?_
            have ht392 := (hs382.here).perm (L' := []) (G := [blk b109 216 [Value.int .i64 y373.2.2.1, Value.slice a378 y373.2.2.2.length c379], gslU 2 i64E (Value.slice a378 y373.2.2.2.length c379) y373.2.2.2, blk b101 213 [Value.int .i64 p0.1, Value.int .i64 p0.2], blk b117 117 [Value.pointer none, Value.pointer (some ⟨b109, 0, none⟩)]]) ((List.Perm.refl _))
            have hs393 := hs382.trans ht392
            obtain rfl := Option.some.inj (show some false = some r from h391)
            exact ret1 (P := Try.prog) (n := 32) (fn := Try.f27) (R := fun v w' => v = Value.bool false ∧ St [] w w' []) (t := 2) (v := Value.bool false) rfl rfl rfl ⟨rfl, hs393⟩
        · have h394 := ifF hc383 h375
          refine WL.val (R.neqT (k := .i64) (a := y373.1) (b := -1) un2 rfl rfl hc383) rfl ?_
          refine WL.val (R.move (v := Value.bool true) rfl) rfl ?_
          refine WL.guardN (e := 27) (v := .bool true) rfl rfl rfl rfl ?_
          refine WL.guardN (e := 27) (v := .bool true) rfl rfl rfl rfl ?_
          refine WL.val (R.pickT (v := Value.bool true) rfl rfl) rfl ?_
          refine WL.nil ?_
          refine thenN ?_
          refine WC.condT rfl rfl ?_
          refine WC.seq ?_
          refine WC.region ?_
          refine WL.val (R.assign (v := Value.bool false) rfl) rfl ?_
          refine WL.nil ?_
          refine thenN ?_
          refine WC.ret ?_
          have ht395 := (hs382.here).perm (L' := []) (G := [blk b109 216 [Value.int .i64 y373.2.2.1, Value.slice a378 y373.2.2.2.length c379], gslU 2 i64E (Value.slice a378 y373.2.2.2.length c379) y373.2.2.2, blk b101 213 [Value.int .i64 p0.1, Value.int .i64 p0.2], blk b117 117 [Value.pointer none, Value.pointer (some ⟨b109, 0, none⟩)]]) ((List.Perm.refl _))
          have hs396 := hs382.trans ht395
          obtain rfl := Option.some.inj (show some false = some r from h394)
          exact ret1 (P := Try.prog) (n := 32) (fn := Try.f27) (R := fun v w' => v = Value.bool false ∧ St [] w w' []) (t := 2) (v := Value.bool false) rfl rfl rfl ⟨rfl, hs396⟩
    · have h397 := ifF hc344 h340
      refine WL.val (R.lssF (k := .i64) (a := i321) (b := 2) un3 rfl rfl hc344) rfl ?_
      refine WL.nil ?_
      refine thenN ?_
      refine WC.condF rfl rfl ?_
      refine WC.exit ?_
      refine thenE ?_
      refine thenE ?_
      refine blockHit ?_
      have ht398 := (hs331.here).perm (L' := []) (G := [blk b101 213 [Value.int .i64 p0.1, Value.int .i64 p0.2], blk b117 117 [Value.pointer none, Value.pointer (some ⟨b109, 0, none⟩)], blk b109 216 [Value.int .i64 i322, Value.slice a324 l323.length c325], gslU 2 i64E (Value.slice a324 l323.length c325) l323]) ((List.Perm.refl _))
      have hs399 := hs331.trans ht398
      exact joinI ⟨h397, hs399⟩
  · rintro σ338 w337 ⟨h400, hs339⟩
    subst hK327
    refine thenN ?_
    refine WC.seq ?_
    refine WC.region ?_
    obtain ⟨y401, hx402, h403⟩ := ob (o := lives16 ) h400
    refine WL.call (lives16_ok _ (In ok w [] [])   hx402) (R.call (vs := []) (caps := []) bo95 rfl rfl) rfl ?_
    rintro v406 w407 ⟨rfl, ht404⟩
    have ht405 := hs339.call (N := []) (M := []) (List.Perm.refl _) ht404
    have hs408 := hs339.trans ht405
    refine WL.val (R.assign (v := Value.bool y401) rfl) rfl ?_
    refine WL.nil ?_
    refine thenN ?_
    refine WC.ret ?_
    obtain rfl := Option.some.inj (show some y401 = some r from h403)
    exact ret1 (P := Try.prog) (n := 32) (fn := Try.f27) (R := fun v w' => v = Value.bool y401 ∧ St [] w w' []) (t := 2) (v := Value.bool y401) rfl rfl rfl ⟨rfl, hs408⟩

theorem aplay16_ok (w : World) (ok : Nat → Prop) (p0 : Int) (p1 : List (Int × Int)) (a1 : Option Addr) (c1 : Nat) (he1 : elems (pairK (intW .i64) (intW .i64)) w ok a1 p1) (hc1 : p1.length ≤ c1) {r : Bool} (h : aplay16 p0 p1 = some r) :
    Ret Try.prog 26 [Value.int .i64 p0, Value.slice a1 p1.length c1] w (fun v w' => v = Value.bool r ∧ St [] w w' []) := by
  rw [aplay16] at h
  have hs100 : St [] w w [] := St.start w
  have he1001 := el0 (L0 := []) (fun b _ => out_nil b) he1
  refine enter (n := 83) Try.func26 rfl rfl rfl ?_
  refine WC.seq ?_
  refine WC.region ?_
  refine WL.val (R.assign (v := Value.bool false) rfl) rfl ?_
  refine WL.nil ?_
  refine thenN ?_
  refine WC.seq ?_
  refine WC.seq ?_
  refine WC.region ?_
  refine WL.val (R.move (v := Value.slice a1 p1.length c1) rfl) rfl ?_
  refine WL.val (R.len (a := a1) (n := p1.length) (c := c1) un205 rfl) rfl ?_
  by_cases hc102 : 300 < ((p1.length : Nat) : Int)
  · have h103 := ifT hc102 h
    refine WL.val (R.gtrT (k := .i64) (a := ((p1.length : Nat) : Int)) (b := 300) un3 rfl rfl hc102) rfl ?_
    refine WL.nil ?_
    refine thenN ?_
    refine WC.condT rfl rfl ?_
    refine WC.seq ?_
    refine WC.region ?_
    obtain ⟨y104, hx105, h106⟩ := ob (o := lives16 ) h103
    refine WL.call (lives16_ok _ (In ok w [] [])   hx105) (R.call (vs := []) (caps := []) bo95 rfl rfl) rfl ?_
    rintro v109 w110 ⟨rfl, ht107⟩
    have ht108 := hs100.call (N := []) (M := []) (List.Perm.refl _) ht107
    have hs111 := hs100.trans ht108
    refine WL.val (R.assign (v := Value.bool y104) rfl) rfl ?_
    refine WL.nil ?_
    refine thenN ?_
    refine WC.ret ?_
    obtain rfl := Option.some.inj (show some y104 = some r from h106)
    exact ret1 (P := Try.prog) (n := 83) (fn := Try.f26) (R := fun v w' => v = Value.bool y104 ∧ St [] w w' []) (t := 4) (v := Value.bool y104) rfl rfl rfl ⟨rfl, hs111⟩
  · have h112 := ifF hc102 h
    refine WL.val (R.gtrF (k := .i64) (a := ((p1.length : Nat) : Int)) (b := 300) un3 rfl rfl hc102) rfl ?_
    refine WL.nil ?_
    refine thenN ?_
    refine WC.condF rfl rfl ?_
    refine WC.skip ?_
    refine thenN ?_
    refine WC.seq ?_
    refine WC.region ?_
    refine WL.val (R.move (v := Value.int .i64 p0) rfl) rfl ?_
    obtain ⟨y113, hx114, h115⟩ := ob (o := anew16 p0) h112
    refine WL.call (anew16_ok _ (In ok w [] []) p0  hx114) (R.call (vs := [Value.int .i64 p0]) (caps := []) bo97 rfl rfl) rfl ?_
    rintro v121 w122 ⟨rp118, rL119, rfl, ho120, ht116⟩
    rcases ocE h115 with ⟨ho125, h123⟩ | ⟨q124, ho125, h123⟩
    · rw [ho125] at ho120
      obtain ⟨rfl, rfl⟩ := ho120
      have ht117 := hs100.call (N := []) (M := []) (List.Perm.refl _) ht116
      have hs126 := hs100.trans ht117
      refine WL.val (R.move (v := Value.tuple #[Value.pointer none, Value.int .i64 y113.2]) rfl) rfl ?_
      refine WL.val (R.extract (v := Value.pointer none) rfl rfl) rfl ?_
      refine WL.val (R.extract (v := Value.int .i64 y113.2) rfl rfl) rfl ?_
      refine WL.val (R.assign (v := Value.pointer none) rfl) rfl ?_
      refine WL.val (R.assign (v := Value.int .i64 y113.2) rfl) rfl ?_
      refine WL.nil ?_
      refine thenN ?_
      refine WC.seq ?_
      refine WC.region ?_
      refine WL.val (R.move (v := Value.int .i64 p0) rfl) rfl ?_
      obtain ⟨y127, hx128, h129⟩ := ob (o := rnew16 p0) h123
      refine WL.call (rnew16_ok _ (In ok w [] []) p0  hx128) (R.call (vs := [Value.int .i64 p0]) (caps := []) bo98 rfl rfl) rfl ?_
      rintro v135 w136 ⟨rp132, rL133, rfl, ho134, ht130⟩
      rcases ocE h129 with ⟨ho139, h137⟩ | ⟨q138, ho139, h137⟩
      · rw [ho139] at ho134
        obtain ⟨rfl, rfl⟩ := ho134
        have ht131 := hs126.call (N := []) (M := []) (List.Perm.refl _) ht130
        have hs140 := hs126.trans ht131
        refine WL.val (R.move (v := Value.tuple #[Value.pointer none, Value.int .i64 y127.2]) rfl) rfl ?_
        refine WL.val (R.extract (v := Value.pointer none) rfl rfl) rfl ?_
        refine WL.val (R.extract (v := Value.int .i64 y127.2) rfl rfl) rfl ?_
        refine WL.val (R.assign (v := Value.pointer none) rfl) rfl ?_
        refine WL.val (R.assign (v := Value.int .i64 y127.2) rfl) rfl ?_
        refine WL.nil ?_
        refine thenN ?_
        refine WC.seq ?_
        refine WC.seq ?_
        refine WC.region ?_
        refine WL.val (R.move (v := Value.int .i64 y113.2) rfl) rfl ?_
        refine WL.val (R.move (v := Value.int .i64 y127.2) rfl) rfl ?_
        by_cases hc141 : y113.2 = y127.2
        · have h142 := ifT hc141 h137
          refine WL.val (R.neqF (k := .i64) (a := y113.2) (b := y127.2) un66 rfl rfl (not_not_intro hc141)) rfl ?_
          refine WL.nil ?_
          refine thenN ?_
          refine WC.condF rfl rfl ?_
          refine WC.skip ?_
          refine thenN ?_
          refine WC.seq ?_
          refine WC.seq ?_
          refine WC.region ?_
          refine WL.val (R.move (v := Value.int .i64 y113.2) rfl) rfl ?_
          by_cases hc143 : y113.2 = 0
          · have h144 := ifT hc143 h142
            refine WL.val (R.neqF (k := .i64) (a := y113.2) (b := 0) un66 rfl rfl (not_not_intro hc143)) rfl ?_
            refine WL.nil ?_
            refine thenN ?_
            refine WC.condF rfl rfl ?_
            refine WC.skip ?_
            refine thenN ?_
            refine WC.seq ?_
            refine WC.seq ?_
            refine WC.region ?_
            refine WL.val (R.assign (v := Value.int .i64 0) rfl) rfl ?_
            refine WL.nil ?_
            refine thenN ?_
            have hr191 := elT (ht117.trans ht131) he1001
            obtain ⟨K183, hK184, h185⟩ := kE (G := fun K183 => aplay16_l1 p1 K183 1000000 ) h144
            refine WC.join (fun σ193 w192 => K183 () = some r ∧ St [] w w192 []) ?_ ?_
            · refine WC.block ?_
              refine WC.loop (T := Nat) (fun k189 σ187 w186 => σ187 1 = (Value.slice a1 p1.length c1) ∧ σ187 5 = (Value.pointer none) ∧ σ187 7 = (Value.pointer none) ∧ σ187 9 = (Value.int .i64 0) ∧ elems (pairK (intW .i64) (intW .i64)) w186 (In ok w [] []) a1 p1 ∧ aplay16_l1 p1 K183 k189  = some r ∧ St [] w w186 []) (fun k189 => k189) 1000000 ⟨rfl, rfl, rfl, rfl, hr191, h185, hs140⟩ ?_
              rintro k189 σ187 w186 ⟨s196, s197, s198, s199, he190, h195, hs188⟩
              rcases k189 with _ | k189
              · rw [aplay16_l1] at h195; cases h195
              rw [aplay16_l1] at h195
              refine WC.seq ?_
              refine WC.seq ?_
              refine WC.region ?_
              refine WL.val (R.move (v := Value.int .i64 0) (by exact s199)) rfl ?_
              refine WL.val (R.move (v := Value.slice a1 p1.length c1) (by exact s196)) rfl ?_
              refine WL.val (R.len (a := a1) (n := p1.length) (c := c1) un205 rfl) rfl ?_
              by_cases hc200 : 0 < ((p1.length : Nat) : Int)
              · have h201 := ifT hc200 h195
                refine WL.val (R.lssT (k := .i64) (a := 0) (b := ((p1.length : Nat) : Int)) un3 rfl rfl hc200) rfl ?_
                refine WL.nil ?_
                refine thenN ?_
                refine WC.condT rfl rfl ?_
                refine WC.skip ?_
                refine thenN ?_
                refine WC.seq ?_
                refine WC.block ?_
                refine WC.seq ?_
                refine WC.drawE mixed (NP.then (NP.block (NP.then (NP.then (NP.block (NP.join (NP.then NP.rq))))))) ?_
                have ht202 := (hs188.here).ext (Ext.drew _)
                have hs203 := hs188.trans ht202
                refine WE.take 0 rfl (by decide +kernel) (by decide +kernel) (by decide +kernel) (by decide +kernel) rfl rfl (fun wq hq => R.move (v := Value.pointer none) (by exact s197)) ?_
                refine WE.take 1 rfl (by decide +kernel) (by decide +kernel) (by decide +kernel) (by decide +kernel) rfl rfl (fun wq hq => R.move (v := Value.slice a1 p1.length c1) (by exact s196)) ?_
                refine WE.take 2 rfl (by decide +kernel) (by decide +kernel) (by decide +kernel) (by decide +kernel) rfl rfl (fun wq hq => R.move (v := Value.int .i64 0) (by exact s199)) ?_
                obtain ⟨x204, hx205, h206⟩ := ob (o := rd p1 0) h201
                obtain ⟨h0207, hx208, hl209, hm210⟩ := rdE hx205
                have hr211 := elT ht202 he190
                obtain ⟨ad212, e217, ha213, hp214, hat215, hrd216⟩ := hr211 _ _ hx208
                obtain ⟨cs218, cs219, rfl, hp220, hp221⟩ := hrd216
                obtain ⟨-, rfl⟩ := hp220
                obtain ⟨-, rfl⟩ := hp221
                refine WE.take 3 rfl (by decide +kernel) (by decide +kernel) (by decide +kernel) (by decide +kernel) rfl rfl (fun wq hq => R.indexS (n := 2) (m := (0 : Int).toNat) (a := a1) (ad := ad212) (len := p1.length) (cap := c1) (z := 0) un205 ag213.size rfl ha213 rfl hm210 hl209 hp214) ?_
                refine WE.take 4 rfl (by decide +kernel) (by decide +kernel) (by decide +kernel) (by decide +kernel) rfl rfl (fun wq hq => R.indexA (n := 1) (m := 0) (b := ad212.block) (o := ad212.off + (0 : Int).toNat * 2) (z := 0) un213 lf2.size rfl rfl rfl (by decide)) ?_
                refine WE.take 5 rfl (by decide +kernel) (by decide +kernel) (by decide +kernel) (by decide +kernel) rfl rfl (fun wq hq => R.loadL (v := Value.int .i64 x204.1) lf2 rfl (At.sub (a := ⟨ad212.block, ad212.off + (0 : Int).toNat * 2, none⟩) (off := 0) (n := 1) (cs := [Value.int .i64 x204.1, Value.int .i64 x204.2]) (ds := [Value.int .i64 x204.1]) (At.exT hq hat215) rfl rfl)) ?_
                refine WE.take 6 rfl (by decide +kernel) (by decide +kernel) (by decide +kernel) (by decide +kernel) rfl rfl (fun wq hq => R.move (v := Value.slice a1 p1.length c1) (by exact s196)) ?_
                refine WE.take 7 rfl (by decide +kernel) (by decide +kernel) (by decide +kernel) (by decide +kernel) rfl rfl (fun wq hq => R.move (v := Value.int .i64 0) (by exact s199)) ?_
                refine WE.take 8 rfl (by decide +kernel) (by decide +kernel) (by decide +kernel) (by decide +kernel) rfl rfl (fun wq hq => R.indexS (n := 2) (m := (0 : Int).toNat) (a := a1) (ad := ad212) (len := p1.length) (cap := c1) (z := 0) un205 ag213.size rfl ha213 rfl hm210 hl209 hp214) ?_
                refine WE.take 9 rfl (by decide +kernel) (by decide +kernel) (by decide +kernel) (by decide +kernel) rfl rfl (fun wq hq => R.indexA (n := 1) (m := 1) (b := ad212.block) (o := ad212.off + (0 : Int).toNat * 2) (z := 1) un213 lf2.size rfl rfl rfl (by decide)) ?_
                refine WE.take 10 rfl (by decide +kernel) (by decide +kernel) (by decide +kernel) (by decide +kernel) rfl rfl (fun wq hq => R.loadL (v := Value.int .i64 x204.2) lf2 rfl (At.sub (a := ⟨ad212.block, ad212.off + (0 : Int).toNat * 2, none⟩) (off := 1) (n := 1) (cs := [Value.int .i64 x204.1, Value.int .i64 x204.2]) (ds := [Value.int .i64 x204.2]) (At.exT hq hat215) rfl rfl)) ?_
                obtain ⟨y223, hx224, h225⟩ := ob (o := astepN16 x204.1 x204.2) h206
                refine WE.call 11 (by decide +kernel) rfl rfl rfl (astepN16_ok _ (In ok w [] []) x204.1 x204.2  hx224) (R.call (vs := [Value.pointer none, Value.int .i64 x204.1, Value.int .i64 x204.2]) (caps := []) bo99 rfl rfl) ?_
                rintro v228 w229 ⟨rfl, ht226⟩
                refine ⟨.inr (show Ext _ _ from ht226.kept), ?_⟩
                have ht227 := hs203.call (N := []) (M := []) (List.Perm.refl _) ht226
                have hs230 := hs203.trans ht227
                refine WE.take 12 rfl (by decide +kernel) (by decide +kernel) (by decide +kernel) (by decide +kernel) rfl rfl (fun wq hq => R.move (v := Value.tuple #[Value.int .i64 y223.1, Value.int .i64 y223.2]) rfl) ?_
                refine WE.take 13 rfl (by decide +kernel) (by decide +kernel) (by decide +kernel) (by decide +kernel) rfl rfl (fun wq hq => R.extract (v := Value.int .i64 y223.1) rfl rfl) ?_
                refine WE.take 14 rfl (by decide +kernel) (by decide +kernel) (by decide +kernel) (by decide +kernel) rfl rfl (fun wq hq => R.extract (v := Value.int .i64 y223.2) rfl rfl) ?_
                refine WE.take 15 rfl (by decide +kernel) (by decide +kernel) (by decide +kernel) (by decide +kernel) rfl rfl (fun wq hq => R.assign (v := Value.int .i64 y223.1) rfl) ?_
                refine WE.take 16 rfl (by decide +kernel) (by decide +kernel) (by decide +kernel) (by decide +kernel) rfl rfl (fun wq hq => R.assign (v := Value.int .i64 y223.2) rfl) ?_
                refine WE.done (by decide +kernel) ?_
                refine thenN ?_
                refine WC.seq ?_
                refine WC.drawE mixed (NP.then (NP.block (NP.then (NP.then (NP.block (NP.join (NP.then NP.rq))))))) ?_
                have ht231 := (hs230.here).ext (Ext.drew _)
                have hs232 := hs230.trans ht231
                refine WE.take 0 rfl (by decide +kernel) (by decide +kernel) (by decide +kernel) (by decide +kernel) rfl rfl (fun wq hq => R.move (v := Value.pointer none) (by exact s198)) ?_
                refine WE.take 1 rfl (by decide +kernel) (by decide +kernel) (by decide +kernel) (by decide +kernel) rfl rfl (fun wq hq => R.move (v := Value.slice a1 p1.length c1) (by exact s196)) ?_
                refine WE.take 2 rfl (by decide +kernel) (by decide +kernel) (by decide +kernel) (by decide +kernel) rfl rfl (fun wq hq => R.move (v := Value.int .i64 0) (by exact s199)) ?_
                refine WE.take 3 rfl (by decide +kernel) (by decide +kernel) (by decide +kernel) (by decide +kernel) rfl rfl (fun wq hq => R.indexS (n := 2) (m := (0 : Int).toNat) (a := a1) (ad := ad212) (len := p1.length) (cap := c1) (z := 0) un205 ag213.size rfl ha213 rfl hm210 hl209 hp214) ?_
                refine WE.take 4 rfl (by decide +kernel) (by decide +kernel) (by decide +kernel) (by decide +kernel) rfl rfl (fun wq hq => R.indexA (n := 1) (m := 0) (b := ad212.block) (o := ad212.off + (0 : Int).toNat * 2) (z := 0) un213 lf2.size rfl rfl rfl (by decide)) ?_
                have hr233 := At.trT (ht227.trans ht231) hat215
                refine WE.take 5 rfl (by decide +kernel) (by decide +kernel) (by decide +kernel) (by decide +kernel) rfl rfl (fun wq hq => R.loadL (v := Value.int .i64 x204.1) lf2 rfl (At.sub (a := ⟨ad212.block, ad212.off + (0 : Int).toNat * 2, none⟩) (off := 0) (n := 1) (cs := [Value.int .i64 x204.1, Value.int .i64 x204.2]) (ds := [Value.int .i64 x204.1]) (At.exT hq hr233) rfl rfl)) ?_
                refine WE.take 6 rfl (by decide +kernel) (by decide +kernel) (by decide +kernel) (by decide +kernel) rfl rfl (fun wq hq => R.move (v := Value.slice a1 p1.length c1) (by exact s196)) ?_
                refine WE.take 7 rfl (by decide +kernel) (by decide +kernel) (by decide +kernel) (by decide +kernel) rfl rfl (fun wq hq => R.move (v := Value.int .i64 0) (by exact s199)) ?_
                refine WE.take 8 rfl (by decide +kernel) (by decide +kernel) (by decide +kernel) (by decide +kernel) rfl rfl (fun wq hq => R.indexS (n := 2) (m := (0 : Int).toNat) (a := a1) (ad := ad212) (len := p1.length) (cap := c1) (z := 0) un205 ag213.size rfl ha213 rfl hm210 hl209 hp214) ?_
                refine WE.take 9 rfl (by decide +kernel) (by decide +kernel) (by decide +kernel) (by decide +kernel) rfl rfl (fun wq hq => R.indexA (n := 1) (m := 1) (b := ad212.block) (o := ad212.off + (0 : Int).toNat * 2) (z := 1) un213 lf2.size rfl rfl rfl (by decide)) ?_
                refine WE.take 10 rfl (by decide +kernel) (by decide +kernel) (by decide +kernel) (by decide +kernel) rfl rfl (fun wq hq => R.loadL (v := Value.int .i64 x204.2) lf2 rfl (At.sub (a := ⟨ad212.block, ad212.off + (0 : Int).toNat * 2, none⟩) (off := 1) (n := 1) (cs := [Value.int .i64 x204.1, Value.int .i64 x204.2]) (ds := [Value.int .i64 x204.2]) (At.exT hq hr233) rfl rfl)) ?_
                cases h225
              · have h234 := ifF hc200 h195
                refine WL.val (R.lssF (k := .i64) (a := 0) (b := ((p1.length : Nat) : Int)) un3 rfl rfl hc200) rfl ?_
                refine WL.nil ?_
                refine thenN ?_
                refine WC.condF rfl rfl ?_
                refine WC.exit ?_
                refine thenE ?_
                refine thenE ?_
                refine blockHit ?_
                exact joinI ⟨h234, hs188⟩
            · rintro σ193 w192 ⟨h235, hs194⟩
              subst hK184
              refine thenN ?_
              refine WC.seq ?_
              refine WC.region ?_
              obtain ⟨y236, hx237, h238⟩ := ob (o := lives16 ) h235
              refine WL.call (lives16_ok _ (In ok w [] [])   hx237) (R.call (vs := []) (caps := []) bo95 rfl rfl) rfl ?_
              rintro v241 w242 ⟨rfl, ht239⟩
              have ht240 := hs194.call (N := []) (M := []) (List.Perm.refl _) ht239
              have hs243 := hs194.trans ht240
              refine WL.val (R.assign (v := Value.bool y236) rfl) rfl ?_
              refine WL.nil ?_
              refine thenN ?_
              refine WC.ret ?_
              obtain rfl := Option.some.inj (show some y236 = some r from h238)
              exact ret1 (P := Try.prog) (n := 83) (fn := Try.f26) (R := fun v w' => v = Value.bool y236 ∧ St [] w w' []) (t := 4) (v := Value.bool y236) rfl rfl rfl ⟨rfl, hs243⟩
          · have h244 := ifF hc143 h142
            refine WL.val (R.neqT (k := .i64) (a := y113.2) (b := 0) un66 rfl rfl hc143) rfl ?_
            refine WL.nil ?_
            refine thenN ?_
            refine WC.condT rfl rfl ?_
            refine WC.seq ?_
            refine WC.region ?_
            refine WL.val (R.move (v := Value.pointer none) rfl) rfl ?_
            refine WL.val (R.nilNil un117 rfl rfl) rfl ?_
            refine WL.val (R.move (v := Value.bool true) rfl) rfl ?_
            refine WL.guardY (e := 35) rfl rfl rfl ?_
            obtain ⟨y245, hx246, h247⟩ := ob (o := lives16 ) h244
            refine WL.call (lives16_ok _ (In ok w [] [])   hx246) (R.call (vs := []) (caps := []) bo95 rfl rfl) rfl ?_
            rintro v250 w251 ⟨rfl, ht248⟩
            have ht249 := hs140.call (N := []) (M := []) (List.Perm.refl _) ht248
            have hs252 := hs140.trans ht249
            refine WL.val (R.pickT (v := Value.bool y245) rfl rfl) rfl ?_
            refine WL.val (R.assign (v := Value.bool y245) rfl) rfl ?_
            refine WL.nil ?_
            refine thenN ?_
            refine WC.ret ?_
            obtain rfl := Option.some.inj (show some y245 = some r from h247)
            exact ret1 (P := Try.prog) (n := 83) (fn := Try.f26) (R := fun v w' => v = Value.bool y245 ∧ St [] w w' []) (t := 4) (v := Value.bool y245) rfl rfl rfl ⟨rfl, hs252⟩
        · have h253 := ifF hc141 h137
          refine WL.val (R.neqT (k := .i64) (a := y113.2) (b := y127.2) un66 rfl rfl hc141) rfl ?_
          refine WL.nil ?_
          refine thenN ?_
          refine WC.condT rfl rfl ?_
          refine WC.seq ?_
          refine WC.region ?_
          refine WL.val (R.assign (v := Value.bool false) rfl) rfl ?_
          refine WL.nil ?_
          refine thenN ?_
          refine WC.ret ?_
          obtain rfl := Option.some.inj (show some false = some r from h253)
          exact ret1 (P := Try.prog) (n := 83) (fn := Try.f26) (R := fun v w' => v = Value.bool false ∧ St [] w w' []) (t := 4) (v := Value.bool false) rfl rfl rfl ⟨rfl, hs140⟩
      · rw [ho139] at ho134
        obtain ⟨b254, rfl, a255, c256, rfl⟩ := ho134
        have ht131 := hs126.call (N := []) (M := []) (List.Perm.refl _) ht130
        have hs259 := hs126.trans ht131
        refine WL.val (R.move (v := Value.tuple #[Value.pointer (some ⟨b254, 0, none⟩), Value.int .i64 y127.2]) rfl) rfl ?_
        refine WL.val (R.extract (v := Value.pointer (some ⟨b254, 0, none⟩)) rfl rfl) rfl ?_
        refine WL.val (R.extract (v := Value.int .i64 y127.2) rfl rfl) rfl ?_
        refine WL.val (R.assign (v := Value.pointer (some ⟨b254, 0, none⟩)) rfl) rfl ?_
        refine WL.val (R.assign (v := Value.int .i64 y127.2) rfl) rfl ?_
        refine WL.nil ?_
        refine thenN ?_
        refine WC.seq ?_
        refine WC.seq ?_
        refine WC.region ?_
        refine WL.val (R.move (v := Value.int .i64 y113.2) rfl) rfl ?_
        refine WL.val (R.move (v := Value.int .i64 y127.2) rfl) rfl ?_
        by_cases hc260 : y113.2 = y127.2
        · have h261 := ifT hc260 h137
          refine WL.val (R.neqF (k := .i64) (a := y113.2) (b := y127.2) un66 rfl rfl (not_not_intro hc260)) rfl ?_
          refine WL.nil ?_
          refine thenN ?_
          refine WC.condF rfl rfl ?_
          refine WC.skip ?_
          refine thenN ?_
          refine WC.seq ?_
          refine WC.seq ?_
          refine WC.region ?_
          refine WL.val (R.move (v := Value.int .i64 y113.2) rfl) rfl ?_
          by_cases hc262 : y113.2 = 0
          · have h263 := ifT hc262 h261
            refine WL.val (R.neqF (k := .i64) (a := y113.2) (b := 0) un66 rfl rfl (not_not_intro hc262)) rfl ?_
            refine WL.nil ?_
            refine thenN ?_
            refine WC.condF rfl rfl ?_
            refine WC.skip ?_
            refine thenN ?_
            refine WC.seq ?_
            refine WC.seq ?_
            refine WC.region ?_
            refine WL.val (R.assign (v := Value.int .i64 0) rfl) rfl ?_
            refine WL.nil ?_
            refine thenN ?_
            have hr392 := elT (ht117.trans ht131) he1001
            obtain ⟨K384, hK385, h386⟩ := kE (G := fun K384 => aplay16_l2 p1 K384 1000000 0 q138.1 q138.2) h263
            refine WC.join (fun σ394 w393 => K384 () = some r ∧ St [] w w393 []) ?_ ?_
            · refine WC.block ?_
              refine WC.loop (T := Nat) (fun k390 σ388 w387 => ∃ i379 : Int, ∃ i380 : Int, ∃ l381 : List Int, ∃ a382, ∃ c383, σ388 1 = (Value.slice a1 p1.length c1) ∧ σ388 5 = (Value.pointer none) ∧ σ388 7 = (Value.pointer (some ⟨b254, 0, none⟩)) ∧ σ388 9 = (Value.int .i64 i379) ∧ elems (pairK (intW .i64) (intW .i64)) w387 (In ok w [] [blk b254 264 [Value.int .i64 i380, Value.slice a382 l381.length c383], gsl 2 i64E (Value.slice a382 l381.length c383) l381]) a1 p1 ∧ aplay16_l2 p1 K384 k390 i379 i380 l381 = some r ∧ St [] w w387 [blk b254 264 [Value.int .i64 i380, Value.slice a382 l381.length c383], gsl 2 i64E (Value.slice a382 l381.length c383) l381]) (fun k390 => k390) 1000000 ⟨0, q138.1, q138.2, a255, c256, rfl, rfl, rfl, rfl, hr392, h386, hs259⟩ ?_
              rintro k390 σ388 w387 ⟨i379, i380, l381, a382, c383, s397, s398, s399, s400, he391, h396, hs389⟩
              rcases k390 with _ | k390
              · rw [aplay16_l2] at h396; cases h396
              rw [aplay16_l2] at h396
              refine WC.seq ?_
              refine WC.seq ?_
              refine WC.region ?_
              refine WL.val (R.move (v := Value.int .i64 i379) (by exact s400)) rfl ?_
              refine WL.val (R.move (v := Value.slice a1 p1.length c1) (by exact s397)) rfl ?_
              refine WL.val (R.len (a := a1) (n := p1.length) (c := c1) un205 rfl) rfl ?_
              by_cases hc401 : i379 < ((p1.length : Nat) : Int)
              · have h402 := ifT hc401 h396
                refine WL.val (R.lssT (k := .i64) (a := i379) (b := ((p1.length : Nat) : Int)) un3 rfl rfl hc401) rfl ?_
                refine WL.nil ?_
                refine thenN ?_
                refine WC.condT rfl rfl ?_
                refine WC.skip ?_
                refine thenN ?_
                refine WC.seq ?_
                refine WC.block ?_
                refine WC.seq ?_
                refine WC.drawE mixed (NP.then (NP.block (NP.then (NP.then (NP.block (NP.join (NP.then NP.rq))))))) ?_
                have ht403 := (hs389.here).ext (Ext.drew _)
                have hs404 := hs389.trans ht403
                refine WE.take 0 rfl (by decide +kernel) (by decide +kernel) (by decide +kernel) (by decide +kernel) rfl rfl (fun wq hq => R.move (v := Value.pointer none) (by exact s398)) ?_
                refine WE.take 1 rfl (by decide +kernel) (by decide +kernel) (by decide +kernel) (by decide +kernel) rfl rfl (fun wq hq => R.move (v := Value.slice a1 p1.length c1) (by exact s397)) ?_
                refine WE.take 2 rfl (by decide +kernel) (by decide +kernel) (by decide +kernel) (by decide +kernel) rfl rfl (fun wq hq => R.move (v := Value.int .i64 i379) (by exact s400)) ?_
                obtain ⟨x405, hx406, h407⟩ := ob (o := rd p1 i379) h402
                obtain ⟨h0408, hx409, hl410, hm411⟩ := rdE hx406
                have hr412 := elT ht403 he391
                obtain ⟨ad413, e418, ha414, hp415, hat416, hrd417⟩ := hr412 _ _ hx409
                obtain ⟨cs419, cs420, rfl, hp421, hp422⟩ := hrd417
                obtain ⟨-, rfl⟩ := hp421
                obtain ⟨-, rfl⟩ := hp422
                refine WE.take 3 rfl (by decide +kernel) (by decide +kernel) (by decide +kernel) (by decide +kernel) rfl rfl (fun wq hq => R.indexS (n := 2) (m := (i379).toNat) (a := a1) (ad := ad413) (len := p1.length) (cap := c1) (z := i379) un205 ag213.size rfl ha414 rfl hm411 hl410 hp415) ?_
                refine WE.take 4 rfl (by decide +kernel) (by decide +kernel) (by decide +kernel) (by decide +kernel) rfl rfl (fun wq hq => R.indexA (n := 1) (m := 0) (b := ad413.block) (o := ad413.off + (i379).toNat * 2) (z := 0) un213 lf2.size rfl rfl rfl (by decide)) ?_
                refine WE.take 5 rfl (by decide +kernel) (by decide +kernel) (by decide +kernel) (by decide +kernel) rfl rfl (fun wq hq => R.loadL (v := Value.int .i64 x405.1) lf2 rfl (At.sub (a := ⟨ad413.block, ad413.off + (i379).toNat * 2, none⟩) (off := 0) (n := 1) (cs := [Value.int .i64 x405.1, Value.int .i64 x405.2]) (ds := [Value.int .i64 x405.1]) (At.exT hq hat416) rfl rfl)) ?_
                refine WE.take 6 rfl (by decide +kernel) (by decide +kernel) (by decide +kernel) (by decide +kernel) rfl rfl (fun wq hq => R.move (v := Value.slice a1 p1.length c1) (by exact s397)) ?_
                refine WE.take 7 rfl (by decide +kernel) (by decide +kernel) (by decide +kernel) (by decide +kernel) rfl rfl (fun wq hq => R.move (v := Value.int .i64 i379) (by exact s400)) ?_
                refine WE.take 8 rfl (by decide +kernel) (by decide +kernel) (by decide +kernel) (by decide +kernel) rfl rfl (fun wq hq => R.indexS (n := 2) (m := (i379).toNat) (a := a1) (ad := ad413) (len := p1.length) (cap := c1) (z := i379) un205 ag213.size rfl ha414 rfl hm411 hl410 hp415) ?_
                refine WE.take 9 rfl (by decide +kernel) (by decide +kernel) (by decide +kernel) (by decide +kernel) rfl rfl (fun wq hq => R.indexA (n := 1) (m := 1) (b := ad413.block) (o := ad413.off + (i379).toNat * 2) (z := 1) un213 lf2.size rfl rfl rfl (by decide)) ?_
                refine WE.take 10 rfl (by decide +kernel) (by decide +kernel) (by decide +kernel) (by decide +kernel) rfl rfl (fun wq hq => R.loadL (v := Value.int .i64 x405.2) lf2 rfl (At.sub (a := ⟨ad413.block, ad413.off + (i379).toNat * 2, none⟩) (off := 1) (n := 1) (cs := [Value.int .i64 x405.1, Value.int .i64 x405.2]) (ds := [Value.int .i64 x405.2]) (At.exT hq hat416) rfl rfl)) ?_
                obtain ⟨y424, hx425, h426⟩ := ob (o := astepN16 x405.1 x405.2) h407
                refine WE.call 11 (by decide +kernel) rfl rfl rfl (astepN16_ok _ (In ok w [] [blk b254 264 [Value.int .i64 i380, Value.slice a382 l381.length c383], gsl 2 i64E (Value.slice a382 l381.length c383) l381]) x405.1 x405.2  hx425) (R.call (vs := [Value.pointer none, Value.int .i64 x405.1, Value.int .i64 x405.2]) (caps := []) bo99 rfl rfl) ?_
                rintro v429 w430 ⟨rfl, ht427⟩
                refine ⟨.inr (show Ext _ _ from ht427.kept), ?_⟩
                have ht428 := hs404.call (N := [blk b254 264 [Value.int .i64 i380, Value.slice a382 l381.length c383], gsl 2 i64E (Value.slice a382 l381.length c383) l381]) (M := []) (List.Perm.refl _) ht427
                have hs431 := hs404.trans ht428
                refine WE.take 12 rfl (by decide +kernel) (by decide +kernel) (by decide +kernel) (by decide +kernel) rfl rfl (fun wq hq => R.move (v := Value.tuple #[Value.int .i64 y424.1, Value.int .i64 y424.2]) rfl) ?_
                refine WE.take 13 rfl (by decide +kernel) (by decide +kernel) (by decide +kernel) (by decide +kernel) rfl rfl (fun wq hq => R.extract (v := Value.int .i64 y424.1) rfl rfl) ?_
                refine WE.take 14 rfl (by decide +kernel) (by decide +kernel) (by decide +kernel) (by decide +kernel) rfl rfl (fun wq hq => R.extract (v := Value.int .i64 y424.2) rfl rfl) ?_
                refine WE.take 15 rfl (by decide +kernel) (by decide +kernel) (by decide +kernel) (by decide +kernel) rfl rfl (fun wq hq => R.assign (v := Value.int .i64 y424.1) rfl) ?_
                refine WE.take 16 rfl (by decide +kernel) (by decide +kernel) (by decide +kernel) (by decide +kernel) rfl rfl (fun wq hq => R.assign (v := Value.int .i64 y424.2) rfl) ?_
                refine WE.done (by decide +kernel) ?_
                refine thenN ?_
                refine WC.seq ?_
                refine WC.drawE mixed (NP.then (NP.block (NP.then (NP.then (NP.block (NP.join (NP.then NP.rq))))))) ?_
                have ht432 := (hs431.here).ext (Ext.drew _)
                have hs433 := hs431.trans ht432
                refine WE.take 0 rfl (by decide +kernel) (by decide +kernel) (by decide +kernel) (by decide +kernel) rfl rfl (fun wq hq => R.move (v := Value.pointer (some ⟨b254, 0, none⟩)) (by exact s399)) ?_
                refine WE.take 1 rfl (by decide +kernel) (by decide +kernel) (by decide +kernel) (by decide +kernel) rfl rfl (fun wq hq => R.move (v := Value.slice a1 p1.length c1) (by exact s397)) ?_
                refine WE.take 2 rfl (by decide +kernel) (by decide +kernel) (by decide +kernel) (by decide +kernel) rfl rfl (fun wq hq => R.move (v := Value.int .i64 i379) (by exact s400)) ?_
                refine WE.take 3 rfl (by decide +kernel) (by decide +kernel) (by decide +kernel) (by decide +kernel) rfl rfl (fun wq hq => R.indexS (n := 2) (m := (i379).toNat) (a := a1) (ad := ad413) (len := p1.length) (cap := c1) (z := i379) un205 ag213.size rfl ha414 rfl hm411 hl410 hp415) ?_
                refine WE.take 4 rfl (by decide +kernel) (by decide +kernel) (by decide +kernel) (by decide +kernel) rfl rfl (fun wq hq => R.indexA (n := 1) (m := 0) (b := ad413.block) (o := ad413.off + (i379).toNat * 2) (z := 0) un213 lf2.size rfl rfl rfl (by decide)) ?_
                have hr434 := At.trT (ht428.trans ht432) hat416
                refine WE.take 5 rfl (by decide +kernel) (by decide +kernel) (by decide +kernel) (by decide +kernel) rfl rfl (fun wq hq => R.loadL (v := Value.int .i64 x405.1) lf2 rfl (At.sub (a := ⟨ad413.block, ad413.off + (i379).toNat * 2, none⟩) (off := 0) (n := 1) (cs := [Value.int .i64 x405.1, Value.int .i64 x405.2]) (ds := [Value.int .i64 x405.1]) (At.exT hq hr434) rfl rfl)) ?_
                refine WE.take 6 rfl (by decide +kernel) (by decide +kernel) (by decide +kernel) (by decide +kernel) rfl rfl (fun wq hq => R.move (v := Value.slice a1 p1.length c1) (by exact s397)) ?_
                refine WE.take 7 rfl (by decide +kernel) (by decide +kernel) (by decide +kernel) (by decide +kernel) rfl rfl (fun wq hq => R.move (v := Value.int .i64 i379) (by exact s400)) ?_
                refine WE.take 8 rfl (by decide +kernel) (by decide +kernel) (by decide +kernel) (by decide +kernel) rfl rfl (fun wq hq => R.indexS (n := 2) (m := (i379).toNat) (a := a1) (ad := ad413) (len := p1.length) (cap := c1) (z := i379) un205 ag213.size rfl ha414 rfl hm411 hl410 hp415) ?_
                refine WE.take 9 rfl (by decide +kernel) (by decide +kernel) (by decide +kernel) (by decide +kernel) rfl rfl (fun wq hq => R.indexA (n := 1) (m := 1) (b := ad413.block) (o := ad413.off + (i379).toNat * 2) (z := 1) un213 lf2.size rfl rfl rfl (by decide)) ?_
                refine WE.take 10 rfl (by decide +kernel) (by decide +kernel) (by decide +kernel) (by decide +kernel) rfl rfl (fun wq hq => R.loadL (v := Value.int .i64 x405.2) lf2 rfl (At.sub (a := ⟨ad413.block, ad413.off + (i379).toNat * 2, none⟩) (off := 1) (n := 1) (cs := [Value.int .i64 x405.1, Value.int .i64 x405.2]) (ds := [Value.int .i64 x405.2]) (At.exT hq hr434) rfl rfl)) ?_
                obtain ⟨y435, hx436, h437⟩ := ob (o := rstep16 (i380, l381) x405.1 x405.2) h426
                refine WE.call 11 (by decide +kernel) rfl rfl rfl (rstep16_ok _ (In ok w [] [blk b254 264 [Value.int .i64 i380, Value.slice a382 l381.length c383], gsl 2 i64E (Value.slice a382 l381.length c383) l381]) (i380, l381) x405.1 x405.2  b254 _ _ (In.outM (M := [blk b254 264 [Value.int .i64 i380, Value.slice a382 l381.length c383], gsl 2 i64E (Value.slice a382 l381.length c383) l381]) (N := []) ((List.Perm.refl _))) (show St [blk b254 264 [Value.int .i64 i380, Value.slice a382 l381.length c383], gsl 2 i64E (Value.slice a382 l381.length c383) l381] _ _ [blk b254 264 [Value.int .i64 i380, Value.slice a382 l381.length c383], gsl 2 i64E (Value.slice a382 l381.length c383) l381] from St.ofM (M := [blk b254 264 [Value.int .i64 i380, Value.slice a382 l381.length c383], gsl 2 i64E (Value.slice a382 l381.length c383) l381]) (N := []) hs433 ((List.Perm.refl _))) hx436) (R.call (vs := [Value.pointer (some ⟨b254, 0, none⟩), Value.int .i64 x405.1, Value.int .i64 x405.2]) (caps := []) bo100 rfl rfl) ?_
                rintro v442 w443 ⟨a440, c441, rfl, ht438⟩
                refine ⟨.inl (by decide +kernel), ?_⟩
                have ht439 := hs433.call (N := []) (M := [blk b254 264 [Value.int .i64 i380, Value.slice a382 l381.length c383], gsl 2 i64E (Value.slice a382 l381.length c383) l381]) ((List.Perm.refl _)) ht438
                have hs444 := hs433.trans ht439
                refine WE.take 12 rfl (by decide +kernel) (by decide +kernel) (by decide +kernel) (by decide +kernel) rfl rfl (fun wq hq => R.move (v := Value.tuple #[Value.int .i64 y435.1, Value.int .i64 y435.2.1]) rfl) ?_
                refine WE.take 13 rfl (by decide +kernel) (by decide +kernel) (by decide +kernel) (by decide +kernel) rfl rfl (fun wq hq => R.extract (v := Value.int .i64 y435.1) rfl rfl) ?_
                refine WE.take 14 rfl (by decide +kernel) (by decide +kernel) (by decide +kernel) (by decide +kernel) rfl rfl (fun wq hq => R.extract (v := Value.int .i64 y435.2.1) rfl rfl) ?_
                refine WE.take 15 rfl (by decide +kernel) (by decide +kernel) (by decide +kernel) (by decide +kernel) rfl rfl (fun wq hq => R.assign (v := Value.int .i64 y435.1) rfl) ?_
                refine WE.take 16 rfl (by decide +kernel) (by decide +kernel) (by decide +kernel) (by decide +kernel) rfl rfl (fun wq hq => R.assign (v := Value.int .i64 y435.2.1) rfl) ?_
                refine WE.done (by decide +kernel) ?_
                refine thenN ?_
                refine WC.seq ?_
                refine WC.region ?_
                refine WL.val (R.move (v := Value.int .i64 y424.1) rfl) rfl ?_
                refine WL.val (R.move (v := Value.int .i64 y435.1) rfl) rfl ?_
                by_cases hc445 : y424.1 = y435.1
                · have h446 := ifT hc445 h437
                  refine WL.val (R.neqF (k := .i64) (a := y424.1) (b := y435.1) un2 rfl rfl (not_not_intro hc445)) rfl ?_
                  refine WL.val (R.move (v := Value.bool false) rfl) rfl ?_
                  refine WL.guardY (e := 77) rfl rfl rfl ?_
                  refine WL.val (R.move (v := Value.int .i64 y424.2) rfl) rfl ?_
                  refine WL.guardY (e := 77) rfl rfl rfl ?_
                  refine WL.val (R.move (v := Value.int .i64 y435.2.1) rfl) rfl ?_
                  refine WL.guardY (e := 77) rfl rfl rfl ?_
                  by_cases hc447 : y424.2 = y435.2.1
                  · have h448 := ifT hc447 h446
                    refine WL.val (R.neqF (k := .i64) (a := y424.2) (b := y435.2.1) un2 rfl rfl (not_not_intro hc447)) rfl ?_
                    refine WL.val (R.pickF (v := Value.bool false) rfl rfl) rfl ?_
                    refine WL.nil ?_
                    refine thenN ?_
                    refine WC.condF rfl rfl ?_
                    refine WC.skip ?_
                    refine blockN ?_
                    refine thenN ?_
                    refine WC.region ?_
                    refine WL.val (R.move (v := Value.int .i64 i379) (by exact s400)) rfl ?_
                    obtain ⟨hg449, h450⟩ := ckE (c := -9223372036854775808 ≤ i379 + 1 ∧ i379 + 1 ≤ 9223372036854775807) h448
                    refine WL.val (R.add (a := i379) (b := 1) (z := i379 + 1) rfl rfl (w64e rfl hg449.1 hg449.2)) rfl ?_
                    refine WL.val (R.assign (v := Value.int .i64 (i379 + 1)) rfl) rfl ?_
                    refine WL.nil ?_
                    have hr451 := elT ((ht428.trans ht432).trans ht439) hr412
                    exact roundEnd (s := k390) ⟨i379 + 1, y435.2.2.1, y435.2.2.2, a440, c441, s397, s398, s399, rfl, hr451, h450, hs444⟩ (Nat.lt_succ_self _)
                  · have h452 := ifF hc447 h446
                    refine WL.val (R.neqT (k := .i64) (a := y424.2) (b := y435.2.1) un2 rfl rfl hc447) rfl ?_
                    refine WL.val (R.pickF (v := Value.bool true) rfl rfl) rfl ?_
                    refine WL.nil ?_
                    refine thenN ?_
                    refine WC.condT rfl rfl ?_
                    refine WC.seq ?_
                    refine WC.region ?_
                    refine WL.val (R.assign (v := Value.bool false) rfl) rfl ?_
                    refine WL.nil ?_
                    refine thenN ?_
                    refine WC.ret ?_
                    have ht453 := (hs444.here).perm (L' := []) (G := [blk b254 264 [Value.int .i64 y435.2.2.1, Value.slice a440 y435.2.2.2.length c441], gsl 2 i64E (Value.slice a440 y435.2.2.2.length c441) y435.2.2.2]) ((List.Perm.refl _))
                    have hs454 := hs444.trans ht453
                    obtain rfl := Option.some.inj (show some false = some r from h452)
                    exact ret1 (P := Try.prog) (n := 83) (fn := Try.f26) (R := fun v w' => v = Value.bool false ∧ St [] w w' []) (t := 4) (v := Value.bool false) rfl rfl rfl ⟨rfl, hs454⟩
                · have h455 := ifF hc445 h437
                  refine WL.val (R.neqT (k := .i64) (a := y424.1) (b := y435.1) un2 rfl rfl hc445) rfl ?_
                  refine WL.val (R.move (v := Value.bool true) rfl) rfl ?_
                  refine WL.guardN (e := 77) (v := .bool true) rfl rfl rfl rfl ?_
                  refine WL.guardN (e := 77) (v := .bool true) rfl rfl rfl rfl ?_
                  refine WL.guardN (e := 77) (v := .bool true) rfl rfl rfl rfl ?_
                  refine WL.val (R.pickT (v := Value.bool true) rfl rfl) rfl ?_
                  refine WL.nil ?_
                  refine thenN ?_
                  refine WC.condT rfl rfl ?_
                  refine WC.seq ?_
                  refine WC.region ?_
                  refine WL.val (R.assign (v := Value.bool false) rfl) rfl ?_
                  refine WL.nil ?_
                  refine thenN ?_
                  refine WC.ret ?_
                  have ht456 := (hs444.here).perm (L' := []) (G := [blk b254 264 [Value.int .i64 y435.2.2.1, Value.slice a440 y435.2.2.2.length c441], gsl 2 i64E (Value.slice a440 y435.2.2.2.length c441) y435.2.2.2]) ((List.Perm.refl _))
                  have hs457 := hs444.trans ht456
                  obtain rfl := Option.some.inj (show some false = some r from h455)
                  exact ret1 (P := Try.prog) (n := 83) (fn := Try.f26) (R := fun v w' => v = Value.bool false ∧ St [] w w' []) (t := 4) (v := Value.bool false) rfl rfl rfl ⟨rfl, hs457⟩
              · have h458 := ifF hc401 h396
                refine WL.val (R.lssF (k := .i64) (a := i379) (b := ((p1.length : Nat) : Int)) un3 rfl rfl hc401) rfl ?_
                refine WL.nil ?_
                refine thenN ?_
                refine WC.condF rfl rfl ?_
                refine WC.exit ?_
                refine thenE ?_
                refine thenE ?_
                refine blockHit ?_
                have ht459 := (hs389.here).perm (L' := []) (G := [blk b254 264 [Value.int .i64 i380, Value.slice a382 l381.length c383], gsl 2 i64E (Value.slice a382 l381.length c383) l381]) ((List.Perm.refl _))
                have hs460 := hs389.trans ht459
                exact joinI ⟨h458, hs460⟩
            · rintro σ394 w393 ⟨h461, hs395⟩
              subst hK385
              refine thenN ?_
              refine WC.seq ?_
              refine WC.region ?_
              obtain ⟨y462, hx463, h464⟩ := ob (o := lives16 ) h461
              refine WL.call (lives16_ok _ (In ok w [] [])   hx463) (R.call (vs := []) (caps := []) bo95 rfl rfl) rfl ?_
              rintro v467 w468 ⟨rfl, ht465⟩
              have ht466 := hs395.call (N := []) (M := []) (List.Perm.refl _) ht465
              have hs469 := hs395.trans ht466
              refine WL.val (R.assign (v := Value.bool y462) rfl) rfl ?_
              refine WL.nil ?_
              refine thenN ?_
              refine WC.ret ?_
              obtain rfl := Option.some.inj (show some y462 = some r from h464)
              exact ret1 (P := Try.prog) (n := 83) (fn := Try.f26) (R := fun v w' => v = Value.bool y462 ∧ St [] w w' []) (t := 4) (v := Value.bool y462) rfl rfl rfl ⟨rfl, hs469⟩
          · have h470 := ifF hc262 h261
            refine WL.val (R.neqT (k := .i64) (a := y113.2) (b := 0) un66 rfl rfl hc262) rfl ?_
            refine WL.nil ?_
            refine thenN ?_
            refine WC.condT rfl rfl ?_
            refine WC.seq ?_
            refine WC.region ?_
            refine WL.val (R.move (v := Value.pointer none) rfl) rfl ?_
            refine WL.val (R.nilNil un117 rfl rfl) rfl ?_
            refine WL.val (R.move (v := Value.bool true) rfl) rfl ?_
            refine WL.guardY (e := 35) rfl rfl rfl ?_
            obtain ⟨y471, hx472, h473⟩ := ob (o := lives16 ) h470
            refine WL.call (lives16_ok _ (In ok w [] [blk b254 264 [Value.int .i64 q138.1, Value.slice a255 q138.2.length c256], gsl 2 i64E (Value.slice a255 q138.2.length c256) q138.2])   hx472) (R.call (vs := []) (caps := []) bo95 rfl rfl) rfl ?_
            rintro v476 w477 ⟨rfl, ht474⟩
            have ht475 := hs259.call (N := [blk b254 264 [Value.int .i64 q138.1, Value.slice a255 q138.2.length c256], gsl 2 i64E (Value.slice a255 q138.2.length c256) q138.2]) (M := []) (List.Perm.refl _) ht474
            have hs478 := hs259.trans ht475
            refine WL.val (R.pickT (v := Value.bool y471) rfl rfl) rfl ?_
            refine WL.val (R.assign (v := Value.bool y471) rfl) rfl ?_
            refine WL.nil ?_
            refine thenN ?_
            refine WC.ret ?_
            have ht479 := (hs478.here).perm (L' := []) (G := [blk b254 264 [Value.int .i64 q138.1, Value.slice a255 q138.2.length c256], gsl 2 i64E (Value.slice a255 q138.2.length c256) q138.2]) ((List.Perm.refl _))
            have hs480 := hs478.trans ht479
            obtain rfl := Option.some.inj (show some y471 = some r from h473)
            exact ret1 (P := Try.prog) (n := 83) (fn := Try.f26) (R := fun v w' => v = Value.bool y471 ∧ St [] w w' []) (t := 4) (v := Value.bool y471) rfl rfl rfl ⟨rfl, hs480⟩
        · have h481 := ifF hc260 h137
          refine WL.val (R.neqT (k := .i64) (a := y113.2) (b := y127.2) un66 rfl rfl hc260) rfl ?_
          refine WL.nil ?_
          refine thenN ?_
          refine WC.condT rfl rfl ?_
          refine WC.seq ?_
          refine WC.region ?_
          refine WL.val (R.assign (v := Value.bool false) rfl) rfl ?_
          refine WL.nil ?_
          refine thenN ?_
          refine WC.ret ?_
          have ht482 := (hs259.here).perm (L' := []) (G := [blk b254 264 [Value.int .i64 q138.1, Value.slice a255 q138.2.length c256], gsl 2 i64E (Value.slice a255 q138.2.length c256) q138.2]) ((List.Perm.refl _))
          have hs483 := hs259.trans ht482
          obtain rfl := Option.some.inj (show some false = some r from h481)
          exact ret1 (P := Try.prog) (n := 83) (fn := Try.f26) (R := fun v w' => v = Value.bool false ∧ St [] w w' []) (t := 4) (v := Value.bool false) rfl rfl rfl ⟨rfl, hs483⟩
    · rw [ho125] at ho120
      obtain ⟨b484, rfl, a485, c486, rfl⟩ := ho120
      have ht117 := hs100.call (N := []) (M := []) (List.Perm.refl _) ht116
      have hs489 := hs100.trans ht117
      refine WL.val (R.move (v := Value.tuple #[Value.pointer (some ⟨b484, 0, none⟩), Value.int .i64 y113.2]) rfl) rfl ?_
      refine WL.val (R.extract (v := Value.pointer (some ⟨b484, 0, none⟩)) rfl rfl) rfl ?_
      refine WL.val (R.extract (v := Value.int .i64 y113.2) rfl rfl) rfl ?_
      refine WL.val (R.assign (v := Value.pointer (some ⟨b484, 0, none⟩)) rfl) rfl ?_
      refine WL.val (R.assign (v := Value.int .i64 y113.2) rfl) rfl ?_
      refine WL.nil ?_
      refine thenN ?_
      refine WC.seq ?_
      refine WC.region ?_
      refine WL.val (R.move (v := Value.int .i64 p0) rfl) rfl ?_
      obtain ⟨y490, hx491, h492⟩ := ob (o := rnew16 p0) h123
      refine WL.call (rnew16_ok _ (In ok w [] [blk b484 216 [Value.int .i64 q124.1, Value.slice a485 q124.2.length c486], gslU 2 i64E (Value.slice a485 q124.2.length c486) q124.2]) p0  hx491) (R.call (vs := [Value.int .i64 p0]) (caps := []) bo98 rfl rfl) rfl ?_
      rintro v498 w499 ⟨rp495, rL496, rfl, ho497, ht493⟩
      rcases ocE h492 with ⟨ho502, h500⟩ | ⟨q501, ho502, h500⟩
      · rw [ho502] at ho497
        obtain ⟨rfl, rfl⟩ := ho497
        have ht494 := hs489.call (N := [blk b484 216 [Value.int .i64 q124.1, Value.slice a485 q124.2.length c486], gslU 2 i64E (Value.slice a485 q124.2.length c486) q124.2]) (M := []) (List.Perm.refl _) ht493
        have hs503 := hs489.trans ht494
        refine WL.val (R.move (v := Value.tuple #[Value.pointer none, Value.int .i64 y490.2]) rfl) rfl ?_
        refine WL.val (R.extract (v := Value.pointer none) rfl rfl) rfl ?_
        refine WL.val (R.extract (v := Value.int .i64 y490.2) rfl rfl) rfl ?_
        refine WL.val (R.assign (v := Value.pointer none) rfl) rfl ?_
        refine WL.val (R.assign (v := Value.int .i64 y490.2) rfl) rfl ?_
        refine WL.nil ?_
        refine thenN ?_
        refine WC.seq ?_
        refine WC.seq ?_
        refine WC.region ?_
        refine WL.val (R.move (v := Value.int .i64 y113.2) rfl) rfl ?_
        refine WL.val (R.move (v := Value.int .i64 y490.2) rfl) rfl ?_
        by_cases hc504 : y113.2 = y490.2
        · have h505 := ifT hc504 h500
          refine WL.val (R.neqF (k := .i64) (a := y113.2) (b := y490.2) un66 rfl rfl (not_not_intro hc504)) rfl ?_
          refine WL.nil ?_
          refine thenN ?_
          refine WC.condF rfl rfl ?_
          refine WC.skip ?_
          refine thenN ?_
          refine WC.seq ?_
          refine WC.seq ?_
          refine WC.region ?_
          refine WL.val (R.move (v := Value.int .i64 y113.2) rfl) rfl ?_
          by_cases hc506 : y113.2 = 0
          · have h507 := ifT hc506 h505
            refine WL.val (R.neqF (k := .i64) (a := y113.2) (b := 0) un66 rfl rfl (not_not_intro hc506)) rfl ?_
            refine WL.nil ?_
            refine thenN ?_
            refine WC.condF rfl rfl ?_
            refine WC.skip ?_
            refine thenN ?_
            refine WC.seq ?_
            refine WC.seq ?_
            refine WC.region ?_
            refine WL.val (R.assign (v := Value.int .i64 0) rfl) rfl ?_
            refine WL.nil ?_
            refine thenN ?_
            have hr556 := elT (ht117.trans ht494) he1001
            obtain ⟨K548, hK549, h550⟩ := kE (G := fun K548 => aplay16_l3 p1 q124 K548 1000000 ) h507
            refine WC.join (fun σ558 w557 => K548 () = some r ∧ St [] w w557 []) ?_ ?_
            · refine WC.block ?_
              refine WC.loop (T := Nat) (fun k554 σ552 w551 => σ552 1 = (Value.slice a1 p1.length c1) ∧ σ552 5 = (Value.pointer (some ⟨b484, 0, none⟩)) ∧ σ552 7 = (Value.pointer none) ∧ σ552 9 = (Value.int .i64 0) ∧ elems (pairK (intW .i64) (intW .i64)) w551 (In ok w [] [blk b484 216 [Value.int .i64 q124.1, Value.slice a485 q124.2.length c486], gslU 2 i64E (Value.slice a485 q124.2.length c486) q124.2]) a1 p1 ∧ aplay16_l3 p1 q124 K548 k554  = some r ∧ St [] w w551 [blk b484 216 [Value.int .i64 q124.1, Value.slice a485 q124.2.length c486], gslU 2 i64E (Value.slice a485 q124.2.length c486) q124.2]) (fun k554 => k554) 1000000 ⟨rfl, rfl, rfl, rfl, hr556, h550, hs503⟩ ?_
              rintro k554 σ552 w551 ⟨s561, s562, s563, s564, he555, h560, hs553⟩
              rcases k554 with _ | k554
              · rw [aplay16_l3] at h560; cases h560
              rw [aplay16_l3] at h560
              refine WC.seq ?_
              refine WC.seq ?_
              refine WC.region ?_
              refine WL.val (R.move (v := Value.int .i64 0) (by exact s564)) rfl ?_
              refine WL.val (R.move (v := Value.slice a1 p1.length c1) (by exact s561)) rfl ?_
              refine WL.val (R.len (a := a1) (n := p1.length) (c := c1) un205 rfl) rfl ?_
              by_cases hc565 : 0 < ((p1.length : Nat) : Int)
              · have h566 := ifT hc565 h560
                refine WL.val (R.lssT (k := .i64) (a := 0) (b := ((p1.length : Nat) : Int)) un3 rfl rfl hc565) rfl ?_
                refine WL.nil ?_
                refine thenN ?_
                refine WC.condT rfl rfl ?_
                refine WC.skip ?_
                refine thenN ?_
                refine WC.seq ?_
                refine WC.block ?_
                refine WC.seq ?_
                refine WC.drawE mixed (NP.then (NP.block (NP.then (NP.then (NP.block (NP.join (NP.then NP.rq))))))) ?_
                have ht567 := (hs553.here).ext (Ext.drew _)
                have hs568 := hs553.trans ht567
                refine WE.take 0 rfl (by decide +kernel) (by decide +kernel) (by decide +kernel) (by decide +kernel) rfl rfl (fun wq hq => R.move (v := Value.pointer (some ⟨b484, 0, none⟩)) (by exact s562)) ?_
                refine WE.take 1 rfl (by decide +kernel) (by decide +kernel) (by decide +kernel) (by decide +kernel) rfl rfl (fun wq hq => R.move (v := Value.slice a1 p1.length c1) (by exact s561)) ?_
                refine WE.take 2 rfl (by decide +kernel) (by decide +kernel) (by decide +kernel) (by decide +kernel) rfl rfl (fun wq hq => R.move (v := Value.int .i64 0) (by exact s564)) ?_
                obtain ⟨x569, hx570, h571⟩ := ob (o := rd p1 0) h566
                obtain ⟨h0572, hx573, hl574, hm575⟩ := rdE hx570
                have hr576 := elT ht567 he555
                obtain ⟨ad577, e582, ha578, hp579, hat580, hrd581⟩ := hr576 _ _ hx573
                obtain ⟨cs583, cs584, rfl, hp585, hp586⟩ := hrd581
                obtain ⟨-, rfl⟩ := hp585
                obtain ⟨-, rfl⟩ := hp586
                refine WE.take 3 rfl (by decide +kernel) (by decide +kernel) (by decide +kernel) (by decide +kernel) rfl rfl (fun wq hq => R.indexS (n := 2) (m := (0 : Int).toNat) (a := a1) (ad := ad577) (len := p1.length) (cap := c1) (z := 0) un205 ag213.size rfl ha578 rfl hm575 hl574 hp579) ?_
                refine WE.take 4 rfl (by decide +kernel) (by decide +kernel) (by decide +kernel) (by decide +kernel) rfl rfl (fun wq hq => R.indexA (n := 1) (m := 0) (b := ad577.block) (o := ad577.off + (0 : Int).toNat * 2) (z := 0) un213 lf2.size rfl rfl rfl (by decide)) ?_
                refine WE.take 5 rfl (by decide +kernel) (by decide +kernel) (by decide +kernel) (by decide +kernel) rfl rfl (fun wq hq => R.loadL (v := Value.int .i64 x569.1) lf2 rfl (At.sub (a := ⟨ad577.block, ad577.off + (0 : Int).toNat * 2, none⟩) (off := 0) (n := 1) (cs := [Value.int .i64 x569.1, Value.int .i64 x569.2]) (ds := [Value.int .i64 x569.1]) (At.exT hq hat580) rfl rfl)) ?_
                refine WE.take 6 rfl (by decide +kernel) (by decide +kernel) (by decide +kernel) (by decide +kernel) rfl rfl (fun wq hq => R.move (v := Value.slice a1 p1.length c1) (by exact s561)) ?_
                refine WE.take 7 rfl (by decide +kernel) (by decide +kernel) (by decide +kernel) (by decide +kernel) rfl rfl (fun wq hq => R.move (v := Value.int .i64 0) (by exact s564)) ?_
                refine WE.take 8 rfl (by decide +kernel) (by decide +kernel) (by decide +kernel) (by decide +kernel) rfl rfl (fun wq hq => R.indexS (n := 2) (m := (0 : Int).toNat) (a := a1) (ad := ad577) (len := p1.length) (cap := c1) (z := 0) un205 ag213.size rfl ha578 rfl hm575 hl574 hp579) ?_
                refine WE.take 9 rfl (by decide +kernel) (by decide +kernel) (by decide +kernel) (by decide +kernel) rfl rfl (fun wq hq => R.indexA (n := 1) (m := 1) (b := ad577.block) (o := ad577.off + (0 : Int).toNat * 2) (z := 1) un213 lf2.size rfl rfl rfl (by decide)) ?_
                refine WE.take 10 rfl (by decide +kernel) (by decide +kernel) (by decide +kernel) (by decide +kernel) rfl rfl (fun wq hq => R.loadL (v := Value.int .i64 x569.2) lf2 rfl (At.sub (a := ⟨ad577.block, ad577.off + (0 : Int).toNat * 2, none⟩) (off := 1) (n := 1) (cs := [Value.int .i64 x569.1, Value.int .i64 x569.2]) (ds := [Value.int .i64 x569.2]) (At.exT hq hat580) rfl rfl)) ?_
                obtain ⟨y588, hx589, h590⟩ := ob (o := astep16 (q124.1, q124.2) x569.1 x569.2) h571
                refine WE.call 11 (by decide +kernel) rfl rfl rfl (astep16_ok _ (In ok w [] [blk b484 216 [Value.int .i64 q124.1, Value.slice a485 q124.2.length c486], gslU 2 i64E (Value.slice a485 q124.2.length c486) q124.2]) (q124.1, q124.2) x569.1 x569.2  b484 _ _ (In.outM (M := [blk b484 216 [Value.int .i64 q124.1, Value.slice a485 q124.2.length c486], gslU 2 i64E (Value.slice a485 q124.2.length c486) q124.2]) (N := []) ((List.Perm.refl _))) (show St [blk b484 216 [Value.int .i64 q124.1, Value.slice a485 q124.2.length c486], gslU 2 i64E (Value.slice a485 q124.2.length c486) q124.2] _ _ [blk b484 216 [Value.int .i64 q124.1, Value.slice a485 q124.2.length c486], gslU 2 i64E (Value.slice a485 q124.2.length c486) q124.2] from St.ofM (M := [blk b484 216 [Value.int .i64 q124.1, Value.slice a485 q124.2.length c486], gslU 2 i64E (Value.slice a485 q124.2.length c486) q124.2]) (N := []) hs568 ((List.Perm.refl _))) hx589) (R.call (vs := [Value.pointer (some ⟨b484, 0, none⟩), Value.int .i64 x569.1, Value.int .i64 x569.2]) (caps := []) bo99 rfl rfl) ?_
                rintro v595 w596 ⟨a593, c594, rfl, ht591⟩
                refine ⟨.inl (by decide +kernel), ?_⟩
                have ht592 := hs568.call (N := []) (M := [blk b484 216 [Value.int .i64 q124.1, Value.slice a485 q124.2.length c486], gslU 2 i64E (Value.slice a485 q124.2.length c486) q124.2]) ((List.Perm.refl _)) ht591
                have hs597 := hs568.trans ht592
                refine WE.take 12 rfl (by decide +kernel) (by decide +kernel) (by decide +kernel) (by decide +kernel) rfl rfl (fun wq hq => R.move (v := Value.tuple #[Value.int .i64 y588.1, Value.int .i64 y588.2.1]) rfl) ?_
                refine WE.take 13 rfl (by decide +kernel) (by decide +kernel) (by decide +kernel) (by decide +kernel) rfl rfl (fun wq hq => R.extract (v := Value.int .i64 y588.1) rfl rfl) ?_
                refine WE.take 14 rfl (by decide +kernel) (by decide +kernel) (by decide +kernel) (by decide +kernel) rfl rfl (fun wq hq => R.extract (v := Value.int .i64 y588.2.1) rfl rfl) ?_
                refine WE.take 15 rfl (by decide +kernel) (by decide +kernel) (by decide +kernel) (by decide +kernel) rfl rfl (fun wq hq => R.assign (v := Value.int .i64 y588.1) rfl) ?_
                refine WE.take 16 rfl (by decide +kernel) (by decide +kernel) (by decide +kernel) (by decide +kernel) rfl rfl (fun wq hq => R.assign (v := Value.int .i64 y588.2.1) rfl) ?_
                refine WE.done (by decide +kernel) ?_
                refine thenN ?_
                refine WC.seq ?_
                refine WC.drawE mixed (NP.then (NP.block (NP.then (NP.then (NP.block (NP.join (NP.then NP.rq))))))) ?_
                have ht598 := (hs597.here).ext (Ext.drew _)
                have hs599 := hs597.trans ht598
                refine WE.take 0 rfl (by decide +kernel) (by decide +kernel) (by decide +kernel) (by decide +kernel) rfl rfl (fun wq hq => R.move (v := Value.pointer none) (by exact s563)) ?_
                refine WE.take 1 rfl (by decide +kernel) (by decide +kernel) (by decide +kernel) (by decide +kernel) rfl rfl (fun wq hq => R.move (v := Value.slice a1 p1.length c1) (by exact s561)) ?_
                refine WE.take 2 rfl (by decide +kernel) (by decide +kernel) (by decide +kernel) (by decide +kernel) rfl rfl (fun wq hq => R.move (v := Value.int .i64 0) (by exact s564)) ?_
                refine WE.take 3 rfl (by decide +kernel) (by decide +kernel) (by decide +kernel) (by decide +kernel) rfl rfl (fun wq hq => R.indexS (n := 2) (m := (0 : Int).toNat) (a := a1) (ad := ad577) (len := p1.length) (cap := c1) (z := 0) un205 ag213.size rfl ha578 rfl hm575 hl574 hp579) ?_
                refine WE.take 4 rfl (by decide +kernel) (by decide +kernel) (by decide +kernel) (by decide +kernel) rfl rfl (fun wq hq => R.indexA (n := 1) (m := 0) (b := ad577.block) (o := ad577.off + (0 : Int).toNat * 2) (z := 0) un213 lf2.size rfl rfl rfl (by decide)) ?_
                have hr600 := At.trT (ht592.trans ht598) hat580
                refine WE.take 5 rfl (by decide +kernel) (by decide +kernel) (by decide +kernel) (by decide +kernel) rfl rfl (fun wq hq => R.loadL (v := Value.int .i64 x569.1) lf2 rfl (At.sub (a := ⟨ad577.block, ad577.off + (0 : Int).toNat * 2, none⟩) (off := 0) (n := 1) (cs := [Value.int .i64 x569.1, Value.int .i64 x569.2]) (ds := [Value.int .i64 x569.1]) (At.exT hq hr600) rfl rfl)) ?_
                refine WE.take 6 rfl (by decide +kernel) (by decide +kernel) (by decide +kernel) (by decide +kernel) rfl rfl (fun wq hq => R.move (v := Value.slice a1 p1.length c1) (by exact s561)) ?_
                refine WE.take 7 rfl (by decide +kernel) (by decide +kernel) (by decide +kernel) (by decide +kernel) rfl rfl (fun wq hq => R.move (v := Value.int .i64 0) (by exact s564)) ?_
                refine WE.take 8 rfl (by decide +kernel) (by decide +kernel) (by decide +kernel) (by decide +kernel) rfl rfl (fun wq hq => R.indexS (n := 2) (m := (0 : Int).toNat) (a := a1) (ad := ad577) (len := p1.length) (cap := c1) (z := 0) un205 ag213.size rfl ha578 rfl hm575 hl574 hp579) ?_
                refine WE.take 9 rfl (by decide +kernel) (by decide +kernel) (by decide +kernel) (by decide +kernel) rfl rfl (fun wq hq => R.indexA (n := 1) (m := 1) (b := ad577.block) (o := ad577.off + (0 : Int).toNat * 2) (z := 1) un213 lf2.size rfl rfl rfl (by decide)) ?_
                refine WE.take 10 rfl (by decide +kernel) (by decide +kernel) (by decide +kernel) (by decide +kernel) rfl rfl (fun wq hq => R.loadL (v := Value.int .i64 x569.2) lf2 rfl (At.sub (a := ⟨ad577.block, ad577.off + (0 : Int).toNat * 2, none⟩) (off := 1) (n := 1) (cs := [Value.int .i64 x569.1, Value.int .i64 x569.2]) (ds := [Value.int .i64 x569.2]) (At.exT hq hr600) rfl rfl)) ?_
                cases h590
              · have h601 := ifF hc565 h560
                refine WL.val (R.lssF (k := .i64) (a := 0) (b := ((p1.length : Nat) : Int)) un3 rfl rfl hc565) rfl ?_
                refine WL.nil ?_
                refine thenN ?_
                refine WC.condF rfl rfl ?_
                refine WC.exit ?_
                refine thenE ?_
                refine thenE ?_
                refine blockHit ?_
                have ht602 := (hs553.here).perm (L' := []) (G := [blk b484 216 [Value.int .i64 q124.1, Value.slice a485 q124.2.length c486], gslU 2 i64E (Value.slice a485 q124.2.length c486) q124.2]) ((List.Perm.refl _))
                have hs603 := hs553.trans ht602
                exact joinI ⟨h601, hs603⟩
            · rintro σ558 w557 ⟨h604, hs559⟩
              subst hK549
              refine thenN ?_
              refine WC.seq ?_
              refine WC.region ?_
              obtain ⟨y605, hx606, h607⟩ := ob (o := lives16 ) h604
              refine WL.call (lives16_ok _ (In ok w [] [])   hx606) (R.call (vs := []) (caps := []) bo95 rfl rfl) rfl ?_
              rintro v610 w611 ⟨rfl, ht608⟩
              have ht609 := hs559.call (N := []) (M := []) (List.Perm.refl _) ht608
              have hs612 := hs559.trans ht609
              refine WL.val (R.assign (v := Value.bool y605) rfl) rfl ?_
              refine WL.nil ?_
              refine thenN ?_
              refine WC.ret ?_
              obtain rfl := Option.some.inj (show some y605 = some r from h607)
              exact ret1 (P := Try.prog) (n := 83) (fn := Try.f26) (R := fun v w' => v = Value.bool y605 ∧ St [] w w' []) (t := 4) (v := Value.bool y605) rfl rfl rfl ⟨rfl, hs612⟩
          · have h613 := ifF hc506 h505
            refine WL.val (R.neqT (k := .i64) (a := y113.2) (b := 0) un66 rfl rfl hc506) rfl ?_
            refine WL.nil ?_
            refine thenN ?_
            refine WC.condT rfl rfl ?_
            refine WC.seq ?_
            refine WC.region ?_
            refine WL.val (R.move (v := Value.pointer (some ⟨b484, 0, none⟩)) rfl) rfl ?_
            refine WL.val (R.ptrNil (a := ⟨b484, 0, none⟩) un117 rfl rfl) rfl ?_
            refine WL.val (R.move (v := Value.bool false) rfl) rfl ?_
            refine WL.guardN (e := 35) (v := .bool false) rfl rfl rfl rfl ?_
            refine WL.val (R.pickF (v := Value.bool false) rfl rfl) rfl ?_
            refine WL.val (R.assign (v := Value.bool false) rfl) rfl ?_
            refine WL.nil ?_
            refine thenN ?_
            refine WC.ret ?_
            have ht614 := (hs503.here).perm (L' := []) (G := [blk b484 216 [Value.int .i64 q124.1, Value.slice a485 q124.2.length c486], gslU 2 i64E (Value.slice a485 q124.2.length c486) q124.2]) ((List.Perm.refl _))
            have hs615 := hs503.trans ht614
            obtain rfl := Option.some.inj (show some false = some r from h613)
            exact ret1 (P := Try.prog) (n := 83) (fn := Try.f26) (R := fun v w' => v = Value.bool false ∧ St [] w w' []) (t := 4) (v := Value.bool false) rfl rfl rfl ⟨rfl, hs615⟩
        · have h616 := ifF hc504 h500
          refine WL.val (R.neqT (k := .i64) (a := y113.2) (b := y490.2) un66 rfl rfl hc504) rfl ?_
          refine WL.nil ?_
          refine thenN ?_
          refine WC.condT rfl rfl ?_
          refine WC.seq ?_
          refine WC.region ?_
          refine WL.val (R.assign (v := Value.bool false) rfl) rfl ?_
          refine WL.nil ?_
          refine thenN ?_
          refine WC.ret ?_
          have ht617 := (hs503.here).perm (L' := []) (G := [blk b484 216 [Value.int .i64 q124.1, Value.slice a485 q124.2.length c486], gslU 2 i64E (Value.slice a485 q124.2.length c486) q124.2]) ((List.Perm.refl _))
          have hs618 := hs503.trans ht617
          obtain rfl := Option.some.inj (show some false = some r from h616)
          exact ret1 (P := Try.prog) (n := 83) (fn := Try.f26) (R := fun v w' => v = Value.bool false ∧ St [] w w' []) (t := 4) (v := Value.bool false) rfl rfl rfl ⟨rfl, hs618⟩
      · rw [ho502] at ho497
        obtain ⟨b619, rfl, a620, c621, rfl⟩ := ho497
        have ht494 := hs489.call (N := [blk b484 216 [Value.int .i64 q124.1, Value.slice a485 q124.2.length c486], gslU 2 i64E (Value.slice a485 q124.2.length c486) q124.2]) (M := []) (List.Perm.refl _) ht493
        have hs624 := hs489.trans ht494
        refine WL.val (R.move (v := Value.tuple #[Value.pointer (some ⟨b619, 0, none⟩), Value.int .i64 y490.2]) rfl) rfl ?_
        refine WL.val (R.extract (v := Value.pointer (some ⟨b619, 0, none⟩)) rfl rfl) rfl ?_
        refine WL.val (R.extract (v := Value.int .i64 y490.2) rfl rfl) rfl ?_
        refine WL.val (R.assign (v := Value.pointer (some ⟨b619, 0, none⟩)) rfl) rfl ?_
        refine WL.val (R.assign (v := Value.int .i64 y490.2) rfl) rfl ?_
        refine WL.nil ?_
        refine thenN ?_
        refine WC.seq ?_
        refine WC.seq ?_
        refine WC.region ?_
        refine WL.val (R.move (v := Value.int .i64 y113.2) rfl) rfl ?_
        refine WL.val (R.move (v := Value.int .i64 y490.2) rfl) rfl ?_
        by_cases hc625 : y113.2 = y490.2
        · have h626 := ifT hc625 h500
          refine WL.val (R.neqF (k := .i64) (a := y113.2) (b := y490.2) un66 rfl rfl (not_not_intro hc625)) rfl ?_
          refine WL.nil ?_
          refine thenN ?_
          refine WC.condF rfl rfl ?_
          refine WC.skip ?_
          refine thenN ?_
          refine WC.seq ?_
          refine WC.seq ?_
          refine WC.region ?_
          refine WL.val (R.move (v := Value.int .i64 y113.2) rfl) rfl ?_
          by_cases hc627 : y113.2 = 0
          · have h628 := ifT hc627 h626
            refine WL.val (R.neqF (k := .i64) (a := y113.2) (b := 0) un66 rfl rfl (not_not_intro hc627)) rfl ?_
            refine WL.nil ?_
            refine thenN ?_
            refine WC.condF rfl rfl ?_
            refine WC.skip ?_
            refine thenN ?_
            refine WC.seq ?_
            refine WC.seq ?_
            refine WC.region ?_
            refine WL.val (R.assign (v := Value.int .i64 0) rfl) rfl ?_
            refine WL.nil ?_
            refine thenN ?_
            have ht769 := (hs624.here).perm (L' := [blk b484 216 [Value.int .i64 q124.1, Value.slice a485 q124.2.length c486], blk b619 264 [Value.int .i64 q501.1, Value.slice a620 q501.2.length c621], gslU 2 i64E (Value.slice a485 q124.2.length c486) q124.2, gsl 2 i64E (Value.slice a620 q501.2.length c621) q501.2]) (G := []) (((List.perm_middle (l₁ := [blk b619 264 [Value.int .i64 q501.1, Value.slice a620 q501.2.length c621], gsl 2 i64E (Value.slice a620 q501.2.length c621) q501.2]) (a := blk b484 216 [Value.int .i64 q124.1, Value.slice a485 q124.2.length c486]) (l₂ := [gslU 2 i64E (Value.slice a485 q124.2.length c486) q124.2])).trans (List.Perm.cons _ (List.Perm.cons _ ((List.perm_middle (l₁ := [gsl 2 i64E (Value.slice a620 q501.2.length c621) q501.2]) (a := gslU 2 i64E (Value.slice a485 q124.2.length c486) q124.2) (l₂ := [])).trans (List.Perm.cons _ (List.Perm.refl _)))))))
            have hs770 := hs624.trans ht769
            have hr771 := elT ((ht117.trans ht494).trans ht769) he1001
            obtain ⟨K761, hK762, h763⟩ := kE (G := fun K761 => aplay16_l4 p1 K761 1000000 0 q124.1 q501.1 q124.2 q501.2) h628
            refine WC.join (fun σ773 w772 => K761 () = some r ∧ St [] w w772 []) ?_ ?_
            · refine WC.block ?_
              refine WC.loop (T := Nat) (fun k767 σ765 w764 => ∃ i752 : Int, ∃ i753 : Int, ∃ i754 : Int, ∃ l755 : List Int, ∃ l758 : List Int, ∃ a756, ∃ c757, ∃ a759, ∃ c760, σ765 1 = (Value.slice a1 p1.length c1) ∧ σ765 5 = (Value.pointer (some ⟨b484, 0, none⟩)) ∧ σ765 7 = (Value.pointer (some ⟨b619, 0, none⟩)) ∧ σ765 9 = (Value.int .i64 i752) ∧ elems (pairK (intW .i64) (intW .i64)) w764 (In ok w [] [blk b484 216 [Value.int .i64 i753, Value.slice a756 l755.length c757], blk b619 264 [Value.int .i64 i754, Value.slice a759 l758.length c760], gslU 2 i64E (Value.slice a756 l755.length c757) l755, gsl 2 i64E (Value.slice a759 l758.length c760) l758]) a1 p1 ∧ aplay16_l4 p1 K761 k767 i752 i753 i754 l755 l758 = some r ∧ St [] w w764 [blk b484 216 [Value.int .i64 i753, Value.slice a756 l755.length c757], blk b619 264 [Value.int .i64 i754, Value.slice a759 l758.length c760], gslU 2 i64E (Value.slice a756 l755.length c757) l755, gsl 2 i64E (Value.slice a759 l758.length c760) l758]) (fun k767 => k767) 1000000 ⟨0, q124.1, q501.1, q124.2, q501.2, a485, c486, a620, c621, rfl, rfl, rfl, rfl, hr771, h763, hs770⟩ ?_
              rintro k767 σ765 w764 ⟨i752, i753, i754, l755, l758, a756, c757, a759, c760, s776, s777, s778, s779, he768, h775, hs766⟩
              rcases k767 with _ | k767
              · rw [aplay16_l4] at h775; cases h775
              rw [aplay16_l4] at h775
              refine WC.seq ?_
              refine WC.seq ?_
              refine WC.region ?_
              refine WL.val (R.move (v := Value.int .i64 i752) (by exact s779)) rfl ?_
              refine WL.val (R.move (v := Value.slice a1 p1.length c1) (by exact s776)) rfl ?_
              refine WL.val (R.len (a := a1) (n := p1.length) (c := c1) un205 rfl) rfl ?_
              by_cases hc780 : i752 < ((p1.length : Nat) : Int)
              · have h781 := ifT hc780 h775
                refine WL.val (R.lssT (k := .i64) (a := i752) (b := ((p1.length : Nat) : Int)) un3 rfl rfl hc780) rfl ?_
                refine WL.nil ?_
                refine thenN ?_
                refine WC.condT rfl rfl ?_
                refine WC.skip ?_
                refine thenN ?_
                refine WC.seq ?_
                refine WC.block ?_
                refine WC.seq ?_
                refine WC.drawE mixed (NP.then (NP.block (NP.then (NP.then (NP.block (NP.join (NP.then NP.rq))))))) ?_
                have ht782 := (hs766.here).ext (Ext.drew _)
                have hs783 := hs766.trans ht782
                refine WE.take 0 rfl (by decide +kernel) (by decide +kernel) (by decide +kernel) (by decide +kernel) rfl rfl (fun wq hq => R.move (v := Value.pointer (some ⟨b484, 0, none⟩)) (by exact s777)) ?_
                refine WE.take 1 rfl (by decide +kernel) (by decide +kernel) (by decide +kernel) (by decide +kernel) rfl rfl (fun wq hq => R.move (v := Value.slice a1 p1.length c1) (by exact s776)) ?_
                refine WE.take 2 rfl (by decide +kernel) (by decide +kernel) (by decide +kernel) (by decide +kernel) rfl rfl (fun wq hq => R.move (v := Value.int .i64 i752) (by exact s779)) ?_
                obtain ⟨x784, hx785, h786⟩ := ob (o := rd p1 i752) h781
                obtain ⟨h0787, hx788, hl789, hm790⟩ := rdE hx785
                have hr791 := elT ht782 he768
                obtain ⟨ad792, e797, ha793, hp794, hat795, hrd796⟩ := hr791 _ _ hx788
                obtain ⟨cs798, cs799, rfl, hp800, hp801⟩ := hrd796
                obtain ⟨-, rfl⟩ := hp800
                obtain ⟨-, rfl⟩ := hp801
                refine WE.take 3 rfl (by decide +kernel) (by decide +kernel) (by decide +kernel) (by decide +kernel) rfl rfl (fun wq hq => R.indexS (n := 2) (m := (i752).toNat) (a := a1) (ad := ad792) (len := p1.length) (cap := c1) (z := i752) un205 ag213.size rfl ha793 rfl hm790 hl789 hp794) ?_
                refine WE.take 4 rfl (by decide +kernel) (by decide +kernel) (by decide +kernel) (by decide +kernel) rfl rfl (fun wq hq => R.indexA (n := 1) (m := 0) (b := ad792.block) (o := ad792.off + (i752).toNat * 2) (z := 0) un213 lf2.size rfl rfl rfl (by decide)) ?_
                refine WE.take 5 rfl (by decide +kernel) (by decide +kernel) (by decide +kernel) (by decide +kernel) rfl rfl (fun wq hq => R.loadL (v := Value.int .i64 x784.1) lf2 rfl (At.sub (a := ⟨ad792.block, ad792.off + (i752).toNat * 2, none⟩) (off := 0) (n := 1) (cs := [Value.int .i64 x784.1, Value.int .i64 x784.2]) (ds := [Value.int .i64 x784.1]) (At.exT hq hat795) rfl rfl)) ?_
                refine WE.take 6 rfl (by decide +kernel) (by decide +kernel) (by decide +kernel) (by decide +kernel) rfl rfl (fun wq hq => R.move (v := Value.slice a1 p1.length c1) (by exact s776)) ?_
                refine WE.take 7 rfl (by decide +kernel) (by decide +kernel) (by decide +kernel) (by decide +kernel) rfl rfl (fun wq hq => R.move (v := Value.int .i64 i752) (by exact s779)) ?_
                refine WE.take 8 rfl (by decide +kernel) (by decide +kernel) (by decide +kernel) (by decide +kernel) rfl rfl (fun wq hq => R.indexS (n := 2) (m := (i752).toNat) (a := a1) (ad := ad792) (len := p1.length) (cap := c1) (z := i752) un205 ag213.size rfl ha793 rfl hm790 hl789 hp794) ?_
                refine WE.take 9 rfl (by decide +kernel) (by decide +kernel) (by decide +kernel) (by decide +kernel) rfl rfl (fun wq hq => R.indexA (n := 1) (m := 1) (b := ad792.block) (o := ad792.off + (i752).toNat * 2) (z := 1) un213 lf2.size rfl rfl rfl (by decide)) ?_
                refine WE.take 10 rfl (by decide +kernel) (by decide +kernel) (by decide +kernel) (by decide +kernel) rfl rfl (fun wq hq => R.loadL (v := Value.int .i64 x784.2) lf2 rfl (At.sub (a := ⟨ad792.block, ad792.off + (i752).toNat * 2, none⟩) (off := 1) (n := 1) (cs := [Value.int .i64 x784.1, Value.int .i64 x784.2]) (ds := [Value.int .i64 x784.2]) (At.exT hq hat795) rfl rfl)) ?_
                obtain ⟨y803, hx804, h805⟩ := ob (o := astep16 (i753, l755) x784.1 x784.2) h786
                refine WE.call 11 (by decide +kernel) rfl rfl rfl (astep16_ok _ (In ok w [] [blk b484 216 [Value.int .i64 i753, Value.slice a756 l755.length c757], blk b619 264 [Value.int .i64 i754, Value.slice a759 l758.length c760], gslU 2 i64E (Value.slice a756 l755.length c757) l755, gsl 2 i64E (Value.slice a759 l758.length c760) l758]) (i753, l755) x784.1 x784.2  b484 _ _ (In.outM (M := [blk b484 216 [Value.int .i64 i753, Value.slice a756 l755.length c757], gslU 2 i64E (Value.slice a756 l755.length c757) l755]) (N := [blk b619 264 [Value.int .i64 i754, Value.slice a759 l758.length c760], gsl 2 i64E (Value.slice a759 l758.length c760) l758]) ((List.Perm.cons _ ((List.perm_middle (l₁ := [blk b619 264 [Value.int .i64 i754, Value.slice a759 l758.length c760]]) (a := gslU 2 i64E (Value.slice a756 l755.length c757) l755) (l₂ := [gsl 2 i64E (Value.slice a759 l758.length c760) l758])).trans (List.Perm.cons _ (List.Perm.refl _)))))) (show St [blk b484 216 [Value.int .i64 i753, Value.slice a756 l755.length c757], gslU 2 i64E (Value.slice a756 l755.length c757) l755] _ _ [blk b484 216 [Value.int .i64 i753, Value.slice a756 l755.length c757], gslU 2 i64E (Value.slice a756 l755.length c757) l755] from St.ofM (M := [blk b484 216 [Value.int .i64 i753, Value.slice a756 l755.length c757], gslU 2 i64E (Value.slice a756 l755.length c757) l755]) (N := [blk b619 264 [Value.int .i64 i754, Value.slice a759 l758.length c760], gsl 2 i64E (Value.slice a759 l758.length c760) l758]) hs783 ((List.Perm.cons _ ((List.perm_middle (l₁ := [blk b619 264 [Value.int .i64 i754, Value.slice a759 l758.length c760]]) (a := gslU 2 i64E (Value.slice a756 l755.length c757) l755) (l₂ := [gsl 2 i64E (Value.slice a759 l758.length c760) l758])).trans (List.Perm.cons _ (List.Perm.refl _)))))) hx804) (R.call (vs := [Value.pointer (some ⟨b484, 0, none⟩), Value.int .i64 x784.1, Value.int .i64 x784.2]) (caps := []) bo99 rfl rfl) ?_
                rintro v810 w811 ⟨a808, c809, rfl, ht806⟩
                refine ⟨.inl (by decide +kernel), ?_⟩
                have ht807 := hs783.call (N := [blk b619 264 [Value.int .i64 i754, Value.slice a759 l758.length c760], gsl 2 i64E (Value.slice a759 l758.length c760) l758]) (M := [blk b484 216 [Value.int .i64 i753, Value.slice a756 l755.length c757], gslU 2 i64E (Value.slice a756 l755.length c757) l755]) ((List.Perm.cons _ ((List.perm_middle (l₁ := [blk b619 264 [Value.int .i64 i754, Value.slice a759 l758.length c760]]) (a := gslU 2 i64E (Value.slice a756 l755.length c757) l755) (l₂ := [gsl 2 i64E (Value.slice a759 l758.length c760) l758])).trans (List.Perm.cons _ (List.Perm.refl _))))) ht806
                have hs812 := hs783.trans ht807
                refine WE.take 12 rfl (by decide +kernel) (by decide +kernel) (by decide +kernel) (by decide +kernel) rfl rfl (fun wq hq => R.move (v := Value.tuple #[Value.int .i64 y803.1, Value.int .i64 y803.2.1]) rfl) ?_
                refine WE.take 13 rfl (by decide +kernel) (by decide +kernel) (by decide +kernel) (by decide +kernel) rfl rfl (fun wq hq => R.extract (v := Value.int .i64 y803.1) rfl rfl) ?_
                refine WE.take 14 rfl (by decide +kernel) (by decide +kernel) (by decide +kernel) (by decide +kernel) rfl rfl (fun wq hq => R.extract (v := Value.int .i64 y803.2.1) rfl rfl) ?_
                refine WE.take 15 rfl (by decide +kernel) (by decide +kernel) (by decide +kernel) (by decide +kernel) rfl rfl (fun wq hq => R.assign (v := Value.int .i64 y803.1) rfl) ?_
                refine WE.take 16 rfl (by decide +kernel) (by decide +kernel) (by decide +kernel) (by decide +kernel) rfl rfl (fun wq hq => R.assign (v := Value.int .i64 y803.2.1) rfl) ?_
                refine WE.done (by decide +kernel) ?_
                refine thenN ?_
                refine WC.seq ?_
                refine WC.drawE mixed (NP.then (NP.block (NP.then (NP.then (NP.block (NP.join (NP.then NP.rq))))))) ?_
                have ht813 := (hs812.here).ext (Ext.drew _)
                have hs814 := hs812.trans ht813
                refine WE.take 0 rfl (by decide +kernel) (by decide +kernel) (by decide +kernel) (by decide +kernel) rfl rfl (fun wq hq => R.move (v := Value.pointer (some ⟨b619, 0, none⟩)) (by exact s778)) ?_
                refine WE.take 1 rfl (by decide +kernel) (by decide +kernel) (by decide +kernel) (by decide +kernel) rfl rfl (fun wq hq => R.move (v := Value.slice a1 p1.length c1) (by exact s776)) ?_
                refine WE.take 2 rfl (by decide +kernel) (by decide +kernel) (by decide +kernel) (by decide +kernel) rfl rfl (fun wq hq => R.move (v := Value.int .i64 i752) (by exact s779)) ?_
                refine WE.take 3 rfl (by decide +kernel) (by decide +kernel) (by decide +kernel) (by decide +kernel) rfl rfl (fun wq hq => R.indexS (n := 2) (m := (i752).toNat) (a := a1) (ad := ad792) (len := p1.length) (cap := c1) (z := i752) un205 ag213.size rfl ha793 rfl hm790 hl789 hp794) ?_
                refine WE.take 4 rfl (by decide +kernel) (by decide +kernel) (by decide +kernel) (by decide +kernel) rfl rfl (fun wq hq => R.indexA (n := 1) (m := 0) (b := ad792.block) (o := ad792.off + (i752).toNat * 2) (z := 0) un213 lf2.size rfl rfl rfl (by decide)) ?_
                have hr815 := At.trT (ht807.trans ht813) hat795
                refine WE.take 5 rfl (by decide +kernel) (by decide +kernel) (by decide +kernel) (by decide +kernel) rfl rfl (fun wq hq => R.loadL (v := Value.int .i64 x784.1) lf2 rfl (At.sub (a := ⟨ad792.block, ad792.off + (i752).toNat * 2, none⟩) (off := 0) (n := 1) (cs := [Value.int .i64 x784.1, Value.int .i64 x784.2]) (ds := [Value.int .i64 x784.1]) (At.exT hq hr815) rfl rfl)) ?_
                refine WE.take 6 rfl (by decide +kernel) (by decide +kernel) (by decide +kernel) (by decide +kernel) rfl rfl (fun wq hq => R.move (v := Value.slice a1 p1.length c1) (by exact s776)) ?_
                refine WE.take 7 rfl (by decide +kernel) (by decide +kernel) (by decide +kernel) (by decide +kernel) rfl rfl (fun wq hq => R.move (v := Value.int .i64 i752) (by exact s779)) ?_
                refine WE.take 8 rfl (by decide +kernel) (by decide +kernel) (by decide +kernel) (by decide +kernel) rfl rfl (fun wq hq => R.indexS (n := 2) (m := (i752).toNat) (a := a1) (ad := ad792) (len := p1.length) (cap := c1) (z := i752) un205 ag213.size rfl ha793 rfl hm790 hl789 hp794) ?_
                refine WE.take 9 rfl (by decide +kernel) (by decide +kernel) (by decide +kernel) (by decide +kernel) rfl rfl (fun wq hq => R.indexA (n := 1) (m := 1) (b := ad792.block) (o := ad792.off + (i752).toNat * 2) (z := 1) un213 lf2.size rfl rfl rfl (by decide)) ?_
                refine WE.take 10 rfl (by decide +kernel) (by decide +kernel) (by decide +kernel) (by decide +kernel) rfl rfl (fun wq hq => R.loadL (v := Value.int .i64 x784.2) lf2 rfl (At.sub (a := ⟨ad792.block, ad792.off + (i752).toNat * 2, none⟩) (off := 1) (n := 1) (cs := [Value.int .i64 x784.1, Value.int .i64 x784.2]) (ds := [Value.int .i64 x784.2]) (At.exT hq hr815) rfl rfl)) ?_
                obtain ⟨y816, hx817, h818⟩ := ob (o := rstep16 (i754, l758) x784.1 x784.2) h805
                refine WE.call 11 (by decide +kernel) rfl rfl rfl (rstep16_ok _ (In ok w [] [blk b484 216 [Value.int .i64 y803.2.2.1, Value.slice a808 y803.2.2.2.length c809], gslU 2 i64E (Value.slice a808 y803.2.2.2.length c809) y803.2.2.2, blk b619 264 [Value.int .i64 i754, Value.slice a759 l758.length c760], gsl 2 i64E (Value.slice a759 l758.length c760) l758]) (i754, l758) x784.1 x784.2  b619 _ _ (In.outM (M := [blk b619 264 [Value.int .i64 i754, Value.slice a759 l758.length c760], gsl 2 i64E (Value.slice a759 l758.length c760) l758]) (N := [blk b484 216 [Value.int .i64 y803.2.2.1, Value.slice a808 y803.2.2.2.length c809], gslU 2 i64E (Value.slice a808 y803.2.2.2.length c809) y803.2.2.2]) (((List.perm_middle (l₁ := [blk b484 216 [Value.int .i64 y803.2.2.1, Value.slice a808 y803.2.2.2.length c809], gslU 2 i64E (Value.slice a808 y803.2.2.2.length c809) y803.2.2.2]) (a := blk b619 264 [Value.int .i64 i754, Value.slice a759 l758.length c760]) (l₂ := [gsl 2 i64E (Value.slice a759 l758.length c760) l758])).trans (List.Perm.cons _ ((List.perm_middle (l₁ := [blk b484 216 [Value.int .i64 y803.2.2.1, Value.slice a808 y803.2.2.2.length c809], gslU 2 i64E (Value.slice a808 y803.2.2.2.length c809) y803.2.2.2]) (a := gsl 2 i64E (Value.slice a759 l758.length c760) l758) (l₂ := [])).trans (List.Perm.cons _ (List.Perm.refl _))))))) (show St [blk b619 264 [Value.int .i64 i754, Value.slice a759 l758.length c760], gsl 2 i64E (Value.slice a759 l758.length c760) l758] _ _ [blk b619 264 [Value.int .i64 i754, Value.slice a759 l758.length c760], gsl 2 i64E (Value.slice a759 l758.length c760) l758] from St.ofM (M := [blk b619 264 [Value.int .i64 i754, Value.slice a759 l758.length c760], gsl 2 i64E (Value.slice a759 l758.length c760) l758]) (N := [blk b484 216 [Value.int .i64 y803.2.2.1, Value.slice a808 y803.2.2.2.length c809], gslU 2 i64E (Value.slice a808 y803.2.2.2.length c809) y803.2.2.2]) hs814 (((List.perm_middle (l₁ := [blk b484 216 [Value.int .i64 y803.2.2.1, Value.slice a808 y803.2.2.2.length c809], gslU 2 i64E (Value.slice a808 y803.2.2.2.length c809) y803.2.2.2]) (a := blk b619 264 [Value.int .i64 i754, Value.slice a759 l758.length c760]) (l₂ := [gsl 2 i64E (Value.slice a759 l758.length c760) l758])).trans (List.Perm.cons _ ((List.perm_middle (l₁ := [blk b484 216 [Value.int .i64 y803.2.2.1, Value.slice a808 y803.2.2.2.length c809], gslU 2 i64E (Value.slice a808 y803.2.2.2.length c809) y803.2.2.2]) (a := gsl 2 i64E (Value.slice a759 l758.length c760) l758) (l₂ := [])).trans (List.Perm.cons _ (List.Perm.refl _))))))) hx817) (R.call (vs := [Value.pointer (some ⟨b619, 0, none⟩), Value.int .i64 x784.1, Value.int .i64 x784.2]) (caps := []) bo100 rfl rfl) ?_
                rintro v823 w824 ⟨a821, c822, rfl, ht819⟩
                refine ⟨.inl (by decide +kernel), ?_⟩
                have ht820 := hs814.call (N := [blk b484 216 [Value.int .i64 y803.2.2.1, Value.slice a808 y803.2.2.2.length c809], gslU 2 i64E (Value.slice a808 y803.2.2.2.length c809) y803.2.2.2]) (M := [blk b619 264 [Value.int .i64 i754, Value.slice a759 l758.length c760], gsl 2 i64E (Value.slice a759 l758.length c760) l758]) (((List.perm_middle (l₁ := [blk b484 216 [Value.int .i64 y803.2.2.1, Value.slice a808 y803.2.2.2.length c809], gslU 2 i64E (Value.slice a808 y803.2.2.2.length c809) y803.2.2.2]) (a := blk b619 264 [Value.int .i64 i754, Value.slice a759 l758.length c760]) (l₂ := [gsl 2 i64E (Value.slice a759 l758.length c760) l758])).trans (List.Perm.cons _ ((List.perm_middle (l₁ := [blk b484 216 [Value.int .i64 y803.2.2.1, Value.slice a808 y803.2.2.2.length c809], gslU 2 i64E (Value.slice a808 y803.2.2.2.length c809) y803.2.2.2]) (a := gsl 2 i64E (Value.slice a759 l758.length c760) l758) (l₂ := [])).trans (List.Perm.cons _ (List.Perm.refl _)))))) ht819
                have hs825 := hs814.trans ht820
                refine WE.take 12 rfl (by decide +kernel) (by decide +kernel) (by decide +kernel) (by decide +kernel) rfl rfl (fun wq hq => R.move (v := Value.tuple #[Value.int .i64 y816.1, Value.int .i64 y816.2.1]) rfl) ?_
                refine WE.take 13 rfl (by decide +kernel) (by decide +kernel) (by decide +kernel) (by decide +kernel) rfl rfl (fun wq hq => R.extract (v := Value.int .i64 y816.1) rfl rfl) ?_
                refine WE.take 14 rfl (by decide +kernel) (by decide +kernel) (by decide +kernel) (by decide +kernel) rfl rfl (fun wq hq => R.extract (v := Value.int .i64 y816.2.1) rfl rfl) ?_
                refine WE.take 15 rfl (by decide +kernel) (by decide +kernel) (by decide +kernel) (by decide +kernel) rfl rfl (fun wq hq => R.assign (v := Value.int .i64 y816.1) rfl) ?_
                refine WE.take 16 rfl (by decide +kernel) (by decide +kernel) (by decide +kernel) (by decide +kernel) rfl rfl (fun wq hq => R.assign (v := Value.int .i64 y816.2.1) rfl) ?_
                refine WE.done (by decide +kernel) ?_
                refine thenN ?_
                refine WC.seq ?_
                refine WC.region ?_
                refine WL.val (R.move (v := Value.int .i64 y803.1) rfl) rfl ?_
                refine WL.val (R.move (v := Value.int .i64 y816.1) rfl) rfl ?_
                by_cases hc826 : y803.1 = y816.1
                · have h827 := ifT hc826 h818
                  refine WL.val (R.neqF (k := .i64) (a := y803.1) (b := y816.1) un2 rfl rfl (not_not_intro hc826)) rfl ?_
                  refine WL.val (R.move (v := Value.bool false) rfl) rfl ?_
                  refine WL.guardY (e := 77) rfl rfl rfl ?_
                  refine WL.val (R.move (v := Value.int .i64 y803.2.1) rfl) rfl ?_
                  refine WL.guardY (e := 77) rfl rfl rfl ?_
                  refine WL.val (R.move (v := Value.int .i64 y816.2.1) rfl) rfl ?_
                  refine WL.guardY (e := 77) rfl rfl rfl ?_
                  by_cases hc828 : y803.2.1 = y816.2.1
                  · have h829 := ifT hc828 h827
                    refine WL.val (R.neqF (k := .i64) (a := y803.2.1) (b := y816.2.1) un2 rfl rfl (not_not_intro hc828)) rfl ?_
                    refine WL.val (R.pickF (v := Value.bool false) rfl rfl) rfl ?_
                    refine WL.nil ?_
                    refine thenN ?_
                    refine WC.condF rfl rfl ?_
                    refine WC.skip ?_
                    refine blockN ?_
                    refine thenN ?_
                    refine WC.region ?_
                    refine WL.val (R.move (v := Value.int .i64 i752) (by exact s779)) rfl ?_
                    obtain ⟨hg830, h831⟩ := ckE (c := -9223372036854775808 ≤ i752 + 1 ∧ i752 + 1 ≤ 9223372036854775807) h829
                    refine WL.val (R.add (a := i752) (b := 1) (z := i752 + 1) rfl rfl (w64e rfl hg830.1 hg830.2)) rfl ?_
                    refine WL.val (R.assign (v := Value.int .i64 (i752 + 1)) rfl) rfl ?_
                    refine WL.nil ?_
                    have ht832 := (hs825.here).perm (L' := [blk b484 216 [Value.int .i64 y803.2.2.1, Value.slice a808 y803.2.2.2.length c809], blk b619 264 [Value.int .i64 y816.2.2.1, Value.slice a821 y816.2.2.2.length c822], gslU 2 i64E (Value.slice a808 y803.2.2.2.length c809) y803.2.2.2, gsl 2 i64E (Value.slice a821 y816.2.2.2.length c822) y816.2.2.2]) (G := []) (((List.perm_middle (l₁ := [blk b619 264 [Value.int .i64 y816.2.2.1, Value.slice a821 y816.2.2.2.length c822], gsl 2 i64E (Value.slice a821 y816.2.2.2.length c822) y816.2.2.2]) (a := blk b484 216 [Value.int .i64 y803.2.2.1, Value.slice a808 y803.2.2.2.length c809]) (l₂ := [gslU 2 i64E (Value.slice a808 y803.2.2.2.length c809) y803.2.2.2])).trans (List.Perm.cons _ (List.Perm.cons _ ((List.perm_middle (l₁ := [gsl 2 i64E (Value.slice a821 y816.2.2.2.length c822) y816.2.2.2]) (a := gslU 2 i64E (Value.slice a808 y803.2.2.2.length c809) y803.2.2.2) (l₂ := [])).trans (List.Perm.cons _ (List.Perm.refl _)))))))
                    have hs833 := hs825.trans ht832
                    have hr834 := elT (((ht807.trans ht813).trans ht820).trans ht832) hr791
                    exact roundEnd (s := k767) ⟨i752 + 1, y803.2.2.1, y816.2.2.1, y803.2.2.2, y816.2.2.2, a808, c809, a821, c822, s776, s777, s778, rfl, hr834, h831, hs833⟩ (Nat.lt_succ_self _)
                  · have h835 := ifF hc828 h827
                    refine WL.val (R.neqT (k := .i64) (a := y803.2.1) (b := y816.2.1) un2 rfl rfl hc828) rfl ?_
                    refine WL.val (R.pickF (v := Value.bool true) rfl rfl) rfl ?_
                    refine WL.nil ?_
                    refine thenN ?_
                    refine WC.condT rfl rfl ?_
                    refine WC.seq ?_
                    refine WC.region ?_
                    refine WL.val (R.assign (v := Value.bool false) rfl) rfl ?_
                    refine WL.nil ?_
                    refine thenN ?_
                    refine WC.ret ?_
                    have ht836 := (hs825.here).perm (L' := []) (G := [blk b619 264 [Value.int .i64 y816.2.2.1, Value.slice a821 y816.2.2.2.length c822], gsl 2 i64E (Value.slice a821 y816.2.2.2.length c822) y816.2.2.2, blk b484 216 [Value.int .i64 y803.2.2.1, Value.slice a808 y803.2.2.2.length c809], gslU 2 i64E (Value.slice a808 y803.2.2.2.length c809) y803.2.2.2]) ((List.Perm.refl _))
                    have hs837 := hs825.trans ht836
                    obtain rfl := Option.some.inj (show some false = some r from h835)
                    exact ret1 (P := Try.prog) (n := 83) (fn := Try.f26) (R := fun v w' => v = Value.bool false ∧ St [] w w' []) (t := 4) (v := Value.bool false) rfl rfl rfl ⟨rfl, hs837⟩
                · have h838 := ifF hc826 h818
                  refine WL.val (R.neqT (k := .i64) (a := y803.1) (b := y816.1) un2 rfl rfl hc826) rfl ?_
                  refine WL.val (R.move (v := Value.bool true) rfl) rfl ?_
                  refine WL.guardN (e := 77) (v := .bool true) rfl rfl rfl rfl ?_
                  refine WL.guardN (e := 77) (v := .bool true) rfl rfl rfl rfl ?_
                  refine WL.guardN (e := 77) (v := .bool true) rfl rfl rfl rfl ?_
                  refine WL.val (R.pickT (v := Value.bool true) rfl rfl) rfl ?_
                  refine WL.nil ?_
                  refine thenN ?_
                  refine WC.condT rfl rfl ?_
                  refine WC.seq ?_
                  refine WC.region ?_
                  refine WL.val (R.assign (v := Value.bool false) rfl) rfl ?_
                  refine WL.nil ?_
                  refine thenN ?_
                  refine WC.ret ?_
                  have ht839 := (hs825.here).perm (L' := []) (G := [blk b619 264 [Value.int .i64 y816.2.2.1, Value.slice a821 y816.2.2.2.length c822], gsl 2 i64E (Value.slice a821 y816.2.2.2.length c822) y816.2.2.2, blk b484 216 [Value.int .i64 y803.2.2.1, Value.slice a808 y803.2.2.2.length c809], gslU 2 i64E (Value.slice a808 y803.2.2.2.length c809) y803.2.2.2]) ((List.Perm.refl _))
                  have hs840 := hs825.trans ht839
                  obtain rfl := Option.some.inj (show some false = some r from h838)
                  exact ret1 (P := Try.prog) (n := 83) (fn := Try.f26) (R := fun v w' => v = Value.bool false ∧ St [] w w' []) (t := 4) (v := Value.bool false) rfl rfl rfl ⟨rfl, hs840⟩
              · have h841 := ifF hc780 h775
                refine WL.val (R.lssF (k := .i64) (a := i752) (b := ((p1.length : Nat) : Int)) un3 rfl rfl hc780) rfl ?_
                refine WL.nil ?_
                refine thenN ?_
                refine WC.condF rfl rfl ?_
                refine WC.exit ?_
                refine thenE ?_
                refine thenE ?_
                refine blockHit ?_
                have ht842 := (hs766.here).perm (L' := []) (G := [blk b484 216 [Value.int .i64 i753, Value.slice a756 l755.length c757], blk b619 264 [Value.int .i64 i754, Value.slice a759 l758.length c760], gslU 2 i64E (Value.slice a756 l755.length c757) l755, gsl 2 i64E (Value.slice a759 l758.length c760) l758]) ((List.Perm.refl _))
                have hs843 := hs766.trans ht842
                exact joinI ⟨h841, hs843⟩
            · rintro σ773 w772 ⟨h844, hs774⟩
              subst hK762
              refine thenN ?_
              refine WC.seq ?_
              refine WC.region ?_
              obtain ⟨y845, hx846, h847⟩ := ob (o := lives16 ) h844
              refine WL.call (lives16_ok _ (In ok w [] [])   hx846) (R.call (vs := []) (caps := []) bo95 rfl rfl) rfl ?_
              rintro v850 w851 ⟨rfl, ht848⟩
              have ht849 := hs774.call (N := []) (M := []) (List.Perm.refl _) ht848
              have hs852 := hs774.trans ht849
              refine WL.val (R.assign (v := Value.bool y845) rfl) rfl ?_
              refine WL.nil ?_
              refine thenN ?_
              refine WC.ret ?_
              obtain rfl := Option.some.inj (show some y845 = some r from h847)
              exact ret1 (P := Try.prog) (n := 83) (fn := Try.f26) (R := fun v w' => v = Value.bool y845 ∧ St [] w w' []) (t := 4) (v := Value.bool y845) rfl rfl rfl ⟨rfl, hs852⟩
          · have h853 := ifF hc627 h626
            refine WL.val (R.neqT (k := .i64) (a := y113.2) (b := 0) un66 rfl rfl hc627) rfl ?_
            refine WL.nil ?_
            refine thenN ?_
            refine WC.condT rfl rfl ?_
            refine WC.seq ?_
            refine WC.region ?_
            refine WL.val (R.move (v := Value.pointer (some ⟨b484, 0, none⟩)) rfl) rfl ?_
            refine WL.val (R.ptrNil (a := ⟨b484, 0, none⟩) un117 rfl rfl) rfl ?_
            refine WL.val (R.move (v := Value.bool false) rfl) rfl ?_
            refine WL.guardN (e := 35) (v := .bool false) rfl rfl rfl rfl ?_
            refine WL.val (R.pickF (v := Value.bool false) rfl rfl) rfl ?_
            refine WL.val (R.assign (v := Value.bool false) rfl) rfl ?_
            refine WL.nil ?_
            refine thenN ?_
            refine WC.ret ?_
            have ht854 := (hs624.here).perm (L' := []) (G := [blk b619 264 [Value.int .i64 q501.1, Value.slice a620 q501.2.length c621], gsl 2 i64E (Value.slice a620 q501.2.length c621) q501.2, blk b484 216 [Value.int .i64 q124.1, Value.slice a485 q124.2.length c486], gslU 2 i64E (Value.slice a485 q124.2.length c486) q124.2]) ((List.Perm.refl _))
            have hs855 := hs624.trans ht854
            obtain rfl := Option.some.inj (show some false = some r from h853)
            exact ret1 (P := Try.prog) (n := 83) (fn := Try.f26) (R := fun v w' => v = Value.bool false ∧ St [] w w' []) (t := 4) (v := Value.bool false) rfl rfl rfl ⟨rfl, hs855⟩
        · have h856 := ifF hc625 h500
          refine WL.val (R.neqT (k := .i64) (a := y113.2) (b := y490.2) un66 rfl rfl hc625) rfl ?_
          refine WL.nil ?_
          refine thenN ?_
          refine WC.condT rfl rfl ?_
          refine WC.seq ?_
          refine WC.region ?_
          refine WL.val (R.assign (v := Value.bool false) rfl) rfl ?_
          refine WL.nil ?_
          refine thenN ?_
          refine WC.ret ?_
          have ht857 := (hs624.here).perm (L' := []) (G := [blk b619 264 [Value.int .i64 q501.1, Value.slice a620 q501.2.length c621], gsl 2 i64E (Value.slice a620 q501.2.length c621) q501.2, blk b484 216 [Value.int .i64 q124.1, Value.slice a485 q124.2.length c486], gslU 2 i64E (Value.slice a485 q124.2.length c486) q124.2]) ((List.Perm.refl _))
          have hs858 := hs624.trans ht857
          obtain rfl := Option.some.inj (show some false = some r from h856)
          exact ret1 (P := Try.prog) (n := 83) (fn := Try.f26) (R := fun v w' => v = Value.bool false ∧ St [] w w' []) (t := 4) (v := Value.bool false) rfl rfl rfl ⟨rfl, hs858⟩

theorem acommon16_ok (w : World) (ok : Nat → Prop) (p0 : Int) (p1 : List Hd) (a1 : Option Addr) (c1 : Nat) (he1 : elems heldW w ok a1 p1) (hc1 : p1.length ≤ c1) {r : Bool} (h : acommon16 p0 p1 = some r) :
    Ret Try.prog 25 [Value.int .i64 p0, Value.slice a1 p1.length c1] w (fun v w' => v = Value.bool r ∧ St [] w w' []) := by
  rw [acommon16] at h
  have hs100 : St [] w w [] := St.start w
  have he1001 := el0 (L0 := []) (fun b _ => out_nil b) he1
  refine enter (n := 58) Try.func25 rfl rfl rfl ?_
  refine WC.seq ?_
  refine WC.region ?_
  refine WL.val (R.assign (v := Value.bool false) rfl) rfl ?_
  refine WL.nil ?_
  refine thenN ?_
  refine WC.seq ?_
  refine WC.seq ?_
  refine WC.region ?_
  refine WL.val (R.move (v := Value.slice a1 p1.length c1) rfl) rfl ?_
  refine WL.val (R.len (a := a1) (n := p1.length) (c := c1) un28 rfl) rfl ?_
  by_cases hc102 : 100 < ((p1.length : Nat) : Int)
  · have h103 := ifT hc102 h
    refine WL.val (R.gtrT (k := .i64) (a := ((p1.length : Nat) : Int)) (b := 100) un3 rfl rfl hc102) rfl ?_
    refine WL.nil ?_
    refine thenN ?_
    refine WC.condT rfl rfl ?_
    refine WC.seq ?_
    refine WC.region ?_
    obtain ⟨y104, hx105, h106⟩ := ob (o := lives16 ) h103
    refine WL.call (lives16_ok _ (In ok w [] [])   hx105) (R.call (vs := []) (caps := []) bo95 rfl rfl) rfl ?_
    rintro v109 w110 ⟨rfl, ht107⟩
    have ht108 := hs100.call (N := []) (M := []) (List.Perm.refl _) ht107
    have hs111 := hs100.trans ht108
    refine WL.val (R.assign (v := Value.bool y104) rfl) rfl ?_
    refine WL.nil ?_
    refine thenN ?_
    refine WC.ret ?_
    obtain rfl := Option.some.inj (show some y104 = some r from h106)
    exact ret1 (P := Try.prog) (n := 58) (fn := Try.f25) (R := fun v w' => v = Value.bool y104 ∧ St [] w w' []) (t := 4) (v := Value.bool y104) rfl rfl rfl ⟨rfl, hs111⟩
  · have h112 := ifF hc102 h
    refine WL.val (R.gtrF (k := .i64) (a := ((p1.length : Nat) : Int)) (b := 100) un3 rfl rfl hc102) rfl ?_
    refine WL.nil ?_
    refine thenN ?_
    refine WC.condF rfl rfl ?_
    refine WC.skip ?_
    refine thenN ?_
    refine WC.seq ?_
    refine WC.region ?_
    refine WL.val (R.move (v := Value.slice a1 p1.length c1) rfl) rfl ?_
    have ht113 := (hs100.here).addNil 60 heldE rfl
    have hs115 := hs100.trans ht113
    obtain ⟨hg116, h117⟩ := ckE (c := ([] : List Hd).length + p1.length < 1000000) h112
    have hr118 := elT ht113 he1001
    refine WL.grow (L' := fun v119 => [gsl 60 heldE v119 (([] : List Hd) ++ p1)]) (X.appendRd (k := heldW) (i := 0) (e := heldE) (xs := ([] : List Hd)) (ys := p1) (c := c1) (a := a1) (hs115.here) sl28 rfl rfl rfl rfl rfl (fun h => h.2) (fun _ => rfl) hr118 (roomR hg116 (by decide)) (roomR63 hg116) (fun _ => rfl)) rfl ?_
    intro v119 w120 ht121
    obtain ⟨a122, c123, hv124⟩ := gsl_sl (ht121.get (i := 0) rfl)
    subst hv124
    have hs125 := hs115.trans ht121
    refine WL.val (R.assign (v := Value.slice a122 ((([] : List Hd) ++ p1).length) c123) rfl) rfl ?_
    refine WL.nil ?_
    refine thenN ?_
    refine WC.seq ?_
    refine WC.region ?_
    refine WL.val (R.assign (v := Value.slice none 0 0) rfl) rfl ?_
    refine WL.nil ?_
    refine thenN ?_
    refine WC.seq ?_
    refine WC.seq ?_
    refine WC.region ?_
    refine WL.val (R.assign (v := Value.int .i64 0) rfl) rfl ?_
    refine WL.nil ?_
    refine thenN ?_
    have ht171 := (hs125.here).addNil 202 heldE rfl
    have hs173 := hs125.trans ht171
    have hr279 := elT (ht121.trans ht171) hr118
    obtain ⟨K271, hK272, h273⟩ := kE (G := fun K271 => acommon16_l1 p1 K271 1000000 0 ([] : List Hd)) h117
    refine WC.join (fun σ281 w280 => ∃ l268 : List Hd, ∃ a269, ∃ c270, σ281 0 = (Value.int .i64 p0) ∧ σ281 1 = (Value.slice a1 p1.length c1) ∧ σ281 5 = (Value.slice a122 ((([] : List Hd) ++ p1).length) c123) ∧ σ281 6 = (Value.slice a269 l268.length c270) ∧ elems heldW w280 (In ok w [] [gsl 60 heldE (Value.slice a122 ((([] : List Hd) ++ p1).length) c123) (([] : List Hd) ++ p1), gsl 202 heldE (Value.slice a269 l268.length c270) l268]) a1 p1 ∧ K271 l268 = some r ∧ St [] w w280 [gsl 60 heldE (Value.slice a122 ((([] : List Hd) ++ p1).length) c123) (([] : List Hd) ++ p1), gsl 202 heldE (Value.slice a269 l268.length c270) l268]) ?_ ?_
    · refine WC.block ?_
      refine WC.loop (T := Nat) (fun k277 σ275 w274 => ∃ i264 : Int, ∃ l265 : List Hd, ∃ a266, ∃ c267, σ275 0 = (Value.int .i64 p0) ∧ σ275 1 = (Value.slice a1 p1.length c1) ∧ σ275 5 = (Value.slice a122 ((([] : List Hd) ++ p1).length) c123) ∧ σ275 6 = (Value.slice a266 l265.length c267) ∧ σ275 7 = (Value.int .i64 i264) ∧ elems heldW w274 (In ok w [] [gsl 60 heldE (Value.slice a122 ((([] : List Hd) ++ p1).length) c123) (([] : List Hd) ++ p1), gsl 202 heldE (Value.slice a266 l265.length c267) l265]) a1 p1 ∧ acommon16_l1 p1 K271 k277 i264 l265 = some r ∧ St [] w w274 [gsl 60 heldE (Value.slice a122 ((([] : List Hd) ++ p1).length) c123) (([] : List Hd) ++ p1), gsl 202 heldE (Value.slice a266 l265.length c267) l265]) (fun k277 => k277) 1000000 ⟨0, ([] : List Hd), none, 0, rfl, rfl, rfl, rfl, rfl, hr279, h273, hs173⟩ ?_
      rintro k277 σ275 w274 ⟨i264, l265, a266, c267, s285, s286, s287, s288, s289, he278, h284, hs276⟩
      rcases k277 with _ | k277
      · rw [acommon16_l1] at h284; cases h284
      rw [acommon16_l1] at h284
      refine WC.seq ?_
      refine WC.seq ?_
      refine WC.region ?_
      refine WL.val (R.move (v := Value.int .i64 i264) (by exact s289)) rfl ?_
      refine WL.val (R.move (v := Value.slice a1 p1.length c1) (by exact s286)) rfl ?_
      refine WL.val (R.len (a := a1) (n := p1.length) (c := c1) un28 rfl) rfl ?_
      by_cases hc290 : i264 < ((p1.length : Nat) : Int)
      · have h291 := ifT hc290 h284
        refine WL.val (R.lssT (k := .i64) (a := i264) (b := ((p1.length : Nat) : Int)) un3 rfl rfl hc290) rfl ?_
        refine WL.nil ?_
        refine thenN ?_
        refine WC.condT rfl rfl ?_
        refine WC.skip ?_
        refine thenN ?_
        refine WC.seq ?_
        refine WC.block ?_
        refine WC.drawE mixed (NP.block (NP.then (NP.then (NP.block (NP.join (NP.then NP.rq)))))) ?_
        have ht292 := (hs276.here).ext (Ext.drew _)
        have hs293 := hs276.trans ht292
        refine WE.take 0 rfl (by decide +kernel) (by decide +kernel) (by decide +kernel) (by decide +kernel) rfl rfl (fun wq hq => R.move (v := Value.slice a266 l265.length c267) (by exact s288)) ?_
        refine WE.take 1 rfl (by decide +kernel) (by decide +kernel) (by decide +kernel) (by decide +kernel) rfl rfl (fun wq hq => R.move (v := Value.slice a1 p1.length c1) (by exact s286)) ?_
        refine WE.take 2 rfl (by decide +kernel) (by decide +kernel) (by decide +kernel) (by decide +kernel) rfl rfl (fun wq hq => R.move (v := Value.int .i64 i264) (by exact s289)) ?_
        obtain ⟨x294, hx295, h296⟩ := ob (o := rd p1 i264) h291
        obtain ⟨h0297, hx298, hl299, hm300⟩ := rdE hx295
        have hr301 := elT ht292 he278
        obtain ⟨ad302, e307, ha303, hp304, hat305, hrd306⟩ := hr301 _ _ hx298
        obtain ⟨-, rfl⟩ := hrd306
        refine WE.take 3 rfl (by decide +kernel) (by decide +kernel) (by decide +kernel) (by decide +kernel) rfl rfl (fun wq hq => R.indexS (n := 56) (m := (i264).toNat) (a := a1) (ad := ad302) (len := p1.length) (cap := c1) (z := i264) un28 ag60.size rfl ha303 rfl hm300 hl299 hp304) ?_
        refine WE.take 4 rfl (by decide +kernel) (by decide +kernel) (by decide +kernel) (by decide +kernel) rfl rfl (fun wq hq => R.fieldAddr (o := ad302.off + (i264).toNat * 56) (o' := ad302.off + (i264).toNat * 56) fa60_0 rfl rfl) ?_
        refine WE.take 5 rfl (by decide +kernel) (by decide +kernel) (by decide +kernel) (by decide +kernel) rfl rfl (fun wq hq => R.loadL (v := Value.bool x294.is) lf4 rfl (At.sub (a := ⟨ad302.block, ad302.off + (i264).toNat * 56, none⟩) (off := 0) (n := 1) (cs := encH x294) (ds := [Value.bool x294.is]) (At.exT hq hat305) rfl rfl)) ?_
        refine WE.take 6 rfl (by decide +kernel) (by decide +kernel) (by decide +kernel) (by decide +kernel) rfl rfl (fun wq hq => R.move (v := Value.slice a1 p1.length c1) (by exact s286)) ?_
        refine WE.take 7 rfl (by decide +kernel) (by decide +kernel) (by decide +kernel) (by decide +kernel) rfl rfl (fun wq hq => R.move (v := Value.int .i64 i264) (by exact s289)) ?_
        refine WE.take 8 rfl (by decide +kernel) (by decide +kernel) (by decide +kernel) (by decide +kernel) rfl rfl (fun wq hq => R.indexS (n := 56) (m := (i264).toNat) (a := a1) (ad := ad302) (len := p1.length) (cap := c1) (z := i264) un28 ag60.size rfl ha303 rfl hm300 hl299 hp304) ?_
        refine WE.take 9 rfl (by decide +kernel) (by decide +kernel) (by decide +kernel) (by decide +kernel) rfl rfl (fun wq hq => R.fieldAddr (o := ad302.off + (i264).toNat * 56) (o' := ad302.off + (i264).toNat * 56 + 1) fa60_1 rfl rfl) ?_
        refine WE.take 10 rfl (by decide +kernel) (by decide +kernel) (by decide +kernel) (by decide +kernel) rfl rfl (fun wq hq => R.loadA (cs := encC x294.cell) (n := 55) ag58 rfl (At.sub (a := ⟨ad302.block, ad302.off + (i264).toNat * 56, none⟩) (off := 1) (n := 55) (cs := encH x294) (ds := encC x294.cell) (At.exT hq hat305) rfl rfl) rfl) ?_
        have hd309 : ∀ w, (Instr.build 202 #[(0, Value.bool x294.is), (1, Value.agg (List.toArray (encC x294.cell)))]).run Try.prog w = .ok (Value.agg (List.toArray (encH (⟨x294.is, x294.cell⟩ : Hd)))) w := fun _ => by kernel_rfl
        refine WE.take 11 rfl (by decide +kernel) (by decide +kernel) (by decide +kernel) (by decide +kernel) rfl rfl (fun wq hq => R.build (vs := [(0, Value.bool x294.is), (1, Value.agg (List.toArray (encC x294.cell)))]) rfl hd309) ?_
        have hd315 : ∀ w : World, (Instr.buildSlice 31 1 #[(0, Value.agg (List.toArray (encH (⟨x294.is, x294.cell⟩ : Hd))))]).run Try.prog w = .ok (.slice (some ⟨w.heap.size, 0, none⟩) 1 1) { w with heap := w.heap.push (.cells (List.toArray (encH (⟨x294.is, x294.cell⟩ : Hd))) 202) } := fun _ => by kernel_rfl
        refine WE.new (L' := fun b310 => [gsl 60 heldE (Value.slice a122 ((([] : List Hd) ++ p1).length) c123) (([] : List Hd) ++ p1), gsl 202 heldE (Value.slice a266 l265.length c267) l265, blk b310 202 (encH (⟨x294.is, x294.cell⟩ : Hd))]) (f := fun b310 => Value.slice (some ⟨b310, 0, none⟩) 1 1) 12 (by decide +kernel) rfl rfl rfl (X.buildSlice (c := (encH (⟨x294.is, x294.cell⟩ : Hd))) (vs := [(0, Value.agg (List.toArray (encH (⟨x294.is, x294.cell⟩ : Hd))))]) (hs293.here) rfl hd315 (fun _ => rfl)) ?_
        intro b310 w311 ht317 he313 hz314
        have hs318 := hs293.trans ht317
        obtain ⟨hg319, h320⟩ := ckE (c := l265.length < 1000000) h296
        refine WE.grow (L' := fun v321 => [gsl 60 heldE (Value.slice a122 ((([] : List Hd) ++ p1).length) c123) (([] : List Hd) ++ p1), gsl 202 heldE v321 (l265 ++ [(⟨x294.is, x294.cell⟩ : Hd)]), blk b310 202 (encH (⟨x294.is, x294.cell⟩ : Hd))]) 13 (by decide +kernel) (by decide +kernel) rfl rfl rfl (X.append (i := 1) (e := heldE) (xs := l265) (ys := [(⟨x294.is, x294.cell⟩ : Hd)]) (ad := ⟨b310, 0, none⟩) (m := 1) (c := 1) (hs318.here) sl31 rfl rfl rfl rfl ((hs318.here).at (i := 2) (off := 0) (n := 56) (cs := flat heldE [(⟨x294.is, x294.cell⟩ : Hd)]) rfl rfl rfl) rfl rfl (room (n := 1) hg319 rfl (by decide)) (room63 (n := 1) hg319 rfl (by decide)) (fun _ => rfl)) ?_
        intro v321 w322 ht323
        obtain ⟨a324, c325, hv326⟩ := gsl_sl (ht323.get (i := 1) rfl)
        subst hv326
        have hs327 := hs318.trans ht323
        refine WE.take 14 rfl (by decide +kernel) (by decide +kernel) (by decide +kernel) (by decide +kernel) rfl rfl (fun wq hq => R.assign (v := Value.slice a324 ((l265 ++ [(⟨x294.is, x294.cell⟩ : Hd)]).length) c325) rfl) ?_
        refine WE.done (by decide +kernel) ?_
        refine blockN ?_
        refine thenN ?_
        refine WC.region ?_
        refine WL.val (R.move (v := Value.int .i64 i264) (by exact s289)) rfl ?_
        obtain ⟨hg328, h329⟩ := ckE (c := -9223372036854775808 ≤ i264 + 1 ∧ i264 + 1 ≤ 9223372036854775807) h320
        refine WL.val (R.add (a := i264) (b := 1) (z := i264 + 1) rfl rfl (w64e rfl hg328.1 hg328.2)) rfl ?_
        refine WL.val (R.assign (v := Value.int .i64 (i264 + 1)) rfl) rfl ?_
        refine WL.nil ?_
        have ht330 := (hs327.here).perm (L' := [gsl 60 heldE (Value.slice a122 ((([] : List Hd) ++ p1).length) c123) (([] : List Hd) ++ p1), gsl 202 heldE (Value.slice a324 ((l265 ++ [(⟨x294.is, x294.cell⟩ : Hd)]).length) c325) (l265 ++ [(⟨x294.is, x294.cell⟩ : Hd)])]) (G := [blk b310 202 (encH (⟨x294.is, x294.cell⟩ : Hd))]) ((List.Perm.refl _))
        have hs331 := hs327.trans ht330
        have hr332 := elT ((ht317.trans ht323).trans ht330) hr301
        exact roundEnd (s := k277) ⟨i264 + 1, l265 ++ [(⟨x294.is, x294.cell⟩ : Hd)], a324, c325, s285, s286, s287, rfl, rfl, hr332, h329, hs331⟩ (Nat.lt_succ_self _)
      · have h333 := ifF hc290 h284
        refine WL.val (R.lssF (k := .i64) (a := i264) (b := ((p1.length : Nat) : Int)) un3 rfl rfl hc290) rfl ?_
        refine WL.nil ?_
        refine thenN ?_
        refine WC.condF rfl rfl ?_
        refine WC.exit ?_
        refine thenE ?_
        refine thenE ?_
        refine blockHit ?_
        exact joinI ⟨l265, a266, c267, s285, s286, s287, s288, he278, h333, hs276⟩
    · rintro σ281 w280 ⟨l268, a269, c270, s335, s336, s337, s338, he283, h334, hs282⟩
      subst hK272
      refine thenN ?_
      refine WC.seq ?_
      refine WC.seq ?_
      refine WC.region ?_
      refine WL.val (R.move (v := Value.int .i64 p0) (by exact s335)) rfl ?_
      refine WL.val (R.move (v := Value.slice a122 ((([] : List Hd) ++ p1).length) c123) (by exact s337)) rfl ?_
      obtain ⟨a339, c340, hv341, hl342, he343⟩ := el_freeze (k := heldW) (ok := ok) hs282 (List.Perm.refl _) rfl (fun _ _ _ => ⟨trivial, rfl⟩)
      obtain ⟨rfl, rfl⟩ : a122 = a339 ∧ c123 = c340 := ⟨(Value.slice.inj hv341).1, (Value.slice.inj hv341).2.2⟩
      have ht344 := (hs282.here).perm (L' := [gsl 202 heldE (Value.slice a269 l268.length c270) l268]) (G := [gsl 60 heldE (Value.slice a122 ((([] : List Hd) ++ p1).length) c123) (([] : List Hd) ++ p1)]) (((List.perm_middle (l₁ := [gsl 60 heldE (Value.slice a122 ((([] : List Hd) ++ p1).length) c123) (([] : List Hd) ++ p1)]) (a := gsl 202 heldE (Value.slice a269 l268.length c270) l268) (l₂ := [])).trans (List.Perm.cons _ (List.Perm.refl _))))
      have hs345 := hs282.trans ht344
      obtain ⟨y347, hx348, h349⟩ := ob (o := common16 p0 (([] : List Hd) ++ p1)) h334
      refine WL.call (common16_ok _ _ p0 (([] : List Hd) ++ p1) _ _ he343 hl342 hx348) (R.call (vs := [Value.int .i64 p0, Value.slice a122 ((([] : List Hd) ++ p1).length) c123]) (caps := []) bo94 rfl rfl) rfl ?_
      rintro v352 w353 ⟨rfl, ht350⟩
      have ht351 := hs345.call (N := [gsl 202 heldE (Value.slice a269 l268.length c270) l268]) (M := []) (List.Perm.refl _) ht350
      have hs354 := hs345.trans ht351
      refine WL.val (R.move (v := Value.int .i64 p0) (by exact s335)) rfl ?_
      refine WL.val (R.move (v := Value.slice a269 l268.length c270) (by exact s338)) rfl ?_
      obtain ⟨a355, c356, hv357, hl358, he359⟩ := el_freeze (k := heldW) (ok := ok) hs354 (List.Perm.refl _) rfl (fun _ _ _ => ⟨trivial, rfl⟩)
      obtain ⟨rfl, rfl⟩ : a269 = a355 ∧ c270 = c356 := ⟨(Value.slice.inj hv357).1, (Value.slice.inj hv357).2.2⟩
      have ht360 := (hs354.here).perm (L' := []) (G := [gsl 202 heldE (Value.slice a269 l268.length c270) l268]) ((List.Perm.refl _))
      have hs361 := hs354.trans ht360
      obtain ⟨y363, hx364, h365⟩ := ob (o := rcommon16 p0 l268) h349
      refine WL.call (rcommon16_ok _ _ p0 l268 _ _ he359 hl358 hx364) (R.call (vs := [Value.int .i64 p0, Value.slice a269 l268.length c270]) (caps := []) bo96 rfl rfl) rfl ?_
      rintro v368 w369 ⟨rfl, ht366⟩
      have ht367 := hs361.call (N := []) (M := []) (List.Perm.refl _) ht366
      have hs370 := hs361.trans ht367
      by_cases hc371 : y347 = y363
      · have h372 := ifT hc371 h365
        refine WL.val (R.neqF (k := .i64) (a := y347) (b := y363) un2 rfl rfl (not_not_intro hc371)) rfl ?_
        refine WL.nil ?_
        refine thenN ?_
        refine WC.condF rfl rfl ?_
        refine WC.skip ?_
        refine thenN ?_
        refine WC.seq ?_
        refine WC.seq ?_
        refine WC.region ?_
        refine WL.val (R.assign (v := Value.int .i64 0) rfl) rfl ?_
        refine WL.nil ?_
        refine thenN ?_
        have hr470 := elT (((ht344.trans ht351).trans ht360).trans ht367) he283
        have hr471 := elT ((ht351.trans ht360).trans ht367) he343
        obtain ⟨K461, hK462, h463⟩ := kE (G := fun K461 => acommon16_l2 p1 K461 1000000 0) h372
        refine WC.join (fun σ473 w472 => K461 () = some r ∧ St [] w w472 []) ?_ ?_
        · refine WC.block ?_
          refine WC.loop (T := Nat) (fun k467 σ465 w464 => ∃ i460 : Int, σ465 1 = (Value.slice a1 p1.length c1) ∧ σ465 5 = (Value.slice a122 ((([] : List Hd) ++ p1).length) c123) ∧ σ465 8 = (Value.int .i64 i460) ∧ elems heldW w464 (In ok w [] []) a1 p1 ∧ elems heldW w464 (In ok w [] []) a122 (([] : List Hd) ++ p1) ∧ acommon16_l2 p1 K461 k467 i460 = some r ∧ St [] w w464 []) (fun k467 => k467) 1000000 ⟨0, s336, s337, rfl, hr470, hr471, h463, hs370⟩ ?_
          rintro k467 σ465 w464 ⟨i460, s476, s477, s478, he468, he469, h475, hs466⟩
          rcases k467 with _ | k467
          · rw [acommon16_l2] at h475; cases h475
          rw [acommon16_l2] at h475
          refine WC.seq ?_
          refine WC.seq ?_
          refine WC.region ?_
          refine WL.val (R.move (v := Value.int .i64 i460) (by exact s478)) rfl ?_
          refine WL.val (R.move (v := Value.slice a1 p1.length c1) (by exact s476)) rfl ?_
          refine WL.val (R.len (a := a1) (n := p1.length) (c := c1) un28 rfl) rfl ?_
          by_cases hc479 : i460 < ((p1.length : Nat) : Int)
          · have h480 := ifT hc479 h475
            refine WL.val (R.lssT (k := .i64) (a := i460) (b := ((p1.length : Nat) : Int)) un3 rfl rfl hc479) rfl ?_
            refine WL.nil ?_
            refine thenN ?_
            refine WC.condT rfl rfl ?_
            refine WC.skip ?_
            refine thenN ?_
            refine WC.seq ?_
            refine WC.block ?_
            refine WC.seq ?_
            refine WC.drawE mixed (NP.then (NP.block (NP.then (NP.then (NP.block (NP.join (NP.then NP.rq))))))) ?_
            have ht481 := (hs466.here).ext (Ext.drew _)
            have hs482 := hs466.trans ht481
            refine WE.take 0 rfl (by decide +kernel) (by decide +kernel) (by decide +kernel) (by decide +kernel) rfl rfl (fun wq hq => R.move (v := Value.slice a122 ((([] : List Hd) ++ p1).length) c123) (by exact s477)) ?_
            refine WE.take 1 rfl (by decide +kernel) (by decide +kernel) (by decide +kernel) (by decide +kernel) rfl rfl (fun wq hq => R.move (v := Value.int .i64 i460) (by exact s478)) ?_
            obtain ⟨x483, hx484, h485⟩ := ob (o := rd (([] : List Hd) ++ p1) i460) h480
            obtain ⟨h0486, hx487, hl488, hm489⟩ := rdE hx484
            have hr490 := elT ht481 he469
            obtain ⟨ad491, e496, ha492, hp493, hat494, hrd495⟩ := hr490 _ _ hx487
            obtain ⟨-, rfl⟩ := hrd495
            refine WE.take 2 rfl (by decide +kernel) (by decide +kernel) (by decide +kernel) (by decide +kernel) rfl rfl (fun wq hq => R.indexS (n := 56) (m := (i460).toNat) (a := a122) (ad := ad491) (len := ((([] : List Hd) ++ p1).length)) (cap := c123) (z := i460) un28 ag60.size rfl ha492 rfl hm489 hl488 hp493) ?_
            refine WE.take 3 rfl (by decide +kernel) (by decide +kernel) (by decide +kernel) (by decide +kernel) rfl rfl (fun wq hq => R.loadA (cs := encH x483) (n := 56) ag60 rfl (At.exT hq hat494) rfl) ?_
            refine WE.take 4 rfl (by decide +kernel) (by decide +kernel) (by decide +kernel) (by decide +kernel) rfl rfl (fun wq hq => R.move (v := Value.slice a1 p1.length c1) (by exact s476)) ?_
            refine WE.take 5 rfl (by decide +kernel) (by decide +kernel) (by decide +kernel) (by decide +kernel) rfl rfl (fun wq hq => R.move (v := Value.int .i64 i460) (by exact s478)) ?_
            obtain ⟨x498, hx499, h500⟩ := ob (o := rd p1 i460) h485
            obtain ⟨h0501, hx502, hl503, hm504⟩ := rdE hx499
            have hr505 := elT ht481 he468
            obtain ⟨ad506, e511, ha507, hp508, hat509, hrd510⟩ := hr505 _ _ hx502
            obtain ⟨-, rfl⟩ := hrd510
            refine WE.take 6 rfl (by decide +kernel) (by decide +kernel) (by decide +kernel) (by decide +kernel) rfl rfl (fun wq hq => R.indexS (n := 56) (m := (i460).toNat) (a := a1) (ad := ad506) (len := p1.length) (cap := c1) (z := i460) un28 ag60.size rfl ha507 rfl hm504 hl503 hp508) ?_
            refine WE.take 7 rfl (by decide +kernel) (by decide +kernel) (by decide +kernel) (by decide +kernel) rfl rfl (fun wq hq => R.loadA (cs := encH x498) (n := 56) ag60 rfl (At.exT hq hat509) rfl) ?_
            refine WE.take 8 rfl (by decide +kernel) (by decide +kernel) (by decide +kernel) (by decide +kernel) rfl rfl (fun wq hq => R.neHeld (a := x483) (b := x498) rfl rfl) ?_
            refine WE.done (by decide +kernel) ?_
            refine thenN ?_
            by_cases hc513 : ¬ (x483 = x498)
            · have h514 := ifT hc513 h500
              refine WC.condT (Eq.trans (show _ = Value.bool (decide (¬ (x483 = x498))) from rfl) (congrArg Value.bool (decide_eq_true hc513))) rfl ?_
              refine WC.seq ?_
              refine WC.region ?_
              refine WL.val (R.assign (v := Value.bool false) rfl) rfl ?_
              refine WL.nil ?_
              refine thenN ?_
              refine WC.ret ?_
              obtain rfl := Option.some.inj (show some false = some r from h514)
              exact ret1 (P := Try.prog) (n := 58) (fn := Try.f25) (R := fun v w' => v = Value.bool false ∧ St [] w w' []) (t := 4) (v := Value.bool false) rfl rfl rfl ⟨rfl, hs482⟩
            · have h515 := ifF hc513 h500
              refine WC.condF (Eq.trans (show _ = Value.bool (decide (¬ (x483 = x498))) from rfl) (congrArg Value.bool (decide_eq_false hc513))) rfl ?_
              refine WC.skip ?_
              refine blockN ?_
              refine thenN ?_
              refine WC.region ?_
              refine WL.val (R.move (v := Value.int .i64 i460) (by exact s478)) rfl ?_
              obtain ⟨hg516, h517⟩ := ckE (c := -9223372036854775808 ≤ i460 + 1 ∧ i460 + 1 ≤ 9223372036854775807) h515
              refine WL.val (R.add (a := i460) (b := 1) (z := i460 + 1) rfl rfl (w64e rfl hg516.1 hg516.2)) rfl ?_
              refine WL.val (R.assign (v := Value.int .i64 (i460 + 1)) rfl) rfl ?_
              refine WL.nil ?_
              exact roundEnd (s := k467) ⟨i460 + 1, s476, s477, rfl, hr505, hr490, h517, hs482⟩ (Nat.lt_succ_self _)
          · have h518 := ifF hc479 h475
            refine WL.val (R.lssF (k := .i64) (a := i460) (b := ((p1.length : Nat) : Int)) un3 rfl rfl hc479) rfl ?_
            refine WL.nil ?_
            refine thenN ?_
            refine WC.condF rfl rfl ?_
            refine WC.exit ?_
            refine thenE ?_
            refine thenE ?_
            refine blockHit ?_
            exact joinI ⟨h518, hs466⟩
        · rintro σ473 w472 ⟨h519, hs474⟩
          subst hK462
          refine thenN ?_
          refine WC.seq ?_
          refine WC.region ?_
          obtain ⟨y520, hx521, h522⟩ := ob (o := lives16 ) h519
          refine WL.call (lives16_ok _ (In ok w [] [])   hx521) (R.call (vs := []) (caps := []) bo95 rfl rfl) rfl ?_
          rintro v525 w526 ⟨rfl, ht523⟩
          have ht524 := hs474.call (N := []) (M := []) (List.Perm.refl _) ht523
          have hs527 := hs474.trans ht524
          refine WL.val (R.assign (v := Value.bool y520) rfl) rfl ?_
          refine WL.nil ?_
          refine thenN ?_
          refine WC.ret ?_
          obtain rfl := Option.some.inj (show some y520 = some r from h522)
          exact ret1 (P := Try.prog) (n := 58) (fn := Try.f25) (R := fun v w' => v = Value.bool y520 ∧ St [] w w' []) (t := 4) (v := Value.bool y520) rfl rfl rfl ⟨rfl, hs527⟩
      · have h528 := ifF hc371 h365
        refine WL.val (R.neqT (k := .i64) (a := y347) (b := y363) un2 rfl rfl hc371) rfl ?_
        refine WL.nil ?_
        refine thenN ?_
        refine WC.condT rfl rfl ?_
        refine WC.seq ?_
        refine WC.region ?_
        refine WL.val (R.assign (v := Value.bool false) rfl) rfl ?_
        refine WL.nil ?_
        refine thenN ?_
        refine WC.ret ?_
        obtain rfl := Option.some.inj (show some false = some r from h528)
        exact ret1 (P := Try.prog) (n := 58) (fn := Try.f25) (R := fun v w' => v = Value.bool false ∧ St [] w w' []) (t := 4) (v := Value.bool false) rfl rfl rfl ⟨rfl, hs370⟩

end Go.Proofs.Ytckcldimnelklaa
