/- The library's sort, on a slice of one's own. -/
import Derived.Test.YtckcldimnelklaaTSd
import Derived.Test.YtckcldimnelklaaSh
import Derived.Sort.OwnSortedInts
namespace Go.Proofs.Ytckcldimnelklaa
open Go Go.Sort Go.RowKit
set_option linter.unusedVariables false

theorem flat_i64 (xs : List Int) : flat i64E xs = xs.map (Value.int .i64) := by
  induction xs with
  | nil => rfl
  | cons x xs ih => simp only [flat, List.map_cons, List.flatten_cons] at *; rw [ih]; rfl

theorem sort16_ok (w : World) (xs : List Int) (a : Option Addr) (c : Nat) (hL : St [gsl 2 i64E (.slice a xs.length c) xs] w w [gsl 2 i64E (.slice a xs.length c) xs]) {r : List Int} (h : sort16 xs = some r) :
    Ret Try.prog 133 [.slice a xs.length c] w (fun v w' => v = .tuple #[] ∧ r = srt xs ∧ St [gsl 2 i64E (.slice a xs.length c) xs] w w' [gsl 2 i64E (.slice a xs.length c) r]) := by
  unfold sort16 at h
  by_cases h0 : 0 < xs.length
  · rw [if_pos h0] at h
    obtain ⟨h1, h⟩ := ckE h
    obtain rfl := Option.some.inj h
    have hg := hL.get (i := 0) rfl
    rcases hg.2 with ⟨h2, h3⟩ | ⟨g, cap, cur, hv, hb, hh, h2, h3, h4, h5⟩
    · omega
    · have hv' := hv
      injection hv with e1 _ e2
      subst e1; subst e2
      have ht : cur.toList.take xs.length = xs.map (Value.int .i64) := by rw [← flat_i64]; simpa [i64E] using h5
      have hc := Try.slices_Sort_int g 0 c xs w (holds_of_blockI hh ht) (lt_of_some hh) (by omega)
      rw [srt_merge] at hc
      refine Calls.mono hc fun e w' ⟨he, n, os, hw⟩ => ⟨_, he, rfl, rfl, ?_⟩
      have hgr : w.grownBy w' (some g) := by rw [hw]; exact grownBy_sortedI _
      have hown : w'.ownsRow 0 2 1 (.slice (some ⟨g, 0, none⟩) xs.length c) xs.length ((srt xs).map (Value.int .i64)) := by
        rw [hw]; exact ownsRow_sortedI (ts := srt xs) (by rw [srt_length]) (Nat.zero_le _) hh h2 h3 (by simpa [i64E] using h4)
      have hn : (gsl 2 i64E (.slice (some ⟨g, 0, none⟩) xs.length c) (srt xs)).h w' := by
        show w'.ownsRow 0 2 1 _ _ (flat i64E (srt xs))
        rw [srt_length, flat_i64]; exact hown
      exact grown_st hL (i := 0) rfl hgr hn (fun b hb => .inl hb) rfl
  · rw [if_neg h0] at h; cases h
end Go.Proofs.Ytckcldimnelklaa
