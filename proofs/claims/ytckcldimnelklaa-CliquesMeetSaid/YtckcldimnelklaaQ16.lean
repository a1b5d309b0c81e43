/- Ages, plain: the common age is the middle one; the clock shows the eldest beginning. -/
import Derived.Test.YtckcldimnelklaaPU
import Derived.Test.YtckcldimnelklaaD16
namespace Go.Proofs.Ytckcldimnelklaa
open Go
set_option linter.unusedVariables false
set_option linter.unusedSimpArgs false

theorem lives16_true : lives16 = some true := by decide +kernel

theorem astep16_zero (x y : Int) : astep16 (0, ([] : List Int)) x y = some (-1, -1, (0, [])) := by
  unfold astep16; rfl
theorem avoid16_eq (z : Int × Int) : avoid16 z = some true := by
  unfold avoid16
  generalize hF : 1000000 = F
  have h2 : 2 < F := by omega
  obtain ⟨F, rfl⟩ : ∃ m, F = m + 3 := ⟨F - 3, by omega⟩
  rw [avoid16_l1, if_pos (by decide), if_pos rfl]
  unfold astepN16
  rw [ob_some, if_pos rfl, if_pos rfl, if_pos (by decide), avoid16_l1, if_pos (by decide), if_neg (by decide), if_pos (by decide), astep16_zero, ob_some, if_pos rfl, if_pos rfl, if_pos (by decide), avoid16_l1, if_neg (by decide), bsome]
  exact lives16_true
end Go.Proofs.Ytckcldimnelklaa
