/- Part of the proof: what the law's functions answer. -/
import Derived.Test.YthabpmmgijaiaaaGreatDoorRowq1
import Derived.Test.YthabpmmgijaiaaaGreatDoorRowf1
set_option linter.unusedSimpArgs false
set_option linter.unusedVariables false
section
/- CutParts: the row's closed facts, and the row. -/
set_option maxRecDepth 100000
namespace Go.Dee.L
open Go.Proofs Go.Proofs.YthabpmmgijaiaaaGreatDoor Go.ChangeShapes Go.WideShapes Go.ChangeAt Go.RowKit
theorem parts_closed : joinedFacts Tryz.pinned.checked.prog 3 Tryz.f3 Rows.cutPartsSpec Rows.cutPartsRow = true := by
  unfold joinedFacts
  simp only [Bool.and_eq_true]
  repeat' apply And.intro
  all_goals first | with_reducible exact j_out | with_reducible exact j_rowed | with_reducible exact j_place | with_reducible exact j_unf | with_reducible exact j_rec | with_reducible exact j_named | with_reducible exact j_keys | with_reducible exact j_stops | with_reducible exact j_knobs | kernel_rfl
theorem parts_holds : Rows.CutPartsSaid :=
  OpenClaim.holds_of_wide 3 Tryz.f3 rfl rfl rfl rfl rfl rfl rfl ⟨rfl, rfl, rfl, rfl, rfl⟩ rfl rfl rfl rfl rfl (by kernel_rfl) Tryz.func3 parts_closed
    (of_decide_eq_true (by kernel_rfl)) (by unfold Func.isWrapper; first | (rw [if_pos (by decide +kernel)]; kernel_rfl) | (rw [if_neg (by decide +kernel)]; exact ⟨rfl, rfl⟩))
    (fun os started H enc _ => parts_lifted os started H enc)
end Go.Dee.L
end
