/- Part of the proof: what the law's functions answer. -/
import Derived.Test.YthabpmmgijaiaaaGreatDoorRows
import Derived.JoinedOf
import Derived.KernelRfl
set_option linter.unusedSimpArgs false
set_option linter.unusedVariables false
section
/- CutParts: what the row asks of the program's text. -/
set_option maxRecDepth 100000
namespace Go.Dee.L
open Go.Proofs Go.Proofs.YthabpmmgijaiaaaGreatDoor
theorem j_out : laidOutB Tryz.pinned.checked.prog = true := by kernel_rfl
theorem j_rowed : mapsRowed Tryz.pinned.checked.prog = true := by kernel_rfl
theorem j_place : (Rows.cutPartsRow.inPlace == Tryz.pinned.checked.prog.inPlace 3) = true := by kernel_rfl
theorem j_unf : (Rows.cutPartsRow.unfollowed == Tryz.pinned.checked.prog.unfollowed 3) = true := by kernel_rfl
theorem j_rec : (Rows.cutPartsRow.recurses == Tryz.pinned.checked.prog.recurses 3) = true := by kernel_rfl
theorem j_named : (Rows.cutPartsRow.named == Tryz.pinned.checked.prog.varsNamed 3) = true := by kernel_rfl
theorem j_keys : (Rows.cutPartsRow.plainKeys == Tryz.pinned.checked.prog.plainKeys) = true := by kernel_rfl
theorem j_stops : (Tryz.pinned.checked.prog.stops == []) = true := by kernel_rfl
theorem j_knobs : (Tryz.pinned.checked.prog.stopKnobs == []) = true := by kernel_rfl
end Go.Dee.L
end
