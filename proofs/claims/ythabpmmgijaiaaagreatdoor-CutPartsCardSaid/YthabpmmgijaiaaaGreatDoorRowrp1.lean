/- Part of the proof: what the law's functions answer. -/
import Derived.Test.YthabpmmgijaiaaaGreatDoorRowg1
import Derived.SevenTiedAt
set_option linter.unusedSimpArgs false
set_option linter.unusedVariables false
section
/- CutParts: what the card asks of the program's text. -/
set_option maxRecDepth 100000
namespace Go.Dee.L
open Go.Proofs Go.Proofs.YthabpmmgijaiaaaGreatDoor
theorem r_wf : Rows.cutPartsRow.wfByText (OpenSpec.ofChange Rows.cutPartsSpec) = true := by kernel_rfl
theorem r_main : Tryz.pinned.checked.prog.mainIs = some (true, "2a770475245565fcc9dcbe4929d38797fdd1535d24c29b571e7266bb4cefa1c0".toList) := by kernel_rfl
theorem r_looks : true = Tryz.pinned.checked.prog.looks [] := by kernel_rfl
theorem r_stand : ([22, 5].all fun u => !Tryz.prog.wantsStandIn u) = true := by kernel_rfl
theorem r_name : Tryz.prog.funcNamed "queuelab/queuelablaw34.CutParts" = some 3 := by kernel_rfl
theorem r_goes : false = Rows.cutPartsRow.goesBy Tryz.pinned.checked.prog := by kernel_rfl
end Go.Dee.L
end
