/- The law answers true at every input, in the tied form: the listed variables as the text lays them. -/
import Derived.Test.YthabpmmgijaiaaaGreatDoorRowrp1
set_option linter.unusedSimpArgs false
set_option linter.unusedVariables false
section
/- CutParts: the tied card. -/
set_option maxRecDepth 100000
namespace Go.Dee.L
open Go.Proofs Go.Proofs.YthabpmmgijaiaaaGreatDoor
theorem parts_card : Rows.CutPartsCardSaid :=
  Claim7.holds_tied_plain_at .later [] [.data, .data, .data] true (true, "2a770475245565fcc9dcbe4929d38797fdd1535d24c29b571e7266bb4cefa1c0") true
    parts_holds (fun _ h => by cases h) r_wf (fun _ h => by cases h) cutParts_row_tie rfl ⟨rfl, rfl⟩ r_main rfl
    (fun f fn hf hfn => by
      obtain rfl : f = 3 := Option.some.inj (r_name.symm.trans hf) |>.symm
      obtain rfl : fn = Tryz.f3 := (Option.some.inj (Tryz.func3.symm.trans hfn)).symm
      exact ⟨r_looks, fun j t ht => by
        rw [Tryz.params3] at ht
        have hm : t ∈ [22, 5] := by simpa using Array.mem_of_getElem? ht
        exact (show Tryz.prog.wantsStandIn t = false by simpa using List.all_eq_true.1 r_stand t hm)⟩)
    r_goes
end Go.Dee.L
end
namespace Go.Proofs.YthabpmmgijaiaaaGreatDoor
theorem cutParts_tied : Rows.CutPartsCardSaid := Go.Dee.L.parts_card
end Go.Proofs.YthabpmmgijaiaaaGreatDoor
