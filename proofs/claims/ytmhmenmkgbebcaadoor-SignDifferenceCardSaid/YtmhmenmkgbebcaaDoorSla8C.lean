/- The tied card of SignDifference: signatures of one key differ as their challenges do. Conditions: those of the card (the tables are tied to the text). -/
import Derived.Test.YtmhmenmkgbebcaaDoorSla8R
import Derived.Test.YtmhmenmkgbebcaaDoorCards
import Derived.Test.YtmhmenmkgbebcaaDoorTie
import Derived.SevenTiedAt
namespace Go.Proofs.YtmhmenmkgbebcaaDoor
open Go
theorem signDifference_card_holds : Rows.SignDifferenceCardSaid :=
  Claim7.holds_tied_plain_at .later [] [.data, .data] true (true, "0b61902b29ac49477daeadb16a6d7b893e2e648be1b7bcb6f33f033ad0c1ee62") false
    signDifferenceP.over (fun _ h => by cases h) (by kernel_rfl) (fun _ h => by cases h) signDifference_row_tie rfl ⟨rfl, rfl⟩ (by kernel_rfl) rfl
    (fun f fn hf hfn => by
      obtain rfl : f = 10 := Option.some.inj ((show Tryd.prog.funcNamed "overflight/overflightlaw04.SignDifference" = some 10 by kernel_rfl).symm.trans hf) |>.symm
      obtain rfl : fn = Tryd.f10 := (Option.some.inj (Tryd.func10.symm.trans hfn)).symm
      exact ⟨by kernel_rfl, fun j t ht => by
        rw [Tryd.params10] at ht
        have hm : t ∈ [3, 22, 22] := by simpa using Array.mem_of_getElem? ht
        have hall : ([3, 22, 22].all fun u => !Tryd.prog.wantsStandIn u) = true := by kernel_rfl
        exact (show Tryd.prog.wantsStandIn t = false by simpa using List.all_eq_true.1 hall t hm)⟩)
    (by kernel_rfl)
#print axioms signDifference_card_holds
end Go.Proofs.YtmhmenmkgbebcaaDoor
