/- The tied card of InputsSigned: InputsSigned holds: what is signed is verified, differs in its signature alone, and does not depend on the one before. Conditions: those of the card (the tables are tied to the text). -/
import Derived.Test.YtdblnbnofjggnaaGreatDoorZJl4R
import Derived.Test.YtdblnbnofjggnaaGreatDoorCards
import Derived.Test.YtdblnbnofjggnaaGreatDoorTie
import Derived.SevenTiedAt
namespace Go.Proofs.YtdblnbnofjggnaaGreatDoor
open Go
theorem inputsSigned_card_holds : Rows.InputsSignedCardSaid :=
 Claim7.holds_tied_plain_at .later [] [.data, .data] true (true, "8eca3bf6144174d8ad2b37a01ba33e1db0163f1e672b81f7357c5c1dea31bbab") true
  inputsSignedP.over (fun _ h => by cases h) (by kernel_rfl) (fun _ h => by cases h) inputsSigned_row_tie rfl ⟨rfl, rfl⟩ (by kernel_rfl) rfl
  (fun f fn hf hfn => by
   obtain rfl : f = 9 := Option.some.inj ((show Tryz.prog.funcNamed "overflight/overflightlaw49.InputsSigned" = some 9 by kernel_rfl).symm.trans hf) |>.symm
   obtain rfl : fn = Tryz.f9 := (Option.some.inj (Tryz.func9.symm.trans hfn)).symm
   exact ⟨by kernel_rfl, fun j t ht => by
    rw [Tryz.params9] at ht
    have hm : t ∈ [41, 3, 39] := by simpa using Array.mem_of_getElem? ht
    have hall : ([41, 3, 39].all fun u => !Tryz.prog.wantsStandIn u) = true := by kernel_rfl
    exact (show Tryz.prog.wantsStandIn t = false by simpa using List.all_eq_true.1 hall t hm)⟩)
  (by kernel_rfl)
#print axioms inputsSigned_card_holds
end Go.Proofs.YtdblnbnofjggnaaGreatDoor
