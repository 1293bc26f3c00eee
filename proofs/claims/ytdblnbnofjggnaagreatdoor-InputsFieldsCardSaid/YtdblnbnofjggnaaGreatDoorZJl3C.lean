/- The tied card of InputsFields: InputsFields holds: for every valid input, a field that its kind does not use makes it invalid if it is not zero. Conditions: those of the card (the tables are tied to the text). -/
import Derived.Test.YtdblnbnofjggnaaGreatDoorZJl3R
import Derived.Test.YtdblnbnofjggnaaGreatDoorCards
import Derived.Test.YtdblnbnofjggnaaGreatDoorTie
import Derived.SevenTiedAt
namespace Go.Proofs.YtdblnbnofjggnaaGreatDoor
open Go
theorem inputsFields_card_holds : Rows.InputsFieldsCardSaid :=
 Claim7.holds_tied_plain_at .later [] [.data, .data] true (true, "8eca3bf6144174d8ad2b37a01ba33e1db0163f1e672b81f7357c5c1dea31bbab") true
  inputsFieldsP.over (fun _ h => by cases h) (by kernel_rfl) (fun _ h => by cases h) inputsFields_row_tie rfl ⟨rfl, rfl⟩ (by kernel_rfl) rfl
  (fun f fn hf hfn => by
   obtain rfl : f = 3 := Option.some.inj ((show Tryz.prog.funcNamed "overflight/overflightlaw49.InputsFields" = some 3 by kernel_rfl).symm.trans hf) |>.symm
   obtain rfl : fn = Tryz.f3 := (Option.some.inj (Tryz.func3.symm.trans hfn)).symm
   exact ⟨by kernel_rfl, fun j t ht => by
    rw [Tryz.params3] at ht
    have hm : t ∈ [41, 5, 3] := by simpa using Array.mem_of_getElem? ht
    have hall : ([41, 5, 3].all fun u => !Tryz.prog.wantsStandIn u) = true := by kernel_rfl
    exact (show Tryz.prog.wantsStandIn t = false by simpa using List.all_eq_true.1 hall t hm)⟩)
  (by kernel_rfl)
#print axioms inputsFields_card_holds
end Go.Proofs.YtdblnbnofjggnaaGreatDoor
