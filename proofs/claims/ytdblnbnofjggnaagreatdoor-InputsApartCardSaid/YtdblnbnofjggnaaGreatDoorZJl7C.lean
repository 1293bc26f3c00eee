/- The tied card of InputsApart: InputsApart holds: different valid inputs have different encodings, Same is symmetric, stamps are totally ordered. Conditions: those of the card (the tables are tied to the text). -/
import Derived.Test.YtdblnbnofjggnaaGreatDoorZJl7R
import Derived.Test.YtdblnbnofjggnaaGreatDoorCards
import Derived.Test.YtdblnbnofjggnaaGreatDoorTie
import Derived.SevenTiedAt
namespace Go.Proofs.YtdblnbnofjggnaaGreatDoor
open Go
theorem inputsApart_card_holds : Rows.InputsApartCardSaid :=
 Claim7.holds_tied_plain_at .later [] [.data, .data] true (true, "8eca3bf6144174d8ad2b37a01ba33e1db0163f1e672b81f7357c5c1dea31bbab") true
  inputsApartP.over (fun _ h => by cases h) (by kernel_rfl) (fun _ h => by cases h) inputsApart_row_tie rfl ⟨rfl, rfl⟩ (by kernel_rfl) rfl
  (fun f fn hf hfn => by
   obtain rfl : f = 4 := Option.some.inj ((show Tryz.prog.funcNamed "overflight/overflightlaw49.InputsApart" = some 4 by kernel_rfl).symm.trans hf) |>.symm
   obtain rfl : fn = Tryz.f4 := (Option.some.inj (Tryz.func4.symm.trans hfn)).symm
   exact ⟨by kernel_rfl, fun j t ht => by
    rw [Tryz.params4] at ht
    have hm : t ∈ [41, 41, 23] := by simpa using Array.mem_of_getElem? ht
    have hall : ([41, 41, 23].all fun u => !Tryz.prog.wantsStandIn u) = true := by kernel_rfl
    exact (show Tryz.prog.wantsStandIn t = false by simpa using List.all_eq_true.1 hall t hm)⟩)
  (by kernel_rfl)
#print axioms inputsApart_card_holds
end Go.Proofs.YtdblnbnofjggnaaGreatDoor
