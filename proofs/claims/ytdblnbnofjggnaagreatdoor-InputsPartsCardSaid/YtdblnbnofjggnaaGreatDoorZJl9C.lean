/- The tied card of InputsParts: InputsParts holds: an input with a tree, a report or a station alone is accepted exactly if its stamp and that part are. Conditions: those of the card (the tables are tied to the text). -/
import Derived.Test.YtdblnbnofjggnaaGreatDoorZJl9R
import Derived.Test.YtdblnbnofjggnaaGreatDoorCards
import Derived.Test.YtdblnbnofjggnaaGreatDoorTie
import Derived.SevenTiedAt
namespace Go.Proofs.YtdblnbnofjggnaaGreatDoor
open Go
theorem inputsParts_card_holds : Rows.InputsPartsCardSaid :=
 Claim7.holds_tied_plain_at .later [] [.data, .data] true (true, "8eca3bf6144174d8ad2b37a01ba33e1db0163f1e672b81f7357c5c1dea31bbab") true
  inputsPartsP.over (fun _ h => by cases h) (by kernel_rfl) (fun _ h => by cases h) inputsParts_row_tie rfl ⟨rfl, rfl⟩ (by kernel_rfl) rfl
  (fun f fn hf hfn => by
   obtain rfl : f = 10 := Option.some.inj ((show Tryz.prog.funcNamed "overflight/overflightlaw49.InputsParts" = some 10 by kernel_rfl).symm.trans hf) |>.symm
   obtain rfl : fn = Tryz.f10 := (Option.some.inj (Tryz.func10.symm.trans hfn)).symm
   exact ⟨by kernel_rfl, fun j t ht => by
    rw [Tryz.params10] at ht
    have hm : t ∈ [23, 29, 33, 37] := by simpa using Array.mem_of_getElem? ht
    have hall : ([23, 29, 33, 37].all fun u => !Tryz.prog.wantsStandIn u) = true := by kernel_rfl
    exact (show Tryz.prog.wantsStandIn t = false by simpa using List.all_eq_true.1 hall t hm)⟩)
  (by kernel_rfl)
#print axioms inputsParts_card_holds
end Go.Proofs.YtdblnbnofjggnaaGreatDoor
