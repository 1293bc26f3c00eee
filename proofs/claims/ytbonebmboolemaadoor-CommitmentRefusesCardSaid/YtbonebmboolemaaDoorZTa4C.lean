/- The tied card of CommitmentRefuses: CommitmentRefuses holds: for all valid tables, openings with another airline, path, slot or cost are refused. Conditions: those of the card (the tables are tied to the text). -/
import Derived.Test.YtbonebmboolemaaDoorZTa4R
import Derived.Test.YtbonebmboolemaaDoorCards
import Derived.Test.YtbonebmboolemaaDoorTie
import Derived.SevenTiedAt
namespace Go.Proofs.YtbonebmboolemaaDoor
open Go
theorem commitmentRefuses_card_holds : Rows.CommitmentRefusesCardSaid :=
  Claim7.holds_tied_plain_at .later [] [.data, .data] true (true, "360ef386762c7878c39caf8c5d7cdff05e3b129478fa2914b3c3bad5ed81abe2") false
    commitmentRefusesP.over (fun _ h => by cases h) (by kernel_rfl) (fun _ h => by cases h) commitmentRefuses_row_tie rfl ⟨rfl, rfl⟩ (by kernel_rfl) rfl
    (fun f fn hf hfn => by
      obtain rfl : f = 7 := Option.some.inj ((show Tryd.prog.funcNamed "overflight/overflightlaw36.CommitmentRefuses" = some 7 by kernel_rfl).symm.trans hf) |>.symm
      obtain rfl : fn = Tryd.f7 := (Option.some.inj (Tryd.func7.symm.trans hfn)).symm
      exact ⟨by kernel_rfl, fun j t ht => by
        rw [Tryd.params7] at ht
        have hm : t ∈ [22, 3, 3, 5] := by simpa using Array.mem_of_getElem? ht
        have hall : ([22, 3, 3, 5].all fun u => !Tryd.prog.wantsStandIn u) = true := by kernel_rfl
        exact (show Tryd.prog.wantsStandIn t = false by simpa using List.all_eq_true.1 hall t hm)⟩)
    (by kernel_rfl)
#print axioms commitmentRefuses_card_holds
end Go.Proofs.YtbonebmboolemaaDoor
