/- The tied card of CommitmentOpenSpec: CommitmentOpenSpec holds: for all tables, indices, digests and openings, Open and Verify agree with the reference. Conditions: those of the card (the tables are tied to the text). -/
import Derived.Test.YtbonebmboolemaaDoorZTa2R
import Derived.Test.YtbonebmboolemaaDoorCards
import Derived.Test.YtbonebmboolemaaDoorTie
import Derived.SevenTiedAt
namespace Go.Proofs.YtbonebmboolemaaDoor
open Go
theorem commitmentOpenSpec_card_holds : Rows.CommitmentOpenSpecCardSaid :=
  Claim7.holds_tied_plain_at .later [] [.data, .data] true (true, "360ef386762c7878c39caf8c5d7cdff05e3b129478fa2914b3c3bad5ed81abe2") false
    commitmentOpenSpecP.over (fun _ h => by cases h) (by kernel_rfl) (fun _ h => by cases h) commitmentOpenSpec_row_tie rfl ⟨rfl, rfl⟩ (by kernel_rfl) rfl
    (fun f fn hf hfn => by
      obtain rfl : f = 4 := Option.some.inj ((show Tryd.prog.funcNamed "overflight/overflightlaw36.CommitmentOpenSpec" = some 4 by kernel_rfl).symm.trans hf) |>.symm
      obtain rfl : fn = Tryd.f4 := (Option.some.inj (Tryd.func4.symm.trans hfn)).symm
      exact ⟨by kernel_rfl, fun j t ht => by
        rw [Tryd.params4] at ht
        have hm : t ∈ [22, 3, 3, 29, 3, 3, 3, 36] := by simpa using Array.mem_of_getElem? ht
        have hall : ([22, 3, 3, 29, 3, 3, 3, 36].all fun u => !Tryd.prog.wantsStandIn u) = true := by kernel_rfl
        exact (show Tryd.prog.wantsStandIn t = false by simpa using List.all_eq_true.1 hall t hm)⟩)
    (by kernel_rfl)
#print axioms commitmentOpenSpec_card_holds
end Go.Proofs.YtbonebmboolemaaDoor
