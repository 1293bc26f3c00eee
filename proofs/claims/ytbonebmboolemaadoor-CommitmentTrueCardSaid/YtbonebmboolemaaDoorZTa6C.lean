/- The tied card of CommitmentTrue: CommitmentTrue holds: what is verified against the commitment of valid tables is one of the costs, or two different inputs have one hash. Conditions: those of the card (the tables are tied to the text). -/
import Derived.Test.YtbonebmboolemaaDoorZTa6R
import Derived.Test.YtbonebmboolemaaDoorCards
import Derived.Test.YtbonebmboolemaaDoorTie
import Derived.SevenTiedAt
namespace Go.Proofs.YtbonebmboolemaaDoor
open Go
theorem commitmentTrue_card_holds : Rows.CommitmentTrueCardSaid :=
  Claim7.holds_tied_plain_at .later [] [.data, .data] true (true, "360ef386762c7878c39caf8c5d7cdff05e3b129478fa2914b3c3bad5ed81abe2") false
    commitmentTrueP.over (fun _ h => by cases h) (by kernel_rfl) (fun _ h => by cases h) commitmentTrue_row_tie rfl ⟨rfl, rfl⟩ (by kernel_rfl) rfl
    (fun f fn hf hfn => by
      obtain rfl : f = 6 := Option.some.inj ((show Tryd.prog.funcNamed "overflight/overflightlaw36.CommitmentTrue" = some 6 by kernel_rfl).symm.trans hf) |>.symm
      obtain rfl : fn = Tryd.f6 := (Option.some.inj (Tryd.func6.symm.trans hfn)).symm
      exact ⟨by kernel_rfl, fun j t ht => by
        rw [Tryd.params6] at ht
        have hm : t ∈ [22, 36] := by simpa using Array.mem_of_getElem? ht
        have hall : ([22, 36].all fun u => !Tryd.prog.wantsStandIn u) = true := by kernel_rfl
        exact (show Tryd.prog.wantsStandIn t = false by simpa using List.all_eq_true.1 hall t hm)⟩)
    (by kernel_rfl)
#print axioms commitmentTrue_card_holds
end Go.Proofs.YtbonebmboolemaaDoor
