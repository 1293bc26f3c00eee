/- The tied card of CommitmentOpens: CommitmentOpens holds: every cost of valid tables can be opened, and is verified. Conditions: those of the card (the tables are tied to the text). -/
import Derived.Test.YtbonebmboolemaaDoorZTa3R
import Derived.Test.YtbonebmboolemaaDoorCards
import Derived.Test.YtbonebmboolemaaDoorTie
import Derived.SevenTiedAt
namespace Go.Proofs.YtbonebmboolemaaDoor
open Go
theorem commitmentOpens_card_holds : Rows.CommitmentOpensCardSaid :=
  Claim7.holds_tied_plain_at .later [] [.data, .data] true (true, "360ef386762c7878c39caf8c5d7cdff05e3b129478fa2914b3c3bad5ed81abe2") false
    commitmentOpensP.over (fun _ h => by cases h) (by kernel_rfl) (fun _ h => by cases h) commitmentOpens_row_tie rfl ⟨rfl, rfl⟩ (by kernel_rfl) rfl
    (fun f fn hf hfn => by
      obtain rfl : f = 5 := Option.some.inj ((show Tryd.prog.funcNamed "overflight/overflightlaw36.CommitmentOpens" = some 5 by kernel_rfl).symm.trans hf) |>.symm
      obtain rfl : fn = Tryd.f5 := (Option.some.inj (Tryd.func5.symm.trans hfn)).symm
      exact ⟨by kernel_rfl, fun j t ht => by
        rw [Tryd.params5] at ht
        have hm : t ∈ [22] := by simpa using Array.mem_of_getElem? ht
        have hall : ([22].all fun u => !Tryd.prog.wantsStandIn u) = true := by kernel_rfl
        exact (show Tryd.prog.wantsStandIn t = false by simpa using List.all_eq_true.1 hall t hm)⟩)
    (by kernel_rfl)
#print axioms commitmentOpens_card_holds
end Go.Proofs.YtbonebmboolemaaDoor
