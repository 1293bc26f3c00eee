/- The tied card of CommitmentNested: CommitmentNested holds: for all valid tables, the commitment is the tree of the trees of the costs. Conditions: those of the card (the tables are tied to the text). -/
import Derived.Test.YtbonebmboolemaaDoorZTa5R
import Derived.Test.YtbonebmboolemaaDoorCards
import Derived.Test.YtbonebmboolemaaDoorTie
import Derived.SevenTiedAt
namespace Go.Proofs.YtbonebmboolemaaDoor
open Go
theorem commitmentNested_card_holds : Rows.CommitmentNestedCardSaid :=
  Claim7.holds_tied_plain_at .later [] [.data, .data] true (true, "360ef386762c7878c39caf8c5d7cdff05e3b129478fa2914b3c3bad5ed81abe2") false
    commitmentNestedP.over (fun _ h => by cases h) (by kernel_rfl) (fun _ h => by cases h) commitmentNested_row_tie rfl ⟨rfl, rfl⟩ (by kernel_rfl) rfl
    (fun f fn hf hfn => by
      obtain rfl : f = 8 := Option.some.inj ((show Tryd.prog.funcNamed "overflight/overflightlaw36.CommitmentNested" = some 8 by kernel_rfl).symm.trans hf) |>.symm
      obtain rfl : fn = Tryd.f8 := (Option.some.inj (Tryd.func8.symm.trans hfn)).symm
      exact ⟨by kernel_rfl, fun j t ht => by
        rw [Tryd.params8] at ht
        have hm : t ∈ [22] := by simpa using Array.mem_of_getElem? ht
        have hall : ([22].all fun u => !Tryd.prog.wantsStandIn u) = true := by kernel_rfl
        exact (show Tryd.prog.wantsStandIn t = false by simpa using List.all_eq_true.1 hall t hm)⟩)
    (by kernel_rfl)
#print axioms commitmentNested_card_holds
end Go.Proofs.YtbonebmboolemaaDoor
