/- The tied card of GroupDetermined: a scalar depends on the digest of its tag and bytes alone, and is a private key. Conditions: those of the card (the tables are tied to the text). -/
import Derived.Test.YtndifdbaeemicaaDoorFdtR
import Derived.Test.YtndifdbaeemicaaDoorCards
import Derived.Test.YtndifdbaeemicaaDoorTie
import Derived.SevenTiedAt
namespace Go.Proofs.YtndifdbaeemicaaDoor
open Go
theorem groupDetermined_card_holds : Rows.GroupDeterminedCardSaid :=
  Claim7.holds_tied_plain_at .later [] [.data, .data] true (true, "b9103990744bf32620fef3b6f739755d4fcb9da91f48d05d83af4054959f3aeb") false
    groupDeterminedP.over (fun _ h => by cases h) (by kernel_rfl) (fun _ h => by cases h) groupDetermined_row_tie rfl ⟨rfl, rfl⟩ (by kernel_rfl) rfl
    (fun f fn hf hfn => by
      obtain rfl : f = 4 := Option.some.inj ((show Tryd.prog.funcNamed "overflight/overflightlaw03.GroupDetermined" = some 4 by kernel_rfl).symm.trans hf) |>.symm
      obtain rfl : fn = Tryd.f4 := (Option.some.inj (Tryd.func4.symm.trans hfn)).symm
      exact ⟨by kernel_rfl, fun j t ht => by
        rw [Tryd.params4] at ht
        have hm : t ∈ [9, 9, 22, 22] := by simpa using Array.mem_of_getElem? ht
        have hall : ([9, 9, 22, 22].all fun u => !Tryd.prog.wantsStandIn u) = true := by kernel_rfl
        exact (show Tryd.prog.wantsStandIn t = false by simpa using List.all_eq_true.1 hall t hm)⟩)
    (by kernel_rfl)
#print axioms groupDetermined_card_holds
end Go.Proofs.YtndifdbaeemicaaDoor
