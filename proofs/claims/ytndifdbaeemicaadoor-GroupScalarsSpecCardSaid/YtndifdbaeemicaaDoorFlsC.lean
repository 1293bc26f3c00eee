/- The tied card of GroupScalarsSpec. -/
import Derived.Test.YtndifdbaeemicaaDoorFlsR
import Derived.Test.YtndifdbaeemicaaDoorCards
import Derived.Test.YtndifdbaeemicaaDoorTie
import Derived.SevenTiedAt
namespace Go.Proofs.YtndifdbaeemicaaDoor
open Go
theorem groupScalarsSpec_card_holds : Rows.GroupScalarsSpecCardSaid :=
  Claim7.holds_tied_plain_at .later [] [.data, .data] true (true, "b9103990744bf32620fef3b6f739755d4fcb9da91f48d05d83af4054959f3aeb") false
    groupScalarsSpecP.over (fun _ h => by cases h) (by kernel_rfl) (fun _ h => by cases h) groupScalarsSpec_row_tie rfl ⟨rfl, rfl⟩ (by kernel_rfl) rfl
    (fun f fn hf hfn => by
      obtain rfl : f = 3 := Option.some.inj ((show Tryd.prog.funcNamed "overflight/overflightlaw03.GroupScalarsSpec" = some 3 by kernel_rfl).symm.trans hf) |>.symm
      obtain rfl : fn = Tryd.f3 := (Option.some.inj (Tryd.func3.symm.trans hfn)).symm
      exact ⟨by kernel_rfl, fun j t ht => by
        rw [Tryd.params3] at ht
        have hm : t ∈ [3, 3, 9, 22] := by simpa using Array.mem_of_getElem? ht
        have hall : ([3, 3, 9, 22].all fun u => !Tryd.prog.wantsStandIn u) = true := by kernel_rfl
        exact (show Tryd.prog.wantsStandIn t = false by simpa using List.all_eq_true.1 hall t hm)⟩)
    (by kernel_rfl)
#print axioms groupScalarsSpec_card_holds
end Go.Proofs.YtndifdbaeemicaaDoor
