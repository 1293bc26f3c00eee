/- The tied card of InputsCodeSpec: InputsCodeSpec holds: for every input and all bytes, Encode and Decode match the specification. Conditions: those of the card (the tables are tied to the text). -/
import Derived.Test.YtdblnbnofjggnaaGreatDoorZJl1R
import Derived.Test.YtdblnbnofjggnaaGreatDoorCards
import Derived.Test.YtdblnbnofjggnaaGreatDoorTie
import Derived.SevenTiedAt
set_option linter.all false
namespace Go.Proofs.YtdblnbnofjggnaaGreatDoor
open Go.Proofs.Tryz
open Go
theorem inputsCodeSpec_card_holds:Rows.InputsCodeSpecCardSaid :=
 Claim7.holds_tied_plain_at .later [] [.data, .data] true (true, "8eca3bf6144174d8ad2b37a01ba33e1db0163f1e672b81f7357c5c1dea31bbab") true
  inputsCodeSpecP.over (fun _ h=>by cases h) (by kernel_rfl) (fun _ h=>by cases h) inputsCodeSpec_row_tie rfl ⟨rfl,rfl⟩ (by kernel_rfl) rfl
  (fun f fn hf hfn=>by
   obtain rfl : f = 6 := Option.some.inj ((show prog.funcNamed "overflight/overflightlaw49.InputsCodeSpec" = some 6 by kernel_rfl).symm.trans hf) |>.symm
   obtain rfl:fn=f6:=(Option.some.inj (func6.symm.trans hfn)).symm
   exact ⟨by kernel_rfl,fun j t ht=>by
    rw [params6] at ht
    have hm:t∈[41,50]:=by simpa using Array.mem_of_getElem? ht
    have hall:([41,50].all fun u=>!prog.wantsStandIn u)=true:=by kernel_rfl
    exact (show prog.wantsStandIn t=false by simpa using List.all_eq_true.1 hall t hm)⟩)
  (by kernel_rfl)
#print axioms inputsCodeSpec_card_holds
end Go.Proofs.YtdblnbnofjggnaaGreatDoor
