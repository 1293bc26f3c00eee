/- Parts of the proofs of chapter 49's laws. -/
import Derived.Test.YtdblnbnofjggnaaGreatDoorP18
import Derived.Deep.DeepCutAuto
set_option linter.all false
namespace Go.Proofs.YtdblnbnofjggnaaGreatDoor
open Go.RowKit
theorem z3o.form {e:TypeId} {w:World} {base:Nat} {v:Value} {l:List UInt8} (h:z3o e w base v l):∃ oa cap,v=.slice oa l.length cap:=by
 rcases h.2 with ⟨rfl,h0⟩|⟨g,cap,cur,rfl,_⟩
 ·exact ⟨none,0,by rw [h0]⟩
 ·exact ⟨_,cap,rfl⟩
theorem k0d (B:List UInt8) (j:Nat) (c:UInt8) (hc:B[j]? = some c):B.take (j+1)=B.take j++[c]:=by
 obtain ⟨h1,h2⟩:=List.getElem?_eq_some_iff.1 hc
 rw [List.take_succ_eq_append_getElem h1,h2]
end Go.Proofs.YtdblnbnofjggnaaGreatDoor
