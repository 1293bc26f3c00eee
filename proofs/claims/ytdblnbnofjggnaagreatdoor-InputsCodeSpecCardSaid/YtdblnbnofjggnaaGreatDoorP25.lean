/- Parts of the proofs of chapter 49's laws. -/
import Derived.Test.YtdblnbnofjggnaaGreatDoorP10
import Derived.Test.YtdblnbnofjggnaaGreatDoorP20
set_option linter.all false
namespace Go.Proofs.YtdblnbnofjggnaaGreatDoor
open Go.RowKit
def iV (x:Int):V:=.mk 1 x ⟨#[]⟩ []
theorem z8j:(Tryz.prog.info? 80).map (fun i=>(i.zero,i.size,i.bytes))=some (some (.agg #[.int .i64 0,.int .i64 0,.string ⟨#[]⟩,.slice none 0 0]),4,56):=by kernel_rfl
theorem k3d:∀ xs:List Int,fms (xs.map iV)=true∧dps (xs.map iV)=0
 | []=>by simp [fms,dps]
 | x::r=>by
  obtain ⟨h1,h2⟩:=k3d r
  simp only [List.map_cons,fms,dps,h1,h2]
  constructor
  ·simp [iV,fm,ByteArray.toList_eq]
  ·simp [iV,dp]
theorem x9s {α:Type} {K:EK α} {e:TypeId} {w0 w1 w2:World} {base:Nat} {v:Value} {l:List α} (hb:Below w0.heap.size w0 w1) (hO:z7h K e w1 base v l) (hg:w1.grownBy w2 v.ownBlock) (hbs:w0.heap.size≤base:=by omega):Below w0.heap.size w0 w2 :=
 hb.trans ⟨hg.os,hg.tape,hg.output,hg.size,fun k hk=>hg.block k (Nat.lt_of_lt_of_le hk hb.size) (fun e=>by have:=(hO.lt k e.symm).1;omega)⟩
end Go.Proofs.YtdblnbnofjggnaaGreatDoor
