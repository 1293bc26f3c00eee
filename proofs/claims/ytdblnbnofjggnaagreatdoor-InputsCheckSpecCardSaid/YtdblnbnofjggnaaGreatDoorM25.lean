/- Parts of the proofs of chapter 49's laws: Ivk. -/
import Derived.Test.YtdblnbnofjggnaaGreatDoorM10
import Derived.Test.YtdblnbnofjggnaaGreatDoorM20
namespace Go.Proofs.YtdblnbnofjggnaaGreatDoor
open Go.RowKit
def iV (x:Int):V:=.mk 1 x ⟨#[]⟩ []
theorem z1m:(Tryz.prog.info? 80).map (fun i=>(i.zero,i.size,i.bytes)) = some (some (.agg #[.int .i64 0,.int .i64 0,.string ⟨#[]⟩,.slice none 0 0]),4,56):=by kernel_rfl
theorem j9x:∀ xs:List Int,fms (xs.map iV) = true∧dps (xs.map iV) = 0
 | []=>by simp [fms,dps]
 | x :: r=>by
  obtain ⟨h1,h2⟩:=j9x r
  simp only [List.map_cons,fms,dps,h1,h2]
  constructor
  · simp [iV,fm,ByteArray.toList_eq]
  · simp [iV,dp]
end Go.Proofs.YtdblnbnofjggnaaGreatDoor
