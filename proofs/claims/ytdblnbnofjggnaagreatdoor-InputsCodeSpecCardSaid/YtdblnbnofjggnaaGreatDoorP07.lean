/- Parts of the proofs of chapter 49's laws. -/
import Derived.Test.YtdblnbnofjggnaaGreatDoorP05
import Derived.Great.FillDense
import Derived.OrdersHeld
import Derived.Great.BuildSlice
set_option linter.all false
namespace Go.Proofs.YtdblnbnofjggnaaGreatDoor
open Go.RowKit
section
variable {P:Program} {w:World} {ops:Array Oper} {rest:List Oper} {o:Oper} {a:Act} {Q:Exit→Act→World→Prop}
theorem z9b (hw:Region.wanted o (yielded ops a.tmps)=true) (t:TypeId) (parts:Array (Nat × Operand)) (ho:o.op=.build t parts) (cells:List Value) (ps:List (Nat × Value)) (hps:(parts.toList.map fun (i,x)=>(i,a.eval x))=ps)
 (hb:P.built t ps=some cells.toArray) (h:wpList P ops Q rest (a.put o.dst (.agg cells.toArray)) w):wpList P ops Q (o::rest) a w:=by
 rw [← Array.toList_map] at hps
 subst hps
 unfold wpList
 rw [if_pos hw]
 left
 unfold Oper.wp execOp
 simp only [ho,Sem.run_bind,run_build w t _ _ hb,Result.andThen_ok]
 exact h
end
end Go.Proofs.YtdblnbnofjggnaaGreatDoor
