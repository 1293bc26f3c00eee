/- InputsCodeSpec holds: for every input and all bytes, Encode and Decode match the specification: the row, under its own condition (the digest's tables read as the text lays them). -/
import Derived.Test.YtdblnbnofjggnaaGreatDoorZJl1
import Derived.Test.YtdblnbnofjggnaaGreatDoorP43
import Derived.Test.YtdblnbnofjggnaaGreatDoorP26
import Derived.Stop.Joined
set_option maxRecDepth 100000
open Go.Value renaming int → I
open Go.IntKind renaming i64 → J
set_option linter.all false
namespace Go.Proofs.YtdblnbnofjggnaaGreatDoor.inputsCodeSpecP
open Go.Proofs.Tryz
open Go.ChangeShapes Go.WideShapes Go.ChangeAt Go.RowKit
set_option linter.unusedVariables false
theorem own:ownKnob prog.godebug=none:=by kernel_rfl
theorem j3p:laidOutB prog=true:=by kernel_rfl
theorem j3w (os:Os) (args:Array Value):laidMetH prog Rows.inputsCodeSpecRow.laid ((World.doorLaid prog 400 os).forCall (fun _ _=>0) ⟨#[],args,[]⟩).memory :=
 laidMetH_of_parts3 (fuel:=8) (laidMet_of_run' 8 (by kernel_rfl) (by kernel_rfl)) (by kernel_rfl) (by kernel_rfl)
theorem k5w (os:Os) (started:os.Started) (H:Type) (enc:TypeId × Value→H) :
 ReturnsInHanded {} Tryz.checked os 6 .any (fun w args=>(Rows.inputsCodeSpecSpec.pre enc prog f6 [] false w args∧laidMetH prog Rows.inputsCodeSpecRow.laid w)∧sizedMet enc prog f6 (OpenSpec.ofChange Rows.inputsCodeSpecSpec) false w args)
  (Rows.inputsCodeSpecSpec.post enc prog f6 false true false false):=by
 refine returnsInHanded_of_change_and (C:=Tryz.checked) (X:=fun w _=>laidMetH prog Rows.inputsCodeSpecRow.laid w) (fun _ _ _ hh h=>h.of_heap hh) own started (by kernel_rfl) func6
  (ChangeSpec.witness_shaped (enc:=enc) (C:=Tryz.checked) (os:=os) (X:=fun w _=>laidMetH prog Rows.inputsCodeSpecRow.laid w) false (World.doorLaid prog 400 os) #[.agg #[I J 0,I J 0,I J 0,I J 0,.string ⟨#[]⟩,I J 0,I J 0,I J 0,.string ⟨#[]⟩,.slice none 0 0,I J 0,I J 0,.bool false,.slice none 0 0,I J 0,I J 0,.slice none 0 0,I J 0,I J 0,I J 0,I J 0,.string ⟨#[]⟩,I J 0,I J 0,I J 0,.bool false,I J 0,.slice none 0 0,I J 0,I J 0,I J 0,I J 0],.slice none 0 0] 8 rfl (World.shaped_of_RefB (by kernel_rfl) (by kernel_rfl)) (by kernel_rfl) (by kernel_rfl) (by kernel_rfl) (j3w os _)) ?_
 intro W base args ds gs before hval0 hW _ _ hL _
 have hval:∀ (j:Nat) t v,f6.params[j]? = some t→args[j]? = some v→Value.okWide prog W .any base t v:=hval0
 have hW':=hW
 obtain ⟨p,q,hA0,hV,rfl,hfz,hnd⟩:=hW
 have hA:DataW.TrodAll enc prog W 0 (fun _=>true) true f6.params.toList args.toList ds p:=hA0
 rw [params6] at hA hval
 obtain ⟨v0,vs0,d0,ds0,p0,q0,hargs,rfl,rfl,h0,r0⟩:=trodAll_cons hA
 obtain ⟨v1,vs1,d1,ds1,p1,q1,rfl,rfl,rfl,h1,r1⟩:=trodAll_cons r0
 obtain ⟨rfl,rfl,rfl⟩:=trodAll_nil r1
 obtain rfl:args = #[v0,v1]:=by cases args;simp_all
 obtain ⟨rfl,rfl⟩:=trodVars_none hV
 have k0:=h0
 have lt0:∀ x∈p0,x.block<W.heap.size:=by obtain ⟨m,hm⟩:=k0;exact DataW.trod_lt m _ _ _ hm
 obtain ⟨x0,s0,rfl,fX,hi0⟩:=j0m (hval 0 41 v0 rfl rfl) h0
 have k1:=h1
 have lt1:∀ x∈p1,x.block<W.heap.size:=by obtain ⟨m,hm⟩:=k1;exact DataW.trod_lt m _ _ _ hm
 obtain ⟨l1,hl1⟩:=k5p (hval 1 50 v1 rfl rfl) h1
 obtain ⟨oa1,ca1,rfl⟩:=hl1.shape
 clear hA0 hval0
 refine (x6l x0 s0 l1 oa1 ca1 W fX hi0 hl1 (k4d hL)).mono fun e W' ⟨he,bel⟩=>?_
 subst he
 exact ⟨_,rfl,_,_,_,[],_,[],hW',trodAll_mk1 (shut_bool underlying4 _),(trodAll_cons_mk (Below.trod j3p (by kernel_rfl) (of_decide_eq_true (by kernel_rfl)) k0 bel lt0) (trodAll_cons_mk (Below.trod j3p (by kernel_rfl) (of_decide_eq_true (by kernel_rfl)) k1 bel lt1) trodAll_mk0)),rfl,bel.frame _,fun h=>by cases h⟩
theorem over:Rows.inputsCodeSpecRow.holds Tryz.pinned (OpenSpec.ofChange Rows.inputsCodeSpecSpec) :=
 OpenClaim.holds_of_wide 6 f6 rfl rfl rfl rfl rfl rfl rfl ⟨rfl,rfl,rfl,rfl,rfl⟩ rfl rfl rfl rfl rfl (by kernel_rfl) func6 (by kernel_rfl)
  (of_decide_eq_true (by kernel_rfl)) (by unfold Func.isWrapper;first|(rw [if_pos (by decide +kernel)];kernel_rfl)|(rw [if_neg (by decide +kernel)];exact ⟨rfl,rfl⟩))
  (fun os started H enc _=>k5w os started H enc)
end Go.Proofs.YtdblnbnofjggnaaGreatDoor.inputsCodeSpecP
