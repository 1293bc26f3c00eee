/- Parts of the proofs of chapter 49's laws. -/
import Derived.Test.YtdblnbnofjggnaaGreatDoorP05
import Derived.Deep.RegionHeld3
open List renaming mem_cons_self → mS
open Option renaming some → J
open Bool renaming true → I, false → Z
open Go renaming World → X, Value → Y
set_option linter.all false
namespace Go.Proofs.YtdblnbnofjggnaaGreatDoor
open Go.RowKit
theorem take_dst {P:Program} {md:Region.Mode} {ops:Array Oper} {Q:Exit→Act→X→Prop} {S:X→Prop} (d:Option Tmp) {i:Nat} {oi:Oper} {v:Value} {fuel:Nat} {listed:Array Bool} {a:Act} {w:X} (hi:ops[i]? = J oi) (hd:oi.dst=d)
 (hs:Region.noSelect ops=I) (hf:Region.free md ops listed i=I) (hr:(Region.ready md ops listed).contains i=I)
 (hQ:∀ c a w,Q (.panic c) (a.put d v) w→Q (.panic c) a w) (hy:YieldsIf P ops S oi v a) (hS:S w)
 (h:wpAnyH P md ops Q S fuel (listed.setIfInBounds i I) (a.put d v) w):wpAnyH P md ops Q S (fuel+1) listed a w:=by
 subst hd
 exact wpAnyH_take hi hs hf hr hQ hy hS h
section
variable {P:Program} {md:Region.Mode} {ops:Array Oper} {Q:Exit→Act→X→Prop} {S:X→Prop} {fuel i:Nat} {listed l2:Array Bool} {a a2:Act} {w:X} {oi:Oper} {v:Value}
theorem x1m (d:Tmp) (i:Nat) (hi:ops[i]? = J oi) (v:Y) (hy:YieldsIf P ops S oi v a) (h:wpAnyH P md ops Q S fuel l2 a2 w)
 (hd:oi.dst=J d:=by exact rfl) (hs:Region.noSelect ops=I:=by kernel_rfl) (hf:Region.free md ops listed i=I:=by kernel_rfl)
 (hr:(Region.ready md ops listed).contains i=I:=by kernel_rfl) (hQ:∀ c a w,Q (.panic c) (a.put (J d) v) w→Q (.panic c) a w:=by exact fun _ _ _ h=>h) (hS:S w:=by assumption)
 (hl:listed.setIfInBounds i I=l2:=by first|(simp only [List.setIfInBounds_toArray,List.set_cons_zero,List.set_cons_succ];exact rfl)|exact rfl)
 (ha:a.put (J d) v=a2:=by first|(simp only [Act.put,List.setIfInBounds_toArray,List.set_cons_zero,List.set_cons_succ];exact rfl)|exact rfl):wpAnyH P md ops Q S (fuel+1) listed a w:=by
 subst hl ha
 exact take_dst (J d) hi hd hs hf hr hQ hy hS h
theorem tkH (d:Tmp) (i:Nat) (h:wpAnyH P md ops Q S fuel l2 a2 w)
 (hi:ops[i]? = J oi:=by exact rfl) (hd:oi.dst=J d:=by exact rfl) (hs:Region.noSelect ops=I:=by kernel_rfl) (hf:Region.free md ops listed i=I:=by kernel_rfl)
 (hr:(Region.ready md ops listed).contains i=I:=by kernel_rfl) (hw:Region.wanted oi (yielded ops a.tmps)=I:=by rfl)
 (hy:∀ wS,S wS→(execOp a.eval oi).run P wS=.ok (.value v) wS:=by intro wS aa;go_split_ands;go_simp;first|done|with_reducible rfl)
 (hQ:∀ c a w,Q (.panic c) (a.put (J d) v) w→Q (.panic c) a w:=by exact fun _ _ _ h=>h) (hS:S w:=by assumption)
 (hl:listed.setIfInBounds i I=l2:=by first|(simp only [List.setIfInBounds_toArray,List.set_cons_zero,List.set_cons_succ];exact rfl)|exact rfl)
 (ha:a.put (J d) v=a2:=by first|(simp only [Act.put,List.setIfInBounds_toArray,List.set_cons_zero,List.set_cons_succ];exact rfl)|exact rfl):wpAnyH P md ops Q S (fuel+1) listed a w:=by
 subst hl ha
 exact take_dst (J d) hi hd hs hf hr hQ (Or.inl ⟨hw,hy⟩) hS h
theorem z0n (d:Tmp) (i:Nat) (h:wpAnyH P md ops Q S fuel l2 a2 w)
 (hi:ops[i]? = J oi:=by exact rfl) (hd:oi.dst=J d:=by exact rfl) (hs:Region.noSelect ops=I:=by kernel_rfl) (hf:Region.free md ops listed i=I:=by kernel_rfl)
 (hr:(Region.ready md ops listed).contains i=I:=by kernel_rfl) (hw:Region.wanted oi (yielded ops a.tmps)=Z:=by rfl)
 (hQ:∀ c a w,Q (.panic c) (a.put (J d) undef) w→Q (.panic c) a w:=by exact fun _ _ _ h=>h) (hS:S w:=by assumption)
 (hl:listed.setIfInBounds i I=l2:=by first|(simp only [List.setIfInBounds_toArray,List.set_cons_zero,List.set_cons_succ];exact rfl)|exact rfl)
 (ha:a.put (J d) undef=a2:=by first|(simp only [Act.put,List.setIfInBounds_toArray,List.set_cons_zero,List.set_cons_succ];exact rfl)|exact rfl):wpAnyH P md ops Q S (fuel+1) listed a w:=by
 subst hl ha
 exact take_dst (J d) hi hd hs hf hr hQ (Or.inr ⟨hw,rfl⟩) hS h
theorem rdH (i:Nat) (h:∀ K':Act→X→Prop,Shut (∀ a w,S w→(S w→wpAnyH P md ops Q S fuel (listed.setIfInBounds i I) a w)→K' a w)→if Region.wanted oi (yielded ops a.tmps)=I then Oper.wp P oi a w K' Q else K' (a.put oi.dst undef) w)
 (ho:ops[i]? = J oi:=by exact rfl) (hr:Region.ready md ops listed=[i]:=by kernel_rfl):wpAnyH P md ops Q S (fuel+1) listed a w :=
 wpAnyH_ready hr (by simp) (AllReadyH.cons ho h AllReadyH.nil)
theorem goK {K:Act→X→Prop} (hK:Shut (∀ a w,S w→(S w→wpAnyH P md ops Q S fuel listed a w)→K a w)) (hS:S w) (h:S w→wpAnyH P md ops Q S fuel l2 a2 w)
 (hl:listed=l2:=by first|(simp only [List.setIfInBounds_toArray,List.set_cons_zero,List.set_cons_succ];exact rfl)|exact rfl)
 (ha:a=a2:=by first|(simp only [Act.put,List.setIfInBounds_toArray,List.set_cons_zero,List.set_cons_succ];exact rfl)|exact rfl):K a w:=by
 subst hl ha
 exact hK.out _ _ hS h
end
def z7o (ops:Array Oper) (k:Nat):Nat:=((ops[k]?).bind (·.dst)).getD 0
def z9p (md:Region.Mode) (ops:Array Oper) (i:Nat):List Nat:=match ops[i]? with
 | some o=>o.after.toList.filterMap (fun e=>if Region.binds md e then J e.on else none)
 | none=>[]
def x2m (md:Region.Mode) (ops:Array Oper):List Nat→List Nat→List Nat
 | [],S=>S
 | k::r,S=>x2m md ops r (if S.contains k then S++z9p md ops k else S)
theorem y0f {md:Region.Mode} {ops:Array Oper} {todo:List Nat} {done:Nat→Bool} (hcl:∀ k∈todo,done k=I→∀ j∈z9p md ops k,j∈todo→done j=I) :
 ∀ (ks S:List Nat),(∀ k∈ks,k∈todo)→(∀ j∈S,j∈todo→done j=I)→∀ j∈x2m md ops ks S,j∈todo→done j=I
 | [],_,_,h=>h
 | k::r,S,hk,h=>by
  show ∀ j∈x2m md ops r _,_
  refine y0f hcl r _ (fun x hx=>hk x (List.mem_cons_of_mem _ hx)) ?_
  by_cases hc:S.contains k=I
  ·rw [if_pos hc]
   intro j hj ht
   rcases List.mem_append.1 hj with hj|hj
   ·exact h j hj ht
   ·exact hcl k (hk k mS) (h k (by simpa using hc) (hk k mS)) j hj ht
  ·rw [if_neg hc];exact h
theorem x3m {md:Region.Mode} {ops:Array Oper} {i j:Nat} {o:Oper} (ho:ops[i]? = J o) (h:j∈z9p md ops i):∃ e∈o.after,Region.binds md e=I∧e.on=j:=by
 unfold z9p at h
 rw [ho] at h
 simp only [List.mem_filterMap] at h
 obtain ⟨e,he,hx⟩:=h
 by_cases hb:Region.binds md e=I
 ·rw [if_pos hb] at hx;injection hx with hx;exact ⟨e,by simpa using he,hb,hx⟩
 ·rw [if_neg hb] at hx;cases hx
def y9u (md:Region.Mode) (ops:Array Oper) (ah:Array Bool) (todo:List Nat):Bool :=
 todo.all (fun i=>!ah.getD i I&&match ops[i]? with
  | some o=>o.dst.isSome&&o.after.toList.all (fun e=>!Region.binds md e || ah.getD e.on Z || (todo.contains e.on&&Nat.blt e.on i))
  | none=>Z) &&
 (List.range ops.size).all (fun i=>ah.getD i I || todo.contains i || match ops[i]? with
  | some o=>todo.all (fun k=>o.after.toList.any (fun e=>Region.binds md e&&e.on == k)) || o.after.toList.any (fun e=>Region.binds md e && !ah.getD e.on Z && !todo.contains e.on) || todo.all (fun k=>(x2m md ops todo.reverse (z9p md ops i)).contains k)
  | none=>I) &&
 todo.all (fun i=>todo.all (fun j=>i == j || !(z7o ops i == z7o ops j)))&&ah.size == ops.size
def z1m (md:Region.Mode) (ops:Array Oper) (i k:Nat):Bool:=match ops[i]? with
 | some o=>o.after.toList.any (fun e=>Region.binds md e&&e.on == k)
 | none=>Z
def z0f (P:Program) (md:Region.Mode) (ops:Array Oper) (Q:Exit→Act→X→Prop) (S:X→Prop) (late:Nat→Bool):Nat→Array Bool→Act→X→Prop
 | 0,listed,a,w=>Region.ready md ops listed=[]∧Q .normal a w
 | fuel+1,listed,a,w =>
  (Region.ready md ops listed=[]→Q .normal a w) ∧
  ∀ i∈Region.ready md ops listed,wpOp P ops Q i (fun a' w'=>(late i=Z→S w')∧z0f P md ops Q S late fuel (listed.setIfInBounds i I) a' w') a w
section
variable {P:Program} {md:Region.Mode} {ops:Array Oper} {Q:Exit→Act→X→Prop} {S:X→Prop} {late:Nat→Bool}
theorem z1x:∀ (fuel:Nat) (listed:Array Bool) (a:Act) (w:X),z0f P md ops Q S late fuel listed a w→wpAny P md ops Q fuel listed a w
 | 0,_,_,_,h=>h
 | fuel+1,_,_,_,h=>⟨h.1,fun i hi=>wpOp_mono (fun a' w' h'=>z1x fuel _ a' w' h'.2) (h.2 i hi)⟩
def y1f (md:Region.Mode) (ops:Array Oper) (late:Nat→Bool) (i:Nat):Bool:=(List.range ops.size).all fun j=>!late j || z1m md ops j i
theorem x3f {i j:Nat} {oj:Oper} (h:y1f md ops late i=I) (hj:ops[j]? = J oj) (hl:late j=I):∃ e∈oj.after,Region.binds md e=I∧e.on=i:=by
 unfold y1f at h
 rw [List.all_eq_true] at h
 have:=h j (by have:=(Array.getElem?_eq_some_iff.1 hj).1;simpa using this)
 rw [hl] at this
 unfold z1m at this
 rw [hj] at this
 simp only [Bool.not_true,Bool.false_or,List.any_eq_true,Bool.and_eq_true,beq_iff_eq] at this
 obtain ⟨e,he,hb,ho⟩:=this
 exact ⟨e,by simpa using he,hb,ho⟩
theorem y0v {i:Nat} {oi:Oper} {v:Value} (hi:ops[i]? = J oi) (hsel:∀ (j:Nat) (o:Oper) cs b,ops[j]? = J o→o.op≠.select cs b) (hlo:y1f md ops late i=I)
 (hQ:∀ c a w,Q (.panic c) (a.put oi.dst v) w→Q (.panic c) a w) :
 ∀ (fuel:Nat) (listed:Array Bool) (a:Act) (w:X),
  (∀ j oj,ops[j]? = J oj→j≠i→listed.getD j I=Z→(∀ e∈oj.after,Region.binds md e=I→e.on≠i)→oi.apart ops oj=I) →
  i∈Region.ready md ops listed→YieldsIf P ops S oi v a→S w →
  z0f P md ops Q S late fuel (listed.setIfInBounds i I) (a.put oi.dst v) w→z0f P md ops Q S late (fuel+1) listed a w:=by
 intro fuel
 induction fuel with
 | zero =>
  intro listed a w _ hr hy hS H
  refine ⟨fun h=>(by rw [h] at hr;cases hr),fun j hj=>?_⟩
  by_cases hji:j=i
  ·subst hji;exact hy.wpOp hi hS ⟨fun _=>hS,H⟩
  ·have:=ready_mono hj hji
   rw [H.1] at this
   cases this
 | succ fuel ih =>
  intro listed a w hfree hr hy hS H
  refine ⟨fun h=>(by rw [h] at hr;cases hr),fun j hj=>?_⟩
  by_cases hji:j=i
  ·subst hji;exact hy.wpOp hi hS ⟨fun _=>hS,H⟩
  ·have h1:=H.2 j (ready_mono hj hji)
   obtain ⟨hjun,oj,hoj,hall⟩:=mem_ready.1 hj
   have hnot:∀ e∈oj.after,Region.binds md e=I→e.on≠i:=fun e he hb heq=>by
    have h1:=hall e he hb
    have h0:=(mem_ready.1 hr).1
    rw [heq] at h1
    rcases Nat.lt_or_ge i listed.size with h'|h'
    ·simp [h'] at h0 h1;rw [h0] at h1;cases h1
    ·simp [Array.getElem?_eq_none h'] at h1
   have hlj:late j=Z:=by
    cases hl:late j with
    | false=>rfl
    | true =>
     obtain ⟨e,he,hb,ho⟩:=x3f hlo hoj hl
     exact absurd ho (hnot e he hb)
   have h2:=wpOp_putIf hoj (hfree j oj hoj hji hjun hnot) (fun cs b=>hsel i oi cs b hi) (fun cs b=>hsel j oj cs b hoj) hQ hy h1
   have hfree':∀ k ok,ops[k]? = J ok→k≠i→(listed.setIfInBounds j I).getD k I=Z →
    (∀ e∈ok.after,Region.binds md e=I→e.on≠i)→oi.apart ops ok=I:=fun k ok hk hki hun hno=>by
    refine hfree k ok hk hki ?_ hno
    by_cases hjk:j=k
    ·subst hjk;exact hjun
    ·rw [getD_set_ne I hjk] at hun;exact hun
   refine wpOp_mono (fun a' w' h3=>⟨h3.2.1,ih (listed.setIfInBounds j I) a' w' hfree' (ready_mono hr (Ne.symm hji)) h3.1 (h3.2.1 hlj) ?_⟩) h2
   rw [Array.setIfInBounds_comm _ _ hji]
   exact h3.2.2
theorem x5r (d:Option Tmp) {i:Nat} {oi:Oper} {v:Value} {fuel:Nat} {listed:Array Bool} {a:Act} {w:X} (hi:ops[i]? = J oi) (hd:oi.dst=d)
 (hs:Region.noSelect ops=I) (hlo:y1f md ops late i=I) (hf:Region.free md ops listed i=I) (hr:(Region.ready md ops listed).contains i=I)
 (hQ:∀ c a w,Q (.panic c) (a.put d v) w→Q (.panic c) a w) (hy:YieldsIf P ops S oi v a) (hS:S w)
 (h:z0f P md ops Q S late fuel (listed.setIfInBounds i I) (a.put d v) w):z0f P md ops Q S late (fuel+1) listed a w:=by
 subst hd
 exact y0v hi (Region.noSelect_spec hs) hlo hQ fuel listed a w (Region.free_spec hi hf) (by simpa using hr) hy hS h
section
variable {fuel i:Nat} {listed l2:Array Bool} {a a2:Act} {w:X} {oi:Oper} {v:Value}
theorem z2x (d:Tmp) (i:Nat) (hi:ops[i]? = J oi) (v:Y) (hy:YieldsIf P ops S oi v a) (h:z0f P md ops Q S late fuel l2 a2 w)
 (hd:oi.dst=J d:=by exact rfl) (hs:Region.noSelect ops=I:=by kernel_rfl) (hlo:y1f md ops late i=I:=by kernel_rfl) (hf:Region.free md ops listed i=I:=by kernel_rfl)
 (hr:(Region.ready md ops listed).contains i=I:=by kernel_rfl)
 (hQ:∀ c a w,Q (.panic c) (a.put (J d) v) w→Q (.panic c) a w:=by exact fun _ _ _ h=>h) (hS:S w:=by assumption) (hl:listed.setIfInBounds i I=l2:=by first|(simp only [List.setIfInBounds_toArray,List.set_cons_zero,List.set_cons_succ];exact rfl)|exact rfl)
 (ha:a.put (J d) v=a2:=by first|(simp only [Act.put,List.setIfInBounds_toArray,List.set_cons_zero,List.set_cons_succ];exact rfl)|exact rfl):z0f P md ops Q S late (fuel+1) listed a w:=by
 subst hl ha
 exact x5r (J d) hi hd hs hlo hf hr hQ hy hS h
theorem tkL (d:Tmp) (i:Nat) (h:z0f P md ops Q S late fuel l2 a2 w)
 (hi:ops[i]? = J oi:=by exact rfl) (hd:oi.dst=J d:=by exact rfl) (hs:Region.noSelect ops=I:=by kernel_rfl) (hlo:y1f md ops late i=I:=by kernel_rfl) (hf:Region.free md ops listed i=I:=by kernel_rfl)
 (hr:(Region.ready md ops listed).contains i=I:=by kernel_rfl) (hw:Region.wanted oi (yielded ops a.tmps)=I:=by rfl)
 (hy:∀ wS,S wS→(execOp a.eval oi).run P wS=.ok (.value v) wS:=by intro wS aa;go_split_ands;go_simp;first|done|with_reducible rfl)
 (hQ:∀ c a w,Q (.panic c) (a.put (J d) v) w→Q (.panic c) a w:=by exact fun _ _ _ h=>h) (hS:S w:=by assumption) (hl:listed.setIfInBounds i I=l2:=by first|(simp only [List.setIfInBounds_toArray,List.set_cons_zero,List.set_cons_succ];exact rfl)|exact rfl)
 (ha:a.put (J d) v=a2:=by first|(simp only [Act.put,List.setIfInBounds_toArray,List.set_cons_zero,List.set_cons_succ];exact rfl)|exact rfl):z0f P md ops Q S late (fuel+1) listed a w:=by
 subst hl ha
 exact x5r (J d) hi hd hs hlo hf hr hQ (Or.inl ⟨hw,hy⟩) hS h
theorem z0q (d:Tmp) (i:Nat) (h:z0f P md ops Q S late fuel l2 a2 w)
 (hi:ops[i]? = J oi:=by exact rfl) (hd:oi.dst=J d:=by exact rfl) (hs:Region.noSelect ops=I:=by kernel_rfl) (hlo:y1f md ops late i=I:=by kernel_rfl) (hf:Region.free md ops listed i=I:=by kernel_rfl)
 (hr:(Region.ready md ops listed).contains i=I:=by kernel_rfl) (hw:Region.wanted oi (yielded ops a.tmps)=Z:=by rfl)
 (hQ:∀ c a w,Q (.panic c) (a.put (J d) undef) w→Q (.panic c) a w:=by exact fun _ _ _ h=>h) (hS:S w:=by assumption) (hl:listed.setIfInBounds i I=l2:=by first|(simp only [List.setIfInBounds_toArray,List.set_cons_zero,List.set_cons_succ];exact rfl)|exact rfl)
 (ha:a.put (J d) undef=a2:=by first|(simp only [Act.put,List.setIfInBounds_toArray,List.set_cons_zero,List.set_cons_succ];exact rfl)|exact rfl):z0f P md ops Q S late (fuel+1) listed a w:=by
 subst hl ha
 exact x5r (J d) hi hd hs hlo hf hr hQ (Or.inr ⟨hw,rfl⟩) hS h
end
def z3x (P:Program) (md:Region.Mode) (ops:Array Oper) (Q:Exit→Act→X→Prop) (S:X→Prop) (late:Nat→Bool) (fuel:Nat) (listed:Array Bool) (a:Act) (w:X) (rs:List Nat):Prop :=
 ∀ i∈rs,wpOp P ops Q i (fun a' w'=>(late i=Z→S w')∧z0f P md ops Q S late fuel (listed.setIfInBounds i I) a' w') a w
theorem z3x.nil {fuel:Nat} {listed:Array Bool} {a:Act} {w:X}:z3x P md ops Q S late fuel listed a w []:=fun _ h=>by cases h
theorem z3x.cons {fuel:Nat} {listed:Array Bool} {a:Act} {w:X} {i:Nat} {o:Oper} {rs:List Nat} (ho:ops[i]? = J o)
 (h:∀ K':Act→X→Prop,Shut (∀ a w,(late i=Z→S w)→((late i=Z→S w)→z0f P md ops Q S late fuel (listed.setIfInBounds i I) a w)→K' a w)→if Region.wanted o (yielded ops a.tmps)=I then Oper.wp P o a w K' Q else K' (a.put o.dst undef) w)
 (hs:z3x P md ops Q S late fuel listed a w rs):z3x P md ops Q S late fuel listed a w (i::rs):=fun j hj=>by
 rcases List.mem_cons.1 hj with rfl|hj
 ·exact wpOp_step ho (fun K' hK=>h K' (fun a w hS hW=>hK a w ⟨hS,hW hS⟩))
 ·exact hs j hj
theorem y5b {rs:List Nat} {fuel:Nat} {listed:Array Bool} {a:Act} {w:X} (hr:Region.ready md ops listed=rs) (hne:rs≠[])
 (h:z3x P md ops Q S late fuel listed a w rs):z0f P md ops Q S late (fuel+1) listed a w:=⟨fun h0=>absurd (hr ▸ h0) hne,hr ▸ h⟩
theorem rdL (i:Nat) {oi:Oper} {fuel:Nat} {listed:Array Bool} {a:Act} {w:X} (h:∀ K':Act→X→Prop,Shut (∀ a w,(late i=Z→S w)→((late i=Z→S w)→z0f P md ops Q S late fuel (listed.setIfInBounds i I) a w)→K' a w)→if Region.wanted oi (yielded ops a.tmps)=I then Oper.wp P oi a w K' Q else K' (a.put oi.dst undef) w)
 (ho:ops[i]? = J oi:=by exact rfl) (hr:Region.ready md ops listed=[i]:=by kernel_rfl):z0f P md ops Q S late (fuel+1) listed a w :=
 y5b hr (by simp) (z3x.cons ho h z3x.nil)
theorem z3b {listed:Array Bool} {a:Act} {w:X} (hr:Region.ready md ops listed=[]) (h:Q .normal a w):∀ fuel,z0f P md ops Q S late fuel listed a w
 | 0=>⟨hr,h⟩
 | _+1=>⟨fun _=>h,by rw [hr];simp⟩
theorem z7a {id:Nat} {a:Act} {w:X} (hm:P.follows .mixedOrders=I) (hS:S w.drew)
 (h:S w.drew→z0f P .any ops Q S late ops.size (Array.replicate ops.size Z) a w.drew):(Code.region id ops I).wp P Q a w :=
 wp_region_any hm (z1x _ _ _ _ (h hS))
end
def y1j (ah:Array Bool) (done:Nat→Bool):Array Bool:=(Array.range ah.size).map (fun k=>ah.getD k Z || done k)
theorem z6i (ah:Array Bool) (done:Nat→Bool) (k:Nat) (d:Bool) (h:k<ah.size):(y1j ah done).getD k d=(ah.getD k Z || done k):=by
 simp [y1j,h]
theorem j0r (ah:Array Bool) (done:Nat→Bool) (k:Nat) (d:Bool) (h:¬ k<ah.size):(y1j ah done).getD k d=d:=by
 simp [y1j,h]
theorem j1r (ah:Array Bool) (done:Nat→Bool) (i:Nat):(y1j ah done).setIfInBounds i I=y1j ah (fun k=>done k || k == i):=by
 apply Array.ext
 ·simp [y1j]
 ·intro j h1 h2
  have hj:j<ah.size:=by simpa [y1j] using h2
  rw [Array.getElem_setIfInBounds (by simpa [y1j] using hj)]
  by_cases hij:i=j
  ·subst hij;simp [y1j]
  ·have:(j == i)=Z:=beq_false_of_ne (Ne.symm hij)
   simp [y1j,hij,this]
structure Agree (ops:Array Oper) (todo:List Nat) (a0 a:Act):Prop where
 size:a.tmps.size=a0.tmps.size
 defers:a.defers=a0.defers
 tmp:∀ d,(∀ i∈todo,z7o ops i≠d)→a.tmps[d]? = a0.tmps[d]?
theorem y2f {a:Act} {d e:Nat} {v:Value}:(a.put (J d) v).tmps[e]? = if d=e then (if e<a.tmps.size then J v else none) else a.tmps[e]?:=by
 simp only [Act.put,Array.getElem?_setIfInBounds]
 by_cases h:d=e
 ·subst h;rfl
 ·simp [h]
theorem Agree.put {ops:Array Oper} {todo:List Nat} {a0 a:Act} (h:Agree ops todo a0 a) {i:Nat} (hi:i∈todo) (v:Y):Agree ops todo a0 (a.put (J (z7o ops i)) v) :=
 ⟨by rw [← h.size];simp [Act.put],h.defers,fun d hd=>by rw [y2f,if_neg (hd i hi)];exact h.tmp d hd⟩
theorem j2r {ops:Array Oper} {i:Nat} {o:Oper} (ho:ops[i]? = J o) (hs:o.dst.isSome=I):o.dst=J (z7o ops i):=by
 unfold z7o
 rw [ho]
 cases h:o.dst with
 | none=>rw [h] at hs;cases hs
 | some d=>simp [h]
theorem y3f (p:Nat→Bool) (i:Nat):∀ l:List Nat,l.Nodup→i∈l→p i=I→(l.filter p).length=(l.filter fun k=>p k && !(k == i)).length+1
 | [],_,h,_=>by cases h
 | x::r,hn,hi,hp=>by
  rw [List.nodup_cons] at hn
  rcases List.mem_cons.1 hi with rfl|hi
  ·have:(r.filter fun k=>p k && !(k == i))=r.filter p:=List.filter_congr fun k hk=>by
    have:k≠i:=fun e=>hn.1 (e ▸ hk)
    simp [this]
   simp [hp,this]
  ·have hne:x≠i:=fun e=>hn.1 (e ▸ hi)
   have ih:=y3f p i r hn.2 hi hp
   cases hx:p x <;> simp [hx,hne,ih]
section
variable {P:Program} {md:Region.Mode} {ops:Array Oper} {Q:Exit→Act→X→Prop} {S:X→Prop} {late:Nat→Bool}
theorem x4f (todo:List Nat) (ah:Array Bool) (hck:y9u md ops ah todo=I) (hnd:todo.Nodup) (G:Nat→Y→X→Prop) (a0:Act) (aH:Nat)
 (hdst:∀ i∈todo,z7o ops i<a0.tmps.size)
 (hG:∀ k v w w',G k v w→Below w.heap.size w w'→G k v w') (hS:∀ w w',S w→Below w.heap.size w w'→S w')
 (hop:∀ i∈todo,∀ o,ops[i]? = J o→∀ a w,Agree ops todo a0 a→S w→(∀ k,k∈todo→z1m md ops i k=I→∃ v,a.tmps[z7o ops k]? = J v∧G k v w) →
  ∀ K':Act→X→Prop,Shut (∀ v w',G i v w'→Below w.heap.size w w'→K' (a.put o.dst v) w')→if Region.wanted o (yielded ops a.tmps)=I then Oper.wp P o a w K' Q else K' (a.put o.dst undef) w)
 (hend:∀ a w,Agree ops todo a0 a→S w→(∀ k∈todo,∃ v,a.tmps[z7o ops k]? = J v∧G k v w)→z0f P md ops Q S late aH (y1j ah (fun k=>todo.contains k)) a w) :
 ∀ n (done:Nat→Bool),(todo.filter fun k=>!done k).length=n→(∀ k,done k=I→k∈todo)→(∀ k∈todo,done k=I→∀ j∈z9p md ops k,j∈todo→done j=I)→∀ a w,Agree ops todo a0 a→S w→(∀ k∈todo,done k=I→∃ v,a.tmps[z7o ops k]? = J v∧G k v w) →
  z0f P md ops Q S late (n+aH) (y1j ah done) a w:=by
 unfold y9u at hck
 simp only [Bool.and_eq_true,List.all_eq_true,beq_iff_eq,Bool.or_eq_true,Bool.not_eq_true'] at hck
 obtain ⟨⟨⟨h1,h2⟩,h3⟩,h4⟩:=hck
 have hdist:∀ i∈todo,∀ j∈todo,i≠j→z7o ops i≠z7o ops j:=fun i hi j hj hne he=>by
  rcases h3 i hi j hj with h|h
  ·exact hne h
  ·rw [he] at h;simp at h
 have hlt:∀ i∈todo,i<ah.size:=fun i hi=>by
  have:=(h1 i hi).1
  rcases Nat.lt_or_ge i ah.size with h|h
  ·exact h
  ·simp [Array.getElem?_eq_none h] at this
 intro n
 induction n with
 | zero =>
  intro done hn hdn hcl a w ha hs hg
  have hall:∀ k∈todo,done k=I:=fun k hk=>by
   cases hd:done k with
   | true=>rfl
   | false =>
    have:k∈todo.filter fun k=>!done k:=List.mem_filter.2 ⟨hk,by simp [hd]⟩
    rw [List.length_eq_zero_iff.1 hn] at this;cases this
  have he:done=fun k=>todo.contains k:=by
   funext k
   cases hd:done k with
   | true=>have:=hdn k hd;simp [this]
   | false =>
    have:k ∉ todo:=fun hk=>by rw [hall k hk] at hd;cases hd
    simp [this]
  subst he
  rw [Nat.zero_add]
  exact hend a w ha hs fun k hk=>hg k hk (hall k hk)
 | succ n ih =>
  intro done hn hdn hcl a w ha hs hg
  rw [show n+1+aH=(n+aH)+1 from by omega]
  have hex:∃ i∈todo,done i=Z:=by
   cases hf:todo.filter fun k=>!done k with
   | nil=>rw [hf] at hn;cases hn
   | cons i r =>
    have:i∈todo.filter fun k=>!done k:=by rw [hf];exact mS
    obtain ⟨hi,hd⟩:=List.mem_filter.1 this
    exact ⟨i,hi,by simpa using hd⟩
  have hready:∀ m i,i≤m→i∈todo→done i=Z→Region.ready md ops (y1j ah done)≠[]:=by
   intro m
   induction m with
   | zero =>
    intro i him hi hd hnil
    have hin:i∈Region.ready md ops (y1j ah done):=by
     rw [mem_ready]
     have:=h1 i hi
     refine ⟨by rw [z6i _ _ _ _ (hlt i hi),hd];have h0:=this.1;simp [hlt i hi] at h0 ⊢;exact h0,?_⟩
     cases ho:ops[i]? with
     | none=>rw [ho] at this;exact absurd this.2 (by simp)
     | some o =>
      rw [ho] at this
      refine ⟨o,rfl,fun e he hb=>?_⟩
      simp only [Bool.and_eq_true,List.all_eq_true,Bool.or_eq_true,Bool.not_eq_true'] at this
      rcases this.2.2 e (by simpa using he) with (h|h)|h
      ·rw [hb] at h;cases h
      ·rw [z6i _ _ _ _ (by
        rcases Nat.lt_or_ge e.on ah.size with h'|h'
        ·exact h'
        ·simp [Array.getElem?_eq_none h'] at h),h];rfl
      ·obtain ⟨_,h⟩:=h;rw [Nat.blt_eq] at h;omega
    rw [hnil] at hin;cases hin
   | succ m ihm =>
    intro i him hi hd hnil
    by_cases hsm:∃ j∈todo,done j=Z∧j≤m
    ·obtain ⟨j,hj,hdj,hjm⟩:=hsm
     exact ihm j hjm hj hdj hnil
    ·have hin:i∈Region.ready md ops (y1j ah done):=by
      rw [mem_ready]
      have:=h1 i hi
      refine ⟨by rw [z6i _ _ _ _ (hlt i hi),hd];have h0:=this.1;simp [hlt i hi] at h0 ⊢;exact h0,?_⟩
      cases ho:ops[i]? with
      | none=>rw [ho] at this;exact absurd this.2 (by simp)
      | some o =>
       rw [ho] at this
       refine ⟨o,rfl,fun e he hb=>?_⟩
       simp only [Bool.and_eq_true,List.all_eq_true,Bool.or_eq_true,Bool.not_eq_true'] at this
       rcases this.2.2 e (by simpa using he) with (h|h)|h
       ·rw [hb] at h;cases h
       ·rw [z6i _ _ _ _ (by
         rcases Nat.lt_or_ge e.on ah.size with h'|h'
         ·exact h'
         ·simp [Array.getElem?_eq_none h'] at h),h];rfl
       ·obtain ⟨hm,h⟩:=h
        rw [Nat.blt_eq] at h
        have hmem:e.on∈todo:=by simpa using hm
        have hdo:done e.on=I:=by
         cases hx:done e.on with
         | true=>rfl
         | false=>exact absurd ⟨e.on,hmem,hx,by omega⟩ hsm
        rw [z6i _ _ _ _ (hlt _ hmem),hdo,Bool.or_true]
     rw [hnil] at hin;cases hin
  refine ⟨fun hnil=>?_,fun i hi=>?_⟩
  ·obtain ⟨i,hi,hd⟩:=hex
   exact absurd hnil (hready i i (Nat.le_refl _) hi hd)
  ·obtain ⟨hun,o,ho,hall⟩:=mem_ready.1 hi
   have hisz:i<ah.size:=by
    rcases Nat.lt_or_ge i ah.size with h|h
    ·exact h
    ·have hio:=(Array.getElem?_eq_some_iff.1 ho).1;omega
   rw [z6i _ _ _ _ hisz] at hun
   simp only [Bool.or_eq_false_iff] at hun
   have hit:i∈todo:=by
    have hio:=(Array.getElem?_eq_some_iff.1 ho).1
    rcases h2 i (by simpa using hio) with (h|h)|h
    ·have h0:=hun.1;simp [hisz] at h h0;rw [h] at h0;cases h0
    ·simpa using h
    ·rw [ho] at h
     simp only [List.all_eq_true,List.any_eq_true,Bool.and_eq_true,beq_iff_eq,Bool.or_eq_true,Bool.not_eq_true'] at h
     rcases h with h|h
     rotate_left
     ·obtain ⟨k,hk,hdk⟩:=hex
      have:=y0f hcl todo.reverse (z9p md ops i) (fun x hx=>by simpa using hx) (fun j hj hjt=>by
       obtain ⟨e,he,hb,rfl⟩:=x3m ho hj
       have:=hall e he hb
       rw [z6i _ _ _ _ (hlt _ hjt)] at this
       have h0:=(h1 _ hjt).1
       simp [hlt _ hjt] at h0 this
       rw [h0] at this
       simpa using this) k (by simpa using h k hk) hk
      rw [hdk] at this;cases this
     rcases h with h|⟨e,he,⟨hb,ij⟩,hl1⟩
     rotate_left
     ·have:=hall e (by simpa using he) hb
      rcases Nat.lt_or_ge e.on ah.size with hx|hx
      ·rw [z6i _ _ _ _ hx] at this
       have hde:done e.on=Z:=by
        cases hq:done e.on with
        | false=>rfl
        | true=>have:=hdn e.on hq;simp [this] at hl1
       rw [hde,Bool.or_false,ij] at this;cases this
      ·rw [j0r _ _ _ _ (by omega)] at this;cases this
     obtain ⟨k,hk,hdk⟩:=hex
     obtain ⟨e,he,hb,rfl⟩:=h k hk
     have:=hall e (by simpa using he) hb
     rw [z6i _ _ _ _ (hlt _ hk),hdk,Bool.or_false] at this
     have h0:=(h1 _ hk).1
     simp [hlt _ hk] at h0 this
     rw [h0] at this;cases this
   have hdi:=j2r ho (by have:=(h1 i hit).2;rw [ho] at this;simp only [Bool.and_eq_true] at this;exact this.1)
   refine wpOp_step ho fun K' hK=>hop i hit o ho a w ha hs (fun k hk hd=>hg k hk ?_) K' fun v w' hv hb=>?_
   ·unfold z1m at hd
    rw [ho] at hd
    simp only [List.any_eq_true,Bool.and_eq_true,beq_iff_eq] at hd
    obtain ⟨e,he,hbb,rfl⟩:=hd
    have:=hall e (by simpa using he) hbb
    rw [z6i _ _ _ _ (hlt _ hk)] at this
    have h0:=(h1 _ hk).1
    simp [hlt _ hk] at h0 this
    rw [h0] at this
    simpa using this
   ·refine hK _ _ ⟨fun _=>hS _ _ hs hb,?_⟩
    rw [j1r,hdi]
    refine ih (fun k=>done k || k == i) ?_ ?_ ?_ _ _ (ha.put hit v) (hS _ _ hs hb) ?_
    ·have h:=y3f (fun k=>!done k) i todo hnd hit (by simp [hun.2])
     have he:(todo.filter fun k=>!done k && !(k == i))=todo.filter fun k=>!(done k || k == i):=List.filter_congr fun k _=>by simp
     rw [he] at h
     omega
    ·intro k hk
     rcases (Bool.or_eq_true _ _ ▸ hk:done k=I∨(k == i)=I) with h|h
     ·exact hdn k h
     ·rw [beq_iff_eq] at h;subst h;exact hit
    ·intro k hk hdk j hj hjt
     rcases (Bool.or_eq_true _ _ ▸ hdk:done k=I∨(k == i)=I) with h|h
     ·rw [hcl k hk h j hj hjt];rfl
     ·rw [beq_iff_eq] at h
      subst h
      obtain ⟨e,he,hb,rfl⟩:=x3m ho hj
      have:=hall e he hb
      rw [z6i _ _ _ _ (hlt _ hjt)] at this
      have h0:=(h1 _ hjt).1
      simp [hlt _ hjt] at h0 this
      rw [h0] at this
      have h9:done e.on=I:=by simpa using this
      rw [h9];rfl
    ·intro k hk hdk
     by_cases hki:k=i
     ·subst hki
      refine ⟨v,?_,hv⟩
      rw [y2f,if_pos rfl,if_pos (by rw [ha.size];exact hdst _ hk)]
     ·rcases (Bool.or_eq_true _ _ ▸ hdk:done k=I∨(k == i)=I) with h|h
      ·obtain ⟨u,hu,hgu⟩:=hg k hk h
       refine ⟨u,?_,hG _ _ _ _ hgu hb⟩
       rw [y2f,if_neg (hdist i hit k hk (Ne.symm hki))]
       exact hu
      ·exact absurd (by simpa using h) hki
end
theorem k9b {a b:Act} (h1:a.tmps=b.tmps) (h2:a.defers=b.defers):a=b:=by
 cases a;cases b;cases h1;cases h2;rfl
def y1v (vals:Nat→Y):List (Nat × Nat)→Act→Act
 | [],a=>a
 | p::r,a=>y1v vals r (a.put (J p.2) (vals p.1))
theorem y2d (vals:Nat→Y):∀ (ps:List (Nat × Nat)) (a:Act) (d:Nat),(∀ p∈ps,p.2≠d)→(y1v vals ps a).tmps[d]? = a.tmps[d]?
 | [],_,_,_=>rfl
 | p::r,a,d,h=>by
  show (y1v vals r _).tmps[d]? = _
  rw [y2d vals r _ d fun q hq=>h q (List.mem_cons_of_mem _ hq),y2f,if_neg (h p mS)]
theorem y2v (vals:Nat→Y):∀ (ps:List (Nat × Nat)) (a:Act),(y1v vals ps a).tmps.size=a.tmps.size
 | [],_=>rfl
 | p::r,a=>by show (y1v vals r _).tmps.size=_;rw [y2v vals r];simp [Act.put]
theorem z6v (vals:Nat→Y):∀ (ps:List (Nat × Nat)) (a:Act),(y1v vals ps a).defers=a.defers
 | [],_=>rfl
 | p::r,a=>by show (y1v vals r _).defers=_;rw [z6v vals r];rfl
theorem y9o (vals:Nat→Y):∀ (ps:List (Nat × Nat)) (a:Act) (p:Nat × Nat),p∈ps→(ps.map Prod.snd).Nodup→p.2<a.tmps.size→(y1v vals ps a).tmps[p.2]? = J (vals p.1)
 | [],_,_,h,_,_=>by cases h
 | q::r,a,p,h,hn,hs=>by
  rw [List.map_cons,List.nodup_cons] at hn
  show (y1v vals r _).tmps[p.2]? = _
  rcases List.mem_cons.1 h with rfl|h
  ·rw [y2d vals r _ _ fun q hq e=>hn.1 (by rw [← e];exact List.mem_map_of_mem hq),y2f,if_pos rfl,if_pos hs]
  ·exact y9o vals r _ p h hn.2 (by simpa [Act.put] using hs)
section
variable {P:Program} {md:Region.Mode} {ops:Array Oper} {Q:Exit→Act→X→Prop} {S:X→Prop} {late:Nat→Bool}
def Obl (P:Program) (md:Region.Mode) (ops:Array Oper) (Q:Exit→Act→X→Prop) (S:X→Prop) (ps:List (Nat × Nat)) (G:Nat→Y→X→Prop) (a0:Act) (i:Nat):Prop :=
 ∀ o,ops[i]? = J o→∀ a w,Agree ops (ps.map Prod.fst) a0 a→S w→(∀ p∈ps,z1m md ops i p.1=I→∃ v,a.tmps[p.2]? = J v∧G p.1 v w) →
  ∀ K':Act→X→Prop,Shut (∀ v w',G i v w'→Below w.heap.size w w'→K' (a.put o.dst v) w')→if Region.wanted o (yielded ops a.tmps)=I then Oper.wp P o a w K' Q else K' (a.put o.dst undef) w
theorem Obl.mk {ps:List (Nat × Nat)} {G:Nat→Y→X→Prop} {a0:Act} {i:Nat} {o:Oper} (ho:ops[i]? = J o)
 (h:∀ a w,Agree ops (ps.map Prod.fst) a0 a→S w→(∀ p∈ps,z1m md ops i p.1=I→∃ v,a.tmps[p.2]? = J v∧G p.1 v w) →
 ∀ K':Act→X→Prop,Shut (∀ v w',G i v w'→Below w.heap.size w w'→K' (a.put o.dst v) w')→if Region.wanted o (yielded ops a.tmps)=I then Oper.wp P o a w K' Q else K' (a.put o.dst undef) w):Obl P md ops Q S ps G a0 i:=fun o' mw=>by
 rw [ho] at mw
 cases mw
 exact h
theorem z8n (ps:List (Nat × Nat)) {listed:Array Bool} (aL:Array Bool) (aH:Nat) {fuel:Nat} {a0:Act} {w:X} (G:Nat→Y→X→Prop)
 (hck:y9u md ops listed (ps.map Prod.fst)=I) (hnd:(ps.map Prod.fst).Nodup) (hnd2:(ps.map Prod.snd).Nodup) (hd:(ps.all fun p=>z7o ops p.1 == p.2&&Nat.blt p.2 a0.tmps.size)=I)
 (hl:(y1j listed (fun _=>Z) == listed)=I) (hle:(y1j listed (fun k=>(ps.map Prod.fst).contains k) == aL)=I) (hf:(fuel == ps.length+aH)=I)
 (hG:∀ k v w w',G k v w→Below w.heap.size w w'→G k v w') (hS:∀ w w',S w→Below w.heap.size w w'→S w') (hs:S w)
 (hop:∀ i∈ps.map Prod.fst,Obl P md ops Q S ps G a0 i)
 (hend:∀ (vals:Nat→Y) w',S w'→(∀ p∈ps,G p.1 (vals p.1) w')→z0f P md ops Q S late aH aL (y1v vals ps a0) w'):z0f P md ops Q S late fuel listed a0 w:=by
 rw [beq_iff_eq] at hl hle hf
 rw [List.all_eq_true] at hd
 have jI:∀ p∈ps,z7o ops p.1=p.2∧p.2<a0.tmps.size:=fun p hp=>by
  have:=hd p hp
  rw [Bool.and_eq_true,beq_iff_eq,Nat.blt_eq] at this
  exact this
 have key:=x4f (P:=P) (md:=md) (ops:=ops) (Q:=Q) (S:=S) (late:=late) (ps.map Prod.fst) listed hck hnd G a0 aH
  (fun i hi=>by obtain ⟨p,hp,rfl⟩:=List.mem_map.1 hi;rw [(jI p hp).1];exact (jI p hp).2) hG hS
  (fun i hi o ho a w ha lM hdep K' hK=>hop i hi o ho a w ha lM (fun p hp hx=>by
   obtain ⟨v,h1,h2⟩:=hdep p.1 (List.mem_map_of_mem hp) hx
   rw [(jI p hp).1] at h1
   exact ⟨v,h1,h2⟩) K' hK)
  (fun a w' ha lM hg=>by
   rw [hle]
   let vals:Nat→Y:=fun k=>(a.tmps[z7o ops k]?).getD undef
   have hv:∀ p∈ps,a.tmps[p.2]? = J (vals p.1)∧G p.1 (vals p.1) w':=fun p hp=>by
    obtain ⟨v,h1,h2⟩:=hg p.1 (List.mem_map_of_mem hp)
    have:vals p.1=v:=by show (a.tmps[z7o ops p.1]?).getD undef=v;rw [h1];rfl
    rw [this]
    rw [(jI p hp).1] at h1
    exact ⟨h1,h2⟩
   have he:a=y1v vals ps a0:=by
    have h1:a.defers=(y1v vals ps a0).defers:=ha.defers.trans (z6v vals ps a0).symm
    have h2:a.tmps=(y1v vals ps a0).tmps:=by
     apply Array.ext_getElem?
     intro d
     by_cases hx:∃ p∈ps,p.2=d
     ·obtain ⟨p,hp,rfl⟩:=hx
      rw [y9o vals ps a0 p hp hnd2 (jI p hp).2]
      exact (hv p hp).1
     ·rw [y2d vals ps a0 d fun p hp e=>hx ⟨p,hp,e⟩]
      exact ha.tmp d fun i hi e=>by
       obtain ⟨p,hp,rfl⟩:=List.mem_map.1 hi
       rw [(jI p hp).1] at e
       exact hx ⟨p,hp,e⟩
    exact k9b h2 h1
   rw [he]
   exact hend vals w' lM fun p hp=>(hv p hp).2)
  ps.length (fun _=>Z) (by
   have h:List.filter (fun _=>I) (ps.map Prod.fst)=ps.map Prod.fst:=List.filter_eq_self.2 (fun _ _=>rfl)
   show (List.filter (fun _=>I) (ps.map Prod.fst)).length=ps.length
   rw [h,List.length_map]) (fun k hk=>by cases hk) (fun k _ hk=>by cases hk) a0 w ⟨rfl,rfl,fun _ _=>rfl⟩ hs (fun k _ hk=>by cases hk)
 rw [hl] at key
 rw [hf]
 exact key
end
end Go.Proofs.YtdblnbnofjggnaaGreatDoor
