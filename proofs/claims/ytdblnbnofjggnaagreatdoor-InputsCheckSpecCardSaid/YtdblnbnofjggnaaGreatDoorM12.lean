/- Parts of the proofs of chapter 49's laws: Tkd Jmd. -/
import Derived.Test.YtdblnbnofjggnaaGreatDoorM05
import Derived.Deep.RegionHeld3
open Go
open List renaming mem_cons_self → mS
namespace Go.Proofs.YtdblnbnofjggnaaGreatDoor
open Go.RowKit
theorem take_dst {P:Program} {md:Region.Mode} {ops:Array Oper} {Q:Exit→Act→World→Prop} {S:World→Prop} (d:Option Tmp) {i:Nat} {oi:Oper} {v:Value} {fuel:Nat} {listed:Array Bool} {a:Act} {w:World} (hi:ops[i]? = some oi) (hd:oi.dst = d)
 (hs:Region.noSelect ops = true) (hf:Region.free md ops listed i = true) (hr:(Region.ready md ops listed).contains i = true)
 (hQ:∀ c a w,Q (.panic c) (a.put d v) w→Q (.panic c) a w) (hy:YieldsIf P ops S oi v a) (hS:S w)
 (h:wpAnyH P md ops Q S fuel (listed.setIfInBounds i true) (a.put d v) w):wpAnyH P md ops Q S (fuel + 1) listed a w:=by
 subst hd
 exact wpAnyH_take hi hs hf hr hQ hy hS h
section
variable {P:Program} {md:Region.Mode} {ops:Array Oper} {Q:Exit→Act→World→Prop} {S:World→Prop} {fuel i:Nat} {listed l2:Array Bool} {a a2:Act} {w:World} {oi:Oper} {v:Value}
theorem x5j (d:Option Tmp) (i:Nat) (hi:ops[i]? = some oi) (v:Value) (hy:YieldsIf P ops S oi v a) (h:wpAnyH P md ops Q S fuel l2 a2 w)
 (hd:oi.dst = d:=by exact rfl) (hs:Region.noSelect ops = true:=by kernel_rfl) (hf:Region.free md ops listed i = true:=by kernel_rfl)
 (hr:(Region.ready md ops listed).contains i = true:=by kernel_rfl) (hQ:∀ c a w,Q (.panic c) (a.put d v) w→Q (.panic c) a w:=by exact fun _ _ _ h=>h) (hS:S w:=by assumption)
 (hl:listed.setIfInBounds i true = l2:=by first | (simp only [List.setIfInBounds_toArray,List.set_cons_zero,List.set_cons_succ];exact rfl) | exact rfl)
 (ha:a.put d v = a2:=by first | (simp only [Act.put,List.setIfInBounds_toArray,List.set_cons_zero,List.set_cons_succ];exact rfl) | exact rfl):wpAnyH P md ops Q S (fuel + 1) listed a w:=by
 subst hl ha
 exact take_dst d hi hd hs hf hr hQ hy hS h
theorem tkH (d:Option Tmp) (i:Nat) (h:wpAnyH P md ops Q S fuel l2 a2 w)
 (hi:ops[i]? = some oi:=by exact rfl) (hd:oi.dst = d:=by exact rfl) (hs:Region.noSelect ops = true:=by kernel_rfl) (hf:Region.free md ops listed i = true:=by kernel_rfl)
 (hr:(Region.ready md ops listed).contains i = true:=by kernel_rfl) (hw:Region.wanted oi (yielded ops a.tmps) = true:=by rfl)
 (hy:∀ wS,S wS→(execOp a.eval oi).run P wS = .ok (.value v) wS:=by intro wS hSw;go_split_ands;go_simp;first | done | with_reducible rfl)
 (hQ:∀ c a w,Q (.panic c) (a.put d v) w→Q (.panic c) a w:=by exact fun _ _ _ h=>h) (hS:S w:=by assumption)
 (hl:listed.setIfInBounds i true = l2:=by first | (simp only [List.setIfInBounds_toArray,List.set_cons_zero,List.set_cons_succ];exact rfl) | exact rfl)
 (ha:a.put d v = a2:=by first | (simp only [Act.put,List.setIfInBounds_toArray,List.set_cons_zero,List.set_cons_succ];exact rfl) | exact rfl):wpAnyH P md ops Q S (fuel + 1) listed a w:=by
 subst hl ha
 exact take_dst d hi hd hs hf hr hQ (Or.inl ⟨hw,hy⟩) hS h
theorem z7l (d:Option Tmp) (i:Nat) (h:wpAnyH P md ops Q S fuel l2 a2 w)
 (hi:ops[i]? = some oi:=by exact rfl) (hd:oi.dst = d:=by exact rfl) (hs:Region.noSelect ops = true:=by kernel_rfl) (hf:Region.free md ops listed i = true:=by kernel_rfl)
 (hr:(Region.ready md ops listed).contains i = true:=by kernel_rfl) (hw:Region.wanted oi (yielded ops a.tmps) = false:=by rfl)
 (hQ:∀ c a w,Q (.panic c) (a.put d undef) w→Q (.panic c) a w:=by exact fun _ _ _ h=>h) (hS:S w:=by assumption)
 (hl:listed.setIfInBounds i true = l2:=by first | (simp only [List.setIfInBounds_toArray,List.set_cons_zero,List.set_cons_succ];exact rfl) | exact rfl)
 (ha:a.put d undef = a2:=by first | (simp only [Act.put,List.setIfInBounds_toArray,List.set_cons_zero,List.set_cons_succ];exact rfl) | exact rfl):wpAnyH P md ops Q S (fuel + 1) listed a w:=by
 subst hl ha
 exact take_dst d hi hd hs hf hr hQ (Or.inr ⟨hw,rfl⟩) hS h
theorem rdH (i:Nat) (h:∀ K':Act→World→Prop,Shut (∀ a w,S w→(S w→wpAnyH P md ops Q S fuel (listed.setIfInBounds i true) a w)→K' a w)→if Region.wanted oi (yielded ops a.tmps) = true then Oper.wp P oi a w K' Q else K' (a.put oi.dst undef) w)
 (ho:ops[i]? = some oi:=by exact rfl) (hr:Region.ready md ops listed = [i]:=by kernel_rfl):wpAnyH P md ops Q S (fuel + 1) listed a w :=
 wpAnyH_ready hr (by simp) (AllReadyH.cons ho h AllReadyH.nil)
theorem goK {K:Act→World→Prop} (hK:Shut (∀ a w,S w→(S w→wpAnyH P md ops Q S fuel listed a w)→K a w)) (hS:S w) (h:S w→wpAnyH P md ops Q S fuel l2 a2 w)
 (hl:listed = l2:=by first | (simp only [List.setIfInBounds_toArray,List.set_cons_zero,List.set_cons_succ];exact rfl) | exact rfl)
 (ha:a = a2:=by first | (simp only [Act.put,List.setIfInBounds_toArray,List.set_cons_zero,List.set_cons_succ];exact rfl) | exact rfl):K a w:=by
 subst hl ha
 exact hK.out _ _ hS h
end
def z1n (ops:Array Oper) (k:Nat):Nat:=((ops[k]?).bind (·.dst)).getD 0
def z5o (md:Region.Mode) (ops:Array Oper) (i:Nat):List Nat:=match ops[i]? with
 | some o=>o.after.toList.filterMap (fun e=>if Region.binds md e then some e.on else none)
 | none=>[]
def x6j (md:Region.Mode) (ops:Array Oper):List Nat→List Nat→List Nat
 | [],S=>S
 | k :: r,S=>x6j md ops r (if S.contains k then S ++ z5o md ops k else S)
theorem y8b {md:Region.Mode} {ops:Array Oper} {todo:List Nat} {done:Nat→Bool} (hcl:∀ k ∈ todo,done k = true→∀ j ∈ z5o md ops k,j ∈ todo→done j = true) :
 ∀ (ks S:List Nat),(∀ k ∈ ks,k ∈ todo)→(∀ j ∈ S,j ∈ todo→done j = true)→∀ j ∈ x6j md ops ks S,j ∈ todo→done j = true
 | [],_,_,h=>h
 | k :: r,S,hk,h=>by
  show ∀ j ∈ x6j md ops r _,_
  refine y8b hcl r _ (fun x hx=>hk x (List.mem_cons_of_mem _ hx)) ?_
  by_cases hc:S.contains k = true
  · rw [if_pos hc]
    intro j hj ht
    rcases List.mem_append.1 hj with hj | hj
    · exact h j hj ht
    · exact hcl k (hk k mS) (h k (by simpa using hc) (hk k mS)) j hj ht
  · rw [if_neg hc];exact h
theorem x7j {md:Region.Mode} {ops:Array Oper} {i j:Nat} {o:Oper} (ho:ops[i]? = some o) (h:j ∈ z5o md ops i):∃ e ∈ o.after,Region.binds md e = true∧e.on = j:=by
 unfold z5o at h
 rw [ho] at h
 simp only [List.mem_filterMap] at h
 obtain ⟨e,he,hx⟩:=h
 by_cases hb:Region.binds md e = true
 · rw [if_pos hb] at hx;injection hx with hx;exact ⟨e,by simpa using he,hb,hx⟩
 · rw [if_neg hb] at hx;cases hx
def y3s (md:Region.Mode) (ops:Array Oper) (listed0:Array Bool) (todo:List Nat):Bool :=
 todo.all (fun i=>!listed0.getD i true && match ops[i]? with
  | some o=>o.dst.isSome && o.after.toList.all (fun e=>!Region.binds md e || listed0.getD e.on false || (todo.contains e.on && Nat.blt e.on i))
  | none=>false) &&
 (List.range ops.size).all (fun i=>listed0.getD i true || todo.contains i || match ops[i]? with
  | some o=>todo.all (fun k=>o.after.toList.any (fun e=>Region.binds md e && e.on == k)) || o.after.toList.any (fun e=>Region.binds md e && !listed0.getD e.on false && !todo.contains e.on) || todo.all (fun k=>(x6j md ops todo.reverse (z5o md ops i)).contains k)
  | none=>true) &&
 todo.all (fun i=>todo.all (fun j=>i == j || !(z1n ops i == z1n ops j))) && listed0.size == ops.size
def z2n (md:Region.Mode) (ops:Array Oper) (i k:Nat):Bool:=match ops[i]? with
 | some o=>o.after.toList.any (fun e=>Region.binds md e && e.on == k)
 | none=>false
def z2e (P:Program) (md:Region.Mode) (ops:Array Oper) (Q:Exit→Act→World→Prop) (S:World→Prop) (late:Nat→Bool):Nat→Array Bool→Act→World→Prop
 | 0,listed,a,w=>Region.ready md ops listed = []∧Q .normal a w
 | fuel + 1,listed,a,w =>
  (Region.ready md ops listed = []→Q .normal a w) ∧
  ∀ i ∈ Region.ready md ops listed,wpOp P ops Q i (fun a' w'=>(late i = false→S w')∧z2e P md ops Q S late fuel (listed.setIfInBounds i true) a' w') a w
section
variable {P:Program} {md:Region.Mode} {ops:Array Oper} {Q:Exit→Act→World→Prop} {S:World→Prop} {late:Nat→Bool}
theorem z4v:∀ (fuel:Nat) (listed:Array Bool) (a:Act) (w:World),z2e P md ops Q S late fuel listed a w→wpAny P md ops Q fuel listed a w
 | 0,_,_,_,h=>h
 | fuel + 1,_,_,_,h=>⟨h.1,fun i hi=>wpOp_mono (fun a' w' h'=>z4v fuel _ a' w' h'.2) (h.2 i hi)⟩
def y9b (md:Region.Mode) (ops:Array Oper) (late:Nat→Bool) (i:Nat):Bool:=(List.range ops.size).all fun j=>!late j || z2n md ops j i
theorem x0c {i j:Nat} {oj:Oper} (h:y9b md ops late i = true) (hj:ops[j]? = some oj) (hl:late j = true):∃ e ∈ oj.after,Region.binds md e = true∧e.on = i:=by
 unfold y9b at h
 rw [List.all_eq_true] at h
 have:=h j (by have:=(Array.getElem?_eq_some_iff.1 hj).1;simpa using this)
 rw [hl] at this
 unfold z2n at this
 rw [hj] at this
 simp only [Bool.not_true,Bool.false_or,List.any_eq_true,Bool.and_eq_true,beq_iff_eq] at this
 obtain ⟨e,he,hb,ho⟩:=this
 exact ⟨e,by simpa using he,hb,ho⟩
theorem y4s {i:Nat} {oi:Oper} {v:Value} (hi:ops[i]? = some oi) (hsel:∀ (j:Nat) (o:Oper) cs b,ops[j]? = some o→o.op ≠ .select cs b) (hlo:y9b md ops late i = true)
 (hQ:∀ c a w,Q (.panic c) (a.put oi.dst v) w→Q (.panic c) a w) :
 ∀ (fuel:Nat) (listed:Array Bool) (a:Act) (w:World),
  (∀ j oj,ops[j]? = some oj→j ≠ i→listed.getD j true = false→(∀ e ∈ oj.after,Region.binds md e = true→e.on ≠ i)→oi.apart ops oj = true) →
  i ∈ Region.ready md ops listed→YieldsIf P ops S oi v a→S w →
  z2e P md ops Q S late fuel (listed.setIfInBounds i true) (a.put oi.dst v) w→z2e P md ops Q S late (fuel + 1) listed a w:=by
 intro fuel
 induction fuel with
 | zero =>
  intro listed a w _ hr hy hS H
  refine ⟨fun h=>(by rw [h] at hr;cases hr),fun j hj=>?_⟩
  by_cases hji:j = i
  · subst hji;exact hy.wpOp hi hS ⟨fun _=>hS,H⟩
  · have:=ready_mono hj hji
    rw [H.1] at this
    cases this
 | succ fuel ih =>
  intro listed a w hfree hr hy hS H
  refine ⟨fun h=>(by rw [h] at hr;cases hr),fun j hj=>?_⟩
  by_cases hji:j = i
  · subst hji;exact hy.wpOp hi hS ⟨fun _=>hS,H⟩
  · have h1:=H.2 j (ready_mono hj hji)
    obtain ⟨hjun,oj,hoj,hall⟩:=mem_ready.1 hj
    have hnot:∀ e ∈ oj.after,Region.binds md e = true→e.on ≠ i:=fun e he hb heq=>by
     have h1:=hall e he hb
     have h0:=(mem_ready.1 hr).1
     rw [heq] at h1
     rcases Nat.lt_or_ge i listed.size with h' | h'
     · simp [h'] at h0 h1;rw [h0] at h1;cases h1
     · simp [Array.getElem?_eq_none h'] at h1
    have hlj:late j = false:=by
     cases hl:late j with
     | false=>rfl
     | true =>
      obtain ⟨e,he,hb,ho⟩:=x0c hlo hoj hl
      exact absurd ho (hnot e he hb)
    have h2:=wpOp_putIf hoj (hfree j oj hoj hji hjun hnot) (fun cs b=>hsel i oi cs b hi) (fun cs b=>hsel j oj cs b hoj) hQ hy h1
    have hfree':∀ k ok,ops[k]? = some ok→k ≠ i→(listed.setIfInBounds j true).getD k true = false →
     (∀ e ∈ ok.after,Region.binds md e = true→e.on ≠ i)→oi.apart ops ok = true:=fun k ok hk hki hun hno=>by
     refine hfree k ok hk hki ?_ hno
     by_cases hjk:j = k
     · subst hjk;exact hjun
     · rw [getD_set_ne true hjk] at hun;exact hun
    refine wpOp_mono (fun a' w' h3=>⟨h3.2.1,ih (listed.setIfInBounds j true) a' w' hfree' (ready_mono hr (Ne.symm hji)) h3.1 (h3.2.1 hlj) ?_⟩) h2
    rw [Array.setIfInBounds_comm _ _ hji]
    exact h3.2.2
theorem j4w (d:Option Tmp) {i:Nat} {oi:Oper} {v:Value} {fuel:Nat} {listed:Array Bool} {a:Act} {w:World} (hi:ops[i]? = some oi) (hd:oi.dst = d)
 (hs:Region.noSelect ops = true) (hlo:y9b md ops late i = true) (hf:Region.free md ops listed i = true) (hr:(Region.ready md ops listed).contains i = true)
 (hQ:∀ c a w,Q (.panic c) (a.put d v) w→Q (.panic c) a w) (hy:YieldsIf P ops S oi v a) (hS:S w)
 (h:z2e P md ops Q S late fuel (listed.setIfInBounds i true) (a.put d v) w):z2e P md ops Q S late (fuel + 1) listed a w:=by
 subst hd
 exact y4s hi (Region.noSelect_spec hs) hlo hQ fuel listed a w (Region.free_spec hi hf) (by simpa using hr) hy hS h
section
variable {fuel i:Nat} {listed l2:Array Bool} {a a2:Act} {w:World} {oi:Oper} {v:Value}
theorem z9s (d:Option Tmp) (i:Nat) (hi:ops[i]? = some oi) (v:Value) (hy:YieldsIf P ops S oi v a) (h:z2e P md ops Q S late fuel l2 a2 w)
 (hd:oi.dst = d:=by exact rfl) (hs:Region.noSelect ops = true:=by kernel_rfl) (hlo:y9b md ops late i = true:=by kernel_rfl) (hf:Region.free md ops listed i = true:=by kernel_rfl)
 (hr:(Region.ready md ops listed).contains i = true:=by kernel_rfl)
 (hQ:∀ c a w,Q (.panic c) (a.put d v) w→Q (.panic c) a w:=by exact fun _ _ _ h=>h) (hS:S w:=by assumption) (hl:listed.setIfInBounds i true = l2:=by first | (simp only [List.setIfInBounds_toArray,List.set_cons_zero,List.set_cons_succ];exact rfl) | exact rfl)
 (ha:a.put d v = a2:=by first | (simp only [Act.put,List.setIfInBounds_toArray,List.set_cons_zero,List.set_cons_succ];exact rfl) | exact rfl):z2e P md ops Q S late (fuel + 1) listed a w:=by
 subst hl ha
 exact j4w d hi hd hs hlo hf hr hQ hy hS h
theorem tkL (d:Option Tmp) (i:Nat) (h:z2e P md ops Q S late fuel l2 a2 w)
 (hi:ops[i]? = some oi:=by exact rfl) (hd:oi.dst = d:=by exact rfl) (hs:Region.noSelect ops = true:=by kernel_rfl) (hlo:y9b md ops late i = true:=by kernel_rfl) (hf:Region.free md ops listed i = true:=by kernel_rfl)
 (hr:(Region.ready md ops listed).contains i = true:=by kernel_rfl) (hw:Region.wanted oi (yielded ops a.tmps) = true:=by rfl)
 (hy:∀ wS,S wS→(execOp a.eval oi).run P wS = .ok (.value v) wS:=by intro wS hSw;go_split_ands;go_simp;first | done | with_reducible rfl)
 (hQ:∀ c a w,Q (.panic c) (a.put d v) w→Q (.panic c) a w:=by exact fun _ _ _ h=>h) (hS:S w:=by assumption) (hl:listed.setIfInBounds i true = l2:=by first | (simp only [List.setIfInBounds_toArray,List.set_cons_zero,List.set_cons_succ];exact rfl) | exact rfl)
 (ha:a.put d v = a2:=by first | (simp only [Act.put,List.setIfInBounds_toArray,List.set_cons_zero,List.set_cons_succ];exact rfl) | exact rfl):z2e P md ops Q S late (fuel + 1) listed a w:=by
 subst hl ha
 exact j4w d hi hd hs hlo hf hr hQ (Or.inl ⟨hw,hy⟩) hS h
theorem z6o (d:Option Tmp) (i:Nat) (h:z2e P md ops Q S late fuel l2 a2 w)
 (hi:ops[i]? = some oi:=by exact rfl) (hd:oi.dst = d:=by exact rfl) (hs:Region.noSelect ops = true:=by kernel_rfl) (hlo:y9b md ops late i = true:=by kernel_rfl) (hf:Region.free md ops listed i = true:=by kernel_rfl)
 (hr:(Region.ready md ops listed).contains i = true:=by kernel_rfl) (hw:Region.wanted oi (yielded ops a.tmps) = false:=by rfl)
 (hQ:∀ c a w,Q (.panic c) (a.put d undef) w→Q (.panic c) a w:=by exact fun _ _ _ h=>h) (hS:S w:=by assumption) (hl:listed.setIfInBounds i true = l2:=by first | (simp only [List.setIfInBounds_toArray,List.set_cons_zero,List.set_cons_succ];exact rfl) | exact rfl)
 (ha:a.put d undef = a2:=by first | (simp only [Act.put,List.setIfInBounds_toArray,List.set_cons_zero,List.set_cons_succ];exact rfl) | exact rfl):z2e P md ops Q S late (fuel + 1) listed a w:=by
 subst hl ha
 exact j4w d hi hd hs hlo hf hr hQ (Or.inr ⟨hw,rfl⟩) hS h
end
def z5v (P:Program) (md:Region.Mode) (ops:Array Oper) (Q:Exit→Act→World→Prop) (S:World→Prop) (late:Nat→Bool) (fuel:Nat) (listed:Array Bool) (a:Act) (w:World) (rs:List Nat):Prop :=
 ∀ i ∈ rs,wpOp P ops Q i (fun a' w'=>(late i = false→S w')∧z2e P md ops Q S late fuel (listed.setIfInBounds i true) a' w') a w
theorem z5v.nil {fuel:Nat} {listed:Array Bool} {a:Act} {w:World}:z5v P md ops Q S late fuel listed a w []:=fun _ h=>by cases h
theorem z5v.cons {fuel:Nat} {listed:Array Bool} {a:Act} {w:World} {i:Nat} {o:Oper} {rs:List Nat} (ho:ops[i]? = some o)
 (h:∀ K':Act→World→Prop,Shut (∀ a w,(late i = false→S w)→((late i = false→S w)→z2e P md ops Q S late fuel (listed.setIfInBounds i true) a w)→K' a w)→if Region.wanted o (yielded ops a.tmps) = true then Oper.wp P o a w K' Q else K' (a.put o.dst undef) w)
 (hs:z5v P md ops Q S late fuel listed a w rs):z5v P md ops Q S late fuel listed a w (i :: rs):=fun j hj=>by
 rcases List.mem_cons.1 hj with rfl | hj
 · exact wpOp_step ho (fun K' hK=>h K' (fun a w hS hW=>hK a w ⟨hS,hW hS⟩))
 · exact hs j hj
theorem y5s {rs:List Nat} {fuel:Nat} {listed:Array Bool} {a:Act} {w:World} (hr:Region.ready md ops listed = rs) (hne:rs ≠ [])
 (h:z5v P md ops Q S late fuel listed a w rs):z2e P md ops Q S late (fuel + 1) listed a w:=⟨fun h0=>absurd (hr ▸ h0) hne,hr ▸ h⟩
theorem rdL (i:Nat) {oi:Oper} {fuel:Nat} {listed:Array Bool} {a:Act} {w:World} (h:∀ K':Act→World→Prop,Shut (∀ a w,(late i = false→S w)→((late i = false→S w)→z2e P md ops Q S late fuel (listed.setIfInBounds i true) a w)→K' a w)→if Region.wanted oi (yielded ops a.tmps) = true then Oper.wp P oi a w K' Q else K' (a.put oi.dst undef) w)
 (ho:ops[i]? = some oi:=by exact rfl) (hr:Region.ready md ops listed = [i]:=by kernel_rfl):z2e P md ops Q S late (fuel + 1) listed a w :=
 y5s hr (by simp) (z5v.cons ho h z5v.nil)
theorem z6b {listed:Array Bool} {a:Act} {w:World} (hr:Region.ready md ops listed = []) (h:Q .normal a w):∀ fuel,z2e P md ops Q S late fuel listed a w
 | 0=>⟨hr,h⟩
 | _ + 1=>⟨fun _=>h,by rw [hr];simp⟩
theorem z9a {id:Nat} {a:Act} {w:World} (hm:P.follows .mixedOrders = true) (hS:S w.drew)
 (h:S w.drew→z2e P .any ops Q S late ops.size (Array.replicate ops.size false) a w.drew):(Code.region id ops true).wp P Q a w :=
 wp_region_any hm (z4v _ _ _ _ (h hS))
end
def y4g (listed0:Array Bool) (done:Nat→Bool):Array Bool:=(Array.range listed0.size).map (fun k=>listed0.getD k false || done k)
theorem z6h (listed0:Array Bool) (done:Nat→Bool) (k:Nat) (d:Bool) (h:k < listed0.size):(y4g listed0 done).getD k d = (listed0.getD k false || done k):=by
 simp [y4g,h]
theorem j5l (listed0:Array Bool) (done:Nat→Bool) (k:Nat) (d:Bool) (h:¬ k < listed0.size):(y4g listed0 done).getD k d = d:=by
 simp [y4g,h]
theorem j6l (listed0:Array Bool) (done:Nat→Bool) (i:Nat):(y4g listed0 done).setIfInBounds i true = y4g listed0 (fun k=>done k || k == i):=by
 apply Array.ext
 · simp [y4g]
 · intro j h1 h2
   have hj:j < listed0.size:=by simpa [y4g] using h2
   rw [Array.getElem_setIfInBounds (by simpa [y4g] using hj)]
   by_cases hij:i = j
   · subst hij;simp [y4g]
   · have:(j == i) = false:=beq_false_of_ne (Ne.symm hij)
     simp [y4g,hij,this]
structure Agree (ops:Array Oper) (todo:List Nat) (a0 a:Act):Prop where
 size:a.tmps.size = a0.tmps.size
 defers:a.defers = a0.defers
 tmp:∀ d,(∀ i ∈ todo,z1n ops i ≠ d)→a.tmps[d]? = a0.tmps[d]?
theorem y0c {a:Act} {d e:Nat} {v:Value}:(a.put (some d) v).tmps[e]? = if d = e then (if e < a.tmps.size then some v else none) else a.tmps[e]?:=by
 simp only [Act.put,Array.getElem?_setIfInBounds]
 by_cases h:d = e
 · subst h;rfl
 · simp [h]
theorem Agree.put {ops:Array Oper} {todo:List Nat} {a0 a:Act} (h:Agree ops todo a0 a) {i:Nat} (hi:i ∈ todo) (v:Value):Agree ops todo a0 (a.put (some (z1n ops i)) v) :=
 ⟨by rw [← h.size];simp [Act.put],h.defers,fun d hd=>by rw [y0c,if_neg (hd i hi)];exact h.tmp d hd⟩
theorem j7l {ops:Array Oper} {i:Nat} {o:Oper} (ho:ops[i]? = some o) (hs:o.dst.isSome = true):o.dst = some (z1n ops i):=by
 unfold z1n
 rw [ho]
 cases h:o.dst with
 | none=>rw [h] at hs;cases hs
 | some d=>simp [h]
theorem y1c (p:Nat→Bool) (i:Nat):∀ l:List Nat,l.Nodup→i ∈ l→p i = true→(l.filter p).length = (l.filter fun k=>p k && !(k == i)).length + 1
 | [],_,h,_=>by cases h
 | x :: r,hn,hi,hp=>by
  rw [List.nodup_cons] at hn
  rcases List.mem_cons.1 hi with rfl | hi
  · have:(r.filter fun k=>p k && !(k == i)) = r.filter p:=List.filter_congr fun k hk=>by
     have:k ≠ i:=fun e=>hn.1 (e ▸ hk)
     simp [this]
    simp [hp,this]
  · have hne:x ≠ i:=fun e=>hn.1 (e ▸ hi)
    have ih:=y1c p i r hn.2 hi hp
    cases hx:p x <;> simp [hx,hne,ih]
section
variable {P:Program} {md:Region.Mode} {ops:Array Oper} {Q:Exit→Act→World→Prop} {S:World→Prop} {late:Nat→Bool}
theorem x1c (todo:List Nat) (listed0:Array Bool) (hck:y3s md ops listed0 todo = true) (hnd:todo.Nodup) (G:Nat→Value→World→Prop) (a0:Act) (fuelEnd:Nat)
 (hdst:∀ i ∈ todo,z1n ops i < a0.tmps.size)
 (hG:∀ k v w w',G k v w→Below w.heap.size w w'→G k v w') (hS:∀ w w',S w→Below w.heap.size w w'→S w')
 (hop:∀ i ∈ todo,∀ o,ops[i]? = some o→∀ a w,Agree ops todo a0 a→S w→(∀ k,k ∈ todo→z2n md ops i k = true→∃ v,a.tmps[z1n ops k]? = some v∧G k v w) →
  ∀ K':Act→World→Prop,Shut (∀ v w',G i v w'→Below w.heap.size w w'→K' (a.put o.dst v) w')→if Region.wanted o (yielded ops a.tmps) = true then Oper.wp P o a w K' Q else K' (a.put o.dst undef) w)
 (hend:∀ a w,Agree ops todo a0 a→S w→(∀ k ∈ todo,∃ v,a.tmps[z1n ops k]? = some v∧G k v w)→z2e P md ops Q S late fuelEnd (y4g listed0 (fun k=>todo.contains k)) a w) :
 ∀ n (done:Nat→Bool),(todo.filter fun k=>!done k).length = n→(∀ k,done k = true→k ∈ todo)→(∀ k ∈ todo,done k = true→∀ j ∈ z5o md ops k,j ∈ todo→done j = true)→∀ a w,Agree ops todo a0 a→S w→(∀ k ∈ todo,done k = true→∃ v,a.tmps[z1n ops k]? = some v∧G k v w) →
  z2e P md ops Q S late (n + fuelEnd) (y4g listed0 done) a w:=by
 unfold y3s at hck
 simp only [Bool.and_eq_true,List.all_eq_true,beq_iff_eq,Bool.or_eq_true,Bool.not_eq_true'] at hck
 obtain ⟨⟨⟨h1,h2⟩,h3⟩,h4⟩:=hck
 have hdist:∀ i ∈ todo,∀ j ∈ todo,i ≠ j→z1n ops i ≠ z1n ops j:=fun i hi j hj hne he=>by
  rcases h3 i hi j hj with h | h
  · exact hne h
  · rw [he] at h;simp at h
 have hlt:∀ i ∈ todo,i < listed0.size:=fun i hi=>by
  have:=(h1 i hi).1
  rcases Nat.lt_or_ge i listed0.size with h | h
  · exact h
  · simp [Array.getElem?_eq_none h] at this
 intro n
 induction n with
 | zero =>
  intro done hn hdn hcl a w ha hs hg
  have hall:∀ k ∈ todo,done k = true:=fun k hk=>by
   cases hd:done k with
   | true=>rfl
   | false =>
    have:k ∈ todo.filter fun k=>!done k:=List.mem_filter.2 ⟨hk,by simp [hd]⟩
    rw [List.length_eq_zero_iff.1 hn] at this;cases this
  have he:done = fun k=>todo.contains k:=by
   funext k
   cases hd:done k with
   | true=>have:=hdn k hd;simp [this]
   | false =>
    have:k ∉ todo:=fun hk=>by rw [hall k hk] at hd;cases hd
    simp [this]
  subst he
  rw [Nat.zero_add]
  exact hend a w ha hs fun k hk=>hg k hk (hall k hk)
 | succ n ih =>
  intro done hn hdn hcl a w ha hs hg
  rw [show n + 1 + fuelEnd = (n + fuelEnd) + 1 from by omega]
  have hex:∃ i ∈ todo,done i = false:=by
   cases hf:todo.filter fun k=>!done k with
   | nil=>rw [hf] at hn;cases hn
   | cons i r =>
    have:i ∈ todo.filter fun k=>!done k:=by rw [hf];exact mS
    obtain ⟨hi,hd⟩:=List.mem_filter.1 this
    exact ⟨i,hi,by simpa using hd⟩
  have hready:∀ m i,i ≤ m→i ∈ todo→done i = false→Region.ready md ops (y4g listed0 done) ≠ []:=by
   intro m
   induction m with
   | zero =>
    intro i him hi hd hnil
    have hin:i ∈ Region.ready md ops (y4g listed0 done):=by
     rw [mem_ready]
     have:=h1 i hi
     refine ⟨by rw [z6h _ _ _ _ (hlt i hi),hd];have h0:=this.1;simp [hlt i hi] at h0 ⊢;exact h0,?_⟩
     cases ho:ops[i]? with
     | none=>rw [ho] at this;exact absurd this.2 (by simp)
     | some o =>
      rw [ho] at this
      refine ⟨o,rfl,fun e he hb=>?_⟩
      simp only [Bool.and_eq_true,List.all_eq_true,Bool.or_eq_true,Bool.not_eq_true'] at this
      rcases this.2.2 e (by simpa using he) with (h | h) | h
      · rw [hb] at h;cases h
      · rw [z6h _ _ _ _ (by
         rcases Nat.lt_or_ge e.on listed0.size with h' | h'
         · exact h'
         · simp [Array.getElem?_eq_none h'] at h),h];rfl
      · obtain ⟨_,h⟩:=h;rw [Nat.blt_eq] at h;omega
    rw [hnil] at hin;cases hin
   | succ m ihm =>
    intro i him hi hd hnil
    by_cases hsm:∃ j ∈ todo,done j = false∧j ≤ m
    · obtain ⟨j,hj,hdj,hjm⟩:=hsm
      exact ihm j hjm hj hdj hnil
    · have hin:i ∈ Region.ready md ops (y4g listed0 done):=by
       rw [mem_ready]
       have:=h1 i hi
       refine ⟨by rw [z6h _ _ _ _ (hlt i hi),hd];have h0:=this.1;simp [hlt i hi] at h0 ⊢;exact h0,?_⟩
       cases ho:ops[i]? with
       | none=>rw [ho] at this;exact absurd this.2 (by simp)
       | some o =>
        rw [ho] at this
        refine ⟨o,rfl,fun e he hb=>?_⟩
        simp only [Bool.and_eq_true,List.all_eq_true,Bool.or_eq_true,Bool.not_eq_true'] at this
        rcases this.2.2 e (by simpa using he) with (h | h) | h
        · rw [hb] at h;cases h
        · rw [z6h _ _ _ _ (by
           rcases Nat.lt_or_ge e.on listed0.size with h' | h'
           · exact h'
           · simp [Array.getElem?_eq_none h'] at h),h];rfl
        · obtain ⟨hm,h⟩:=h
          rw [Nat.blt_eq] at h
          have hmem:e.on ∈ todo:=by simpa using hm
          have hdo:done e.on = true:=by
           cases hx:done e.on with
           | true=>rfl
           | false=>exact absurd ⟨e.on,hmem,hx,by omega⟩ hsm
          rw [z6h _ _ _ _ (hlt _ hmem),hdo,Bool.or_true]
      rw [hnil] at hin;cases hin
  refine ⟨fun hnil=>?_,fun i hi=>?_⟩
  · obtain ⟨i,hi,hd⟩:=hex
    exact absurd hnil (hready i i (Nat.le_refl _) hi hd)
  · obtain ⟨hun,o,ho,hall⟩:=mem_ready.1 hi
    have hisz:i < listed0.size:=by
     rcases Nat.lt_or_ge i listed0.size with h | h
     · exact h
     · have hio:=(Array.getElem?_eq_some_iff.1 ho).1;omega
    rw [z6h _ _ _ _ hisz] at hun
    simp only [Bool.or_eq_false_iff] at hun
    have hit:i ∈ todo:=by
     have hio:=(Array.getElem?_eq_some_iff.1 ho).1
     rcases h2 i (by simpa using hio) with (h | h) | h
     · have h0:=hun.1;simp [hisz] at h h0;rw [h] at h0;cases h0
     · simpa using h
     · rw [ho] at h
       simp only [List.all_eq_true,List.any_eq_true,Bool.and_eq_true,beq_iff_eq,Bool.or_eq_true,Bool.not_eq_true'] at h
       rcases h with h | h
       rotate_left
       · obtain ⟨k,hk,hdk⟩:=hex
         have:=y8b hcl todo.reverse (z5o md ops i) (fun x hx=>by simpa using hx) (fun j hj hjt=>by
          obtain ⟨e,he,hb,rfl⟩:=x7j ho hj
          have:=hall e he hb
          rw [z6h _ _ _ _ (hlt _ hjt)] at this
          have h0:=(h1 _ hjt).1
          simp [hlt _ hjt] at h0 this
          rw [h0] at this
          simpa using this) k (by simpa using h k hk) hk
         rw [hdk] at this;cases this
       rcases h with h | ⟨e,he,⟨hb,hl0⟩,hl1⟩
       rotate_left
       · have:=hall e (by simpa using he) hb
         rcases Nat.lt_or_ge e.on listed0.size with hx | hx
         · rw [z6h _ _ _ _ hx] at this
           have hde:done e.on = false:=by
            cases hq:done e.on with
            | false=>rfl
            | true=>have:=hdn e.on hq;simp [this] at hl1
           rw [hde,Bool.or_false,hl0] at this;cases this
         · rw [j5l _ _ _ _ (by omega)] at this;cases this
       obtain ⟨k,hk,hdk⟩:=hex
       obtain ⟨e,he,hb,rfl⟩:=h k hk
       have:=hall e (by simpa using he) hb
       rw [z6h _ _ _ _ (hlt _ hk),hdk,Bool.or_false] at this
       have h0:=(h1 _ hk).1
       simp [hlt _ hk] at h0 this
       rw [h0] at this;cases this
    have hdi:=j7l ho (by have:=(h1 i hit).2;rw [ho] at this;simp only [Bool.and_eq_true] at this;exact this.1)
    refine wpOp_step ho fun K' hK=>hop i hit o ho a w ha hs (fun k hk hd=>hg k hk ?_) K' fun v w' hv hb=>?_
    · unfold z2n at hd
      rw [ho] at hd
      simp only [List.any_eq_true,Bool.and_eq_true,beq_iff_eq] at hd
      obtain ⟨e,he,hbb,rfl⟩:=hd
      have:=hall e (by simpa using he) hbb
      rw [z6h _ _ _ _ (hlt _ hk)] at this
      have h0:=(h1 _ hk).1
      simp [hlt _ hk] at h0 this
      rw [h0] at this
      simpa using this
    · refine hK _ _ ⟨fun _=>hS _ _ hs hb,?_⟩
      rw [j6l,hdi]
      refine ih (fun k=>done k || k == i) ?_ ?_ ?_ _ _ (ha.put hit v) (hS _ _ hs hb) ?_
      · have h:=y1c (fun k=>!done k) i todo hnd hit (by simp [hun.2])
        have he:(todo.filter fun k=>!done k && !(k == i)) = todo.filter fun k=>!(done k || k == i):=List.filter_congr fun k _=>by simp
        rw [he] at h
        omega
      · intro k hk
        rcases (Bool.or_eq_true _ _ ▸ hk:done k = true∨(k == i) = true) with h | h
        · exact hdn k h
        · rw [beq_iff_eq] at h;subst h;exact hit
      · intro k hk hdk j hj hjt
        rcases (Bool.or_eq_true _ _ ▸ hdk:done k = true∨(k == i) = true) with h | h
        · rw [hcl k hk h j hj hjt];rfl
        · rw [beq_iff_eq] at h
          subst h
          obtain ⟨e,he,hb,rfl⟩:=x7j ho hj
          have:=hall e he hb
          rw [z6h _ _ _ _ (hlt _ hjt)] at this
          have h0:=(h1 _ hjt).1
          simp [hlt _ hjt] at h0 this
          rw [h0] at this
          have h9:done e.on = true:=by simpa using this
          rw [h9];rfl
      · intro k hk hdk
        by_cases hki:k = i
        · subst hki
          refine ⟨v,?_,hv⟩
          rw [y0c,if_pos rfl,if_pos (by rw [ha.size];exact hdst _ hk)]
        · rcases (Bool.or_eq_true _ _ ▸ hdk:done k = true∨(k == i) = true) with h | h
          · obtain ⟨u,hu,hgu⟩:=hg k hk h
            refine ⟨u,?_,hG _ _ _ _ hgu hb⟩
            rw [y0c,if_neg (hdist i hit k hk (Ne.symm hki))]
            exact hu
          · exact absurd (by simpa using h) hki
end
theorem j5w {a b:Act} (h1:a.tmps = b.tmps) (h2:a.defers = b.defers):a = b:=by
 cases a;cases b;cases h1;cases h2;rfl
def y6s (vals:Nat→Value):List (Nat × Nat)→Act→Act
 | [],a=>a
 | p :: r,a=>y6s vals r (a.put (some p.2) (vals p.1))
theorem y2a (vals:Nat→Value):∀ (ps:List (Nat × Nat)) (a:Act) (d:Nat),(∀ p ∈ ps,p.2 ≠ d)→(y6s vals ps a).tmps[d]? = a.tmps[d]?
 | [],_,_,_=>rfl
 | p :: r,a,d,h=>by
  show (y6s vals r _).tmps[d]? = _
  rw [y2a vals r _ d fun q hq=>h q (List.mem_cons_of_mem _ hq),y0c,if_neg (h p mS)]
theorem y7s (vals:Nat→Value):∀ (ps:List (Nat × Nat)) (a:Act),(y6s vals ps a).tmps.size = a.tmps.size
 | [],_=>rfl
 | p :: r,a=>by show (y6s vals r _).tmps.size = _;rw [y7s vals r];simp [Act.put]
theorem z8t (vals:Nat→Value):∀ (ps:List (Nat × Nat)) (a:Act),(y6s vals ps a).defers = a.defers
 | [],_=>rfl
 | p :: r,a=>by show (y6s vals r _).defers = _;rw [z8t vals r];rfl
theorem y8l (vals:Nat→Value):∀ (ps:List (Nat × Nat)) (a:Act) (p:Nat × Nat),p ∈ ps→(ps.map Prod.snd).Nodup→p.2 < a.tmps.size→(y6s vals ps a).tmps[p.2]? = some (vals p.1)
 | [],_,_,h,_,_=>by cases h
 | q :: r,a,p,h,hn,hs=>by
  rw [List.map_cons,List.nodup_cons] at hn
  show (y6s vals r _).tmps[p.2]? = _
  rcases List.mem_cons.1 h with rfl | h
  · rw [y2a vals r _ _ fun q hq e=>hn.1 (by rw [← e];exact List.mem_map_of_mem hq),y0c,if_pos rfl,if_pos hs]
  · exact y8l vals r _ p h hn.2 (by simpa [Act.put] using hs)
section
variable {P:Program} {md:Region.Mode} {ops:Array Oper} {Q:Exit→Act→World→Prop} {S:World→Prop} {late:Nat→Bool}
def Obl (P:Program) (md:Region.Mode) (ops:Array Oper) (Q:Exit→Act→World→Prop) (S:World→Prop) (ps:List (Nat × Nat)) (G:Nat→Value→World→Prop) (a0:Act) (i:Nat):Prop :=
 ∀ o,ops[i]? = some o→∀ a w,Agree ops (ps.map Prod.fst) a0 a→S w→(∀ p ∈ ps,z2n md ops i p.1 = true→∃ v,a.tmps[p.2]? = some v∧G p.1 v w) →
  ∀ K':Act→World→Prop,Shut (∀ v w',G i v w'→Below w.heap.size w w'→K' (a.put o.dst v) w')→if Region.wanted o (yielded ops a.tmps) = true then Oper.wp P o a w K' Q else K' (a.put o.dst undef) w
theorem Obl.mk {ps:List (Nat × Nat)} {G:Nat→Value→World→Prop} {a0:Act} {i:Nat} {o:Oper} (ho:ops[i]? = some o)
 (h:∀ a w,Agree ops (ps.map Prod.fst) a0 a→S w→(∀ p ∈ ps,z2n md ops i p.1 = true→∃ v,a.tmps[p.2]? = some v∧G p.1 v w) →
 ∀ K':Act→World→Prop,Shut (∀ v w',G i v w'→Below w.heap.size w w'→K' (a.put o.dst v) w')→if Region.wanted o (yielded ops a.tmps) = true then Oper.wp P o a w K' Q else K' (a.put o.dst undef) w):Obl P md ops Q S ps G a0 i:=fun o' ho'=>by
 rw [ho] at ho'
 cases ho'
 exact h
theorem z3m (ps:List (Nat × Nat)) {listed:Array Bool} (listedEnd:Array Bool) (fuelEnd:Nat) {fuel:Nat} {a0:Act} {w:World} (G:Nat→Value→World→Prop)
 (hck:y3s md ops listed (ps.map Prod.fst) = true) (hnd:(ps.map Prod.fst).Nodup) (hnd2:(ps.map Prod.snd).Nodup) (hd:(ps.all fun p=>z1n ops p.1 == p.2 && Nat.blt p.2 a0.tmps.size) = true)
 (hl:(y4g listed (fun _=>false) == listed) = true) (hle:(y4g listed (fun k=>(ps.map Prod.fst).contains k) == listedEnd) = true) (hf:(fuel == ps.length + fuelEnd) = true)
 (hG:∀ k v w w',G k v w→Below w.heap.size w w'→G k v w') (hS:∀ w w',S w→Below w.heap.size w w'→S w') (hs:S w)
 (hop:∀ i ∈ ps.map Prod.fst,Obl P md ops Q S ps G a0 i)
 (hend:∀ (vals:Nat→Value) w',S w'→(∀ p ∈ ps,G p.1 (vals p.1) w')→z2e P md ops Q S late fuelEnd listedEnd (y6s vals ps a0) w'):z2e P md ops Q S late fuel listed a0 w:=by
 rw [beq_iff_eq] at hl hle hf
 rw [List.all_eq_true] at hd
 have hd':∀ p ∈ ps,z1n ops p.1 = p.2∧p.2 < a0.tmps.size:=fun p hp=>by
  have:=hd p hp
  rw [Bool.and_eq_true,beq_iff_eq,Nat.blt_eq] at this
  exact this
 have key:=x1c (P:=P) (md:=md) (ops:=ops) (Q:=Q) (S:=S) (late:=late) (ps.map Prod.fst) listed hck hnd G a0 fuelEnd
  (fun i hi=>by obtain ⟨p,hp,rfl⟩:=List.mem_map.1 hi;rw [(hd' p hp).1];exact (hd' p hp).2) hG hS
  (fun i hi o ho a w ha hs' hdep K' hK=>hop i hi o ho a w ha hs' (fun p hp hx=>by
   obtain ⟨v,h1,h2⟩:=hdep p.1 (List.mem_map_of_mem hp) hx
   rw [(hd' p hp).1] at h1
   exact ⟨v,h1,h2⟩) K' hK)
  (fun a w' ha hs' hg=>by
   rw [hle]
   let vals:Nat→Value:=fun k=>(a.tmps[z1n ops k]?).getD undef
   have hv:∀ p ∈ ps,a.tmps[p.2]? = some (vals p.1)∧G p.1 (vals p.1) w':=fun p hp=>by
    obtain ⟨v,h1,h2⟩:=hg p.1 (List.mem_map_of_mem hp)
    have:vals p.1 = v:=by show (a.tmps[z1n ops p.1]?).getD undef = v;rw [h1];rfl
    rw [this]
    rw [(hd' p hp).1] at h1
    exact ⟨h1,h2⟩
   have he:a = y6s vals ps a0:=by
    have h1:a.defers = (y6s vals ps a0).defers:=ha.defers.trans (z8t vals ps a0).symm
    have h2:a.tmps = (y6s vals ps a0).tmps:=by
     apply Array.ext_getElem?
     intro d
     by_cases hx:∃ p ∈ ps,p.2 = d
     · obtain ⟨p,hp,rfl⟩:=hx
       rw [y8l vals ps a0 p hp hnd2 (hd' p hp).2]
       exact (hv p hp).1
     · rw [y2a vals ps a0 d fun p hp e=>hx ⟨p,hp,e⟩]
       exact ha.tmp d fun i hi e=>by
        obtain ⟨p,hp,rfl⟩:=List.mem_map.1 hi
        rw [(hd' p hp).1] at e
        exact hx ⟨p,hp,e⟩
    exact j5w h2 h1
   rw [he]
   exact hend vals w' hs' fun p hp=>(hv p hp).2)
  ps.length (fun _=>false) (by
   have h:List.filter (fun _=>true) (ps.map Prod.fst) = ps.map Prod.fst:=List.filter_eq_self.2 (fun _ _=>rfl)
   show (List.filter (fun _=>true) (ps.map Prod.fst)).length = ps.length
   rw [h,List.length_map]) (fun k hk=>by cases hk) (fun k _ hk=>by cases hk) a0 w ⟨rfl,rfl,fun _ _=>rfl⟩ hs (fun k _ hk=>by cases hk)
 rw [hl] at key
 rw [hf]
 exact key
end
end Go.Proofs.YtdblnbnofjggnaaGreatDoor
