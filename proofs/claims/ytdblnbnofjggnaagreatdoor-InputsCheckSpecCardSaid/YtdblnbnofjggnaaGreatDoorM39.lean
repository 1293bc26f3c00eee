/- Parts of the proofs of chapter 49's laws: Jli. -/
import Derived.Test.YtdblnbnofjggnaaGreatDoorM38
set_option maxHeartbeats 16000000
set_option maxRecDepth 100000
open Go
open Lib renaming hid → hd_
open List renaming not_mem_nil → nM
namespace Go.Proofs.YtdblnbnofjggnaaGreatDoor
open Go.RowKit
theorem z6n {D:Nat→Prop} {w:World} {l:List V} {lv:Value} (h:y0i D w l lv):∃ oa cap,lv = .slice oa l.length cap:=by
 rcases h with ⟨rfl,oa,cap,rfl⟩ | ⟨_,c,o,cap,rfl,_⟩
 · exact ⟨oa,cap,rfl⟩
 · exact ⟨_,cap,rfl⟩
theorem j6d {D:Nat→Prop} {B B':Nat} {w:World} {lv:Value} {xs:List V} (h:z3j D B w lv xs) (hB:B' ≤ B) (hD:∀ j,D j→j < B'):z3j D B' w lv xs:=by
 obtain ⟨⟨lvs,h1,h2,h3,h4⟩,h5⟩:=h
 refine ⟨⟨lvs,⟨h1.1,?_⟩,z9e (fun k hk=>⟨hk.1.imp id (fun h=>Nat.le_trans hB h),hk.2⟩) (fun _ _=>rfl) _ _ h2,h3,fun k hk=>hk.2.2⟩,hD⟩
 rcases h1.2 with h | ⟨g,cap,cur,e1,e2,e3⟩
 · exact .inl h
 · exact .inr ⟨g,cap,cur,e1,Nat.le_trans hB e2,e3⟩
theorem z5l (D:Nat→Prop) (w:World) (l:List It) (h:∀ t ∈ l,t.ok D w) (hD:∀ k,D k→k < w.heap.size:=by intro k h;exact h.elim):z6p D (w.alloc (.cells (l.map It.v).toArray 20)) l (.slice (some ⟨w.heap.size,0,none⟩) l.length l.length):=by
 refine ⟨fun t ht=>It.ok_keep (h t ht) (z5b _) hD,.inr ⟨w.heap.size,l.length,rfl,by simp,fun j t ht=>?_⟩⟩
 rw [(z6a w _ _ (l.map It.v) rfl).cell j]
 simp [ht]
def Z4c:List Value:=[.int .i64 0,.int .i64 0,.string ⟨#[]⟩,.slice none 0 0]
def Z4:Obj:=.cells Z4c.toArray 80
def lvC (lv:Value):List Value:=[.int .i64 3,.int .i64 0,.string ⟨#[]⟩,lv]
theorem z0p (lv:Value) (h:lv.oneCell' = true):∀ u ∈ lvC lv,u.oneCell' = true:=by
 intro u hu
 simp only [lvC,List.mem_cons,nM,or_false] at hu
 rcases hu with rfl | rfl | rfl | rfl <;> first | rfl | exact h
theorem z8y (k n:Int) (s:ByteArray) (lv:Value) (h:lv.oneCell' = true):∀ u ∈ [Value.int .i64 k,.int .i64 n,.string s,lv],u.oneCell' = true:=by
 intro u hu
 simp only [List.mem_cons,nM,or_false] at hu
 rcases hu with rfl | rfl | rfl | rfl <;> first | rfl | exact h
def k8k (D:Nat→Prop) (its:List It) (w:World) (i:Value) (wr:World):Prop :=
 ∃ (xs:List V) (lv:Value),xs = (its.take xs.length).map It.x∧xs.length ≤ its.length∧i = .int .i64 (xs.length:Int)∧CB wr (w.heap.size + 1) 80 (lvC lv)∧CB wr w.heap.size 80 Z4c∧z3j D (w.heap.size + 2) wr lv xs∧Below w.heap.size w wr
theorem z8i {D:Nat→Prop} {its:List It} {w w2:World} {xs:List V} {t:It} {lv:Value} {oa2:Option Addr} {cp2:Nat} (ht:its[xs.length]? = some t) (hT:CB w2 (w.heap.size + 1) 80 (lvC lv)) (h2:CB w2 w.heap.size 80 Z4c)
 (hO:z3j D (w.heap.size + 2) w2 (.slice oa2 (xs.length + 1) cp2) (xs ++ [t.x])) (hx:xs = (its.take xs.length).map It.x) (hb:Below w.heap.size w w2) (hD:∀ j,D j→j < w.heap.size) :
 k8k D its w (.int .i64 ((xs.length:Int) + 1)) (w2.setCell ⟨(w.heap.size + 1),3,none⟩ (.slice oa2 (xs.length + 1) cp2)):=by
 have hl:(xs ++ [t.x]).length = xs.length + 1:=by simp
 have hlt:xs.length < its.length:=(List.getElem?_eq_some_iff.1 ht).1
 refine ⟨xs ++ [t.x],.slice oa2 (xs.length + 1) cp2,?_,by omega,by rw [hl];simp,hT.set 3 _,h2.far (by show w.heap.size ≠ w.heap.size + 1;omega) _,hO.set (by omega) (fun h=>by have:=hD _ h;omega) 3 _,hb.grown (z8b w2 _ 3 _) hb.size (fun k hk=>by injection hk with hk;omega)⟩
 rw [hl,j4n ht,← hx]
theorem z3w (oa:Option Addr) (cap:Nat) (w:World):Calls Tryz.prog 36 #[.slice oa 0 cap] w fun e w'=>e = .returned (.agg (lvC (.slice none 0 0)).toArray)∧Below w.heap.size w w':=by
 have h2c:CB ((w.alloc Z4).alloc Z4) w.heap.size 80 Z4c:=(z6a w Z4 _ _ rfl).alloc _
 have h3c:CB ((w.alloc Z4).alloc Z4) (w.heap.size + 1) 80 Z4c:=by
  have:=z6a (w.alloc Z4) Z4 80 Z4c rfl
  rwa [World.size_alloc] at this
 have Hb:=hd_ ((z5b (w:=w) Z4).alloc (z5b (w:=w) Z4).size Z4)
 have H2:=hd_ h2c;have H3:=hd_ h3c
 have HL:=hd_ (z0p (.slice none 0 0) rfl)
 clear h2c h3c
 go_enter Tryz.func36,Tryz.ntmps36
 go_upto_region 2 with (have _g:=HL.out;refine z4a rfl 80 (.tmp 3) (.tmp 16) rfl (w.heap.size + 1) (lvC (.slice none 0 0)) rfl rfl 80 Z4c H3.out rfl (by kernel_rfl) HL.out (fun w2 HC2 HW2 HZ2=>?_);clear HL)
 have H22:=hd_ (H2.out.keep (HW2.out.block _ H2.out.lt (fun e=>by injection e with e;omega)))
 have Hb2:=hd_ (Hb.out.grown HW2.out Hb.out.size (fun q e=>by injection e with e;omega))
 have HL:=hd_ (z0p (.slice none 0 0) rfl)
 clear H2 H3 Hb HW2 HZ2
 go_wp2_with fail
 go_loopw [19] (fun i wr=>i = .int .i64 0∧wr = w2) (fun _ _=>0)
 case atStart=>exact ⟨rfl,rfl⟩
 case round =>
  obtain ⟨rfl,rfl⟩:=hrel
  go_wp2_with (first
   | (have _g:=HC2.out;refine z3a (by rfl) 80 (.tmp 3) rfl (w.heap.size + 1) (lvC (.slice none 0 0)) rfl 80 _ HC2.out Tryz.underlying80 rfl (by kernel_rfl) ?_;clear HC2)
   | (have _g:=HL.out;refine z4a rfl 80 (.tmp 2) (.tmp 106) rfl w.heap.size (lvC (.slice none 0 0)) rfl rfl 80 Z4c H22.out rfl (by kernel_rfl) HL.out (fun w6 HC6 HW6 HZ6=>?_);clear HL))
  refine bodyPost_ret (v:=.agg (lvC (.slice none 0 0)).toArray) (results_cell_row rfl _ _ w.heap.size 80 _ (0,0) _ rfl HC6.out Tryz.underlying80 rfl (by kernel_rfl)) rfl ?_
  exact ⟨rfl,Hb2.out.grown HW6.out Hb2.out.size (fun k hk=>by injection hk with hk;omega)⟩
def k9k (l:List Int) (w:World) (i:Value) (wr:World):Prop :=
 ∃ (xs:List V) (lv:Value),xs = (l.take xs.length).map iV∧xs.length ≤ l.length∧i = .int .i64 (xs.length:Int)∧CB wr w.heap.size 80 (lvC lv)∧z3j (fun _=>False) (w.heap.size + 1) wr lv xs∧Below w.heap.size w wr
theorem x6s {l:List Int} {w w2:World} {xs:List V} {n:Int} {lv:Value} {oa2:Option Addr} {cp2:Nat} (ht:l[xs.length]? = some n) (hT:CB w2 w.heap.size 80 (lvC lv))
 (hO:z3j (fun _=>False) (w.heap.size + 1) w2 (.slice oa2 (xs.length + 1) cp2) (xs ++ [iV n])) (hx:xs = (l.take xs.length).map iV) (hb:Below w.heap.size w w2) :
 k9k l w (.int .i64 ((xs.length:Int) + 1)) (w2.setCell ⟨w.heap.size,3,none⟩ (.slice oa2 (xs.length + 1) cp2)):=by
 have hl:(xs ++ [iV n]).length = xs.length + 1:=by simp
 have hlt:xs.length < l.length:=(List.getElem?_eq_some_iff.1 ht).1
 refine ⟨xs ++ [iV n],.slice oa2 (xs.length + 1) cp2,?_,by omega,by rw [hl];simp,hT.set 3 _,hO.set (by omega) (fun h=>h) 3 _,hb.grown (z8b w2 _ 3 _) hb.size (fun k hk=>by injection hk with hk;omega)⟩
 rw [hl,List.take_add_one,ht]
 simp [← hx]
theorem y6x (N:Nat) (IH:∀ (its:List It) (a:Value) (D:Nat→Prop) (w:World),(∀ t ∈ its,t.dp < N)→its.length ≤ 1000000→z6p D w its a→(∀ j,D j→j < w.heap.size)→Calls Tryz.prog 36 #[a] w (j1z D (its.map It.x) w))
 (its:List It) (a:Value) (D:Nat→Prop) (w:World) (hdp:∀ t ∈ its,t.dp ≤ N) (hlen:its.length ≤ 1000000) (hits:z6p D w its a) (hD:∀ j,D j→j < w.heap.size):Calls Tryz.prog 36 #[a] w (j1z D (its.map It.x) w):=by
 have h2c:CB ((w.alloc Z4).alloc Z4) w.heap.size 80 Z4c:=(z6a w Z4 _ _ rfl).alloc _
 have h3c:CB ((w.alloc Z4).alloc Z4) (w.heap.size + 1) 80 Z4c:=by
  have:=z6a (w.alloc Z4) Z4 80 Z4c rfl
  rwa [World.size_alloc] at this
 have Hb:=hd_ ((z5b (w:=w) Z4).alloc (z5b (w:=w) Z4).size Z4)
 have H2:=hd_ h2c;have H3:=hd_ h3c
 have HL:=hd_ (z0p (.slice none 0 0) rfl)
 obtain ⟨oi,ci,rfl⟩:=hits.shape
 have HI:=hd_ hits;have HIH:=hd_ IH;have HD:=hd_ hD;have Hdp:=hd_ hdp;have Hln:=hd_ hlen
 have l1:(its.length:Int) ≤ 9223372036854775807:=by omega
 clear h2c h3c hits IH hD hdp hlen
 go_enter Tryz.func36,Tryz.ntmps36
 go_upto_region 2 with (have _g:=HL.out;refine z4a rfl 80 (.tmp 3) (.tmp 16) rfl (w.heap.size + 1) (lvC (.slice none 0 0)) rfl rfl 80 Z4c H3.out rfl (by kernel_rfl) HL.out (fun w2 HC2 HW2 HZ2=>?_);clear HL)
 have H22:=hd_ (H2.out.keep (HW2.out.block _ H2.out.lt (fun e=>by injection e with e;omega)))
 have Hb2:=hd_ (Hb.out.grown HW2.out Hb.out.size (fun q e=>by injection e with e;omega))
 clear H2 H3 Hb HW2 HZ2
 go_wp2_with fail
 go_loopw [19] (fun i wr=>k8k D its w i wr) (fun i _=>its.length - (intOf i).toNat)
 case atStart=>exact ⟨[],.slice none 0 0,rfl,by simp,rfl,HC2.out,H22.out,z3j.nil _ _ _ (fun j hj=>by have:=HD.out j hj;omega),Hb2.out⟩
 case round =>
  obtain ⟨xs,lv,hxs,hle,rfl,hT,h2,hO,hb⟩:=hrel
  obtain ⟨ol,cl,rfl⟩:=hO.shape
  have Hxs:=hd_ hxs;have HT:=hd_ hT;have H2:=hd_ h2;have HO:=hd_ hO;have Hb:=hd_ hb
  have Hlen:Hid (xs.length ≤ 1000000):=Nat.le_trans hle Hln.out
  clear HC2 H22 Hb2 hT h2 hO hb
  by_cases hlt:xs.length < its.length
  case neg =>
   have hk:xs.length = its.length:=by omega
   have tj:decide ((xs.length:Int) < (its.length:Int)) = false:=decide_eq_false (by omega)
   have HX:Hid (xs = its.map It.x):=hd_ (by rw [hxs,hk,List.take_length])
   have HL:=hd_ (z0p (.slice ol xs.length cl) rfl)
   clear hlt hxs hle Hxs
   go_wp2_with (first
    | (have _g:=HT.out;refine z3a (by rfl) 80 (.tmp 3) rfl (w.heap.size + 1) (lvC (.slice ol xs.length cl)) rfl 80 _ HT.out Tryz.underlying80 rfl (by kernel_rfl) ?_)
    | (have _g:=HL.out;refine z4a rfl 80 (.tmp 2) (.tmp 106) rfl w.heap.size (lvC (.slice ol xs.length cl)) rfl rfl 80 Z4c H2.out rfl (by kernel_rfl) HL.out (fun w6 HC6 HW6 HZ6=>?_);clear HL))
   refine bodyPost_ret (v:=.agg (lvC (.slice ol xs.length cl)).toArray) (results_cell_row rfl _ _ w.heap.size 80 _ (0,0) _ rfl HC6.out Tryz.underlying80 rfl (by kernel_rfl)) rfl ?_
   refine ⟨_,rfl,?_,Hb.out.grown HW6.out Hb.out.size (fun k hk=>by injection hk with hk;omega)⟩
   rw [← HX.out]
   have hO6:=HO.out.keep HW6.out (fun q e=>by injection e with e;subst e;exact ⟨by omega,fun h=>by have:=HD.out _ h;omega⟩)
   exact j6d hO6 (by omega) (fun j hj=>by have:=HD.out _ hj;omega)
  case pos =>
   obtain ⟨t,ht⟩:∃ t,its[xs.length]? = some t:=⟨_,List.getElem?_eq_getElem hlt⟩
   obtain ⟨bi,rfl,hbi,hci⟩:=HI.out.at ht
   have hok:=HI.out.1 t (List.mem_of_getElem? ht)
   have hdt:=Hdp.out t (List.mem_of_getElem? ht)
   have c0:wr.cell? ⟨bi,xs.length,none⟩ = some t.v:=(World.cell?_of_block (w:=w) (Hb.out.block bi hbi)).trans hci
   have tj:decide ((xs.length:Int) < (its.length:Int)) = true:=decide_eq_true (by omega)
   have tj':decide (xs.length < its.length) = true:=decide_eq_true hlt
   have Ht:=hd_ ht;have Hok:=hd_ hok;have Hdt:=hd_ hdt;have Hlt:=hd_ hlt
   have e0:_ = some (Value.slice ol xs.length cl):=HT.out.cell 3
   have ef:=HT.out.frozen 3
   clear ht hok hdt hxs hci hbi
   cases t with
   | num n =>
    simp only [It.v] at c0
    have qy:∀ (v:Value) (W:World),(Instr.typeAssert (.iface 3 v) 20 3 true).run Tryz.prog W = .ok (.tuple #[v,.bool true]) W:=fun v W=>z3f W _ _ v _ Tryz.underlying3 (fun m h=>by cases h)
    have HBk:Hid (CB (wr.alloc (.cells [.int .i64 1,.int .i64 n,.string ⟨#[]⟩,.slice none 0 0].toArray 80)) wr.heap.size 80 [.int .i64 1,.int .i64 n,.string ⟨#[]⟩,.slice none 0 0]):=z6a wr _ _ _ rfl
    have HTA:=hd_ (HT.out.alloc (.cells [.int .i64 1,.int .i64 n,.string ⟨#[]⟩,.slice none 0 0].toArray 80));have H2A:=hd_ (H2.out.alloc (.cells [.int .i64 1,.int .i64 n,.string ⟨#[]⟩,.slice none 0 0].toArray 80));have HOA:=hd_ (HO.out.alloc (.cells [.int .i64 1,.int .i64 n,.string ⟨#[]⟩,.slice none 0 0].toArray 80));have HbA:=hd_ (z0a Hb.out (z5b (w:=wr) (.cells [.int .i64 1,.int .i64 n,.string ⟨#[]⟩,.slice none 0 0].toArray 80)))
    go_wp2_with (refine z4d Tryz.underlying78 z1m rfl (.tmp 28) (.tmp 31) rfl D (w.heap.size + 2) (.slice ol xs.length cl) xs rfl ?q1 wr.heap.size (iV n) (.slice none 0 0) rfl ?q2 ?q3 ?q4 ?q5 ?_;(case q1=>exact HOA.out);(case q2=>exact y2e.int _ _ n Hok.out);(case q3=>(refine ⟨?_,?_,?_,?_⟩ <;> first | exact HBk.out.cell 0 | exact HBk.out.cell 1 | exact HBk.out.cell 2 | exact HBk.out.cell 3));(case q4=>(have:=Hlen.out;omega));(case q5=>(have:=HbA.out.size;have:=HTA.out.lt;omega));intro oa2 cp2 w2 hO2 hg2;have HT2:=hd_ (HTA.out.keep (hg2.out.block _ HTA.out.lt (fun e=>by have:=(HOA.out.own _ e.symm).1;omega)));have H22:=hd_ (H2A.out.keep (hg2.out.block _ H2A.out.lt (fun e=>by have:=(HOA.out.own _ e.symm).1;omega)));have Hb2:=hd_ (HbA.out.grown hg2.out HbA.out.size (fun q e=>by have:=(HOA.out.own q e).1;omega));have y3:_ = some (Value.slice ol xs.length cl):=HT2.out.cell 3;have yf:=HT2.out.frozen 3;clear hg2 HTA H2A HOA HbA HBk)
    go_roundw
    case rel=>exact z8i Ht.out HT2.out H22.out hO2.out Hxs.out Hb2.out HD.out
    case measure=>(simp [intOf];have:=Hlt.out;omega)
   | txt s =>
    simp only [It.v] at c0
    have qnint:∀ (v:Value) (W:World),(Instr.typeAssert (.iface 9 v) 20 3 true).run Tryz.prog W = .ok (.tuple #[.int .i64 0,.bool false]) W:=fun v W=>z3c W _ _ _ v _ _ Tryz.underlying3 (fun m h=>by cases h) (by decide) (by kernel_rfl)
    have qnbool:∀ (v:Value) (W:World),(Instr.typeAssert (.iface 9 v) 20 4 true).run Tryz.prog W = .ok (.tuple #[.bool false,.bool false]) W:=fun v W=>z3c W _ _ _ v _ _ Tryz.underlying4 (fun m h=>by cases h) (by decide) (by kernel_rfl)
    have qy:∀ (v:Value) (W:World),(Instr.typeAssert (.iface 9 v) 20 9 true).run Tryz.prog W = .ok (.tuple #[v,.bool true]) W:=fun v W=>z3f W _ _ v _ Tryz.underlying9 (fun m h=>by cases h)
    have HBk:Hid (CB (wr.alloc (.cells [.int .i64 2,.int .i64 0,.string s,.slice none 0 0].toArray 80)) wr.heap.size 80 [.int .i64 2,.int .i64 0,.string s,.slice none 0 0]):=z6a wr _ _ _ rfl
    have HTA:=hd_ (HT.out.alloc (.cells [.int .i64 2,.int .i64 0,.string s,.slice none 0 0].toArray 80));have H2A:=hd_ (H2.out.alloc (.cells [.int .i64 2,.int .i64 0,.string s,.slice none 0 0].toArray 80));have HOA:=hd_ (HO.out.alloc (.cells [.int .i64 2,.int .i64 0,.string s,.slice none 0 0].toArray 80));have HbA:=hd_ (z0a Hb.out (z5b (w:=wr) (.cells [.int .i64 2,.int .i64 0,.string s,.slice none 0 0].toArray 80)))
    go_wp2_with (refine z4d Tryz.underlying78 z1m rfl (.tmp 50) (.tmp 53) rfl D (w.heap.size + 2) (.slice ol xs.length cl) xs rfl ?q1 wr.heap.size (tV s) (.slice none 0 0) rfl ?q2 ?q3 ?q4 ?q5 ?_;(case q1=>exact HOA.out);(case q2=>exact y2e.txt _ _ s Hok.out);(case q3=>(refine ⟨?_,?_,?_,?_⟩ <;> first | exact HBk.out.cell 0 | exact HBk.out.cell 1 | exact HBk.out.cell 2 | exact HBk.out.cell 3));(case q4=>(have:=Hlen.out;omega));(case q5=>(have:=HbA.out.size;have:=HTA.out.lt;omega));intro oa2 cp2 w2 hO2 hg2;have HT2:=hd_ (HTA.out.keep (hg2.out.block _ HTA.out.lt (fun e=>by have:=(HOA.out.own _ e.symm).1;omega)));have H22:=hd_ (H2A.out.keep (hg2.out.block _ H2A.out.lt (fun e=>by have:=(HOA.out.own _ e.symm).1;omega)));have Hb2:=hd_ (HbA.out.grown hg2.out HbA.out.size (fun q e=>by have:=(HOA.out.own q e).1;omega));have y3:_ = some (Value.slice ol xs.length cl):=HT2.out.cell 3;have yf:=HT2.out.frozen 3;clear hg2 HTA H2A HOA HbA HBk)
    go_roundw
    case rel=>exact z8i Ht.out HT2.out H22.out hO2.out Hxs.out Hb2.out HD.out
    case measure=>(simp [intOf];have:=Hlt.out;omega)
   | flag bb =>
    simp only [It.v] at c0
    have qnint:∀ (v:Value) (W:World),(Instr.typeAssert (.iface 4 v) 20 3 true).run Tryz.prog W = .ok (.tuple #[.int .i64 0,.bool false]) W:=fun v W=>z3c W _ _ _ v _ _ Tryz.underlying3 (fun m h=>by cases h) (by decide) (by kernel_rfl)
    have qy:∀ (v:Value) (W:World),(Instr.typeAssert (.iface 4 v) 20 4 true).run Tryz.prog W = .ok (.tuple #[v,.bool true]) W:=fun v W=>z3f W _ _ v _ Tryz.underlying4 (fun m h=>by cases h)
    have H8:Hid (CB (wr.alloc Z4) wr.heap.size 80 Z4c):=z6a wr _ _ _ rfl
    have H8o:=hd_ (z8y 1 0 ⟨#[]⟩ (.slice none 0 0) rfl)
    have hgT:Hid (w.heap.size + 1 < wr.heap.size):=HT.out.lt
    have Hnew8:Hid ((Value.slice ol xs.length cl).ownBlock ≠ some wr.heap.size):=fun e=>by have:=(HO.out.own _ e).2;omega
    clear e0 ef
    go_upto_region 12 with (have _g:=H8o.out;refine z4a rfl 80 (.tmp 8) (.tmp 37) rfl wr.heap.size [.int .i64 1,.int .i64 0,.string ⟨#[]⟩,.slice none 0 0] rfl rfl 80 Z4c H8.out rfl (by kernel_rfl) H8o.out (fun w3 HC8 HW3 HZ3=>?_);clear H8o)
    have hz:Hid (Below wr.heap.size wr w3):=(z5b (w:=wr) Z4).grown HW3.out (by simp) (fun q e=>by injection e with e;omega)
    clear HW3 HZ3 H8
    cases bb with
    | false =>
     go_upto_region 14 with fail
     have HD8:=HC8
     generalize w3 = w4 at *
     replace HT:=hd_ (HT.out.ext hz.out);replace H2:=hd_ (H2.out.ext hz.out);replace HO:=hd_ (HO.out.ext hz.out);replace Hb:=hd_ (z0a Hb.out hz.out)
     clear hz
     generalize wr.heap.size = g8 at *
     have e0:_ = some (Value.slice ol xs.length cl):=HT.out.cell 3
     have HBk:Hid (CB (w4.alloc (.cells [.int .i64 1,.int .i64 0,.string ⟨#[]⟩,.slice none 0 0].toArray 80)) w4.heap.size 80 [.int .i64 1,.int .i64 0,.string ⟨#[]⟩,.slice none 0 0]):=z6a w4 _ _ _ rfl
     have HTA:=hd_ (HT.out.alloc (.cells [.int .i64 1,.int .i64 0,.string ⟨#[]⟩,.slice none 0 0].toArray 80));have H2A:=hd_ (H2.out.alloc (.cells [.int .i64 1,.int .i64 0,.string ⟨#[]⟩,.slice none 0 0].toArray 80));have HOA:=hd_ (HO.out.alloc (.cells [.int .i64 1,.int .i64 0,.string ⟨#[]⟩,.slice none 0 0].toArray 80));have HbA:=hd_ (z0a Hb.out (z5b (w:=w4) (.cells [.int .i64 1,.int .i64 0,.string ⟨#[]⟩,.slice none 0 0].toArray 80)))
     go_wp2_with (first
      | (have _g:=HD8.out;refine z3a (by rfl) 80 (.tmp 8) rfl g8 [.int .i64 1,.int .i64 0,.string ⟨#[]⟩,.slice none 0 0] rfl 80 _ HD8.out Tryz.underlying80 rfl (by kernel_rfl) ?_;clear HD8)
      | (refine z4d Tryz.underlying78 z1m rfl (.tmp 41) (.tmp 43) rfl D (w.heap.size + 2) (.slice ol xs.length cl) xs rfl ?q1 w4.heap.size (iV 0) (.slice none 0 0) rfl ?q2 ?q3 ?q4 ?q5 ?_;(case q1=>exact HOA.out);(case q2=>exact y2e.int _ _ 0 (by unfold I64;omega));(case q3=>(refine ⟨?_,?_,?_,?_⟩ <;> first | exact HBk.out.cell 0 | exact HBk.out.cell 1 | exact HBk.out.cell 2 | exact HBk.out.cell 3));(case q4=>(have:=Hlen.out;omega));(case q5=>(have:=HbA.out.size;have:=HTA.out.lt;omega));intro oa2 cp2 w2 hO2 hg2;have HT2:=hd_ (HTA.out.keep (hg2.out.block _ HTA.out.lt (fun e=>by have:=(HOA.out.own _ e.symm).1;omega)));have H22:=hd_ (H2A.out.keep (hg2.out.block _ H2A.out.lt (fun e=>by have:=(HOA.out.own _ e.symm).1;omega)));have Hb2:=hd_ (HbA.out.grown hg2.out HbA.out.size (fun q e=>by have:=(HOA.out.own q e).1;omega));have y3:_ = some (Value.slice ol xs.length cl):=HT2.out.cell 3;have yf:=HT2.out.frozen 3;clear hg2 HTA H2A HOA HbA HBk))
     go_roundw
     case rel=>exact z8i Ht.out HT2.out H22.out hO2.out Hxs.out Hb2.out HD.out
     case measure=>(simp [intOf];have:=Hlt.out;omega)
    | true =>
     have z1:_ = some (Value.int .i64 0):=HC8.out.cell 1
     have zf:=HC8.out.frozen 1
     go_upto_region 14 with fail
     have HD8:Hid (CB (w3.setCell ⟨wr.heap.size,1,none⟩ (.int .i64 1)) wr.heap.size 80 [.int .i64 1,.int .i64 1,.string ⟨#[]⟩,.slice none 0 0]):=HC8.out.set 1 _
     replace hz:=hd_ (hz.out.grown (z8b w3 wr.heap.size 1 (.int .i64 1)) hz.out.size (fun q e=>by injection e with e;omega))
     clear z1 zf HC8
     generalize w3.setCell ⟨wr.heap.size,1,none⟩ (.int .i64 1) = w4 at *
     replace HT:=hd_ (HT.out.ext hz.out);replace H2:=hd_ (H2.out.ext hz.out);replace HO:=hd_ (HO.out.ext hz.out);replace Hb:=hd_ (z0a Hb.out hz.out)
     clear hz
     generalize wr.heap.size = g8 at *
     have e0:_ = some (Value.slice ol xs.length cl):=HT.out.cell 3
     have HBk:Hid (CB (w4.alloc (.cells [.int .i64 1,.int .i64 1,.string ⟨#[]⟩,.slice none 0 0].toArray 80)) w4.heap.size 80 [.int .i64 1,.int .i64 1,.string ⟨#[]⟩,.slice none 0 0]):=z6a w4 _ _ _ rfl
     have HTA:=hd_ (HT.out.alloc (.cells [.int .i64 1,.int .i64 1,.string ⟨#[]⟩,.slice none 0 0].toArray 80));have H2A:=hd_ (H2.out.alloc (.cells [.int .i64 1,.int .i64 1,.string ⟨#[]⟩,.slice none 0 0].toArray 80));have HOA:=hd_ (HO.out.alloc (.cells [.int .i64 1,.int .i64 1,.string ⟨#[]⟩,.slice none 0 0].toArray 80));have HbA:=hd_ (z0a Hb.out (z5b (w:=w4) (.cells [.int .i64 1,.int .i64 1,.string ⟨#[]⟩,.slice none 0 0].toArray 80)))
     go_wp2_with (first
      | (have _g:=HD8.out;refine z3a (by rfl) 80 (.tmp 8) rfl g8 [.int .i64 1,.int .i64 1,.string ⟨#[]⟩,.slice none 0 0] rfl 80 _ HD8.out Tryz.underlying80 rfl (by kernel_rfl) ?_;clear HD8)
      | (refine z4d Tryz.underlying78 z1m rfl (.tmp 41) (.tmp 43) rfl D (w.heap.size + 2) (.slice ol xs.length cl) xs rfl ?q1 w4.heap.size (iV 1) (.slice none 0 0) rfl ?q2 ?q3 ?q4 ?q5 ?_;(case q1=>exact HOA.out);(case q2=>exact y2e.int _ _ 1 (by unfold I64;omega));(case q3=>(refine ⟨?_,?_,?_,?_⟩ <;> first | exact HBk.out.cell 0 | exact HBk.out.cell 1 | exact HBk.out.cell 2 | exact HBk.out.cell 3));(case q4=>(have:=Hlen.out;omega));(case q5=>(have:=HbA.out.size;have:=HTA.out.lt;omega));intro oa2 cp2 w2 hO2 hg2;have HT2:=hd_ (HTA.out.keep (hg2.out.block _ HTA.out.lt (fun e=>by have:=(HOA.out.own _ e.symm).1;omega)));have H22:=hd_ (H2A.out.keep (hg2.out.block _ H2A.out.lt (fun e=>by have:=(HOA.out.own _ e.symm).1;omega)));have Hb2:=hd_ (HbA.out.grown hg2.out HbA.out.size (fun q e=>by have:=(HOA.out.own q e).1;omega));have y3:_ = some (Value.slice ol xs.length cl):=HT2.out.cell 3;have yf:=HT2.out.frozen 3;clear hg2 HTA H2A HOA HbA HBk))
     go_roundw
     case rel=>exact z8i Ht.out HT2.out H22.out hO2.out Hxs.out Hb2.out HD.out
     case measure=>(simp [intOf];have:=Hlt.out;omega)
   | val x lx =>
    simp only [It.v] at c0
    have qnint:∀ (v:Value) (W:World),(Instr.typeAssert (.iface 80 v) 20 3 true).run Tryz.prog W = .ok (.tuple #[.int .i64 0,.bool false]) W:=fun v W=>z3c W _ _ _ v _ _ Tryz.underlying3 (fun m h=>by cases h) (by decide) (by kernel_rfl)
    have qnbool:∀ (v:Value) (W:World),(Instr.typeAssert (.iface 80 v) 20 4 true).run Tryz.prog W = .ok (.tuple #[.bool false,.bool false]) W:=fun v W=>z3c W _ _ _ v _ _ Tryz.underlying4 (fun m h=>by cases h) (by decide) (by kernel_rfl)
    have qnstring:∀ (v:Value) (W:World),(Instr.typeAssert (.iface 80 v) 20 9 true).run Tryz.prog W = .ok (.tuple #[.string ⟨#[]⟩,.bool false]) W:=fun v W=>z3c W _ _ _ v _ _ Tryz.underlying9 (fun m h=>by cases h) (by decide) (by kernel_rfl)
    have qnspan:∀ (v:Value) (W:World),(Instr.typeAssert (.iface 80 v) 20 26 true).run Tryz.prog W = .ok (.tuple #[.agg #[.int .i64 0,.int .i64 0],.bool false]) W:=fun v W=>z3c W _ _ _ v _ _ Tryz.underlying26 (fun m h=>by cases h) (by decide) (by kernel_rfl)
    have qnints:∀ (v:Value) (W:World),(Instr.typeAssert (.iface 80 v) 20 24 true).run Tryz.prog W = .ok (.tuple #[.slice none 0 0,.bool false]) W:=fun v W=>z3c W _ _ _ v _ _ Tryz.underlying24 (fun m h=>by cases h) (by decide) (by kernel_rfl)
    have qy:∀ (v:Value) (W:World),(Instr.typeAssert (.iface 80 v) 20 80 true).run Tryz.prog W = .ok (.tuple #[v,.bool true]) W:=fun v W=>z3f W _ _ v _ Tryz.underlying80 (fun m h=>by cases h)
    have hlf:∃ oa cap,lx = .slice oa x.l.length cap:=z6n Hok.out.2.2.2
    obtain ⟨oax,cpx,rfl⟩:=hlf
    have H8:Hid (CB (wr.alloc Z4) wr.heap.size 80 Z4c):=z6a wr _ _ _ rfl
    have H8o:=hd_ (z8y x.kind x.n x.s (.slice oax x.l.length cpx) rfl)
    have hgT:Hid (w.heap.size + 1 < wr.heap.size):=HT.out.lt
    have Hnew8:Hid ((Value.slice ol xs.length cl).ownBlock ≠ some wr.heap.size):=fun e=>by have:=(HO.out.own _ e).2;omega
    clear e0 ef
    go_upto_region 32 with (have _g:=H8o.out;refine z4a rfl 80 (.tmp 15) (.tmp 98) rfl wr.heap.size [.int .i64 x.kind,.int .i64 x.n,.string x.s,.slice oax x.l.length cpx] rfl rfl 80 Z4c H8.out rfl (by kernel_rfl) H8o.out (fun w3 HC8 HW3 HZ3=>?_);clear H8o)
    have hz:Hid (Below wr.heap.size wr w3):=(z5b (w:=wr) Z4).grown HW3.out (by simp) (fun q e=>by injection e with e;omega)
    clear HW3 HZ3 H8
    have HD8:=HC8
    generalize w3 = w4 at *
    replace HT:=hd_ (HT.out.ext hz.out);replace H2:=hd_ (H2.out.ext hz.out);replace HO:=hd_ (HO.out.ext hz.out);replace Hb:=hd_ (z0a Hb.out hz.out)
    clear hz
    generalize wr.heap.size = g8 at *
    have e0:_ = some (Value.slice ol xs.length cl):=HT.out.cell 3
    have HBk:Hid (CB (w4.alloc (.cells [.int .i64 x.kind,.int .i64 x.n,.string x.s,.slice oax x.l.length cpx].toArray 80)) w4.heap.size 80 [.int .i64 x.kind,.int .i64 x.n,.string x.s,.slice oax x.l.length cpx]):=z6a w4 _ _ _ rfl
    have HTA:=hd_ (HT.out.alloc (.cells [.int .i64 x.kind,.int .i64 x.n,.string x.s,.slice oax x.l.length cpx].toArray 80));have H2A:=hd_ (H2.out.alloc (.cells [.int .i64 x.kind,.int .i64 x.n,.string x.s,.slice oax x.l.length cpx].toArray 80));have HOA:=hd_ (HO.out.alloc (.cells [.int .i64 x.kind,.int .i64 x.n,.string x.s,.slice oax x.l.length cpx].toArray 80));have HbA:=hd_ (z0a Hb.out (z5b (w:=w4) (.cells [.int .i64 x.kind,.int .i64 x.n,.string x.s,.slice oax x.l.length cpx].toArray 80)))
    have HNv:Hid (y2e (DL D (w.heap.size + 2) (w4.alloc (.cells [.int .i64 x.kind,.int .i64 x.n,.string x.s,.slice oax x.l.length cpx].toArray 80)) (.slice ol xs.length cl)) (w4.alloc (.cells [.int .i64 x.kind,.int .i64 x.n,.string x.s,.slice oax x.l.length cpx].toArray 80)) x (.slice oax x.l.length cpx)):=y2e.keep Hok.out (fun k hk=>⟨.inl hk,by have:=HD.out k hk;have:=HbA.out.size;omega,fun e=>by have:=(HOA.out.own _ e.symm).1;have:=HD.out k hk;omega⟩) (fun k hk=>HbA.out.block k (HD.out k hk))
    go_wp2_with (first
     | (have _g:=HD8.out;refine z3a (by rfl) 80 (.tmp 15) rfl g8 [.int .i64 x.kind,.int .i64 x.n,.string x.s,.slice oax x.l.length cpx] rfl 80 _ HD8.out Tryz.underlying80 rfl (by kernel_rfl) ?_;clear HD8)
     | (refine z4d Tryz.underlying78 z1m rfl (.tmp 100) (.tmp 102) rfl D (w.heap.size + 2) (.slice ol xs.length cl) xs rfl ?q1 w4.heap.size (x) (.slice oax x.l.length cpx) rfl ?q2 ?q3 ?q4 ?q5 ?_;(case q1=>exact HOA.out);(case q2=>exact HNv.out);(case q3=>(refine ⟨?_,?_,?_,?_⟩ <;> first | exact HBk.out.cell 0 | exact HBk.out.cell 1 | exact HBk.out.cell 2 | exact HBk.out.cell 3));(case q4=>(have:=Hlen.out;omega));(case q5=>(have:=HbA.out.size;have:=HTA.out.lt;omega));intro oa2 cp2 w2 hO2 hg2;have HT2:=hd_ (HTA.out.keep (hg2.out.block _ HTA.out.lt (fun e=>by have:=(HOA.out.own _ e.symm).1;omega)));have H22:=hd_ (H2A.out.keep (hg2.out.block _ H2A.out.lt (fun e=>by have:=(HOA.out.own _ e.symm).1;omega)));have Hb2:=hd_ (HbA.out.grown hg2.out HbA.out.size (fun q e=>by have:=(HOA.out.own q e).1;omega));have y3:_ = some (Value.slice ol xs.length cl):=HT2.out.cell 3;have yf:=HT2.out.frozen 3;clear hg2 HTA H2A HOA HbA HBk))
    go_roundw
    case rel=>exact z8i Ht.out HT2.out H22.out hO2.out Hxs.out Hb2.out HD.out
    case measure=>(simp [intOf];have:=Hlt.out;omega)
   | span a b =>
    simp only [It.v] at c0
    have qnint:∀ (v:Value) (W:World),(Instr.typeAssert (.iface 26 v) 20 3 true).run Tryz.prog W = .ok (.tuple #[.int .i64 0,.bool false]) W:=fun v W=>z3c W _ _ _ v _ _ Tryz.underlying3 (fun m h=>by cases h) (by decide) (by kernel_rfl)
    have qnbool:∀ (v:Value) (W:World),(Instr.typeAssert (.iface 26 v) 20 4 true).run Tryz.prog W = .ok (.tuple #[.bool false,.bool false]) W:=fun v W=>z3c W _ _ _ v _ _ Tryz.underlying4 (fun m h=>by cases h) (by decide) (by kernel_rfl)
    have qnstring:∀ (v:Value) (W:World),(Instr.typeAssert (.iface 26 v) 20 9 true).run Tryz.prog W = .ok (.tuple #[.string ⟨#[]⟩,.bool false]) W:=fun v W=>z3c W _ _ _ v _ _ Tryz.underlying9 (fun m h=>by cases h) (by decide) (by kernel_rfl)
    have qy:∀ (v:Value) (W:World),(Instr.typeAssert (.iface 26 v) 20 26 true).run Tryz.prog W = .ok (.tuple #[v,.bool true]) W:=fun v W=>z3f W _ _ v _ Tryz.underlying26 (fun m h=>by cases h)
    have H8:Hid (CB (wr.alloc (.cells [Value.int .i64 0,.int .i64 0].toArray 26)) wr.heap.size 26 [.int .i64 0,.int .i64 0]):=z6a wr _ _ _ rfl
    have H8o:Hid (∀ u ∈ ([.int .i64 a,.int .i64 b]:List Value),u.oneCell' = true):=hd_ (by intro u hu;simp only [List.mem_cons,nM,or_false] at hu;rcases hu with rfl | rfl <;> rfl)
    have hgT:Hid (w.heap.size + 1 < wr.heap.size):=HT.out.lt
    have Hnew8:Hid ((Value.slice ol xs.length cl).ownBlock ≠ some wr.heap.size):=fun e=>by have:=(HO.out.own _ e).2;omega
    clear e0 ef
    go_upto_region 20 with (have _g:=H8o.out;refine z4a rfl 26 (.tmp 10) (.tmp 58) rfl wr.heap.size [.int .i64 a,.int .i64 b] rfl rfl 26 [.int .i64 0,.int .i64 0] H8.out rfl (by kernel_rfl) H8o.out (fun w3 HC8 HW3 HZ3=>?_);clear H8o)
    have hz:Hid (Below wr.heap.size wr w3):=(z5b (w:=wr) (.cells [Value.int .i64 0,.int .i64 0].toArray 26)).grown HW3.out (by simp) (fun q e=>by injection e with e;omega)
    clear HW3 HZ3 H8
    replace HT:=hd_ (HT.out.ext hz.out);replace H2:=hd_ (H2.out.ext hz.out);replace HO:=hd_ (HO.out.ext hz.out);replace Hb:=hd_ (z0a Hb.out hz.out)
    clear hz
    have HG8:=hgT
    generalize wr.heap.size = g8 at *
    refine z9a (S:=fun w'=>w'.cell? ⟨(w.heap.size + 1),3,none⟩ = some (.slice ol xs.length cl)∧w'.cell? ⟨g8,0,none⟩ = some (.int .i64 a)∧w'.cell? ⟨g8,1,none⟩ = some (.int .i64 b)) (late:=fun j=>j == 13) (by kernel_rfl) ⟨HT.out.cell 3,HC8.out.cell 0,HC8.out.cell 1⟩ (fun hHeld=>?_)
    have hdr:=(Below.refl w3.heap.size w3).drew
    replace HT:=hd_ (HT.out.ext hdr);replace H2:=hd_ (H2.out.ext hdr);replace HO:=hd_ (HO.out.ext hdr);replace Hb:=hd_ (z0a Hb.out hdr);replace HC8:=hd_ (HC8.out.ext hdr)
    clear hdr
    generalize w3.drew = w4 at *
    refine tkL (some 59) 0 ?_
    refine tkL (some 60) 1 ?_
    refine tkL (some 61) 2 ?_
    refine tkL (some 62) 3 ?_
    refine tkL (some 63) 4 ?_
    refine tkL (some 64) 5 ?_
    refine tkL (some 65) 6 ?_
    refine tkL (some 66) 7 ?_
    refine rdL 8 fun K hK=>?_
    go_simp
    have hz:Below w4.heap.size w4 (w4.alloc (.cells [It.v (.num a),It.v (.num b)].toArray 20)):=z5b _
    have HIa:Hid (z6p (fun _=>False) (w4.alloc (.cells [It.v (.num a),It.v (.num b)].toArray 20)) [.num a,.num b] (.slice (some ⟨w4.heap.size,0,none⟩) 2 2)):=hd_ (z5l (fun _=>False) w4 [.num a,.num b] (fun t ht=>by simp only [List.mem_cons,nM,or_false] at ht;rcases ht with rfl | rfl <;> first | exact Hok.out.1 | exact Hok.out.2))
    change K _ (w4.alloc (.cells [It.v (.num a),It.v (.num b)].toArray 20))
    replace HT:=hd_ (HT.out.ext hz);replace H2:=hd_ (H2.out.ext hz);replace HO:=hd_ (HO.out.ext hz);replace Hb:=hd_ (z0a Hb.out hz);replace HC8:=hd_ (HC8.out.ext hz)
    clear hz
    generalize w4.alloc (.cells [It.v (.num a),It.v (.num b)].toArray 20) = w5 at *
    refine z8l hK ⟨HT.out.cell 3,HC8.out.cell 0,HC8.out.cell 1⟩ fun hHeld=>?_
    clear hK K
    refine rdL 9 fun K hK=>?_
    go_simp
    go_at_call 36
    refine (HIH.out [.num a,.num b] _ (fun _=>False) w5 (fun t ht=>by simp only [List.mem_cons,nM,or_false] at ht;have hd:=Hdt.out;simp only [It.dp] at hd;rcases ht with rfl | rfl <;> (show 0 < N;omega)) (by simp) HIa.out (fun j h=>h.elim)).mono ?_
    rintro e w7 ⟨lv7,rfl,hO7,hb7⟩
    obtain ⟨o7,c7,rfl⟩:=hO7.shape
    have HO7:=hd_ hO7
    have H57:Hid (w5.heap.size ≤ w7.heap.size):=hb7.size
    have HOlt:=hd_ (fun g (e:(Value.slice ol xs.length cl).ownBlock = some g)=>(HO.out.own g e).2)
    have HBw:Hid (w.heap.size + 2 ≤ w5.heap.size):=HT.out.lt
    replace HT:=hd_ (HT.out.ext hb7);replace H2:=hd_ (H2.out.ext hb7);replace HO:=hd_ (HO.out.ext hb7);replace Hb:=hd_ (z0a Hb.out hb7);replace HC8:=hd_ (HC8.out.ext hb7)
    clear hO7 hb7
    refine z8l hK ⟨HT.out.cell 3,HC8.out.cell 0,HC8.out.cell 1⟩ fun hHeld=>?_
    clear hK K
    refine rdL 10 fun K hK=>?_
    go_simp
    have HBk:Hid (CB (w7.alloc (.cells [.int .i64 3,.int .i64 0,.string ⟨#[]⟩,.slice o7 2 c7].toArray 80)) w7.heap.size 80 [.int .i64 3,.int .i64 0,.string ⟨#[]⟩,.slice o7 2 c7]):=z6a w7 _ _ _ rfl
    have HTA:=hd_ (HT.out.alloc (.cells [.int .i64 3,.int .i64 0,.string ⟨#[]⟩,.slice o7 2 c7].toArray 80));have H2A:=hd_ (H2.out.alloc (.cells [.int .i64 3,.int .i64 0,.string ⟨#[]⟩,.slice o7 2 c7].toArray 80));have HOA:=hd_ (HO.out.alloc (.cells [.int .i64 3,.int .i64 0,.string ⟨#[]⟩,.slice o7 2 c7].toArray 80));have HbA:=hd_ (z0a Hb.out (z5b (w:=w7) (.cells [.int .i64 3,.int .i64 0,.string ⟨#[]⟩,.slice o7 2 c7].toArray 80)))
    change K _ (w7.alloc (.cells [.int .i64 3,.int .i64 0,.string ⟨#[]⟩,.slice o7 2 c7].toArray 80))
    have HNv:Hid (y2e (DL D (w.heap.size + 2) (w7.alloc (.cells [.int .i64 3,.int .i64 0,.string ⟨#[]⟩,.slice o7 2 c7].toArray 80)) (.slice ol xs.length cl)) (w7.alloc (.cells [.int .i64 3,.int .i64 0,.string ⟨#[]⟩,.slice o7 2 c7].toArray 80)) (spV a b) (.slice o7 2 c7)):=y2e.keep (D:=fun j=>(False∨w5.heap.size ≤ j)∧j < w7.heap.size) (w:=w7) ⟨by show I64 3;unfold I64;omega,by show I64 0;unfold I64;omega,by show (0:Nat) ≤ _;unfold maxLen;decide,HO7.out.sl⟩ (fun k hk=>⟨.inr (by have:=HBw.out;have:=hk.1.resolve_left id;omega),by have:=hk.2;rw [World.size_alloc];omega,fun e=>by have:=HOlt.out k e.symm;have:=hk.1.resolve_left id;omega⟩) (fun k hk=>Below.heap_alloc w7 _ k hk.2)
    have HB7:Hid (w7.heap.size < (w7.alloc (.cells [.int .i64 3,.int .i64 0,.string ⟨#[]⟩,.slice o7 2 c7].toArray 80)).heap.size):=HBk.out.lt
    clear HT H2 HO Hb
    have HC9:=hd_ (HC8.out.alloc (.cells [.int .i64 3,.int .i64 0,.string ⟨#[]⟩,.slice o7 2 c7].toArray 80))
    generalize w7.alloc (.cells [.int .i64 3,.int .i64 0,.string ⟨#[]⟩,.slice o7 2 c7].toArray 80) = w8 at *
    generalize w7.heap.size = gk at *
    refine z8l hK ⟨HTA.out.cell 3,HC9.out.cell 0,HC9.out.cell 1⟩ fun hHeld=>?_
    clear hK K
    refine rdL 11 fun K hK=>?_
    refine z8h Tryz.underlying78 z1m rfl (.tmp 60) (.tmp 69) rfl D (w.heap.size + 2) (.slice ol xs.length cl) xs rfl ?q1 gk (spV a b) (.slice o7 2 c7) rfl ?q2 ?q3 ?q4 ?q5 ?_
    case q1=>exact HOA.out
    case q2=>exact HNv.out
    case q3=>(refine ⟨?_,?_,?_,?_⟩ <;> first | exact HBk.out.cell 0 | exact HBk.out.cell 1 | exact HBk.out.cell 2 | exact HBk.out.cell 3)
    case q4=>(have:=Hlen.out;omega)
    case q5=>(have:=HbA.out.size;have:=HTA.out.lt;omega)
    intro oa2 cp2 w2 hO2 hg2
    have HT2:=hd_ (HTA.out.keep (hg2.out.block _ HTA.out.lt (fun e=>by have:=(HOA.out.own _ e.symm).1;omega)))
    have H22:=hd_ (H2A.out.keep (hg2.out.block _ H2A.out.lt (fun e=>by have:=(HOA.out.own _ e.symm).1;omega)))
    have Hb2:=hd_ (HbA.out.grown hg2.out HbA.out.size (fun q e=>by have:=(HOA.out.own q e).1;omega))
    have HC10:=hd_ (HC9.out.keep (hg2.out.block _ HC9.out.lt (fun e=>Hnew8.out e.symm)))
    have y3:_ = some (Value.slice ol xs.length cl):=HT2.out.cell 3
    have yf:=HT2.out.frozen 3
    clear hg2 HTA H2A HOA HbA HBk
    refine hK.out (Act.put _ (some 70) _) w2 (fun _=>⟨y3,HC10.out.cell 0,HC10.out.cell 1⟩) (fun hHeld0=>?_)
    clear hK K
    have hHeld:=hHeld0 (by rfl)
    clear hHeld0
    try simp only [Act.put,List.setIfInBounds_toArray,List.set_cons_zero,List.set_cons_succ]
    refine tkL (some 71) 12 ?_
    refine rdL 13 fun K hK=>?_
    go_simp
    refine hK.out _ _ (fun h=>absurd h (by decide)) (fun hHeld0=>?_)
    clear hK K
    try simp only [Act.put,List.setIfInBounds_toArray,List.set_cons_zero,List.set_cons_succ]
    refine z6b (by kernel_rfl) ?_ _
    go_wp2_with fail
    go_roundw
    case rel=>exact z8i Ht.out HT2.out H22.out hO2.out Hxs.out Hb2.out HD.out
    case measure=>(simp [intOf];have:=Hlt.out;omega)
   | nums l vn =>
    simp only [It.v] at c0
    obtain ⟨hno1,hno2,hno3⟩:=Hok.out
    obtain ⟨on,cn,rfl,lnn⟩:=hno3.shape
    have HN1:=hd_ hno1;have HN2:=hd_ hno2;have HN3:=hd_ hno3
    have l2:(l.length:Int) ≤ 9223372036854775807:=by omega
    clear hno1 hno2 hno3
    have qnint:∀ (v:Value) (W:World),(Instr.typeAssert (.iface 24 v) 20 3 true).run Tryz.prog W = .ok (.tuple #[.int .i64 0,.bool false]) W:=fun v W=>z3c W _ _ _ v _ _ Tryz.underlying3 (fun m h=>by cases h) (by decide) (by kernel_rfl)
    have qnbool:∀ (v:Value) (W:World),(Instr.typeAssert (.iface 24 v) 20 4 true).run Tryz.prog W = .ok (.tuple #[.bool false,.bool false]) W:=fun v W=>z3c W _ _ _ v _ _ Tryz.underlying4 (fun m h=>by cases h) (by decide) (by kernel_rfl)
    have qnstring:∀ (v:Value) (W:World),(Instr.typeAssert (.iface 24 v) 20 9 true).run Tryz.prog W = .ok (.tuple #[.string ⟨#[]⟩,.bool false]) W:=fun v W=>z3c W _ _ _ v _ _ Tryz.underlying9 (fun m h=>by cases h) (by decide) (by kernel_rfl)
    have qnspan:∀ (v:Value) (W:World),(Instr.typeAssert (.iface 24 v) 20 26 true).run Tryz.prog W = .ok (.tuple #[.agg #[.int .i64 0,.int .i64 0],.bool false]) W:=fun v W=>z3c W _ _ _ v _ _ Tryz.underlying26 (fun m h=>by cases h) (by decide) (by kernel_rfl)
    have qy:∀ (v:Value) (W:World),(Instr.typeAssert (.iface 24 v) 20 24 true).run Tryz.prog W = .ok (.tuple #[v,.bool true]) W:=fun v W=>z3f W _ _ v _ Tryz.underlying24 (fun m h=>by cases h)
    clear e0 ef
    go_upto_region 23 with fail
    have HLn:=hd_ (z0p (.slice none 0 0) rfl)
    go_upto_region 24 with (first
    | (go_at_call 36;refine (z3w _ _ _).mono ?_;go_loud (rintro e w5 ⟨rfl,hb5⟩;have HB5:=hd_ hb5;have H12:Hid (CB (w5.alloc Z4) w5.heap.size 80 Z4c):=z6a w5 Z4 _ _ rfl;clear hb5))
    | (have _g:=HLn.out;refine z4a rfl 80 (.tmp 12) (.tmp 75) rfl w5.heap.size (lvC (.slice none 0 0)) rfl rfl 80 Z4c H12.out rfl (by kernel_rfl) HLn.out (fun w6 HC12 HW6 HZ6=>?_);clear HLn))
    have HB6:Hid (Below w5.heap.size w5 w6):=(z5b (w:=w5) Z4).grown HW6.out (by simp) (fun q e=>by injection e with e;omega)
    have hbw:Hid (w.heap.size + 2 ≤ w5.heap.size):=Nat.le_trans HT.out.lt HB5.out.size
    have hbw5:=z0a Hb.out HB5.out
    replace HT:=hd_ (HT.out.ext HB5.out);replace H2:=hd_ (H2.out.ext HB5.out);replace HO:=hd_ (HO.out.ext HB5.out);replace Hb:=hd_ hbw5
    have HN4:Hid (z9f nuK w5.heap.size w5 l (.slice on l.length cn)):=HN3.out.ext hbw5
    clear hbw5 HW6 HZ6 H12 HB5 HN3 c0
    go_wp2_with fail
    go_loopw [78] (fun i wq=>k9k l w5 i wq) (fun i _=>l.length - (intOf i).toNat)
    case atStart=>exact ⟨[],.slice none 0 0,rfl,by simp,rfl,HC12.out,z3j.nil _ _ _ (fun j hj=>hj.elim),HB6.out⟩
    case round =>
     obtain ⟨ms,lv2,hms,hmle,rfl,hT2,hO2,hb2⟩:=hrel
     obtain ⟨o2,c2,rfl⟩:=hO2.shape
     have Hms:=hd_ hms;have H12:=hd_ hT2;have HO2:=hd_ hO2;have HB2:=hd_ hb2
     clear hT2 hO2 hb2 HC12 HB6 hms
     by_cases hml:ms.length < l.length
     case pos =>
      obtain ⟨n,hn⟩:∃ n,l[ms.length]? = some n:=⟨_,List.getElem?_eq_getElem hml⟩
      have Hn:=hd_ hn
      have hni:Hid (I64 n):=HN1.out n (List.mem_of_getElem? hn)
      obtain ⟨nb,no,hon,_,hat⟩:=(HN4.out.ext HB2.out).at (k:=ms.length) hml
      have hcn:wr.cell? ⟨nb,no + ms.length,none⟩ = some (.int .i64 n):=by have:=hat ms.length n hn 0 _ rfl;simpa [nuK] using this
      subst hon
      clear hat hn
      have tj:decide ((ms.length:Int) < (l.length:Int)) = true:=decide_eq_true (by omega)
      have tj':decide (ms.length < l.length) = true:=decide_eq_true hml
      have e0:_ = some (Value.slice o2 ms.length c2):=H12.out.cell 3
      have HBk:Hid (CB (wr.alloc (.cells [.int .i64 1,.int .i64 n,.string ⟨#[]⟩,.slice none 0 0].toArray 80)) wr.heap.size 80 [.int .i64 1,.int .i64 n,.string ⟨#[]⟩,.slice none 0 0]):=z6a wr _ _ _ rfl
      have HTA:=hd_ (H12.out.alloc (.cells [.int .i64 1,.int .i64 n,.string ⟨#[]⟩,.slice none 0 0].toArray 80));have HOA:=hd_ (HO2.out.alloc (.cells [.int .i64 1,.int .i64 n,.string ⟨#[]⟩,.slice none 0 0].toArray 80));have HbA:=hd_ (z0a HB2.out (z5b (w:=wr) (.cells [.int .i64 1,.int .i64 n,.string ⟨#[]⟩,.slice none 0 0].toArray 80)))
      clear HO2 HB2
      go_wp2_with (refine z4d Tryz.underlying78 z1m rfl (.tmp 83) (.tmp 86) rfl (fun _=>False) (w5.heap.size + 1) (.slice o2 ms.length c2) ms rfl ?q1 wr.heap.size (iV n) (.slice none 0 0) rfl ?q2 ?q3 ?q4 ?q5 ?_;(case q1=>exact HOA.out);(case q2=>exact y2e.int _ _ n hni.out);(case q3=>(refine ⟨?_,?_,?_,?_⟩ <;> first | exact HBk.out.cell 0 | exact HBk.out.cell 1 | exact HBk.out.cell 2 | exact HBk.out.cell 3));(case q4=>(have:=HN2.out;omega));(case q5=>(have:=HTA.out.lt;omega));intro oa2 cp2 w7 hO7 hg7;have HT7:=hd_ (HTA.out.keep (hg7.out.block _ HTA.out.lt (fun e=>by have:=(HOA.out.own _ e.symm).1;omega)));have Hb7:=hd_ (HbA.out.grown hg7.out HbA.out.size (fun q e=>by have:=(HOA.out.own q e).1;omega));have y3:_ = some (Value.slice o2 ms.length c2):=HT7.out.cell 3;have yf:=HT7.out.frozen 3;clear hg7 HTA HOA HbA HBk H12)
      go_roundw
      case rel=>exact x6s Hn.out HT7.out hO7.out Hms.out Hb7.out
      case measure=>(simp [intOf];omega)
     case neg =>
      have tj:decide ((ms.length:Int) < (l.length:Int)) = false:=decide_eq_false (by omega)
      have hmx:Hid (ms = l.map iV):=hd_ (by have h:=Hms.out;have hk:ms.length = l.length:=(by omega);rw [hk,List.take_length] at h;exact h)
      replace HT:=hd_ (HT.out.ext HB2.out);replace H2:=hd_ (H2.out.ext HB2.out)
      have HOlt:=hd_ (fun g (e:(Value.slice ol xs.length cl).ownBlock = some g)=>(HO.out.own g e).2)
      have HBw:Hid (w.heap.size + 2 ≤ w5.heap.size):=hbw.out
      replace HO:=hd_ (HO.out.ext HB2.out);replace Hb:=hd_ (z0a Hb.out HB2.out)
      have e0:_ = some (Value.slice ol xs.length cl):=HT.out.cell 3
      have HBk:Hid (CB (wr.alloc (.cells [.int .i64 3,.int .i64 0,.string ⟨#[]⟩,.slice o2 ms.length c2].toArray 80)) wr.heap.size 80 [.int .i64 3,.int .i64 0,.string ⟨#[]⟩,.slice o2 ms.length c2]):=z6a wr _ _ _ rfl
      have HTA:=hd_ (HT.out.alloc (.cells [.int .i64 3,.int .i64 0,.string ⟨#[]⟩,.slice o2 ms.length c2].toArray 80));have H2A:=hd_ (H2.out.alloc (.cells [.int .i64 3,.int .i64 0,.string ⟨#[]⟩,.slice o2 ms.length c2].toArray 80));have HOA:=hd_ (HO.out.alloc (.cells [.int .i64 3,.int .i64 0,.string ⟨#[]⟩,.slice o2 ms.length c2].toArray 80));have HbA:=hd_ (z0a Hb.out (z5b (w:=wr) (.cells [.int .i64 3,.int .i64 0,.string ⟨#[]⟩,.slice o2 ms.length c2].toArray 80)))
      have HNv:Hid (y2e (DL D (w.heap.size + 2) (wr.alloc (.cells [.int .i64 3,.int .i64 0,.string ⟨#[]⟩,.slice o2 ms.length c2].toArray 80)) (.slice ol xs.length cl)) (wr.alloc (.cells [.int .i64 3,.int .i64 0,.string ⟨#[]⟩,.slice o2 ms.length c2].toArray 80)) (nsV l) (.slice o2 ms.length c2)):=y2e.keep (D:=fun j=>(False∨w5.heap.size + 1 ≤ j)∧j < wr.heap.size) (w:=wr) ⟨by show I64 3;unfold I64;omega,by show I64 0;unfold I64;omega,by show (0:Nat) ≤ _;unfold maxLen;decide,by show y0i _ _ (l.map iV) _;rw [← hmx.out];exact HO2.out.sl⟩ (fun k hk=>⟨.inr (by have:=HBw.out;have:=hk.1.resolve_left id;omega),by have:=hk.2;rw [World.size_alloc];omega,fun e=>by have:=HOlt.out k e.symm;have:=hk.1.resolve_left id;omega⟩) (fun k hk=>Below.heap_alloc wr _ k hk.2)
      go_wp2_with (first
       | (have _g:=H12.out;refine z3a (by rfl) 80 (.tmp 12) rfl w5.heap.size [.int .i64 3,.int .i64 0,.string ⟨#[]⟩,.slice o2 ms.length c2] rfl 80 _ H12.out Tryz.underlying80 rfl (by kernel_rfl) ?_;clear H12)
       | (refine z4d Tryz.underlying78 z1m rfl (.tmp 91) (.tmp 93) rfl D (w.heap.size + 2) (.slice ol xs.length cl) xs rfl ?q1 wr.heap.size (nsV l) (.slice o2 ms.length c2) rfl ?q2 ?q3 ?q4 ?q5 ?_;(case q1=>exact HOA.out);(case q2=>exact HNv.out);(case q3=>(refine ⟨?_,?_,?_,?_⟩ <;> first | exact HBk.out.cell 0 | exact HBk.out.cell 1 | exact HBk.out.cell 2 | exact HBk.out.cell 3));(case q4=>(have:=Hlen.out;omega));(case q5=>(have:=HbA.out.size;have:=HTA.out.lt;omega));intro oa2 cp2 w2 hO2 hg2;have HT2:=hd_ (HTA.out.keep (hg2.out.block _ HTA.out.lt (fun e=>by have:=(HOA.out.own _ e.symm).1;omega)));have H22:=hd_ (H2A.out.keep (hg2.out.block _ H2A.out.lt (fun e=>by have:=(HOA.out.own _ e.symm).1;omega)));have Hb2:=hd_ (HbA.out.grown hg2.out HbA.out.size (fun q e=>by have:=(HOA.out.own q e).1;omega));have y3:_ = some (Value.slice ol xs.length cl):=HT2.out.cell 3;have yf:=HT2.out.frozen 3;clear hg2 HTA H2A HOA HbA HBk))
      go_roundw
      case rel=>exact z8i Ht.out HT2.out H22.out hO2.out Hxs.out Hb2.out HD.out
      case measure=>(simp [intOf];have:=Hlt.out;omega)
theorem z4j (its:List It) (a:Value) (D:Nat→Prop) (w:World) (hlen:its.length ≤ 1000000) (hits:z6p D w its a) (hD:∀ j,D j→j < w.heap.size):Calls Tryz.prog 36 #[a] w (j1z D (its.map It.x) w) :=
 y6x 1 (fun its a D w h=>y6x 0 (fun its a D w h hl hi hd=>by
  cases its with
  | nil =>
   obtain ⟨oa,cap,rfl⟩:=hi.shape
   exact (z3w oa cap w).mono fun e w' h=>⟨_,h.1,z3j.nil _ _ _ hd,h.2⟩
  | cons t r=>exact absurd (h t List.mem_cons_self) (by omega)) its a D w (fun t ht=>by have:=h t ht;omega)) its a D w (fun t _=>by cases t <;> simp [It.dp]) hlen hits hD
end Go.Proofs.YtdblnbnofjggnaaGreatDoor
