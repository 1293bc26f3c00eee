/- Parts of the proofs of chapter 49's laws. -/
import Derived.Test.YtdblnbnofjggnaaGreatDoorP29
import Derived.Test.YtdblnbnofjggnaaGreatDoorP15
set_option maxHeartbeats 16000000
set_option maxRecDepth 100000
open Go.Lib renaming hid → hd_
open Go.World renaming size_alloc → sA
open List renaming getElem?_eq_getElem → gE
open Go.Value renaming int → J, slice → Q, string → C, bool → F, agg → T
open Go.IntKind renaming i64 → I
open Go.Obj renaming cells → Z
open Go.Ending renaming returned → G
open Option renaming none → H, some → U
open Bool renaming true → E, false → Y
open Decidable renaming decide → X
open Go renaming World → M, Value → L, Calls → D
open Go.RowKit renaming Below → O, Hid → R
set_option linter.all false
namespace Go.Proofs.YtdblnbnofjggnaaGreatDoor
open Go.Proofs.Tryz
open Go.RowKit
theorem z1c {B:Nat} {w w1:M} (h:O B w w1) (n:Nat):O B w (w1.drewN n):=⟨h.os,h.tape,h.output,h.size,h.block⟩
theorem x3t (a b:List Int) (va vb:L) (w:M) (ha:z4g nuK w.heap.size w a va) (hb:z4g nuK w.heap.size w b vb) :
 D prog 110 #[va,vb] w fun e w'=>e=G (F (X (a=b)))∧O w.heap.size w w':=by
 obtain ⟨oa,ca,rfl,la⟩:=ha.shape
 obtain ⟨ob,cb,rfl,lb⟩:=hb.shape
 have HA:=hd_ ha;have HB:=hd_ hb
 obtain ⟨n,hn⟩:∃ n,a.length=n:=⟨_,rfl⟩
 obtain ⟨m,hm⟩:∃ m,b.length=m:=⟨_,rfl⟩
 rw [hn] at HA la;rw [hm] at HB lb
 have l1:(n:Int)≤9223372036854775807:=by omega
 have l2:(m:Int)≤9223372036854775807:=by omega
 rw [hn,hm]
 have HN:=hd_ hn;have HM:=hd_ hm
 clear ha hb hn hm la lb
 go_enter func110,ntmps110
 by_cases hl:n=m
 case neg =>
  have t1:X ((n:Int)=(m:Int))=Y:=decide_eq_false (by omega)
  have t2:((n:Int) == (m:Int))=Y:=beq_false_of_ne (by omega)
  have t3:X (n=m)=Y:=decide_eq_false hl
  have hne:X (a=b)=Y:=decide_eq_false (fun e=>hl (by rw [← HN.out,← HM.out,e]))
  have HE:=hd_ hne
  clear hne hl
  go_wp2_with fail
  go_ret
  exact ⟨by rw [HE.out];rfl,Below.refl _ _⟩
 case pos =>
 subst hl
 go_wp2_with fail
 go_loopw [5] (fun vi wr=>x0t a b n w vi wr) (fun vi _=>n - z1f vi)
 case atStart=>exact ⟨0,rfl,by omega,fun j h=>by omega,Below.refl _ _⟩
 case round =>
  obtain ⟨i,rfl,hi,hs,hb⟩:=hrel
  have HS:=hd_ hs;have aq:=hd_ hb
  clear hs hb
  by_cases hlt:i<n
  case neg =>
   obtain rfl:i=n:=by omega
   have tj:X ((i:Int)<(i:Int))=Y:=by simp
   have HE:R (X (a=b)=E):=decide_eq_true (z0k (by rw [HN.out,HM.out]) (fun j hj=>HS.out j (by rw [← HN.out];exact hj)))
   go_wp2_with fail
   go_ret
   exact ⟨by rw [HE.out];rfl,aq.out⟩
  case pos =>
  have tj:X ((i:Int)<(n:Int))=E:=by simp;omega
  have eu:X (i<n)=E:=by simp;omega
  have kb:(i:Int)<(n:Int):=by omega
  obtain ⟨x,hx⟩:∃ x,a[i]? = U x:=⟨_,gE (by rw [HN.out];exact hlt)⟩
  obtain ⟨y,hy⟩:∃ y,b[i]? = U y:=⟨_,gE (by rw [HM.out];exact hlt)⟩
  obtain ⟨ab,ao,rfl⟩:=z9f HA.out (k:=i) (by rw [HN.out];exact hlt)
  obtain ⟨bb,bo,rfl⟩:=z9f HB.out (k:=i) (by rw [HM.out];exact hlt)
  have aN:=hd_ hlt;have Hx:=hd_ hx;have Hy:=hd_ hy
  have iv:R (x=y→∀ j,j<i+1→a[j]? = b[j]?):=fun e j hj=>by
   rcases Nat.lt_succ_iff_lt_or_eq.1 hj with h|h
   ·exact HS.out j h
   ·rw [h,Hx.out,Hy.out,e]
  have gm:R (x≠y→X (a=b)=Y):=fun hne=>decide_eq_false (fun e=>by
   have:=Hx.out;rw [e,Hy.out] at this;injection this with this;exact hne this.symm)
  have c1:=z1a aq.out (z3m HA.out hx);have c2:=z1a aq.out (z3m HB.out hy)
  clear hlt hx hy hi
  go_upto_region 6 with fail
  by_cases hxy:x=y
  ·subst hxy
   go_quiet (fail)
   have K:R (O w.heap.size w (wr.drewN nq)):=⟨aq.out.os,aq.out.tape,aq.out.output,aq.out.size,aq.out.block⟩
   clear c1 c2 aq
   generalize wr.drewN nq=wA at *
   go_wp2_with fail
   go_roundw
   case rel=>exact ⟨i+1,by go_num,aN.out,iv.out rfl,K.out⟩
   case measure=>simp [z1f];have:=aN.out;omega
  ·have u1:X (x=y)=Y:=decide_eq_false hxy
   have u2:(x == y)=Y:=beq_false_of_ne hxy
   have HE:=hd_ (gm.out hxy)
   clear hxy
   go_quiet (fail)
   have K:R (O w.heap.size w (wr.drewN nq)):=⟨aq.out.os,aq.out.tape,aq.out.output,aq.out.size,aq.out.block⟩
   clear c1 c2 aq
   generalize wr.drewN nq=wA at *
   go_wp2_with fail
   go_ret
   exact ⟨by rw [HE.out];rfl,K.out⟩
def y4y (a b:List Int) (n:Nat) (w:M) (g:Nat) (t:TypeId) (cs ds:List L) (vi:L) (wr:M):Prop:=∃ i:Nat,vi=J I (i:Int)∧i≤n∧(∀ j,j<i→a[j]? = b[j]?)∧CB wr g t cs∧CB wr (g+1) t ds∧O w.heap.size w wr
theorem j3e (p q:Flt) (va vb:L) (w:M) (ha:z4g nuK w.heap.size w p.ways va) (hb:z4g nuK w.heap.size w q.ways vb) :
 D prog 47 #[T (p.cells va).toArray,T (q.cells vb).toArray] w fun e w'=>e=G (F (X (p=q)))∧O w.heap.size w w':=by
 obtain ⟨oa,ca,rfl,la⟩:=ha.shape
 obtain ⟨ob,cb,rfl,lb⟩:=hb.shape
 obtain ⟨n,hn⟩:∃ n,p.ways.length=n:=⟨_,rfl⟩
 obtain ⟨m,hm⟩:∃ m,q.ways.length=m:=⟨_,rfl⟩
 rw [hn] at ha la ⊢
 rw [hm] at hb lb ⊢
 have ax:O w.heap.size w ((w.alloc (Z (p.cells (Q oa n ca)).toArray 28)).alloc (Z (q.cells (Q ob m cb)).toArray 28)):=(z4b (w:=w) (Z (p.cells (Q oa n ca)).toArray 28)).alloc (z4b (w:=w) (Z (p.cells (Q oa n ca)).toArray 28)).size _
 have hcx:CB ((w.alloc (Z (p.cells (Q oa n ca)).toArray 28)).alloc (Z (q.cells (Q ob m cb)).toArray 28)) w.heap.size 28 (p.cells (Q oa n ca)):=(z3a w _ _ _ rfl).alloc _
 have hcy:CB ((w.alloc (Z (p.cells (Q oa n ca)).toArray 28)).alloc (Z (q.cells (Q ob m cb)).toArray 28)) (w.heap.size+1) 28 (q.cells (Q ob m cb)):=by
  have:=z3a (w.alloc (Z (p.cells (Q oa n ca)).toArray 28)) (Z (q.cells (Q ob m cb)).toArray 28) 28 (q.cells (Q ob m cb)) rfl
  rwa [sA] at this
 have az:=hd_ ax;have HX:=hd_ hcx;have HY:=hd_ hcy;have HA:=hd_ ha;have HB:=hd_ hb
 have dL:=hd_ (y0y p q)
 have l1:(n:Int)≤9223372036854775807:=by omega
 have l2:(m:Int)≤9223372036854775807:=by omega
 have HN:=hd_ hn;have HM:=hd_ hm
 clear ha hb hn hm la lb ax hcx hcy
 go_enter func47,ntmps47
 go_upto_region 1 with fail
 change Code.wp _ _ _ _ ((w.alloc (Z (p.cells (Q oa n ca)).toArray 28)).alloc (Z (q.cells (Q ob m cb)).toArray 28))
 generalize (w.alloc (Z (p.cells (Q oa n ca)).toArray 28)).alloc (Z (q.cells (Q ob m cb)).toArray 28)=w0 at *
 have p0:=HX.out.cv 0 (J I p.id)
 have q0:=HY.out.cv 0 (J I q.id)
 have p1:=HX.out.cv 1 (J I p.air)
 have q1:=HY.out.cv 1 (J I q.air)
 have p2:=HX.out.cv 2 (J I p.cls)
 have q2:=HY.out.cv 2 (J I q.cls)
 have p3:=HX.out.cv 3 (C p.call)
 have q3:=HY.out.cv 3 (C q.call)
 have p5:=HX.out.cv 5 (.int I p.wf)
 have q5:=HY.out.cv 5 (.int I q.wf)
 have p6:=HX.out.cv 6 (J I p.wt)
 have q6:=HY.out.cv 6 (J I q.wt)
 have p7:=HX.out.cv 7 (F p.can)
 have q7:=HY.out.cv 7 (F q.can)
 have p4:=HX.out.cv 4 (Q oa n ca)
 have q4:=HY.out.cv 4 (Q ob m cb)
 obtain ⟨c1,cE⟩:∃ c,X (p.id=q.id) = !c:=⟨!X (p.id=q.id),by simp⟩
 have u1:(p.id == q.id) = !c1:=by rw [← cE];rfl
 have v1:(p.id != q.id)=c1:=by unfold bne;rw [u1];simp
 obtain ⟨c2,bY⟩:∃ c,X (p.air=q.air) = !c:=⟨!X (p.air=q.air),by simp⟩
 have u2:(p.air == q.air) = !c2:=by rw [← bY];rfl
 have v2:(p.air != q.air)=c2:=by unfold bne;rw [u2];simp
 obtain ⟨c3,ev⟩:∃ c,X (p.cls=q.cls) = !c:=⟨!X (p.cls=q.cls),by simp⟩
 have u3:(p.cls == q.cls) = !c3:=by rw [← ev];rfl
 have v3:(p.cls != q.cls)=c3:=by unfold bne;rw [u3];simp
 obtain ⟨c4,hc4⟩:∃ c,X (p.call=q.call) = !c:=⟨!X (p.call=q.call),by simp⟩
 have u4:(p.call.toList == q.call.toList) = !c4:=by rw [← hc4];exact x5o _ _
 have v4:(!(p.call.toList == q.call.toList))=c4:=by rw [u4];simp
 obtain ⟨c5,jJ⟩:∃ c,(X (p.wf=q.wf)&&X (p.wt=q.wt)) = !c:=⟨!(X (p.wf=q.wf)&&X (p.wt=q.wt)),by simp⟩
 have v5:∀ W:M,(Op.equalIn 10000 26 (.agg #[.int I p.wf,.int I p.wt]) (.agg #[.int I q.wf,.int I q.wt])).run prog W=.ok (!c5) W:=fun W=>by rw [j0e,← jJ];rfl
 have u5:∀ (a1 a2:Operand) (W:M),(eqGuard .neq 26 a1 a2 (.agg #[.int I p.wf,.int I p.wt]) (.agg #[.int I q.wf,.int I q.wt])).run prog W=.ok () W:=fun a1 a2 W=>j1e .neq a1 a2 p.wf p.wt q.wf q.wt W
 obtain ⟨c6,hc6⟩:∃ c,X (p.can=q.can) = !c:=⟨!X (p.can=q.can),by simp⟩
 have u6:(p.can == q.can) = !c6:=by rw [← hc6];cases p.can <;> cases q.can <;> rfl
 have v6:(p.can != q.can)=c6:=by unfold bne;rw [u6];simp
 obtain ⟨c7,lQ⟩:∃ c,X (n=m) = !c:=⟨!X (n=m),by simp⟩
 have u7:((n:Int) == (m:Int)) = !c7:=by rw [← lQ];by_cases h:n=m <;> simp [h] <;> omega
 have v7:((n:Int) != (m:Int))=c7:=by unfold bne;rw [u7];simp
 have eW:R (X (p=q)=(!c1 && !c2 && !c3 && !c4 && !c5 && !c6&&X (p.ways=q.ways))):=by have:=dL.out;rw [cE,bY,ev,hc4,jJ,hc6] at this;exact this
 have lY:R (c7=E→X (p.ways=q.ways)=Y):=fun h=>decide_eq_false (fun e=>by
  rw [h] at lQ
  have:n=m:=by rw [← HN.out,← HM.out,e]
  rw [decide_eq_true this] at lQ;cases lQ)
 by_cases hall:(c1 || c2 || c3 || c4 || c5 || c6 || c7)=E
 case pos =>
  have iy:=hd_ hall
  have ej:R (X (p=q)=Y):=by
   show _=_
   rw [eW.out]
   have h:=iy.out
   have hl:=lY.out
   clear u1 v1 u2 v2 u3 v3 u4 v4 u5 v5 u6 v6 u7 v7 cE bY ev hc4 jJ hc6 lQ p0 q0 p1 q1 p2 q2 p3 q3 p5 q5 p6 q6 p7 q7 p4 q4 hall dL eW lY HX HY HA HB az HN HM iy l1 l2
   revert h hl
   generalize X (p.ways=q.ways)=dd
   intro h hl
   cases c7
   ·cases c1 <;> cases c2 <;> cases c3 <;> cases c4 <;> cases c5 <;> cases c6 <;> simp_all
   ·rw [hl rfl];simp
  clear hall dL eW lY HX HY HA HB HN HM
  go_wp2_with fail
  all_goals first
   | (go_ret;exact ⟨by rw [ej.out];rfl,az.out⟩)
   | (exfalso;have h:=iy.out;simp_all)
 case neg =>
 have hall':(c1 || c2 || c3 || c4 || c5 || c6 || c7)=Y:=by simpa using hall
 simp only [Bool.or_eq_false_iff] at hall'
 obtain ⟨⟨⟨⟨⟨⟨rfl,rfl⟩,rfl⟩,rfl⟩,rfl⟩,rfl⟩,rfl⟩:=hall'
 have hnm:n=m:=by simpa using lQ
 subst hnm
 have HSP3:R (X (p=q)=X (p.ways=q.ways)):=by show _=_;rw [eW.out];rfl
 clear hall dL eW lY cE bY ev hc4 jJ hc6 lQ
 go_wp2_with fail
 clear u1 v1 u2 v2 u3 v3 u4 v4 u5 v5 u6 v6 u7 v7 p0 q0 p1 q1 p2 q2 p3 q3 p5 q5 p6 q6 p7 q7 p4 q4
 go_loopw [5] (fun vi wr=>y4y p.ways q.ways n w w.heap.size 28 (p.cells (Q oa n ca)) (q.cells (Q ob n cb)) vi wr) (fun vi _=>n - z1f vi)
 case atStart=>exact ⟨0,rfl,by omega,fun j h=>by omega,HX.out,HY.out,az.out⟩
 case round =>
  obtain ⟨i,rfl,hi,hs,hx,hy,hb⟩:=hrel
  have HS:=hd_ hs;have aq:=hd_ hb;have HXr:=hd_ hx;have HYr:=hd_ hy
  have p4:=hx.cv 4 (Q oa n ca)
  have q4:=hy.cv 4 (Q ob n cb)
  clear hs hb hx hy HX HY az
  by_cases hlt:i<n
  case neg =>
   obtain rfl:i=n:=by omega
   have tj:X ((i:Int)<(i:Int))=Y:=by simp
   have HE:R (X (p.ways=q.ways)=E):=decide_eq_true (z0k (by rw [HN.out,HM.out]) (fun j hj=>HS.out j (by rw [← HN.out];exact hj)))
   go_wp2_with fail
   go_ret
   exact ⟨by rw [HSP3.out,HE.out];rfl,aq.out⟩
  case pos =>
  have tj:X ((i:Int)<(n:Int))=E:=by simp;omega
  have eu:X (i<n)=E:=by simp;omega
  have kb:(i:Int)<(n:Int):=by omega
  obtain ⟨x,hx⟩:∃ x,p.ways[i]? = U x:=⟨_,gE (by rw [HN.out];exact hlt)⟩
  obtain ⟨y,hy⟩:∃ y,q.ways[i]? = U y:=⟨_,gE (by rw [HM.out];exact hlt)⟩
  obtain ⟨ab,ao,rfl⟩:=z9f HA.out (k:=i) (by rw [HN.out];exact hlt)
  obtain ⟨bb,bo,rfl⟩:=z9f HB.out (k:=i) (by rw [HM.out];exact hlt)
  have aN:=hd_ hlt;have Hx:=hd_ hx;have Hy:=hd_ hy
  have iv:R (x=y→∀ j,j<i+1→p.ways[j]? = q.ways[j]?):=fun e j hj=>by
   rcases Nat.lt_succ_iff_lt_or_eq.1 hj with h|h
   ·exact HS.out j h
   ·rw [h,Hx.out,Hy.out,e]
  have gm:R (x≠y→X (p.ways=q.ways)=Y):=fun hne=>decide_eq_false (fun e=>by
   have:=Hx.out;rw [e,Hy.out] at this;injection this with this;exact hne this.symm)
  have c1:=z1a aq.out (z3m HA.out hx);have c2:=z1a aq.out (z3m HB.out hy)
  clear hlt hx hy hi
  go_upto_region 6 with fail
  by_cases hxy:x=y
  ·subst hxy
   go_quiet (fail)
   have K:R (O w.heap.size w (wr.drewN nq)):=z1c aq.out nq
   have KX:R (CB (wr.drewN nq) w.heap.size 28 (p.cells (Q (U ⟨ab,ao,H⟩) n ca))):=HXr.out
   have KY:R (CB (wr.drewN nq) (w.heap.size+1) 28 (q.cells (Q (U ⟨bb,bo,H⟩) n cb))):=HYr.out
   clear c1 c2 aq HXr HYr p4 q4
   generalize wr.drewN nq=wA at *
   go_wp2_with fail
   go_roundw
   case rel=>exact ⟨i+1,by go_num,aN.out,iv.out rfl,KX.out,KY.out,K.out⟩
   case measure=>simp [z1f];have:=aN.out;omega
  ·have u1:X (x=y)=Y:=decide_eq_false hxy
   have u2:(x == y)=Y:=beq_false_of_ne hxy
   have HE:=hd_ (gm.out hxy)
   clear hxy
   go_quiet (fail)
   have K:R (O w.heap.size w (wr.drewN nq)):=z1c aq.out nq
   clear c1 c2 aq p4 q4
   generalize wr.drewN nq=wA at *
   go_wp2_with fail
   go_ret
   exact ⟨by rw [HSP3.out,HE.out];rfl,K.out⟩
def y5y (a b:List Int) (n:Nat) (w:M) (g:Nat) (t:TypeId) (cs ds:List L) (vi:L) (wr:M):Prop:=∃ i:Nat,vi=J I (i:Int)∧i≤n∧(∀ j,j<i→a[j]? = b[j]?)∧CB wr g t cs∧CB wr (g+1) t ds∧O w.heap.size w wr
theorem j4e (p q:Chg) (va vb:L) (w:M) (ha:z4g nuK w.heap.size w p.modes va) (hb:z4g nuK w.heap.size w q.modes vb) :
 D prog 49 #[T (p.cells va).toArray,T (q.cells vb).toArray] w fun e w'=>e=G (F (X (p=q)))∧O w.heap.size w w':=by
 obtain ⟨oa,ca,rfl,la⟩:=ha.shape
 obtain ⟨ob,cb,rfl,lb⟩:=hb.shape
 obtain ⟨n,hn⟩:∃ n,p.modes.length=n:=⟨_,rfl⟩
 obtain ⟨m,hm⟩:∃ m,q.modes.length=m:=⟨_,rfl⟩
 rw [hn] at ha la ⊢
 rw [hm] at hb lb ⊢
 have ax:O w.heap.size w ((w.alloc (Z (p.cells (Q oa n ca)).toArray 31)).alloc (Z (q.cells (Q ob m cb)).toArray 31)):=(z4b (w:=w) (Z (p.cells (Q oa n ca)).toArray 31)).alloc (z4b (w:=w) (Z (p.cells (Q oa n ca)).toArray 31)).size _
 have hcx:CB ((w.alloc (Z (p.cells (Q oa n ca)).toArray 31)).alloc (Z (q.cells (Q ob m cb)).toArray 31)) w.heap.size 31 (p.cells (Q oa n ca)):=(z3a w _ _ _ rfl).alloc _
 have hcy:CB ((w.alloc (Z (p.cells (Q oa n ca)).toArray 31)).alloc (Z (q.cells (Q ob m cb)).toArray 31)) (w.heap.size+1) 31 (q.cells (Q ob m cb)):=by
  have:=z3a (w.alloc (Z (p.cells (Q oa n ca)).toArray 31)) (Z (q.cells (Q ob m cb)).toArray 31) 31 (q.cells (Q ob m cb)) rfl
  rwa [sA] at this
 have az:=hd_ ax;have HX:=hd_ hcx;have HY:=hd_ hcy;have HA:=hd_ ha;have HB:=hd_ hb
 have dL:=hd_ (y1y p q)
 have l1:(n:Int)≤9223372036854775807:=by omega
 have l2:(m:Int)≤9223372036854775807:=by omega
 have HN:=hd_ hn;have HM:=hd_ hm
 clear ha hb hn hm la lb ax hcx hcy
 go_enter func49,ntmps49
 go_upto_region 1 with fail
 change Code.wp _ _ _ _ ((w.alloc (Z (p.cells (Q oa n ca)).toArray 31)).alloc (Z (q.cells (Q ob m cb)).toArray 31))
 generalize (w.alloc (Z (p.cells (Q oa n ca)).toArray 31)).alloc (Z (q.cells (Q ob m cb)).toArray 31)=w0 at *
 have p0:=HX.out.cv 0 (J I p.frm)
 have q0:=HY.out.cv 0 (J I q.frm)
 have p1:=HX.out.cv 1 (J I p.cfg)
 have q1:=HY.out.cv 1 (J I q.cfg)
 have p2:=HX.out.cv 2 (Q oa n ca)
 have q2:=HY.out.cv 2 (Q ob m cb)
 obtain ⟨c1,cE⟩:∃ c,X (p.frm=q.frm) = !c:=⟨!X (p.frm=q.frm),by simp⟩
 have u1:(p.frm == q.frm) = !c1:=by rw [← cE];rfl
 have v1:(p.frm != q.frm)=c1:=by unfold bne;rw [u1];simp
 obtain ⟨c2,bY⟩:∃ c,X (p.cfg=q.cfg) = !c:=⟨!X (p.cfg=q.cfg),by simp⟩
 have u2:(p.cfg == q.cfg) = !c2:=by rw [← bY];rfl
 have v2:(p.cfg != q.cfg)=c2:=by unfold bne;rw [u2];simp
 obtain ⟨c3,ev⟩:∃ c,X (n=m) = !c:=⟨!X (n=m),by simp⟩
 have u3:((n:Int) == (m:Int)) = !c3:=by rw [← ev];by_cases h:n=m <;> simp [h] <;> omega
 have v3:((n:Int) != (m:Int))=c3:=by unfold bne;rw [u3];simp
 have eW:R (X (p=q)=(!c1 && !c2&&X (p.modes=q.modes))):=by have:=dL.out;rw [cE,bY] at this;exact this
 have lY:R (c3=E→X (p.modes=q.modes)=Y):=fun h=>decide_eq_false (fun e=>by
  rw [h] at ev
  have:n=m:=by rw [← HN.out,← HM.out,e]
  rw [decide_eq_true this] at ev;cases ev)
 by_cases hall:(c1 || c2 || c3)=E
 case pos =>
  have iy:=hd_ hall
  have ej:R (X (p=q)=Y):=by
   show _=_
   rw [eW.out]
   have h:=iy.out
   have hl:=lY.out
   clear u1 v1 u2 v2 u3 v3 cE bY ev p0 q0 p1 q1 p2 q2 hall dL eW lY HX HY HA HB az HN HM iy l1 l2
   revert h hl
   generalize X (p.modes=q.modes)=dd
   intro h hl
   cases c3
   ·cases c1 <;> cases c2 <;> simp_all
   ·rw [hl rfl];simp
  clear hall dL eW lY HX HY HA HB HN HM
  go_wp2_with fail
  all_goals first
   | (go_ret;exact ⟨by rw [ej.out];rfl,az.out⟩)
   | (exfalso;have h:=iy.out;simp_all)
 case neg =>
 have hall':(c1 || c2 || c3)=Y:=by simpa using hall
 simp only [Bool.or_eq_false_iff] at hall'
 obtain ⟨⟨rfl,rfl⟩,rfl⟩:=hall'
 have hnm:n=m:=by simpa using ev
 subst hnm
 have HSP3:R (X (p=q)=X (p.modes=q.modes)):=by show _=_;rw [eW.out];rfl
 clear hall dL eW lY cE bY ev
 go_wp2_with fail
 clear u1 v1 u2 v2 u3 v3 p0 q0 p1 q1 p2 q2
 go_loopw [5] (fun vi wr=>y5y p.modes q.modes n w w.heap.size 31 (p.cells (Q oa n ca)) (q.cells (Q ob n cb)) vi wr) (fun vi _=>n - z1f vi)
 case atStart=>exact ⟨0,rfl,by omega,fun j h=>by omega,HX.out,HY.out,az.out⟩
 case round =>
  obtain ⟨i,rfl,hi,hs,hx,hy,hb⟩:=hrel
  have HS:=hd_ hs;have aq:=hd_ hb;have HXr:=hd_ hx;have HYr:=hd_ hy
  have p2:=hx.cv 2 (Q oa n ca)
  have q2:=hy.cv 2 (Q ob n cb)
  clear hs hb hx hy HX HY az
  by_cases hlt:i<n
  case neg =>
   obtain rfl:i=n:=by omega
   have tj:X ((i:Int)<(i:Int))=Y:=by simp
   have HE:R (X (p.modes=q.modes)=E):=decide_eq_true (z0k (by rw [HN.out,HM.out]) (fun j hj=>HS.out j (by rw [← HN.out];exact hj)))
   go_wp2_with fail
   go_ret
   exact ⟨by rw [HSP3.out,HE.out];rfl,aq.out⟩
  case pos =>
  have tj:X ((i:Int)<(n:Int))=E:=by simp;omega
  have eu:X (i<n)=E:=by simp;omega
  have kb:(i:Int)<(n:Int):=by omega
  obtain ⟨x,hx⟩:∃ x,p.modes[i]? = U x:=⟨_,gE (by rw [HN.out];exact hlt)⟩
  obtain ⟨y,hy⟩:∃ y,q.modes[i]? = U y:=⟨_,gE (by rw [HM.out];exact hlt)⟩
  obtain ⟨ab,ao,rfl⟩:=z9f HA.out (k:=i) (by rw [HN.out];exact hlt)
  obtain ⟨bb,bo,rfl⟩:=z9f HB.out (k:=i) (by rw [HM.out];exact hlt)
  have aN:=hd_ hlt;have Hx:=hd_ hx;have Hy:=hd_ hy
  have iv:R (x=y→∀ j,j<i+1→p.modes[j]? = q.modes[j]?):=fun e j hj=>by
   rcases Nat.lt_succ_iff_lt_or_eq.1 hj with h|h
   ·exact HS.out j h
   ·rw [h,Hx.out,Hy.out,e]
  have gm:R (x≠y→X (p.modes=q.modes)=Y):=fun hne=>decide_eq_false (fun e=>by
   have:=Hx.out;rw [e,Hy.out] at this;injection this with this;exact hne this.symm)
  have c1:=z1a aq.out (z3m HA.out hx);have c2:=z1a aq.out (z3m HB.out hy)
  clear hlt hx hy hi
  go_upto_region 6 with fail
  by_cases hxy:x=y
  ·subst hxy
   go_quiet (fail)
   have K:R (O w.heap.size w (wr.drewN nq)):=z1c aq.out nq
   have KX:R (CB (wr.drewN nq) w.heap.size 31 (p.cells (Q (U ⟨ab,ao,H⟩) n ca))):=HXr.out
   have KY:R (CB (wr.drewN nq) (w.heap.size+1) 31 (q.cells (Q (U ⟨bb,bo,H⟩) n cb))):=HYr.out
   clear c1 c2 aq HXr HYr p2 q2
   generalize wr.drewN nq=wA at *
   go_wp2_with fail
   go_roundw
   case rel=>exact ⟨i+1,by go_num,aN.out,iv.out rfl,KX.out,KY.out,K.out⟩
   case measure=>simp [z1f];have:=aN.out;omega
  ·have u1:X (x=y)=Y:=decide_eq_false hxy
   have u2:(x == y)=Y:=beq_false_of_ne hxy
   have HE:=hd_ (gm.out hxy)
   clear hxy
   go_quiet (fail)
   have K:R (O w.heap.size w (wr.drewN nq)):=z1c aq.out nq
   clear c1 c2 aq p2 q2
   generalize wr.drewN nq=wA at *
   go_wp2_with fail
   go_ret
   exact ⟨by rw [HSP3.out,HE.out];rfl,K.out⟩
theorem j5e (p q:Stn) (va vb:L) (w:M) (ha:z4g nuK w.heap.size w p.vols va) (hb:z4g nuK w.heap.size w q.vols vb) :
 D prog 50 #[T (p.cells va).toArray,T (q.cells vb).toArray] w fun e w'=>e=G (F (X (p=q)))∧O w.heap.size w w':=by
 have ax:O w.heap.size w ((w.alloc (Z (p.cells va).toArray 37)).alloc (Z (q.cells vb).toArray 37)):=(z4b (w:=w) (Z (p.cells va).toArray 37)).alloc (z4b (w:=w) (Z (p.cells va).toArray 37)).size _
 have hcx:CB ((w.alloc (Z (p.cells va).toArray 37)).alloc (Z (q.cells vb).toArray 37)) w.heap.size 37 (p.cells va):=(z3a w _ _ _ rfl).alloc _
 have hcy:CB ((w.alloc (Z (p.cells va).toArray 37)).alloc (Z (q.cells vb).toArray 37)) (w.heap.size+1) 37 (q.cells vb):=by
  have:=z3a (w.alloc (Z (p.cells va).toArray 37)) (Z (q.cells vb).toArray 37) 37 (q.cells vb) rfl
  rwa [sA] at this
 have az:=hd_ ax
 have jy:=hd_ (x3t p.vols q.vols va vb _ (ha.ext ax) (hb.ext ax))
 have dL:=hd_ (y2y p q)
 have p0:=hcx.cell 0;have p1:=hcx.cell 1;have p2:=hcx.cell 2;have q0:=hcy.cell 0;have q1:=hcy.cell 1;have q2:=hcy.cell 2
 change _=U va at p0;change _=U (J I p.sh) at p1;change _=U (J I p.fa) at p2;change _=U vb at q0;change _=U (J I q.sh) at q1;change _=U (J I q.fa) at q2
 obtain ⟨b1,af⟩:∃ b,X (p.sh=q.sh)=b:=⟨_,rfl⟩
 obtain ⟨b2,aj⟩:∃ b,X (p.fa=q.fa)=b:=⟨_,rfl⟩
 obtain ⟨b3,aB⟩:∃ b,X (p.vols=q.vols)=b:=⟨_,rfl⟩
 rw [af,aj,aB] at dL
 rw [aB] at jy
 have u1:(p.sh == q.sh)=b1:=by rw [← af];rfl
 have u2:(p.fa == q.fa)=b2:=by rw [← aj];rfl
 clear ha hb ax hcx hcy af aj aB
 go_enter func50,ntmps50
 go_upto_region 1 with fail
 change Code.wp _ _ _ _ ((w.alloc (Z (p.cells va).toArray 37)).alloc (Z (q.cells vb).toArray 37))
 generalize (w.alloc (Z (p.cells va).toArray 37)).alloc (Z (q.cells vb).toArray 37)=w0 at *
 go_wp2_with (go_at_call 110;refine jy.out.mono ?_;(rintro e w9 ⟨rfl,hb⟩;have kg:=hd_ (z0a az.out hb);clear hb))
 ·(try clear u1 u2);(try simp only [Bool.not_eq_true] at *);subst_vars;go_ret;exact ⟨by first|(rw [dL.out];rfl)|rfl,by first|exact kg.out|exact az.out⟩
 all_goals (try clear u1 u2;try simp only [Bool.not_eq_true] at *;subst_vars;go_ret;exact ⟨by first|(rw [dL.out];rfl)|rfl,by first|exact kg.out|exact az.out⟩)
theorem x4t (a b:List Nod) (va vb:L) (w:M) (ha:z9j w a va) (hb:z9j w b vb) :
 D prog 48 #[va,vb] w fun e w'=>e=G (F (X (a=b)))∧O w.heap.size w w':=by
 obtain ⟨oa,ca,rfl,la⟩:=ha.shape
 obtain ⟨ob,cb,rfl,lb⟩:=hb.shape
 have HA:=hd_ ha;have HB:=hd_ hb
 obtain ⟨n,hn⟩:∃ n,a.length=n:=⟨_,rfl⟩
 obtain ⟨m,hm⟩:∃ m,b.length=m:=⟨_,rfl⟩
 rw [hn] at HA la;rw [hm] at HB lb
 have l1:(n:Int)≤9223372036854775807:=by omega
 have l2:(m:Int)≤9223372036854775807:=by omega
 rw [hn,hm]
 have HN:=hd_ hn;have HM:=hd_ hm
 clear ha hb hn hm la lb
 go_enter func48,ntmps48
 by_cases hl:n=m
 case neg =>
  have t1:X ((n:Int)=(m:Int))=Y:=decide_eq_false (by omega)
  have t2:((n:Int) == (m:Int))=Y:=beq_false_of_ne (by omega)
  have t3:X (n=m)=Y:=decide_eq_false hl
  have hne:X (a=b)=Y:=decide_eq_false (fun e=>hl (by rw [← HN.out,← HM.out,e]))
  have HE:=hd_ hne
  clear hne hl
  go_wp2_with fail
  go_ret
  exact ⟨by rw [HE.out];rfl,Below.refl _ _⟩
 case pos =>
 subst hl
 go_wp2_with fail
 go_loopw [5] (fun vi wr=>x0t a b n w vi wr) (fun vi _=>n - z1f vi)
 case atStart=>exact ⟨0,rfl,by omega,fun j h=>by omega,Below.refl _ _⟩
 case round =>
  obtain ⟨i,rfl,hi,hs,hb⟩:=hrel
  have HS:=hd_ hs;have aq:=hd_ hb
  clear hs hb
  by_cases hlt:i<n
  case neg =>
   obtain rfl:i=n:=by omega
   have tj:X ((i:Int)<(i:Int))=Y:=by simp
   have HE:R (X (a=b)=E):=decide_eq_true (z0k (by rw [HN.out,HM.out]) (fun j hj=>HS.out j (by rw [← HN.out];exact hj)))
   go_wp2_with fail
   go_ret
   exact ⟨by rw [HE.out];rfl,aq.out⟩
  case pos =>
  have tj:X ((i:Int)<(n:Int))=E:=by simp;omega
  have eu:X (i<n)=E:=by simp;omega
  have kb:(i:Int)<(n:Int):=by omega
  obtain ⟨x,hx⟩:∃ x,a[i]? = U x:=⟨_,gE (by rw [HN.out];exact hlt)⟩
  obtain ⟨y,hy⟩:∃ y,b[i]? = U y:=⟨_,gE (by rw [HM.out];exact hlt)⟩
  obtain ⟨ab,ao,r,rfl,hab,aC,hr⟩:=HA.out.el hx
  obtain ⟨bb,bo,s,rfl,hbb,hem,hs⟩:=HB.out.el hy
  have aN:=hd_ hlt;have Hx:=hd_ hx;have Hy:=hd_ hy
  have iv:R (x=y→∀ j,j<i+1→a[j]? = b[j]?):=fun e j hj=>by
   rcases Nat.lt_succ_iff_lt_or_eq.1 hj with h|h
   ·exact HS.out j h
   ·rw [h,Hx.out,Hy.out,e]
  have gm:R (x≠y→X (a=b)=Y):=fun hne=>decide_eq_false (fun e=>by
   have:=Hx.out;rw [e,Hy.out] at this;injection this with this;exact hne this.symm)
  have hsp:=y9x x y
  have Hr:=hd_ hr.cuts;have Hs:=hd_ hs.cuts
  have e1:=hr.par;have e2:=hr.frm;have e3:=hs.par;have e4:=hs.frm
  rw [← e1,← e2,← e3,← e4] at hsp
  obtain ⟨rp,rf,ra,rn,rc⟩:=r
  obtain ⟨sp,sf,sa,sn,sc⟩:=s
  have hrn:rn=x.cuts.length:=by
   obtain ⟨_,_,he,_⟩:=hr.cuts.shape
   injection he with _ e2 _
  have hsn:sn=y.cuts.length:=by
   obtain ⟨_,_,he,_⟩:=hs.cuts.shape
   injection he with _ e2 _
  have hrm:(rn:Int)≤9223372036854775807:=by
   obtain ⟨_,_,_,hm⟩:=hr.cuts.shape
   omega
  have hsm:(sn:Int)≤9223372036854775807:=by
   obtain ⟨_,_,_,hm⟩:=hs.cuts.shape
   omega
  change X (x=y)=(X (rp=sp)&&X (rf=sf)&&X (x.cuts=y.cuts)) at hsp
  change R (z4g cuK w.heap.size w x.cuts (Q ra rn rc)) at Hr
  change R (z4g cuK w.heap.size w y.cuts (Q sa sn sc)) at Hs
  have dL:=hd_ hsp;have Hrn:=hd_ hrn;have Hsn:=hd_ hsn
  have C0:R (wr.cell? ⟨ab,ao+i * 3,H⟩=U (J I rp)):=z1a aq.out (aC 0 _ rfl)
  have C1:R (wr.cell? ⟨ab,ao+i * 3+1,H⟩=U (J I rf)):=z1a aq.out (aC 1 _ rfl)
  have C2:R (wr.cell? ⟨ab,ao+i * 3+2,H⟩=U (Q ra rn rc)):=z1a aq.out (aC 2 _ rfl)
  have D0:R (wr.cell? ⟨bb,bo+i * 3,H⟩=U (J I sp)):=z1a aq.out (hem 0 _ rfl)
  have D1:R (wr.cell? ⟨bb,bo+i * 3+1,H⟩=U (J I sf)):=z1a aq.out (hem 1 _ rfl)
  have D2:R (wr.cell? ⟨bb,bo+i * 3+2,H⟩=U (Q sa sn sc)):=z1a aq.out (hem 2 _ rfl)
  obtain ⟨c1,cE⟩:∃ c,X (rp=sp) = !c:=⟨!X (rp=sp),by simp⟩
  obtain ⟨c2,bY⟩:∃ c,X (rf=sf) = !c:=⟨!X (rf=sf),by simp⟩
  obtain ⟨c3,ev⟩:∃ c,X (rn=sn) = !c:=⟨!X (rn=sn),by simp⟩
  have u1:(rp == sp) = !c1:=by rw [← cE];rfl
  have v1:(rp != sp)=c1:=by unfold bne;rw [u1];simp
  have u2:(rf == sf) = !c2:=by rw [← bY];rfl
  have v2:(rf != sf)=c2:=by unfold bne;rw [u2];simp
  have u3:((rn:Int) == (sn:Int)) = !c3:=by rw [← ev];by_cases h:rn=sn <;> simp [h] <;> omega
  have v3:((rn:Int) != (sn:Int))=c3:=by unfold bne;rw [u3];simp
  have bC:R (c1=E→X (a=b)=Y):=fun h=>gm.out (fun e=>by rw [decide_eq_true e,cE,h] at hsp;simp at hsp)
  have ew:R (c2=E→X (a=b)=Y):=fun h=>gm.out (fun e=>by rw [decide_eq_true e,bY,h] at hsp;simp at hsp)
  have bu:R (c3=E→X (a=b)=Y):=fun h=>gm.out (fun e=>by
   rw [h] at ev
   have:rn=sn:=by rw [hrn,hsn,e]
   rw [decide_eq_true this] at ev;cases ev)
  have fe:R (c1=Y→c2=Y→x.cuts=y.cuts→x=y):=fun h h2 h3=>by rw [cE,bY,h,h2,decide_eq_true h3] at hsp;simpa using hsp
  have HS5:R (x.cuts≠y.cuts→X (a=b)=Y):=fun h=>gm.out (fun e=>h (by rw [e]))
  have ko:=hd_ ev
  clear hlt hx hy hi hab aC hr hbb hem hs hsp e1 e2 e3 e4 hrn hsn cE bY ev
  go_upto_region 6 with fail
  have hbd:R (O wr.heap.size wr wr.drew):=(Below.refl wr.heap.size wr).drew
  refine wp_region_held_drew (S:=fun w'=>O wr.heap.size wr w') (by kernel_rfl) hbd.out (fun hHeld=>?_)
  have iW:=hd_ aq.out.drew
  have aV:=hbd
  generalize wr.drew=wd at *
  refine tkH 18 0 ?_
  refine tkH 19 1 ?_
  refine tkH 20 2 ?_
  refine tkH 21 3 ?_
  refine tkH 22 4 ?_ (hy:=fun wS aa=>by have e0:=z1a aa C0.out;have e1:=z1a aa C1.out;have e2:=z1a aa C2.out;have f0:=z1a aa D0.out;have f1:=z1a aa D1.out;have f2:=z1a aa D2.out;go_simp;first|done|with_reducible rfl)
  refine tkH 23 5 ?_
  refine tkH 24 6 ?_
  refine tkH 25 7 ?_
  refine tkH 26 8 ?_
  refine tkH 27 9 ?_ (hy:=fun wS aa=>by have e0:=z1a aa C0.out;have e1:=z1a aa C1.out;have e2:=z1a aa C2.out;have f0:=z1a aa D0.out;have f1:=z1a aa D1.out;have f2:=z1a aa D2.out;go_simp;first|done|with_reducible rfl)
  refine tkH 28 10 ?_
  refine tkH 29 11 ?_
  cases c1
  case true =>
   refine z0n 30 12 ?_
   refine z0n 31 13 ?_
   refine z0n 32 14 ?_
   refine z0n 33 15 ?_
   refine z0n 34 16 ?_
   refine z0n 35 17 ?_
   refine z0n 36 18 ?_
   refine z0n 37 19 ?_
   refine z0n 38 20 ?_
   refine z0n 39 21 ?_
   refine z0n 40 22 ?_
   refine tkH 41 23 ?_
   refine tkH 42 24 ?_
   refine z0n 43 25 ?_
   refine z0n 44 26 ?_
   refine z0n 45 27 ?_
   refine z0n 46 28 ?_
   refine z0n 47 29 ?_
   refine z0n 48 30 ?_
   refine z0n 49 31 ?_
   refine z0n 50 32 ?_
   refine z0n 51 33 ?_
   refine z0n 52 34 ?_
   refine z0n 53 35 ?_
   refine z0n 54 36 ?_
   refine z0n 55 37 ?_
   refine tkH 56 38 ?_
   refine wpAnyH_done (by kernel_rfl) ?_ _
   go_wp2_with fail
   go_ret
   have hE:X (a=b)=Y:=by first|exact bC.out rfl|exact bC.out trivial|exact bC.out
   exact ⟨by rw [hE];rfl,iW.out⟩
  case false =>
  refine tkH 30 12 ?_
  refine tkH 31 13 ?_
  refine tkH 32 14 ?_
  refine tkH 33 15 ?_
  refine tkH 34 16 ?_ (hy:=fun wS aa=>by have e0:=z1a aa C0.out;have e1:=z1a aa C1.out;have e2:=z1a aa C2.out;have f0:=z1a aa D0.out;have f1:=z1a aa D1.out;have f2:=z1a aa D2.out;go_simp;first|done|with_reducible rfl)
  refine tkH 35 17 ?_
  refine tkH 36 18 ?_
  refine tkH 37 19 ?_
  refine tkH 38 20 ?_
  refine tkH 39 21 ?_ (hy:=fun wS aa=>by have e0:=z1a aa C0.out;have e1:=z1a aa C1.out;have e2:=z1a aa C2.out;have f0:=z1a aa D0.out;have f1:=z1a aa D1.out;have f2:=z1a aa D2.out;go_simp;first|done|with_reducible rfl)
  refine tkH 40 22 ?_
  refine tkH 41 23 ?_
  refine tkH 42 24 ?_
  cases c2
  case true =>
   refine z0n 43 25 ?_
   refine z0n 44 26 ?_
   refine z0n 45 27 ?_
   refine z0n 46 28 ?_
   refine z0n 47 29 ?_
   refine z0n 48 30 ?_
   refine z0n 49 31 ?_
   refine z0n 50 32 ?_
   refine z0n 51 33 ?_
   refine z0n 52 34 ?_
   refine z0n 53 35 ?_
   refine z0n 54 36 ?_
   refine z0n 55 37 ?_
   refine tkH 56 38 ?_
   refine wpAnyH_done (by kernel_rfl) ?_ _
   go_wp2_with fail
   go_ret
   have hE:X (a=b)=Y:=by first|exact ew.out rfl|exact ew.out trivial|exact ew.out
   exact ⟨by rw [hE];rfl,iW.out⟩
  case false =>
  refine tkH 43 25 ?_
  refine tkH 44 26 ?_
  refine tkH 45 27 ?_
  refine tkH 46 28 ?_
  refine tkH 47 29 ?_ (hy:=fun wS aa=>by have e0:=z1a aa C0.out;have e1:=z1a aa C1.out;have e2:=z1a aa C2.out;have f0:=z1a aa D0.out;have f1:=z1a aa D1.out;have f2:=z1a aa D2.out;go_simp;first|done|with_reducible rfl)
  refine tkH 48 30 ?_
  refine tkH 49 31 ?_
  refine tkH 50 32 ?_
  refine tkH 51 33 ?_
  refine tkH 52 34 ?_
  refine tkH 53 35 ?_ (hy:=fun wS aa=>by have e0:=z1a aa C0.out;have e1:=z1a aa C1.out;have e2:=z1a aa C2.out;have f0:=z1a aa D0.out;have f1:=z1a aa D1.out;have f2:=z1a aa D2.out;go_simp;first|done|with_reducible rfl)
  refine tkH 54 36 ?_
  refine tkH 55 37 ?_
  refine tkH 56 38 ?_
  cases c3
  case true =>
   refine wpAnyH_done (by kernel_rfl) ?_ _
   go_wp2_with fail
   go_ret
   have hE:X (a=b)=Y:=by first|exact bu.out rfl|exact bu.out trivial|exact bu.out
   exact ⟨by rw [hE];rfl,iW.out⟩
  case false =>
  have hnm:rn=sn:=by simpa using ko.out
  subst hnm
  refine wpAnyH_done (by kernel_rfl) ?_ _
  have c2':=z1a aV.out C2.out;have d2':=z1a aV.out D2.out
  go_wp2_with fail
  clear u1 v1 u2 v2 u3 v3
  have aP:=hd_ c2';have jr:=hd_ d2'
  clear C0 C1 C2 D0 D1 D2 c2' d2' hbd aq aV bC ew bu ko
  generalize wr=wr0 at *
  go_loopw [6] (fun vi wr=>x0t x.cuts y.cuts rn wd vi wr) (fun vi _=>rn - z1f vi)
  case atStart=>exact ⟨0,rfl,by omega,fun j h=>by omega,Below.refl _ _⟩
  case round =>
   obtain ⟨k,rfl,hk,hs,hb⟩:=hrel
   have HQ:=hd_ hs;have eX:=hd_ hb
   have e2:=z1a hb aP.out;have f2:=z1a hb jr.out
   clear hs hb
   by_cases hkn:k<rn
   case neg =>
    obtain rfl:k=rn:=by omega
    have tk:X ((k:Int)<(k:Int))=Y:=by simp
    have HE:R (x.cuts=y.cuts):=z0k (by rw [← Hrn.out,← Hsn.out]) (fun j hj=>HQ.out j (by rw [Hrn.out];exact hj))
    go_wp2_with fail
    go_roundw
    case rel=>exact ⟨i+1,by go_num,aN.out,iv.out (by first|exact fe.out rfl rfl HE.out|exact fe.out trivial trivial HE.out|exact fe.out HE.out),z0a iW.out eX.out⟩
    case measure=>simp [z1f];have:=aN.out;omega
   case pos =>
   have tk:X ((k:Int)<(rn:Int))=E:=by simp;omega
   have kQ:X (k<rn)=E:=by simp;omega
   have kk:(k:Int)<(rn:Int):=by omega
   obtain ⟨z,hz⟩:∃ z,x.cuts[k]? = U z:=⟨_,gE (by rw [← Hrn.out];exact hkn)⟩
   obtain ⟨q,hq⟩:∃ q,y.cuts[k]? = U q:=⟨_,gE (by rw [← Hsn.out];exact hkn)⟩
   obtain ⟨xb,xo,rfl⟩:=z9f Hr.out (k:=k) (by rw [← Hrn.out];exact hkn)
   obtain ⟨yb,yo,rfl⟩:=z9f Hs.out (k:=k) (by rw [← Hsn.out];exact hkn)
   have mK:=hd_ hkn;have Hz:=hd_ hz;have Hq:=hd_ hq
   have HMX:R (z=q→∀ j,j<k+1→x.cuts[j]? = y.cuts[j]?):=fun e j hj=>by
    rcases Nat.lt_succ_iff_lt_or_eq.1 hj with h|h
    ·exact HQ.out j h
    ·rw [h,Hz.out,Hq.out,e]
   have HME:R (z≠q→X (a=b)=Y):=fun hne=>HS5.out (fun e=>by
    have:=Hz.out;rw [e,Hq.out] at this;injection this with this;exact hne this.symm)
   go_upto_region 11 with fail
   have K:=hd_ eX.out.drew
   have R1:=hd_ (z2m (z0w Hr.out hz) (z0a iW.out K.out));have R2:=hd_ (z2m (z0w Hs.out hq) (z0a iW.out K.out))
   have R3:=hd_ (z1a K.out aP.out);have R4:=hd_ (z1a K.out jr.out)
   clear hkn hz hq hk e2 f2
   refine wp_region_held_drew (S:=fun w'=>w'.rangeAt xb (xo+k * 5) z.cells∧w'.rangeAt yb (yo+k * 5) q.cells∧w'.cell? ⟨ab,ao+i * 3+2,H⟩=U (Q (U ⟨xb,xo,H⟩) rn rc)∧w'.cell? ⟨bb,bo+i * 3+2,H⟩=U (Q (U ⟨yb,yo,H⟩) rn sc)) (by kernel_rfl) ⟨R1.out,R2.out,R3.out,R4.out⟩ (fun hHeld=>?_)
   clear R1 R2 R3 R4 eX
   generalize wr.drew=wA at *
   refine tkH 67 0 ?_
   refine tkH 68 1 ?_
   refine tkH 69 2 ?_
   refine tkH 70 3 ?_
   refine tkH 71 4 ?_
   refine tkH 72 5 ?_
   refine tkH 73 6 ?_
   refine x1m 74 7 rfl (T z.cells.toArray) (yieldsIf_load_mid (by rfl) 88 _ rfl xb (xo+k * 5) rfl z.cells _ (fun wS aa=>by obtain ⟨s1,s2,s3,s4⟩:=aa;exact s1) underlying88 rfl (by kernel_rfl)) ?_
   refine tkH 75 8 ?_
   refine tkH 76 9 ?_
   refine tkH 77 10 ?_
   refine tkH 78 11 ?_
   refine tkH 79 12 ?_
   refine tkH 80 13 ?_
   refine tkH 81 14 ?_
   refine x1m 82 15 rfl (T q.cells.toArray) (yieldsIf_load_mid (by rfl) 88 _ rfl yb (yo+k * 5) rfl q.cells _ (fun wS aa=>by obtain ⟨s1,s2,s3,s4⟩:=aa;exact s2) underlying88 rfl (by kernel_rfl)) ?_
   have hgd:=fun (a1 a2:Operand) (W:M)=>j4y .neq a1 a2 z q W
   by_cases hzq:z=q
   ·have heq:∀ W:M,(Op.equalIn 10000 88 (T z.cells.toArray) (T q.cells.toArray)).run prog W=.ok E W:=fun W=>by rw [x4o,decide_eq_true hzq]
    have HX:=hd_ (HMX.out hzq)
    clear hzq
    refine tkH 83 16 ?_
    refine wpAnyH_done (by kernel_rfl) ?_ _
    go_wp2_with fail
    go_roundw
    case rel=>exact ⟨k+1,by go_num,mK.out,HX.out,K.out⟩
    case measure=>simp [z1f];have:=mK.out;omega
   ·have heq:∀ W:M,(Op.equalIn 10000 88 (T z.cells.toArray) (T q.cells.toArray)).run prog W=.ok Y W:=fun W=>by rw [x4o,decide_eq_false hzq]
    have HE:=hd_ (HME.out hzq)
    clear hzq
    refine tkH 83 16 ?_
    refine wpAnyH_done (by kernel_rfl) ?_ _
    go_wp2_with fail
    go_ret
    exact ⟨by rw [HE.out];rfl,z0a iW.out K.out⟩
theorem y6y (x y:Inp) (s t:Slc) (w:M) (hx:InpR w x s) (hy:InpR w y t) :
 D prog 18 #[x.v s,y.v t] w fun e w'=>e=G (F (X (x=y)))∧O w.heap.size w w':=by
 have ax:O w.heap.size w ((w.alloc (Z (x.cells s).toArray 41)).alloc (Z (y.cells t).toArray 41)):=(z4b (w:=w) (Z (x.cells s).toArray 41)).alloc (z4b (w:=w) (Z (x.cells s).toArray 41)).size _
 have hcx:CB ((w.alloc (Z (x.cells s).toArray 41)).alloc (Z (y.cells t).toArray 41)) w.heap.size 41 (x.cells s):=(z3a w _ _ _ rfl).alloc _
 have hcy:CB ((w.alloc (Z (x.cells s).toArray 41)).alloc (Z (y.cells t).toArray 41)) (w.heap.size+1) 41 (y.cells t):=by
  have:=z3a (w.alloc (Z (x.cells s).toArray 41)) (Z (y.cells t).toArray 41) 41 (y.cells t) rfl
  rwa [sA] at this
 have az:=hd_ ax;have HX:=hd_ hcx;have HY:=hd_ hcy;have aY:=hd_ hx;have gn:=hd_ hy
 have dL:=hd_ (y3y x y)
 clear ax hcx hcy hx hy
 change D prog 18 #[T (x.cells s).toArray,T (y.cells t).toArray] w _
 go_enter func18,ntmps18
 obtain ⟨b1,af⟩:∃ b,(x.mi == y.mi&&x.ce == y.ce&&x.no == y.no)=b:=⟨_,rfl⟩
 obtain ⟨b2,aj⟩:∃ b,(X (x.kind=y.kind))=b:=⟨_,rfl⟩
 obtain ⟨b3,aB⟩:∃ b,(X (x.text=y.text))=b:=⟨_,rfl⟩
 obtain ⟨b4,cO⟩:∃ b,(j5x x.rep y.rep)=b:=⟨_,rfl⟩
 obtain ⟨b5,bp⟩:∃ b,(x.sts.st == y.sts.st&&x.sts.frm == y.sts.frm&&x.sts.wk == y.sts.wk)=b:=⟨_,rfl⟩
 obtain ⟨b6,dC⟩:∃ b,(X (x.n=y.n))=b:=⟨_,rfl⟩
 obtain ⟨b7,ag⟩:∃ b,(x.sr == y.sr&&x.ss == y.ss)=b:=⟨_,rfl⟩
 obtain ⟨b8,kh⟩:∃ b,(X (x.flt=y.flt))=b:=⟨_,rfl⟩
 obtain ⟨b9,ki⟩:∃ b,(X (x.tree=y.tree))=b:=⟨_,rfl⟩
 obtain ⟨b10,bL⟩:∃ b,(X (x.chg=y.chg))=b:=⟨_,rfl⟩
 obtain ⟨b11,dz⟩:∃ b,(X (x.stn=y.stn))=b:=⟨_,rfl⟩
 rw [af,aj,aB,cO,bp,dC,ag,kh,ki,bL,dz] at dL
 have qb1:∀ W:M,(Op.equalIn 10000 23 (T #[J I x.mi,J I x.ce,J I x.no]) (T #[J I y.mi,J I y.ce,J I y.no])).run prog W=.ok b1 W:=fun W=>by rw [← af];exact x2o x.mi x.ce x.no y.mi y.ce y.no W
 have gb1:∀ (a1 a2:Operand) (W:M),(eqGuard .eql 23 a1 a2 (T #[J I x.mi,J I x.ce,J I x.no]) (T #[J I y.mi,J I y.ce,J I y.no])).run prog W=.ok () W:=fun a1 a2 W=>x3o .eql a1 a2 x.mi x.ce x.no y.mi y.ce y.no W
 have qb4:∀ W:M,(Op.equalIn 10000 33 (T #[J I x.rep.st,J I x.rep.no,J I x.rep.mi,J I x.rep.ar,C x.rep.cl,J I x.rep.vo]) (T #[J I y.rep.st,J I y.rep.no,J I y.rep.mi,J I y.rep.ar,C y.rep.cl,J I y.rep.vo])).run prog W=.ok b4 W:=fun W=>by rw [← cO];exact k5o x.rep y.rep W
 have gb4:∀ (a1 a2:Operand) (W:M),(eqGuard .eql 33 a1 a2 (T #[J I x.rep.st,J I x.rep.no,J I x.rep.mi,J I x.rep.ar,C x.rep.cl,J I x.rep.vo]) (T #[J I y.rep.st,J I y.rep.no,J I y.rep.mi,J I y.rep.ar,C y.rep.cl,J I y.rep.vo])).run prog W=.ok () W:=fun a1 a2 W=>k6o .eql a1 a2 x.rep y.rep W
 have qb5:∀ W:M,(Op.equalIn 10000 35 (T #[J I x.sts.st,J I x.sts.frm,F x.sts.wk]) (T #[J I y.sts.st,J I y.sts.frm,F y.sts.wk])).run prog W=.ok b5 W:=fun W=>by rw [← bp];exact y7x x.sts.st x.sts.frm x.sts.wk y.sts.st y.sts.frm y.sts.wk W
 have gb5:∀ (a1 a2:Operand) (W:M),(eqGuard .eql 35 a1 a2 (T #[J I x.sts.st,J I x.sts.frm,F x.sts.wk]) (T #[J I y.sts.st,J I y.sts.frm,F y.sts.wk])).run prog W=.ok () W:=fun a1 a2 W=>y8x .eql a1 a2 x.sts.st x.sts.frm x.sts.wk y.sts.st y.sts.frm y.sts.wk W
 have qb7:∀ W:M,(Op.equalIn 10000 39 (T #[J I x.sr,J I x.ss]) (T #[J I y.sr,J I y.ss])).run prog W=.ok b7 W:=fun W=>by rw [← ag];exact j2y x.sr x.ss y.sr y.ss W
 have gb7:∀ (a1 a2:Operand) (W:M),(eqGuard .eql 39 a1 a2 (T #[J I x.sr,J I x.ss]) (T #[J I y.sr,J I y.ss])).run prog W=.ok () W:=fun a1 a2 W=>j3y .eql a1 a2 x.sr x.ss y.sr y.ss W
 have u2:(x.kind == y.kind)=b2:=by rw [← aj];rfl
 have u3:(x.text.toList == y.text.toList)=b3:=by rw [← aB];exact x5o _ _
 have u6:(x.n == y.n)=b6:=by rw [← dC];rfl
 have HF:R (∀ W,O w.heap.size w W→D prog 47 #[.agg #[.int I x.flt.id,.int I x.flt.air,.int I x.flt.cls,.string x.flt.call,s.ways,.int I x.flt.wf,.int I x.flt.wt,.bool x.flt.can],.agg #[.int I y.flt.id,.int I y.flt.air,.int I y.flt.cls,.string y.flt.call,t.ways,.int I y.flt.wf,.int I y.flt.wt,.bool y.flt.can]] W fun e w'=>e=G (.bool b8)∧O W.heap.size W w'):=fun W hW=>by rw [← kh];exact j3e x.flt y.flt s.ways t.ways W (aY.out.ways.ext hW) (gn.out.ways.ext hW)
 have HT:R (∀ W,O w.heap.size w W→D prog 48 #[s.tree,t.tree] W fun e w'=>e=G (F b9)∧O W.heap.size W w'):=fun W hW=>by rw [← ki];exact x4t x.tree y.tree s.tree t.tree W (aY.out.tree.ext hW) (gn.out.tree.ext hW)
 have HC:R (∀ W,O w.heap.size w W→D prog 49 #[T #[J I x.chg.frm,J I x.chg.cfg,s.modes],T #[J I y.chg.frm,J I y.chg.cfg,t.modes]] W fun e w'=>e=G (F b10)∧O W.heap.size W w'):=fun W hW=>by rw [← bL];exact j4e x.chg y.chg s.modes t.modes W (aY.out.modes.ext hW) (gn.out.modes.ext hW)
 have HS:R (∀ W,O w.heap.size w W→D prog 50 #[T #[s.vols,J I x.stn.sh,J I x.stn.fa],T #[t.vols,J I y.stn.sh,J I y.stn.fa]] W fun e w'=>e=G (F b11)∧O W.heap.size W w'):=fun W hW=>by rw [← dz];exact j5e x.stn y.stn s.vols t.vols W (aY.out.vols.ext hW) (gn.out.vols.ext hW)
 have c0:=HX.out.cv 0 (J I x.mi)
 have d0:=HY.out.cv 0 (J I y.mi)
 have c1:=HX.out.cv 1 (J I x.ce)
 have d1:=HY.out.cv 1 (J I y.ce)
 have c2:=HX.out.cv 2 (J I x.no)
 have d2:=HY.out.cv 2 (J I y.no)
 have c3:=HX.out.cv 3 (J I x.kind)
 have d3:=HY.out.cv 3 (J I y.kind)
 have c4:=HX.out.cv 4 (C x.text)
 have d4:=HY.out.cv 4 (C y.text)
 have c17:=HX.out.cv 17 (J I x.rep.st)
 have d17:=HY.out.cv 17 (J I y.rep.st)
 have c18:=HX.out.cv 18 (J I x.rep.no)
 have d18:=HY.out.cv 18 (J I y.rep.no)
 have c19:=HX.out.cv 19 (J I x.rep.mi)
 have d19:=HY.out.cv 19 (J I y.rep.mi)
 have c20:=HX.out.cv 20 (J I x.rep.ar)
 have cg:=HY.out.cv 20 (J I y.rep.ar)
 have c21:=HX.out.cv 21 (C x.rep.cl)
 have ch:=HY.out.cv 21 (C y.rep.cl)
 have c22:=HX.out.cv 22 (J I x.rep.vo)
 have cj:=HY.out.cv 22 (J I y.rep.vo)
 have c23:=HX.out.cv 23 (J I x.sts.st)
 have cA:=HY.out.cv 23 (J I y.sts.st)
 have c24:=HX.out.cv 24 (J I x.sts.frm)
 have d24:=HY.out.cv 24 (J I y.sts.frm)
 have c25:=HX.out.cv 25 (F x.sts.wk)
 have d25:=HY.out.cv 25 (F y.sts.wk)
 have c26:=HX.out.cv 26 (J I x.n)
 have d26:=HY.out.cv 26 (J I y.n)
 have c30:=HX.out.cv 30 (J I x.sr)
 have eE:=HY.out.cv 30 (J I y.sr)
 have c31:=HX.out.cv 31 (J I x.ss)
 have eF:=HY.out.cv 31 (J I y.ss)
 have c5:=HX.out.cv 5 (J I x.flt.id)
 have d5:=HY.out.cv 5 (J I y.flt.id)
 have c6:=HX.out.cv 6 (J I x.flt.air)
 have d6:=HY.out.cv 6 (J I y.flt.air)
 have c7:=HX.out.cv 7 (J I x.flt.cls)
 have d7:=HY.out.cv 7 (J I y.flt.cls)
 have c8:=HX.out.cv 8 (C x.flt.call)
 have d8:=HY.out.cv 8 (C y.flt.call)
 have c9:=HX.out.cv 9 s.ways
 have d9:=HY.out.cv 9 t.ways
 have c10:=HX.out.cv 10 (.int I x.flt.wf)
 have d10:=HY.out.cv 10 (.int I y.flt.wf)
 have c11:=HX.out.cv 11 (J I x.flt.wt)
 have d11:=HY.out.cv 11 (J I y.flt.wt)
 have c12:=HX.out.cv 12 (F x.flt.can)
 have d12:=HY.out.cv 12 (F y.flt.can)
 clear af aj aB cO bp dC ag kh ki bL dz aY gn
 go_wp2_with (first
  | (go_at_call 47;refine (HF.out _ az.out).mono ?_;go_loud (
   rintro e w2 ⟨rfl,hb⟩
   have au:=hd_ (z0a az.out hb);have HX2:=hd_ (HX.out.ext hb);have lX:=hd_ (HY.out.ext hb)
   clear hb c0 d0 c1 d1 c2 d2 c3 d3 c4 d4 c17 d17 c18 d18 c19 d19 c20 cg c21 ch c22 cj c23 cA c24 d24 c25 d25 c26 d26 c30 eE c31 eF c5 d5 c6 d6 c7 d7 c8 d8 c9 d9 c10 d10 c11 d11 c12 d12
   have kj:=HX2.out.cv 13 s.tree
   have d13:=lX.out.cv 13 t.tree))
  | (go_at_call 48;refine (HT.out _ au.out).mono ?_;go_loud (
   rintro e w3 ⟨rfl,hb⟩
   have aA:=hd_ (z0a au.out hb);have kl:=hd_ (HX2.out.ext hb);have km:=hd_ (lX.out.ext hb)
   clear hb kj d13
   have c14:=kl.out.cv 14 (J I x.chg.frm)
   have d14:=km.out.cv 14 (J I y.chg.frm)
   have c15:=kl.out.cv 15 (J I x.chg.cfg)
   have d15:=km.out.cv 15 (J I y.chg.cfg)
   have mx:=kl.out.cv 16 s.modes
   have d16:=km.out.cv 16 t.modes))
  | (go_at_call 49;refine (HC.out _ aA.out).mono ?_;go_loud (
   rintro e w4 ⟨rfl,hb⟩
   have cH:=hd_ (z0a aA.out hb);have kO:=hd_ (kl.out.ext hb);have kP:=hd_ (km.out.ext hb)
   clear hb c14 d14 c15 d15 mx d16
   have c27:=kO.out.cv 27 s.vols
   have d27:=kP.out.cv 27 t.vols
   have c28:=kO.out.cv 28 (J I x.stn.sh)
   have d28:=kP.out.cv 28 (J I y.stn.sh)
   have c29:=kO.out.cv 29 (J I x.stn.fa)
   have d29:=kP.out.cv 29 (J I y.stn.fa)))
  | (go_at_call 50;refine (HS.out _ cH.out).mono ?_;go_loud (
   rintro e w5 ⟨rfl,hb⟩
   have bZ:=hd_ (z0a cH.out hb)
   clear hb)))
 ·(try clear u2 u3 u6 qb1 qb4 qb5 qb7 gb1 gb4 gb5 gb7);(try simp only [Bool.not_eq_true] at *);subst_vars;go_ret;exact ⟨by first|(rw [dL.out];rfl)|rfl,by first|exact bZ.out|exact cH.out|exact aA.out|exact au.out|exact az.out⟩
 all_goals (try clear u2 u3 u6 qb1 qb4 qb5 qb7 gb1 gb4 gb5 gb7;try simp only [Bool.not_eq_true] at *;subst_vars;go_ret;exact ⟨by first|(rw [dL.out];rfl)|rfl,by first|exact bZ.out|exact cH.out|exact aA.out|exact au.out|exact az.out⟩)
def orZ (x y:Int):Int:=if x≠0 then x else y
theorem x7o (y:Int):orZ 0 y=y:=by unfold orZ;rw [if_neg (by simp)]
theorem j5y {x:Int} (y:Int) (h:x≠0):orZ x y=x:=by unfold orZ;rw [if_pos h]
def k1x (a0 a1 a2 b0 b1 b2:Int):Int:=orZ (x1s a0 b0) (orZ (x1s a1 b1) (x1s a2 b2))
theorem k5d (x y z:Int) (g cap:Nat) (w:M) (c0:w.cell? ⟨g,0,H⟩=U (J I x)) (c1:w.cell? ⟨g,1,H⟩=U (J I y)) (c2:w.cell? ⟨g,2,H⟩=U (J I z)) :
 D prog 42 #[Q (U ⟨g,0,H⟩) 3 cap] w fun e w'=>e=G (J I (orZ x (orZ y z)))∧w=w':=by
 by_cases hx:x=0
 ·subst hx
  rw [x7o]
  by_cases hy:y=0
  ·subst hy
   rw [x7o]
   by_cases hz:z=0
   ·subst hz
    go_enter func42,ntmps42
    go_wp2
    refine wp_loop_rounds 4 ?_
    rw [rounds_succ];go_wp2
    rw [rounds_succ];go_wp2
    rw [rounds_succ];go_wp2
    rw [rounds_succ];go_wp2
    go_ret
    exact ⟨rfl,rfl⟩
   ·have t1:(z != 0)=E:=by rw [bne_iff_ne];exact hz
    have t2:¬ z=0:=hz
    clear hz
    go_enter func42,ntmps42
    go_wp2
    refine wp_loop_rounds 4 ?_
    rw [rounds_succ];go_wp2
    rw [rounds_succ];go_wp2
    rw [rounds_succ];go_wp2
    go_ret
    exact ⟨rfl,rfl⟩
  ·have t1:(y != 0)=E:=by rw [bne_iff_ne];exact hy
   have t2:¬ y=0:=hy
   rw [j5y z hy]
   clear hy
   go_enter func42,ntmps42
   go_wp2
   refine wp_loop_rounds 4 ?_
   rw [rounds_succ];go_wp2
   rw [rounds_succ];go_wp2
   go_ret
   exact ⟨rfl,rfl⟩
 ·have t1:(x != 0)=E:=by rw [bne_iff_ne];exact hx
  rw [j5y _ hx]
  go_enter func42,ntmps42
  go_wp2
  refine wp_loop_rounds 4 ?_
  rw [rounds_succ];go_wp2
  go_ret
  exact ⟨rfl,rfl⟩
theorem y7y (a0 a1 a2 b0 b1 b2:Int) (w:M):D prog 16 #[T #[J I a0,J I a1,J I a2],T #[J I b0,J I b1,J I b2]] w fun e w'=>e=G (J I (k1x a0 a1 a2 b0 b1 b2))∧O w.heap.size w w':=by
 have ax:O w.heap.size w ((w.alloc (Z #[J I a0,J I a1,J I a2] 23)).alloc (Z #[J I b0,J I b1,J I b2] 23)):=(z4b (w:=w) _).alloc (z4b (w:=w) (Z #[J I a0,J I a1,J I a2] 23)).size _
 have hca:CB ((w.alloc (Z #[J I a0,J I a1,J I a2] 23)).alloc (Z #[J I b0,J I b1,J I b2] 23)) w.heap.size 23 [J I a0,J I a1,J I a2]:=(z3a w _ _ _ rfl).alloc _
 have aO:CB ((w.alloc (Z #[J I a0,J I a1,J I a2] 23)).alloc (Z #[J I b0,J I b1,J I b2] 23)) (w.heap.size+1) 23 [J I b0,J I b1,J I b2]:=by
  have:=z3a (w.alloc (Z #[J I a0,J I a1,J I a2] 23)) (Z #[J I b0,J I b1,J I b2] 23) 23 [J I b0,J I b1,J I b2] rfl
  rwa [sA] at this
 have HB:=hd_ ax;have HA0:=hd_ hca;have az:=hd_ aO
 obtain ⟨x,hx⟩:∃ x,x1s a0 b0=x:=⟨_,rfl⟩
 obtain ⟨y,hy⟩:∃ x,x1s a1 b1=x:=⟨_,rfl⟩
 obtain ⟨z,hz⟩:∃ x,x1s a2 b2=x:=⟨_,rfl⟩
 have HR:R (k1x a0 a1 a2 b0 b1 b2=orZ x (orZ y z)):=by show _=_;unfold k1x;rw [hx,hy,hz]
 have HX:=hd_ hx;have HY:=hd_ hy;have HZ:=hd_ hz
 clear ax hca aO hx hy hz
 go_enter func16,ntmps16
 go_upto_region 1 with fail
 change Code.wp _ _ _ _ ((w.alloc (Z #[J I a0,J I a1,J I a2] 23)).alloc (Z #[J I b0,J I b1,J I b2] 23))
 generalize ((w.alloc (Z #[J I a0,J I a1,J I a2] 23)).alloc (Z #[J I b0,J I b1,J I b2] 23))=w0 at *
 have hbd:R (O w0.heap.size w0 w0.drew):=(Below.refl w0.heap.size w0).drew
 have p0:=HA0.out.cv 0 (J I a0)
 have p1:=HA0.out.cv 1 (J I a1)
 have p2:=HA0.out.cv 2 (J I a2)
 have q0:=az.out.cv 0 (J I b0)
 have q1:=az.out.cv 1 (J I b1)
 have q2:=az.out.cv 2 (J I b2)
 have P0:=hd_ p0;have P1:=hd_ p1;have P2:=hd_ p2;have Q0:=hd_ q0;have Q1:=hd_ q1;have Q2:=hd_ q2
 clear p0 p1 p2 q0 q1 q2 HA0 az
 refine wp_region_held_drew (S:=fun w'=>O w0.heap.size w0 w') (by kernel_rfl) hbd.out (fun hHeld=>?_)
 have aV:=hbd
 have iW:=hd_ HB.out.drew
 generalize w0.drew=wd at *
 refine tkH 5 0 ?_
 refine tkH 6 1 ?_ (hy:=fun wS aa=>by have e0:=z1a aa P0.out;have e1:=z1a aa P1.out;have e2:=z1a aa P2.out;have f0:=z1a aa Q0.out;have f1:=z1a aa Q1.out;have f2:=z1a aa Q2.out;go_simp;first|done|with_reducible rfl)
 refine tkH 7 2 ?_
 refine tkH 8 3 ?_ (hy:=fun wS aa=>by have e0:=z1a aa P0.out;have e1:=z1a aa P1.out;have e2:=z1a aa P2.out;have f0:=z1a aa Q0.out;have f1:=z1a aa Q1.out;have f2:=z1a aa Q2.out;go_simp;first|done|with_reducible rfl)
 refine tkH 10 5 ?_
 refine tkH 11 6 ?_ (hy:=fun wS aa=>by have e0:=z1a aa P0.out;have e1:=z1a aa P1.out;have e2:=z1a aa P2.out;have f0:=z1a aa Q0.out;have f1:=z1a aa Q1.out;have f2:=z1a aa Q2.out;go_simp;first|done|with_reducible rfl)
 refine tkH 12 7 ?_
 refine tkH 13 8 ?_ (hy:=fun wS aa=>by have e0:=z1a aa P0.out;have e1:=z1a aa P1.out;have e2:=z1a aa P2.out;have f0:=z1a aa Q0.out;have f1:=z1a aa Q1.out;have f2:=z1a aa Q2.out;go_simp;first|done|with_reducible rfl)
 refine tkH 15 10 ?_
 refine tkH 16 11 ?_ (hy:=fun wS aa=>by have e0:=z1a aa P0.out;have e1:=z1a aa P1.out;have e2:=z1a aa P2.out;have f0:=z1a aa Q0.out;have f1:=z1a aa Q1.out;have f2:=z1a aa Q2.out;go_simp;first|done|with_reducible rfl)
 refine tkH 17 12 ?_
 refine tkH 18 13 ?_ (hy:=fun wS aa=>by have e0:=z1a aa P0.out;have e1:=z1a aa P1.out;have e2:=z1a aa P2.out;have f0:=z1a aa Q0.out;have f1:=z1a aa Q1.out;have f2:=z1a aa Q2.out;go_simp;first|done|with_reducible rfl)
 refine rdH 4 fun K hK=>?_
 go_simp
 refine (z8v a0 b0 wd).mono ?_
 rintro e w7 ⟨rfl,rfl⟩
 rw [HX.out]
 refine goK hK aV.out fun hHeld=>?_
 clear hK K
 refine rdH 9 fun K hK=>?_
 go_simp
 refine (z8v a1 b1 wd).mono ?_
 rintro e w7 ⟨rfl,rfl⟩
 rw [HY.out]
 refine goK hK aV.out fun hHeld=>?_
 clear hK K
 refine rdH 14 fun K hK=>?_
 go_simp
 refine (z8v a2 b2 wd).mono ?_
 rintro e w7 ⟨rfl,rfl⟩
 rw [HZ.out]
 refine goK hK aV.out fun hHeld=>?_
 clear hK K
 refine rdH 15 fun K hK=>?_
 go_simp
 change K _ (wd.alloc (Z #[J I x,J I y,J I z] 3))
 have HN:R (CB (wd.alloc (Z #[J I x,J I y,J I z] 3)) wd.heap.size 3 [J I x,J I y,J I z]):=z3a wd _ _ _ rfl
 have HBn:=hd_ (z0a iW.out (z4b (Z #[J I x,J I y,J I z] 3)));replace aV:=hd_ (z0a aV.out (z4b (Z #[J I x,J I y,J I z] 3)))
 generalize wd.alloc (Z #[J I x,J I y,J I z] 3)=we at *
 refine goK hK aV.out fun hHeld=>?_
 clear hK K
 refine rdH 16 fun K hK=>?_
 go_simp
 refine (k5d x y z wd.heap.size 3 we (HN.out.cell 0) (HN.out.cell 1) (HN.out.cell 2)).mono ?_
 rintro e w7 ⟨rfl,rfl⟩
 refine goK hK aV.out fun hHeld=>?_
 clear hK K
 refine tkH 4 17 ?_
 refine wpAnyH_done (by kernel_rfl) ?_ _
 go_wp2_with fail
 go_ret
 exact ⟨by rw [HR.out];rfl,HBn.out⟩
def inB (n a b:Int):Bool:=X (a≤n)&&X (n≤b)
theorem z5g (n a b:Int) (w:M):D prog 34 #[J I n,J I a,J I b] w fun e w'=>e=G (F (inB n a b))∧w=w':=by
 have HR:R (inB n a b=(X (a≤n)&&X (n≤b))):=rfl
 obtain ⟨c1,h1⟩:∃ c,X (a≤n)=c:=⟨_,rfl⟩
 obtain ⟨c2,h2⟩:∃ c,X (n≤b)=c:=⟨_,rfl⟩
 have HR:R (inB n a b=(c1&&c2)):=by have:=HR.out;rw [h1,h2] at this;exact this
 go_enter func34,ntmps34
 cases c1
 ·go_wp2
  go_ret
  exact ⟨by rw [HR.out];rfl,rfl⟩
 ·cases c2
  ·go_wp2
   go_ret
   exact ⟨by rw [HR.out];rfl,rfl⟩
  ·go_wp2
   go_ret
   exact ⟨by rw [HR.out];rfl,rfl⟩
theorem z5e (n a b:Int) (w:M):D prog 44 #[J I n,J I a,J I b] w fun e w'=>e=G (F (inB n a b))∧w=w':=by
 have HR:R (inB n a b=(X (a≤n)&&X (n≤b))):=rfl
 obtain ⟨c1,h1⟩:∃ c,X (a≤n)=c:=⟨_,rfl⟩
 obtain ⟨c2,h2⟩:∃ c,X (n≤b)=c:=⟨_,rfl⟩
 have HR:R (inB n a b=(c1&&c2)):=by have:=HR.out;rw [h1,h2] at this;exact this
 go_enter func44,ntmps44
 cases c1
 ·go_wp2
  go_ret
  exact ⟨by rw [HR.out];rfl,rfl⟩
 ·cases c2
  ·go_wp2
   go_ret
   exact ⟨by rw [HR.out];rfl,rfl⟩
  ·go_wp2
   go_ret
   exact ⟨by rw [HR.out];rfl,rfl⟩
theorem y1q (n a b:Int) (w:M):D prog 75 #[J I n,J I a,J I b] w fun e w'=>e=G (F (inB n a b))∧w=w':=by
 have HR:R (inB n a b=(X (a≤n)&&X (n≤b))):=rfl
 obtain ⟨c1,h1⟩:∃ c,X (a≤n)=c:=⟨_,rfl⟩
 obtain ⟨c2,h2⟩:∃ c,X (n≤b)=c:=⟨_,rfl⟩
 have HR:R (inB n a b=(c1&&c2)):=by have:=HR.out;rw [h1,h2] at this;exact this
 go_enter func75,ntmps75
 cases c1
 ·go_wp2
  go_ret
  exact ⟨by rw [HR.out];rfl,rfl⟩
 ·cases c2
  ·go_wp2
   go_ret
   exact ⟨by rw [HR.out];rfl,rfl⟩
  ·go_wp2
   go_ret
   exact ⟨by rw [HR.out];rfl,rfl⟩
theorem j6e (l:List Int) (x:Int) (v:L) (w:M) (hl:z4g nuK w.heap.size w l v) :
 D prog 193 #[v,J I x] w fun e w'=>(∃ r:Int,e=G (J I r)∧X (0≤r)=l.any (fun y=>x == y))∧w=w':=by
 obtain ⟨oa,ca,rfl,la⟩:=hl.shape
 have HL:=hd_ hl
 obtain ⟨n,hn⟩:∃ n,l.length=n:=⟨_,rfl⟩
 rw [hn] at HL la ⊢
 have l1:(n:Int)≤9223372036854775807:=by omega
 have HN:=hd_ hn
 clear hl hn la
 go_enter func193,ntmps193
 go_wp2_with fail
 go_loopw [8] (fun vi wr=>(∃ i:Nat,vi=J I (i:Int)∧i≤n∧∀ j y,j<i→l[j]? = U y→(fun y=>x == y) y=Y)∧w=wr) (fun vi _=>n - z1f vi)
 case atStart=>exact ⟨⟨0,rfl,by omega,fun j y h=>by omega⟩,rfl⟩
 case round =>
  obtain ⟨⟨i,rfl,hi,hs⟩,rfl⟩:=hrel
  have HS:=hd_ hs
  clear hs
  by_cases hlt:i<n
  case neg =>
   obtain rfl:i=n:=by omega
   have tj:X ((i:Int)<(i:Int))=Y:=by simp
   have HE:R (l.any (fun y=>x == y)=Y):=by
    show _=_
    rw [List.any_eq_false]
    intro y hy
    obtain ⟨j,hj⟩:=List.mem_iff_getElem?.1 hy
    have nW:=HS.out j y (by have:=(List.getElem?_eq_some_iff.1 hj).1;have:=HN.out;omega) hj
    simpa using nW
   go_wp2_with fail
   go_ret
   exact ⟨⟨-1,rfl,by rw [HE.out];rfl⟩,rfl⟩
  case pos =>
  have tj:X ((i:Int)<(n:Int))=E:=by simp;omega
  have eu:X (i<n)=E:=by simp;omega
  have kb:(i:Int)<(n:Int):=by omega
  obtain ⟨y,hy⟩:∃ y,l[i]? = U y:=⟨_,gE (by rw [HN.out];exact hlt)⟩
  obtain ⟨ab,ao,rfl⟩:=z9f HL.out (k:=i) (by rw [HN.out];exact hlt)
  have c1:=z3m HL.out hy
  have aN:=hd_ hlt;have Hy:=hd_ hy
  obtain ⟨b,hb⟩:∃ b,(fun y=>x == y) y=b:=⟨_,rfl⟩
  have jz:=hd_ hb
  clear hlt hy hi
  have hb:(x == y)=b:=jz.out
  cases b
  ·go_wp2_with fail
   go_roundw
   case rel=>exact ⟨⟨i+1,by go_num,aN.out,fun j z hj hz=>by
    rcases Nat.lt_succ_iff_lt_or_eq.1 hj with h|h
    ·exact HS.out j z h hz
    ·subst h
     have:=Hy.out.symm.trans hz
     injection this with this
     rw [← this];exact jz.out⟩,by first|rfl|trivial⟩
   case measure=>simp [z1f];have:=aN.out;omega
  ·go_wp2_with fail
   go_ret
   exact ⟨⟨(i:Int),rfl,by
    have:l.any (fun y=>x == y)=E:=List.any_eq_true.2 ⟨y,List.mem_of_getElem? Hy.out,jz.out⟩
    rw [this];simp⟩,rfl⟩
theorem y8y (l:List Int) (x:Int) (v:L) (w:M) (hl:z4g nuK w.heap.size w l v) :
 D prog 153 #[v,J I x] w fun e w'=>e=G (F (l.any fun y=>x == y))∧w=w':=by
 have HC:=hd_ (j6e l x v w hl)
 obtain ⟨oa,ca,rfl,-⟩:=hl.shape
 clear hl
 go_enter func153,ntmps153
 go_wp2_with (go_at_call 193;refine HC.out.mono ?_;rintro e w' ⟨⟨r,rfl,hr⟩,rfl⟩)
 go_ret
 exact ⟨by rw [← hr];rfl,rfl⟩
theorem x0i (n:Int) (w:M):D prog 155 #[J I n] w fun e w'=>e=G (F (!inB n 0 15))∧w=w':=by
 go_enter func155,ntmps155
 go_wp2_with (go_at_call 34;refine (z5g _ _ _ _).mono ?_;rintro e w' ⟨rfl,rfl⟩)
 go_ret
 exact ⟨by rfl,rfl⟩
theorem x5t (l:List Int) (v:L) (w:M) (hl:z4g nuK w.heap.size w l v) :
 D prog 194 #[v,.func (.func 155) #[] #[]] w fun e w'=>(∃ r:Int,e=G (J I r)∧X (0≤r)=l.any (fun y=>!inB y 0 15))∧w=w':=by
 obtain ⟨oa,ca,rfl,la⟩:=hl.shape
 have HL:=hd_ hl
 obtain ⟨n,hn⟩:∃ n,l.length=n:=⟨_,rfl⟩
 rw [hn] at HL la ⊢
 have l1:(n:Int)≤9223372036854775807:=by omega
 have HN:=hd_ hn
 clear hl hn la
 go_enter func194,ntmps194
 go_wp2_with fail
 go_loopw [8] (fun vi wr=>(∃ i:Nat,vi=J I (i:Int)∧i≤n∧∀ j y,j<i→l[j]? = U y→(fun y=>!inB y 0 15) y=Y)∧w=wr) (fun vi _=>n - z1f vi)
 case atStart=>exact ⟨⟨0,rfl,by omega,fun j y h=>by omega⟩,rfl⟩
 case round =>
  obtain ⟨⟨i,rfl,hi,hs⟩,rfl⟩:=hrel
  have HS:=hd_ hs
  clear hs
  by_cases hlt:i<n
  case neg =>
   obtain rfl:i=n:=by omega
   have tj:X ((i:Int)<(i:Int))=Y:=by simp
   have HE:R (l.any (fun y=>!inB y 0 15)=Y):=by
    show _=_
    rw [List.any_eq_false]
    intro y hy
    obtain ⟨j,hj⟩:=List.mem_iff_getElem?.1 hy
    have nW:=HS.out j y (by have:=(List.getElem?_eq_some_iff.1 hj).1;have:=HN.out;omega) hj
    simpa using nW
   go_wp2_with fail
   go_ret
   exact ⟨⟨-1,rfl,by rw [HE.out];rfl⟩,rfl⟩
  case pos =>
  have tj:X ((i:Int)<(n:Int))=E:=by simp;omega
  have eu:X (i<n)=E:=by simp;omega
  have kb:(i:Int)<(n:Int):=by omega
  obtain ⟨y,hy⟩:∃ y,l[i]? = U y:=⟨_,gE (by rw [HN.out];exact hlt)⟩
  obtain ⟨ab,ao,rfl⟩:=z9f HL.out (k:=i) (by rw [HN.out];exact hlt)
  have c1:=z3m HL.out hy
  have aN:=hd_ hlt;have Hy:=hd_ hy
  obtain ⟨b,hb⟩:∃ b,(fun y=>!inB y 0 15) y=b:=⟨_,rfl⟩
  have jz:=hd_ hb
  clear hlt hy hi
  have HCa:=hd_ (x0i y w)
  have aj:(!inB y 0 15)=b:=jz.out
  rw [aj] at HCa
  clear hb aj
  cases b
  ·go_wp2_with (go_at_call 155;refine HCa.out.mono ?_;rintro e w' ⟨rfl,rfl⟩)
   go_roundw
   case rel=>exact ⟨⟨i+1,by go_num,aN.out,fun j z hj hz=>by
    rcases Nat.lt_succ_iff_lt_or_eq.1 hj with h|h
    ·exact HS.out j z h hz
    ·subst h
     have:=Hy.out.symm.trans hz
     injection this with this
     rw [← this];exact jz.out⟩,by first|rfl|trivial⟩
   case measure=>simp [z1f];have:=aN.out;omega
  ·go_wp2_with (go_at_call 155;refine HCa.out.mono ?_;rintro e w' ⟨rfl,rfl⟩)
   go_ret
   exact ⟨⟨(i:Int),rfl,by
    have:l.any (fun y=>!inB y 0 15)=E:=List.any_eq_true.2 ⟨y,List.mem_of_getElem? Hy.out,jz.out⟩
    rw [this];simp⟩,rfl⟩
theorem y2q (l:List Int) (v:L) (w:M) (hl:z4g nuK w.heap.size w l v) :
 D prog 154 #[v,.func (.func 155) #[] #[]] w fun e w'=>e=G (F (l.any fun y=>!inB y 0 15))∧w=w':=by
 have HC:=hd_ (x5t l v w hl)
 obtain ⟨oa,ca,rfl,-⟩:=hl.shape
 clear hl
 go_enter func154,ntmps154
 go_wp2_with (go_at_call 194;refine HC.out.mono ?_;rintro e w' ⟨⟨r,rfl,hr⟩,rfl⟩)
 go_ret
 exact ⟨by rw [← hr];rfl,rfl⟩
def x8o (c:Chg):Bool:=inB c.frm 0 1439&&inB c.cfg 0 31&&X (c.modes.length≤16) && !(c.modes.any fun y=>!inB y 0 15)
theorem x6t (c:Chg) (v:L) (w:M) (hl:z4g nuK w.heap.size w c.modes v):D prog 93 #[T (c.cells v).toArray] w fun e w'=>e=G (F (x8o c))∧O w.heap.size w w':=by
 have ax:=z4b (w:=w) (Z (c.cells v).toArray 31)
 have hc:=z3a w (Z (c.cells v).toArray 31) 31 (c.cells v) rfl
 have HB:=hd_ ax
 have HC:=hd_ (y2q c.modes v _ (hl.ext ax))
 have H1:=hd_ (fun W=>z5g c.frm 0 1439 W);have H2:=hd_ (fun W=>z5g c.cfg 0 31 W)
 obtain ⟨b1,h1⟩:∃ b,inB c.frm 0 1439=b:=⟨_,rfl⟩
 obtain ⟨b2,h2⟩:∃ b,inB c.cfg 0 31=b:=⟨_,rfl⟩
 obtain ⟨b3,h3⟩:∃ b,X (c.modes.length≤16)=b:=⟨_,rfl⟩
 obtain ⟨b4,h4⟩:∃ b,(c.modes.any fun y=>!inB y 0 15)=b:=⟨_,rfl⟩
 have HR:R (x8o c=(b1&&b2&&b3 && !b4)):=by show _=_;unfold x8o;rw [h1,h2,h3,h4]
 rw [h1] at H1;rw [h2] at H2;rw [h4] at HC
 obtain ⟨oa,ca,rfl,la⟩:=hl.shape
 have c0:=hc.cv 0 (J I c.frm)
 have c1:=hc.cv 1 (J I c.cfg)
 have c2:=hc.cv 2 (Q oa c.modes.length ca)
 have u3:X ((c.modes.length:Int)≤16)=b3:=by rw [← h3];by_cases h:c.modes.length≤16 <;> simp [h] <;> omega
 clear ax hc hl h1 h2 h3 h4 la
 generalize c.modes.length=n at *
 go_enter func93,ntmps93
 go_upto_region 1 with fail
 change Code.wp _ _ _ _ (w.alloc (Z (c.cells (Q oa n ca)).toArray 31))
 generalize w.alloc (Z (c.cells (Q oa n ca)).toArray 31)=w0 at *
 go_wp2_with (first
  | (go_at_call 34;refine (H1.out w0).mono ?_;(rintro e w' ⟨rfl,rfl⟩;clear H1))
  | (go_at_call 34;refine (H2.out w0).mono ?_;(rintro e w' ⟨rfl,rfl⟩;clear H2))
  | (go_at_call 154;refine HC.out.mono ?_;(rintro e w' ⟨rfl,rfl⟩)))
 ·(try clear u3);(try simp only [Bool.not_eq_true] at *);subst_vars;go_ret;exact ⟨by first|(rw [HR.out];rfl)|rfl,HB.out⟩
 all_goals (try clear u3;try simp only [Bool.not_eq_true] at *;subst_vars;go_ret;exact ⟨by first|(rw [HR.out];rfl)|rfl,HB.out⟩)
def k6d (l:List Int) (j:Nat):Bool:=inB (l.getD j 0) 0 63 && !((l.take j).any fun y=>l.getD j 0 == y)
def z2s (l:List Int) (i:Nat):Bool:=(List.range i).all (k6d l)
theorem y6m (l:List Int) (i:Nat):z2s l (i+1)=(z2s l i&&k6d l i):=by
 unfold z2s;rw [List.range_succ,List.all_append];simp
def x7t (f:Flt):Bool:=inB f.id 0 4095&&inB f.air 0 7&&inB f.cls 0 7&&z1q f.call.data.toList&&inB (f.ways.length:Int) 1 4
def k2x (f:Flt):Bool:=X (0≤f.wf)&&X (f.wf<f.wt)&&X (f.wt≤1440)&&X (f.wt - f.wf≤16)
def y9y (f:Flt):Bool:=x7t f&&z2s f.ways f.ways.length&&k2x f
theorem k6p {α:Type} {K:EK α} {B b off cap:Nat} {w:M} {l:List α} (h:z4g K B w l (Q (U ⟨b,off,H⟩) l.length cap)) (n:Nat) (h0:l≠[]) (hn:n≤l.length):z4g K B w (l.take n) (Q (U ⟨b,off,H⟩) n cap):=by
 rcases h with ⟨h,_⟩|⟨b',off',cap',h1,h2,h3,h4,h5⟩
 ·exact absurd h h0
 ·injection h1 with h1 _ h6
  injection h1 with h1
  injection h1 with h7 h8
  subst h6 h7 h8
  refine .inr ⟨b,off,cap,by rw [List.length_take,Nat.min_eq_left hn],by rw [List.length_take];omega,h3,h4,fun j a hj=>?_⟩
  rw [List.getElem?_take] at hj
  split at hj
  ·exact h5 j a hj
  ·cases hj
def k2z (f:Flt) (v:L) (n:Nat) (w:M) (vo vi:L) (wr:M):Prop:=∃ i:Nat,vi=J I (i:Int)∧vo=F (x7t f&&z2s f.ways i)∧i≤n∧CB wr w.heap.size 28 (f.cells v)∧O w.heap.size w wr
theorem x8t (f:Flt) (v:L) (w:M) (hl:z4g nuK w.heap.size w f.ways v) (hs:f.call.size≤9223372036854775807):D prog 86 #[T (f.cells v).toArray] w fun e w'=>e=G (F (y9y f))∧O w.heap.size w w':=by
 obtain ⟨oa,ca,rfl,la⟩:=hl.shape
 have HL:=hd_ hl
 obtain ⟨n,hn⟩:∃ n,f.ways.length=n:=⟨_,rfl⟩
 rw [hn] at HL la ⊢
 have l1:(n:Int)≤9223372036854775807:=by omega
 have HN:=hd_ hn
 have hca:(n:Int)≤(ca:Int)∧n≤ca:=by
  obtain ⟨_,_,he,h2,_⟩:=HL.out.shape2
  injection he with _ e2 e3
  rw [e3,e2];exact ⟨by omega,h2⟩
 obtain ⟨hca,hca2⟩:=hca
 have ax:=z4b (w:=w) (Z (f.cells (Q oa n ca)).toArray 28)
 have hc:=z3a w (Z (f.cells (Q oa n ca)).toArray 28) 28 (f.cells (Q oa n ca)) rfl
 have HB:=hd_ ax;have HC:=hd_ hc
 have H1:=hd_ (fun W=>z5g f.id 0 4095 W);have H2:=hd_ (fun W=>z5g f.air 0 7 W);have H3:=hd_ (fun W=>z5g f.cls 0 7 W);have H4:=hd_ (fun W=>x6m f.call hs W);have H5:=hd_ (fun W=>z5g (n:Int) 1 4 W)
 obtain ⟨b1,h1⟩:∃ b,inB f.id 0 4095=b:=⟨_,rfl⟩
 obtain ⟨b2,h2⟩:∃ b,inB f.air 0 7=b:=⟨_,rfl⟩
 obtain ⟨b3,h3⟩:∃ b,inB f.cls 0 7=b:=⟨_,rfl⟩
 obtain ⟨b4,h4⟩:∃ b,z1q f.call.data.toList=b:=⟨_,rfl⟩
 obtain ⟨b5,h5⟩:∃ b,inB (n:Int) 1 4=b:=⟨_,rfl⟩
 have HR:R (x7t f=(b1&&b2&&b3&&b4&&b5)):=by show _=_;unfold x7t;rw [hn,h1,h2,h3,h4,h5]
 unfold z2q at H4
 rw [h1] at H1;rw [h2] at H2;rw [h3] at H3;rw [h4] at H4;rw [h5] at H5
 have c0:=hc.cv 0 (J I f.id)
 have c1:=hc.cv 1 (J I f.air)
 have c2:=hc.cv 2 (J I f.cls)
 have c3:=hc.cv 3 (C f.call)
 have c4:=hc.cv 4 (Q oa n ca)
 clear ax hc hl h1 h2 h3 h4 h5 la hn hs
 go_enter func86,ntmps86
 go_upto_region 1 with fail
 change Code.wp _ _ _ _ (w.alloc (Z (f.cells (Q oa n ca)).toArray 28))
 generalize w.alloc (Z (f.cells (Q oa n ca)).toArray 28)=w0 at *
 go_cut [3] (fun v3 wx=>v3=F (x7t f)∧wx=w0)
 case first =>
  go_wp2_with (first
   | (go_at_call 79;refine (H4.out w0).mono ?_;(rintro e w' ⟨rfl,rfl⟩))
   | (go_at_call 34;refine (H1.out w0).mono ?_;(rintro e w' ⟨rfl,rfl⟩;clear H1))
   | (go_at_call 34;refine (H2.out w0).mono ?_;(rintro e w' ⟨rfl,rfl⟩;clear H2))
   | (go_at_call 34;refine (H3.out w0).mono ?_;(rintro e w' ⟨rfl,rfl⟩;clear H3))
   | (go_at_call 34;refine (H5.out w0).mono ?_;(rintro e w' ⟨rfl,rfl⟩;clear H5)))
  ·(try simp only [Bool.not_eq_true] at *);subst_vars;go_meet;case rel=>exact ⟨by first|(rw [HR.out];rfl)|rfl,rfl⟩
  all_goals (try simp only [Bool.not_eq_true] at *;subst_vars;go_meet;case rel=>exact ⟨by first|(rw [HR.out];rfl)|rfl,rfl⟩)
 case rest =>
 obtain ⟨rfl,rfl⟩:=hcut
 clear c0 c1 c2 c3 HR H1 H2 H3 H4 H5
 generalize wc=w0 at *
 have hA:(x7t f&&z2s f.ways 0)=x7t f:=by unfold z2s;simp
 go_wp2_with fail
 clear c4
 go_loopw [3,33] (fun vo vi wr=>k2z f (Q oa n ca) n w vo vi wr) (fun _ vi _=>n - z1f vi)
 case atStart=>exact ⟨0,rfl,by rw [hA],by omega,HC.out,HB.out⟩
 case round =>
  obtain ⟨i,rfl,rfl,hi,hc,hb⟩:=hrel
  have eG:=hd_ hc;have aq:=hd_ hb
  have c4:=hc.cv 4 (Q oa n ca)
  clear hc hb HC HB hA
  by_cases hlt:i<n
  case neg =>
   obtain rfl:i=n:=by omega
   have tj:X ((i:Int)<(i:Int))=Y:=by simp
   have c5:=eG.out.cv 5 (.int I f.wf)
   have c6:=eG.out.cv 6 (J I f.wt)
   obtain ⟨b0,h0⟩:∃ b,(x7t f&&z2s f.ways i)=b:=⟨_,rfl⟩
   obtain ⟨b6,h6⟩:∃ b,X (0≤f.wf)=b:=⟨_,rfl⟩
   obtain ⟨b7,h7⟩:∃ b,X (f.wf<f.wt)=b:=⟨_,rfl⟩
   obtain ⟨b8,h8⟩:∃ b,X (f.wt≤1440)=b:=⟨_,rfl⟩
   obtain ⟨b9,h9⟩:∃ b,X (f.wt - f.wf≤16)=b:=⟨_,rfl⟩
   have HR:R (y9y f=(b0&&(b6&&b7&&b8&&b9))):=by show _=_;unfold y9y k2x;rw [HN.out,h0,h6,h7,h8,h9]
   rw [h0]
   by_cases hwin:0≤f.wf∧f.wf<f.wt∧f.wt≤1440
   case pos =>
    obtain ⟨w1,w2,w3⟩:=hwin
    obtain rfl:b6=E:=by rw [← h6];exact decide_eq_true w1
    obtain rfl:b7=E:=by rw [← h7];exact decide_eq_true w2
    obtain rfl:b8=E:=by rw [← h8];exact decide_eq_true w3
    have hwr:IntKind.i64.wrap (f.wt - f.wf)=f.wt - f.wf:=IntWalk.i64_in _ (by omega)
    have hwr2:wrap64 (f.wt - f.wf)=f.wt - f.wf:=by first|(unfold wrap64;omega)|exact (IntKind.wrap_i64 _).symm.trans hwr
    clear h0 hlt hi
    go_wp2_with fail
    ·(try clear h6 h7 h8 h9 hwr hwr2);(try simp only [Bool.not_eq_true] at *);subst_vars;go_ret;exact ⟨by first|(rw [HR.out];rfl)|rfl,aq.out⟩
    all_goals (try clear h6 h7 h8 h9 hwr hwr2;try simp only [Bool.not_eq_true] at *;subst_vars;go_ret;exact ⟨by first|(rw [HR.out];rfl)|rfl,aq.out⟩)
   case neg =>
    have hno:(b6&&b7&&b8)=Y:=by
     rw [← h6,← h7,← h8]
     by_cases x1:0≤f.wf
     ·by_cases x2:f.wf<f.wt
      ·have x3:¬ f.wt≤1440:=fun h=>hwin ⟨x1,x2,h⟩
       simp [x3]
      ·simp [x2]
     ·simp [x1]
    have ej:R (y9y f=Y):=by show _=_;rw [HR.out,hno];simp
    have kp:=hd_ hno
    clear hno hwin h0 hlt hi HR h9
    go_wp2_with fail
    all_goals first
     | (go_ret;first|exact ⟨by rw [ej.out];rfl,aq.out⟩|(exfalso;have h:=kp.out;clear ej;simp_all))
  case pos =>
  have tj:X ((i:Int)<(n:Int))=E:=by simp;omega
  have eu:X (i<n)=E:=by simp;omega
  have kb:(i:Int)<(n:Int):=by omega
  obtain ⟨x,hx⟩:∃ x,f.ways[i]? = U x:=⟨_,gE (by rw [HN.out];exact hlt)⟩
  obtain ⟨ab,ao,rfl⟩:=z9f HL.out (k:=i) (by rw [HN.out];exact hlt)
  have c1:=z1a aq.out (z3m HL.out hx)
  have hgd:f.ways.getD i 0=x:=by rw [List.getD_eq_getElem?_getD,hx];rfl
  have htk:z4g nuK w.heap.size w (f.ways.take i) (Q (U ⟨ab,ao,H⟩) i ca):=by
   by_cases h0:i=0
   ·subst h0;rw [List.take_zero];exact .inl ⟨rfl,_,_,rfl⟩
   ·have hL:=HL.out
    rw [← HN.out] at hL
    exact k6p hL i (by intro e;rw [e] at hx;simp at hx) (by rw [HN.out];omega)
  have cY:=hd_ (z5g x 0 63 wr);have aP:=hd_ (y8y (f.ways.take i) x _ wr (htk.ext aq.out))
  have hst:=y6m f.ways i
  obtain ⟨b1,h1⟩:∃ b,inB x 0 63=b:=⟨_,rfl⟩
  obtain ⟨b2,h2⟩:∃ b,((f.ways.take i).any fun y=>x == y)=b:=⟨_,rfl⟩
  have hst2:(x7t f&&z2s f.ways (i+1))=((x7t f&&z2s f.ways i)&&(b1 && !b2)):=by
   rw [hst,show k6d f.ways i=(b1 && !b2) by unfold k6d;rw [hgd,h1,h2],Bool.and_assoc]
  rw [h1] at cY;rw [h2] at aP
  obtain ⟨b0,h0⟩:∃ b,(x7t f&&z2s f.ways i)=b:=⟨_,rfl⟩
  rw [h0] at hst2 ⊢
  have HST:=hd_ hst2
  have n1:(i:Int)≤(ca:Int):=by omega
  have n2:i≤ca:=by omega
  have aN:=hd_ hlt
  clear hlt hx hgd htk hst hst2 h0 h1 h2 hi
  go_wp2_with (first
   | (go_at_call 34;refine cY.out.mono ?_;(rintro e w' ⟨rfl,rfl⟩))
   | (go_at_call 153;refine aP.out.mono ?_;(rintro e w' ⟨rfl,rfl⟩)))
  all_goals
   (go_roundw
    case rel=>exact ⟨i+1,by go_num,by (have h:=HST.out;clear cY aP HST;simp_all),aN.out,eG.out,aq.out⟩
    case measure=>(simp [z1f];have:=aN.out;omega))
end Go.Proofs.YtdblnbnofjggnaaGreatDoor
