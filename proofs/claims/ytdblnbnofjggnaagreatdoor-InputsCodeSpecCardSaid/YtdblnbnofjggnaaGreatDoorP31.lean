/- Parts of the proofs of chapter 49's laws. -/
import Derived.Test.YtdblnbnofjggnaaGreatDoorP30
set_option maxHeartbeats 8000000
set_option maxRecDepth 100000
open Go.Lib renaming hid → hd_
open List renaming getElem?_eq_getElem → gE, getElem?_eq_some_iff → gS, mem_of_getElem? → mG
open Go.Value renaming int → Y, slice → M, bool → d
open Go.IntKind renaming i64 → X
open Go.Obj renaming cells → L
open Go.Ending renaming returned → A
open Option renaming none → E, some → O
open Bool renaming true → G, false → J
open Decidable renaming decide → I
open Go renaming World → U, Value → C, Calls → QQ
open Go.RowKit renaming Below → B, Hid → R
set_option linter.all false
namespace Go.Proofs.YtdblnbnofjggnaaGreatDoor
open Go.Proofs.Tryz
open Go.RowKit
def k3z (l:List Int) (n:Nat) (w:U) (t:TypeId) (cs:List C) (vi:C) (wr:U):Prop:=∃ i:Nat,vi=Y X (i:Int)∧i≤n∧(∀ j y,j<i→l[j]? = O y→inB y 0 15=G)∧CB wr w.heap.size t cs∧B w.heap.size w wr
theorem x1i (c:Chg) (v:C) (w:U) (hl:z4g nuK w.heap.size w c.modes v):QQ prog 108 #[.agg (c.cells v).toArray] w fun e w'=>e=A (d (x8o c))∧B w.heap.size w w':=by
 obtain ⟨oa,ca,rfl,la⟩:=hl.shape
 have HL:=hd_ hl
 obtain ⟨n,hn⟩:∃ n,c.modes.length=n:=⟨_,rfl⟩
 rw [hn] at HL la ⊢
 have l1:(n:Int)≤9223372036854775807:=by omega
 have HN:=hd_ hn
 have HB:=hd_ (z4b (w:=w) (L (c.cells (M oa n ca)).toArray 31))
 have hc:=z3a w (L (c.cells (M oa n ca)).toArray 31) 31 (c.cells (M oa n ca)) rfl
 have HC:=hd_ hc
 have H1:=hd_ (fun W=>z5e c.frm 0 1439 W);have H2:=hd_ (fun W=>z5e c.cfg 0 31 W)
 obtain ⟨b1,h1⟩:∃ b,inB c.frm 0 1439=b:=⟨_,rfl⟩
 obtain ⟨b2,h2⟩:∃ b,inB c.cfg 0 31=b:=⟨_,rfl⟩
 obtain ⟨b3,h3⟩:∃ b,I (n≤16)=b:=⟨_,rfl⟩
 have HR:R (x8o c=(b1&&b2&&b3 && !(c.modes.any fun y=>!inB y 0 15))):=by show _=_;unfold x8o;rw [hn,h1,h2,h3]
 rw [h1] at H1;rw [h2] at H2
 have c0:=hc.cv 0 (Y X c.frm)
 have c1:=hc.cv 1 (Y X c.cfg)
 have c2:=hc.cv 2 (M oa n ca)
 have u3:I ((16:Int)<(n:Int)) = !b3:=by rw [← h3];by_cases h:n≤16 <;> simp [h] <;> omega
 clear hc hl h1 h2 h3 la hn
 go_enter func108,ntmps108
 go_upto_region 1 with fail
 change Code.wp _ _ _ _ (w.alloc (L (c.cells (M oa n ca)).toArray 31))
 generalize w.alloc (L (c.cells (M oa n ca)).toArray 31)=w0 at *
 by_cases hall:(b1&&b2&&b3)=G
 case neg =>
  have hno:(b1&&b2&&b3)=J:=by simpa using hall
  have kp:=hd_ hno
  have ej:R (x8o c=J):=by show _=_;rw [HR.out,hno];rfl
  clear hno hall HR
  go_wp2_with (first
   | (go_at_call 44;refine (H1.out w0).mono ?_;(rintro e w' ⟨rfl,rfl⟩;clear H1))
   | (go_at_call 44;refine (H2.out w0).mono ?_;(rintro e w' ⟨rfl,rfl⟩;clear H2)))
  all_goals first
   | (go_ret;exact ⟨by rw [ej.out];rfl,HB.out⟩)
   | (exfalso;have h:=kp.out;clear ej;simp_all)
 case pos =>
 simp only [Bool.and_eq_true] at hall
 obtain ⟨⟨rfl,rfl⟩,rfl⟩:=hall
 have dm:R (x8o c = !(c.modes.any fun y=>!inB y 0 15)):=by show _=_;rw [HR.out];rfl
 clear HR
 go_wp2_with (first
  | (go_at_call 44;refine (H1.out w0).mono ?_;(rintro e w' ⟨rfl,rfl⟩;clear H1))
  | (go_at_call 44;refine (H2.out w0).mono ?_;(rintro e w' ⟨rfl,rfl⟩;clear H2)))
 clear c0 c1 c2 u3
 go_loopw [3] (fun vi wr=>k3z c.modes n w 31 (c.cells (M oa n ca)) vi wr) (fun vi _=>n - z1f vi)
 case atStart=>exact ⟨0,rfl,by omega,fun j y h=>by omega,HC.out,HB.out⟩
 case round =>
  obtain ⟨i,rfl,hi,hs,hc,hb⟩:=hrel
  have HS:=hd_ hs;have eG:=hd_ hc;have aq:=hd_ hb
  have c2:=hc.cv 2 (M oa n ca)
  clear hs hc hb HC HB
  by_cases hlt:i<n
  case neg =>
   obtain rfl:i=n:=by omega
   have tj:I ((i:Int)<(i:Int))=J:=by simp
   have HE:R (x8o c=G):=by
    show _=_
    rw [dm.out]
    have:(c.modes.any fun y=>!inB y 0 15)=J:=by
     rw [List.any_eq_false]
     intro y hy
     obtain ⟨j,hj⟩:=List.mem_iff_getElem?.1 hy
     have nW:=HS.out j y (by have:=(gS.1 hj).1;have:=HN.out;omega) hj
     simpa using nW
    rw [this];rfl
   go_wp2_with fail
   go_ret
   exact ⟨by rw [HE.out];rfl,aq.out⟩
  case pos =>
  have tj:I ((i:Int)<(n:Int))=G:=by simp;omega
  have eu:I (i<n)=G:=by simp;omega
  have kb:(i:Int)<(n:Int):=by omega
  obtain ⟨x,hx⟩:∃ x,c.modes[i]? = O x:=⟨_,gE (by rw [HN.out];exact hlt)⟩
  obtain ⟨ab,ao,rfl⟩:=z9f HL.out (k:=i) (by rw [HN.out];exact hlt)
  have c1:=z1a aq.out (z3m HL.out hx)
  have cY:=hd_ (z5e x 0 15 wr)
  obtain ⟨b,h⟩:∃ b,inB x 0 15=b:=⟨_,rfl⟩
  rw [h] at cY
  have aN:=hd_ hlt;have Hx:=hd_ hx;have Hb:=hd_ h
  clear hlt hx h hi
  cases b
  ·go_wp2_with (go_at_call 44;refine cY.out.mono ?_;(rintro e w' ⟨rfl,rfl⟩))
   go_ret
   exact ⟨by
    have:(c.modes.any fun y=>!inB y 0 15)=G:=List.any_eq_true.2 ⟨x,mG Hx.out,by rw [Hb.out];rfl⟩
    rw [dm.out,this];rfl,aq.out⟩
  ·go_wp2_with (go_at_call 44;refine cY.out.mono ?_;(rintro e w' ⟨rfl,rfl⟩))
   go_roundw
   case rel=>exact ⟨i+1,by go_num,aN.out,fun j z hj hz=>by
    rcases Nat.lt_succ_iff_lt_or_eq.1 hj with h|h
    ·exact HS.out j z h hz
    ·subst h
     have:=Hx.out.symm.trans hz
     injection this with this
     rw [← this];exact Hb.out,eG.out,aq.out⟩
   case measure=>simp [z1f];have:=aN.out;omega
theorem x9o {l:List Int} {i n:Nat} (h:k6d l i=J) (hi:i<n):z2s l n=J:=by
 unfold z2s;rw [List.all_eq_false];exact ⟨i,List.mem_range.2 hi,by rw [h];simp⟩
def k4z (l:List Int) (n:Nat) (w:U) (cs:List C) (vi:C) (wr:U):Prop:=∃ i:Nat,vi=Y X (i:Int)∧i≤n∧z2s l i=G∧CB wr w.heap.size 28 cs∧B w.heap.size w wr
def k5z (l:List Int) (x:Int) (n:Nat) (w:U) (cs:List C) (vi:C) (wr:U):Prop:=∃ i:Nat,vi=Y X (i:Int)∧i≤n∧(∀ j y,j<i→l[j]? = O y→x≠y)∧CB wr w.heap.size 28 cs∧B w.heap.size w wr
theorem x2i (f:Flt) (v:C) (w:U) (hl:z4g nuK w.heap.size w f.ways v) (hs:f.call.size≤9223372036854775807):QQ prog 106 #[.agg (f.cells v).toArray] w fun e w'=>e=A (d (y9y f))∧B w.heap.size w w':=by
 obtain ⟨oa,ca,rfl,la⟩:=hl.shape
 have HL:=hd_ hl
 obtain ⟨n,hn⟩:∃ n,f.ways.length=n:=⟨_,rfl⟩
 rw [hn] at HL la ⊢
 have l1:(n:Int)≤9223372036854775807:=by omega
 have HN:=hd_ hn
 have HB:=hd_ (z4b (w:=w) (L (f.cells (M oa n ca)).toArray 28))
 have hc:=z3a w (L (f.cells (M oa n ca)).toArray 28) 28 (f.cells (M oa n ca)) rfl
 have HC:=hd_ hc
 have H1:=hd_ (fun W=>z5e f.id 0 4095 W);have H2:=hd_ (fun W=>z5e f.air 0 7 W);have H3:=hd_ (fun W=>z5e f.cls 0 7 W);have H4:=hd_ (fun W=>y5v f.call hs W);have H5:=hd_ (fun W=>z5e (n:Int) 1 4 W)
 obtain ⟨b1,h1⟩:∃ b,inB f.id 0 4095=b:=⟨_,rfl⟩
 obtain ⟨b2,h2⟩:∃ b,inB f.air 0 7=b:=⟨_,rfl⟩
 obtain ⟨b3,h3⟩:∃ b,inB f.cls 0 7=b:=⟨_,rfl⟩
 obtain ⟨b4,h4⟩:∃ b,z1q f.call.data.toList=b:=⟨_,rfl⟩
 obtain ⟨b5,h5⟩:∃ b,inB (n:Int) 1 4=b:=⟨_,rfl⟩
 have HR:R (x7t f=(b1&&b2&&b3&&b4&&b5)):=by show _=_;unfold x7t;rw [hn,h1,h2,h3,h4,h5]
 unfold z2q at H4
 rw [h1] at H1;rw [h2] at H2;rw [h3] at H3;rw [h4] at H4;rw [h5] at H5
 have c0:=hc.cv 0 (Y X f.id)
 have c1:=hc.cv 1 (Y X f.air)
 have c2:=hc.cv 2 (Y X f.cls)
 have c3:=hc.cv 3 (Value.string f.call)
 have c4:=hc.cv 4 (M oa n ca)
 clear hc hl h1 h2 h3 h4 h5 la hn hs
 go_enter func106,ntmps106
 go_upto_region 1 with fail
 change Code.wp _ _ _ _ (w.alloc (L (f.cells (M oa n ca)).toArray 28))
 generalize w.alloc (L (f.cells (M oa n ca)).toArray 28)=w0 at *
 by_cases hall:(b1&&b2&&b3&&b4&&b5)=G
 case neg =>
  have hno:(b1&&b2&&b3&&b4&&b5)=J:=by simpa using hall
  have kp:=hd_ hno
  have ej:R (y9y f=J):=by show _=_;unfold y9y;rw [HR.out,hno];rfl
  clear hno hall HR
  go_wp2_with (first
   | (go_at_call 163;refine (H4.out w0).mono ?_;(rintro e w' ⟨rfl,rfl⟩))
   | (go_at_call 44;refine (H1.out w0).mono ?_;(rintro e w' ⟨rfl,rfl⟩;clear H1))
   | (go_at_call 44;refine (H2.out w0).mono ?_;(rintro e w' ⟨rfl,rfl⟩;clear H2))
   | (go_at_call 44;refine (H3.out w0).mono ?_;(rintro e w' ⟨rfl,rfl⟩;clear H3))
   | (go_at_call 44;refine (H5.out w0).mono ?_;(rintro e w' ⟨rfl,rfl⟩;clear H5)))
  all_goals first
   | (go_ret;exact ⟨by rw [ej.out];rfl,HB.out⟩)
   | (exfalso;have h:=kp.out;clear ej;simp_all)
 case pos =>
 simp only [Bool.and_eq_true] at hall
 obtain ⟨⟨⟨⟨rfl,rfl⟩,rfl⟩,rfl⟩,rfl⟩:=hall
 have dm:R (y9y f=(z2s f.ways n&&k2x f)):=by show _=_;unfold y9y;rw [HR.out,HN.out];rfl
 clear HR
 go_wp2_with (first
  | (go_at_call 163;refine (H4.out w0).mono ?_;(rintro e w' ⟨rfl,rfl⟩))
  | (go_at_call 44;refine (H1.out w0).mono ?_;(rintro e w' ⟨rfl,rfl⟩;clear H1))
  | (go_at_call 44;refine (H2.out w0).mono ?_;(rintro e w' ⟨rfl,rfl⟩;clear H2))
  | (go_at_call 44;refine (H3.out w0).mono ?_;(rintro e w' ⟨rfl,rfl⟩;clear H3))
  | (go_at_call 44;refine (H5.out w0).mono ?_;(rintro e w' ⟨rfl,rfl⟩;clear H5)))
 clear c0 c1 c2 c3 c4
 go_loopw [3] (fun vi wr=>k4z f.ways n w (f.cells (M oa n ca)) vi wr) (fun vi _=>n - z1f vi)
 case atStart=>exact ⟨0,rfl,by omega,by unfold z2s;simp,HC.out,HB.out⟩
 case round =>
  obtain ⟨i,rfl,hi,hs,hc,hb⟩:=hrel
  have HS:=hd_ hs;have eG:=hd_ hc;have aq:=hd_ hb
  have c4:=hc.cv 4 (M oa n ca)
  clear hs hc hb HC HB
  by_cases hlt:i<n
  case neg =>
   obtain rfl:i=n:=by omega
   have tj:I ((i:Int)<(i:Int))=J:=by simp
   have c5:=eG.out.cv 5 (.int X f.wf)
   have c6:=eG.out.cv 6 (Y X f.wt)
   obtain ⟨b6,h6⟩:∃ b,I (0≤f.wf)=b:=⟨_,rfl⟩
   obtain ⟨b7,h7⟩:∃ b,I (f.wf<f.wt)=b:=⟨_,rfl⟩
   obtain ⟨b8,h8⟩:∃ b,I (f.wt≤1440)=b:=⟨_,rfl⟩
   obtain ⟨b9,h9⟩:∃ b,I (f.wt - f.wf≤16)=b:=⟨_,rfl⟩
   have HR:R (y9y f=(b6&&b7&&b8&&b9)):=by show _=_;rw [dm.out,HS.out];unfold k2x;rw [h6,h7,h8,h9];rfl
   by_cases hwin:0≤f.wf∧f.wf<f.wt∧f.wt≤1440
   case pos =>
    obtain ⟨w1,w2,w3⟩:=hwin
    obtain rfl:b6=G:=by rw [← h6];exact decide_eq_true w1
    obtain rfl:b7=G:=by rw [← h7];exact decide_eq_true w2
    obtain rfl:b8=G:=by rw [← h8];exact decide_eq_true w3
    have hwr:IntKind.i64.wrap (f.wt - f.wf)=f.wt - f.wf:=IntWalk.i64_in _ (by omega)
    have hwr2:wrap64 (f.wt - f.wf)=f.wt - f.wf:=by first|(unfold wrap64;omega)|exact (IntKind.wrap_i64 _).symm.trans hwr
    clear hlt hi
    go_wp2_with fail
    ·(try clear h6 h7 h8 h9 hwr hwr2);(try simp only [Bool.not_eq_true] at *);subst_vars;go_ret;exact ⟨by first|(rw [HR.out];rfl)|rfl,aq.out⟩
    all_goals (try clear h6 h7 h8 h9 hwr hwr2;try simp only [Bool.not_eq_true] at *;subst_vars;go_ret;exact ⟨by first|(rw [HR.out];rfl)|rfl,aq.out⟩)
   case neg =>
    have hno:(b6&&b7&&b8)=J:=by
     rw [← h6,← h7,← h8]
     by_cases x1:0≤f.wf
     ·by_cases x2:f.wf<f.wt
      ·have x3:¬ f.wt≤1440:=fun h=>hwin ⟨x1,x2,h⟩
       simp [x3]
      ·simp [x2]
     ·simp [x1]
    have ej:R (y9y f=J):=by show _=_;rw [HR.out,hno];simp
    have kp:=hd_ hno
    clear hno hwin hlt hi HR h9
    go_wp2_with fail
    all_goals first
     | (go_ret;first|exact ⟨by rw [ej.out];rfl,aq.out⟩|(exfalso;have h:=kp.out;clear ej;simp_all))
  case pos =>
  have tj:I ((i:Int)<(n:Int))=G:=by simp;omega
  have eu:I (i<n)=G:=by simp;omega
  have kb:(i:Int)<(n:Int):=by omega
  obtain ⟨x,hx⟩:∃ x,f.ways[i]? = O x:=⟨_,gE (by rw [HN.out];exact hlt)⟩
  obtain ⟨ab,ao,rfl⟩:=z9f HL.out (k:=i) (by rw [HN.out];exact hlt)
  have c1:=z1a aq.out (z3m HL.out hx)
  have hgd:f.ways.getD i 0=x:=by rw [List.getD_eq_getElem?_getD,hx];rfl
  have cY:=hd_ (z5e x 0 63 wr)
  obtain ⟨b,h⟩:∃ b,inB x 0 63=b:=⟨_,rfl⟩
  have HWy:R (k6d f.ways i=(b && !((f.ways.take i).any fun y=>x == y))):=by show _=_;unfold k6d;rw [hgd,h]
  rw [h] at cY
  have aN:=Lib.hid hlt;have Hx:=Lib.hid hx;have Hi:R ((i:Int)≤(n:Int)):=by show _≤_;omega
  clear hlt hx h hi hgd
  cases b
  ·go_wp2_with (go_at_call 44;refine cY.out.mono ?_;(rintro e w' ⟨rfl,rfl⟩))
   go_ret
   exact ⟨by rw [dm.out,x9o (by rw [HWy.out];rfl) aN.out];rfl,aq.out⟩
  ·go_wp2_with (go_at_call 44;refine cY.out.mono ?_;(rintro e w' ⟨rfl,rfl⟩))
   clear c1 c4 cY
   generalize wr=wr0 at *
   go_loopw [4] (fun vi wr=>k5z f.ways x i w (f.cells (M (O ⟨ab,ao,E⟩) n ca)) vi wr) (fun vi _=>i - z1f vi)
   case atStart=>exact ⟨0,rfl,by omega,fun j y h=>by omega,eG.out,aq.out⟩
   case round =>
    obtain ⟨k,rfl,hk,hs,hc,hb⟩:=hrel
    have HQ:=hd_ hs;have kR:=hd_ hc;have eX:=hd_ hb
    have c4:=hc.cv 4 (M (O ⟨ab,ao,E⟩) n ca)
    clear hs hc hb eG aq
    by_cases hki:k<i
    case neg =>
     obtain rfl:k=i:=by omega
     have tk:I ((k:Int)<(k:Int))=J:=by simp
     have HE:R (z2s f.ways (k+1)=G):=by
      show _=_
      have hany:((f.ways.take k).any fun y=>x == y)=J:=by
       rw [List.any_eq_false]
       intro y hy
       obtain ⟨j,hj⟩:=List.mem_iff_getElem?.1 hy
       have hjk:j<k:=by have:=(gS.1 hj).1;rw [List.length_take] at this;omega
       rw [List.getElem?_take_of_lt hjk] at hj
       have:=HQ.out j y hjk hj
       simpa using this
      rw [y6m,HS.out,HWy.out,hany];rfl
     go_wp2_with fail
     go_roundw
     case rel=>exact ⟨k+1,by go_num,aN.out,HE.out,kR.out,eX.out⟩
     case measure=>simp [z1f];have:=aN.out;omega
    case pos =>
    have tk:I ((k:Int)<(i:Int))=G:=by simp;omega
    have kQ:I (k<i)=G:=by simp;omega
    have kk:(k:Int)<(n:Int):=by have:=Hi.out;omega
    obtain ⟨y,hy⟩:∃ y,f.ways[k]? = O y:=⟨_,gE (by rw [HN.out];omega)⟩
    have c1:=z1a eX.out (z3m HL.out Hx.out);have c2:=z1a eX.out (z3m HL.out hy)
    have lZ:=hd_ hki;have Hy:=hd_ hy
    clear hki hy hk
    go_upto_region 11 with fail
    by_cases hxy:y=x
    ·subst hxy
     have HE:R (y9y f=J):=by
      show _=_
      have:((f.ways.take i).any fun z=>y == z)=G:=List.any_eq_true.2 ⟨y,by
       rw [List.mem_iff_getElem?];exact ⟨k,by rw [List.getElem?_take_of_lt lZ.out];exact Hy.out⟩,by simp⟩
      rw [dm.out,x9o (by rw [HWy.out,this];rfl) aN.out];rfl
     go_quiet (fail)
     have K:R (B w.heap.size w (wr.drewN nq)):=z1c eX.out nq
     clear c1 c2 c4 eX kR
     generalize wr.drewN nq=wA at *
     go_wp2_with fail
     go_ret
     exact ⟨by rw [HE.out];rfl,K.out⟩
    ·have u1:I (y=x)=J:=decide_eq_false hxy
     have u2:(y == x)=J:=beq_false_of_ne hxy
     have iv:R (x≠y):=fun e=>hxy e.symm
     clear hxy
     go_quiet (fail)
     have K:R (B w.heap.size w (wr.drewN nq)):=z1c eX.out nq
     have KC:R (CB (wr.drewN nq) w.heap.size 28 (f.cells (M (O ⟨ab,ao,E⟩) n ca))):=kR.out
     clear c1 c2 c4 eX kR
     generalize wr.drewN nq=wA at *
     go_wp2_with fail
     go_roundw
     case rel=>exact ⟨k+1,by go_num,lZ.out,fun j z hj hz=>by
      rcases Nat.lt_succ_iff_lt_or_eq.1 hj with h|h
      ·exact HQ.out j z h hz
      ·subst h
       have:=Hy.out.symm.trans hz
       injection this with this
       rw [← this];exact iv.out,KC.out,K.out⟩
     case measure=>simp [z1f];have:=lZ.out;omega
def y2a (frm:Int) (c:Cut):Bool:=inB c.ix 0 (if c.ap then 15 else 63)&&inB c.less 0 64&&I (frm≤c.mf)&&I (c.mf<c.mt)&&I (c.mt≤1440)
theorem x9t (c:Cut) (frm:Int) (g:Nat) (w:U) (hg:w.cell? ⟨g,1,E⟩=O (Y X frm)) :
 QQ prog 77 #[.agg c.cells.toArray,.pointer (O ⟨g,0,E⟩)] w fun e w'=>e=A (d (!y2a frm c))∧B w.heap.size w w':=by
 obtain ⟨ca,ci,cf,ct,cl⟩:=c
 have ax:=z4b (w:=w) (L #[d ca,Y X ci,Y X cf,Y X ct,Y X cl] 88)
 have HB:=hd_ ax
 have g1:=z1a ax hg
 have HR:R (y2a frm ⟨ca,ci,cf,ct,cl⟩=(inB ci 0 (if ca then 15 else 63)&&inB cl 0 64&&I (frm≤cf)&&I (cf<ct)&&I (ct≤1440))):=rfl
 have H1:=hd_ (fun (m:Int) W=>y1q ci 0 m W);have H2:=hd_ (fun W=>y1q cl 0 64 W)
 obtain ⟨b2,h2⟩:∃ b,inB cl 0 64=b:=⟨_,rfl⟩
 obtain ⟨b3,h3⟩:∃ b,I (frm≤cf)=b:=⟨_,rfl⟩
 obtain ⟨b4,h4⟩:∃ b,I (cf<ct)=b:=⟨_,rfl⟩
 obtain ⟨b5,h5⟩:∃ b,I (ct≤1440)=b:=⟨_,rfl⟩
 have HR:R (y2a frm ⟨ca,ci,cf,ct,cl⟩=(inB ci 0 (if ca then 15 else 63)&&b2&&b3&&b4&&b5)):=by have:=HR.out;rw [h2,h3,h4,h5] at this;exact this
 rw [h2] at H2
 have u3:I (cf<frm) = !b3:=by rw [← h3];by_cases h:frm≤cf <;> simp [h] <;> omega
 have u4:I (ct≤cf) = !b4:=by rw [← h4];by_cases h:cf<ct <;> simp [h] <;> omega
 have u5:I (1440<ct) = !b5:=by rw [← h5];by_cases h:ct≤1440 <;> simp [h] <;> omega
 clear ax hg h2 h3 h4 h5
 change QQ prog 77 #[.agg #[d ca,Y X ci,Y X cf,Y X ct,Y X cl],_] w _
 cases ca
 ·obtain ⟨b1,h1⟩:∃ b,inB ci 0 63=b:=⟨_,rfl⟩
  have HR:R (y2a frm ⟨J,ci,cf,ct,cl⟩=(b1&&b2&&b3&&b4&&b5)):=by have:=HR.out;show _=_;rw [this,← h1];rfl
  have H1:=hd_ (fun W=>H1.out 63 W)
  rw [h1] at H1
  clear h1
  go_enter func77,ntmps77
  by_cases hall:(b1&&b2&&b3&&b4&&b5)=G
  case neg =>
   have hno:(b1&&b2&&b3&&b4&&b5)=J:=by simpa using hall
   have kp:=hd_ hno
   have ej:R (y2a frm ⟨J,ci,cf,ct,cl⟩=J):=by show _=_;rw [HR.out,hno]
   clear hno hall HR
   go_wp2_with (first
   | (go_at_call 75;refine (H1.out _).mono ?_;(rintro e w' ⟨rfl,rfl⟩;clear H1))
   | (go_at_call 75;refine (H2.out _).mono ?_;(rintro e w' ⟨rfl,rfl⟩;clear H2)))
   all_goals first
    | (go_ret;exact ⟨by rw [ej.out];rfl,HB.out⟩)
    | (have h:=kp.out
       have h5:b5=J:=by
        cases b5
        ·rfl
        ·exfalso;clear ej;simp_all
       subst h5
       go_ret;exact ⟨by rw [ej.out];rfl,HB.out⟩)
  case pos =>
   have ej:R (y2a frm ⟨J,ci,cf,ct,cl⟩=G):=by show _=_;rw [HR.out,hall]
   simp only [Bool.and_eq_true] at hall
   obtain ⟨⟨⟨⟨rfl,rfl⟩,rfl⟩,rfl⟩,rfl⟩:=hall
   clear HR
   go_wp2_with (first
   | (go_at_call 75;refine (H1.out _).mono ?_;(rintro e w' ⟨rfl,rfl⟩;clear H1))
   | (go_at_call 75;refine (H2.out _).mono ?_;(rintro e w' ⟨rfl,rfl⟩;clear H2)))
   go_ret
   exact ⟨by rw [ej.out];rfl,HB.out⟩
 ·obtain ⟨b1,h1⟩:∃ b,inB ci 0 15=b:=⟨_,rfl⟩
  have HR:R (y2a frm ⟨G,ci,cf,ct,cl⟩=(b1&&b2&&b3&&b4&&b5)):=by have:=HR.out;show _=_;rw [this,← h1];rfl
  have H1:=hd_ (fun W=>H1.out 15 W)
  rw [h1] at H1
  clear h1
  go_enter func77,ntmps77
  by_cases hall:(b1&&b2&&b3&&b4&&b5)=G
  case neg =>
   have hno:(b1&&b2&&b3&&b4&&b5)=J:=by simpa using hall
   have kp:=hd_ hno
   have ej:R (y2a frm ⟨G,ci,cf,ct,cl⟩=J):=by show _=_;rw [HR.out,hno]
   clear hno hall HR
   go_wp2_with (first
   | (go_at_call 75;refine (H1.out _).mono ?_;(rintro e w' ⟨rfl,rfl⟩;clear H1))
   | (go_at_call 75;refine (H2.out _).mono ?_;(rintro e w' ⟨rfl,rfl⟩;clear H2)))
   all_goals first
    | (go_ret;exact ⟨by rw [ej.out];rfl,HB.out⟩)
    | (have h:=kp.out
       have h5:b5=J:=by
        cases b5
        ·rfl
        ·exfalso;clear ej;simp_all
       subst h5
       go_ret;exact ⟨by rw [ej.out];rfl,HB.out⟩)
  case pos =>
   have ej:R (y2a frm ⟨G,ci,cf,ct,cl⟩=G):=by show _=_;rw [HR.out,hall]
   simp only [Bool.and_eq_true] at hall
   obtain ⟨⟨⟨⟨rfl,rfl⟩,rfl⟩,rfl⟩,rfl⟩:=hall
   clear HR
   go_wp2_with (first
   | (go_at_call 75;refine (H1.out _).mono ?_;(rintro e w' ⟨rfl,rfl⟩;clear H1))
   | (go_at_call 75;refine (H2.out _).mono ?_;(rintro e w' ⟨rfl,rfl⟩;clear H2)))
   go_ret
   exact ⟨by rw [ej.out];rfl,HB.out⟩
theorem x0u (l:List Cut) (frm:Int) (g:Nat) (v:C) (w:U) (hl:z4g cuK w.heap.size w l v) (hg:w.cell? ⟨g,1,E⟩=O (Y X frm)) :
 QQ prog 149 #[v,.func (.func 77) #[] #[.pointer (O ⟨g,0,E⟩)]] w fun e w'=>(∃ r:Int,e=A (Y X r)∧I (0≤r)=l.any (fun c=>!y2a frm c))∧B w.heap.size w w':=by
 obtain ⟨oa,ca,rfl,la⟩:=hl.shape
 have HL:=hd_ hl;have HG:=hd_ hg
 obtain ⟨n,hn⟩:∃ n,l.length=n:=⟨_,rfl⟩
 rw [hn] at HL la ⊢
 have l1:(n:Int)≤9223372036854775807:=by omega
 have HN:=hd_ hn
 clear hl hn la hg
 go_enter func149,ntmps149
 go_wp2_with fail
 go_loopw [8] (fun vi wr=>(∃ i:Nat,vi=Y X (i:Int)∧i≤n∧∀ j y,j<i→l[j]? = O y→(!y2a frm y)=J)∧B w.heap.size w wr) (fun vi _=>n - z1f vi)
 case atStart=>exact ⟨⟨0,rfl,by omega,fun j y h=>by omega⟩,Below.refl _ _⟩
 case round =>
  obtain ⟨⟨i,rfl,hi,hs⟩,hb⟩:=hrel
  have HS:=hd_ hs;have aq:=hd_ hb
  clear hs hb
  by_cases hlt:i<n
  case neg =>
   obtain rfl:i=n:=by omega
   have tj:I ((i:Int)<(i:Int))=J:=by simp
   have HE:R (l.any (fun c=>!y2a frm c)=J):=by
    show _=_
    rw [List.any_eq_false]
    intro y hy
    obtain ⟨j,hj⟩:=List.mem_iff_getElem?.1 hy
    have nW:=HS.out j y (by have:=(gS.1 hj).1;have:=HN.out;omega) hj
    rw [nW];simp
   go_wp2_with fail
   go_ret
   exact ⟨⟨-1,rfl,by rw [HE.out];rfl⟩,aq.out⟩
  case pos =>
  have tj:I ((i:Int)<(n:Int))=G:=by simp;omega
  have eu:I (i<n)=G:=by simp;omega
  have kb:(i:Int)<(n:Int):=by omega
  obtain ⟨y,hy⟩:∃ y,l[i]? = O y:=⟨_,gE (by rw [HN.out];exact hlt)⟩
  obtain ⟨ab,ao,rfl⟩:=z9f HL.out (k:=i) (by rw [HN.out];exact hlt)
  have HR:=hd_ (z2m (z0w HL.out hy) aq.out)
  have cY:=hd_ (x9t y frm g wr (z1a aq.out HG.out))
  have aN:=hd_ hlt;have Hy:=hd_ hy
  obtain ⟨b,hb⟩:∃ b,(!y2a frm y)=b:=⟨_,rfl⟩
  have jz:=hd_ hb
  rw [hb] at cY
  clear hlt hy hi hb
  cases b
  ·go_wp2_with (first
    | (have _g:=HR.out;refine lmg 88 (.tmp 14) rfl ab (ao+i * 5) rfl y.cells HR.out underlying88 ?_)
    | (go_at_call 77;refine cY.out.mono ?_;(rintro e w2 ⟨rfl,hb⟩;have au:=hd_ (z0a aq.out hb);clear hb)))
   go_roundw
   case rel=>exact ⟨⟨i+1,by go_num,aN.out,fun j z hj hz=>by
    rcases Nat.lt_succ_iff_lt_or_eq.1 hj with h|h
    ·exact HS.out j z h hz
    ·subst h
     have:=Hy.out.symm.trans hz
     injection this with this
     rw [← this];exact jz.out⟩,au.out⟩
   case measure=>simp [z1f];have:=aN.out;omega
  ·go_wp2_with (first
    | (have _g:=HR.out;refine lmg 88 (.tmp 14) rfl ab (ao+i * 5) rfl y.cells HR.out underlying88 ?_)
    | (go_at_call 77;refine cY.out.mono ?_;(rintro e w2 ⟨rfl,hb⟩;have au:=hd_ (z0a aq.out hb);clear hb)))
   go_ret
   exact ⟨⟨(i:Int),rfl,by
    have:l.any (fun c=>!y2a frm c)=G:=List.any_eq_true.2 ⟨y,mG Hy.out,jz.out⟩
    rw [this];simp⟩,au.out⟩
theorem y3q (l:List Cut) (frm:Int) (g:Nat) (v:C) (w:U) (hl:z4g cuK w.heap.size w l v) (hg:w.cell? ⟨g,1,E⟩=O (Y X frm)) :
 QQ prog 76 #[v,.func (.func 77) #[] #[.pointer (O ⟨g,0,E⟩)]] w fun e w'=>e=A (d (l.any fun c=>!y2a frm c))∧B w.heap.size w w':=by
 have HC:=hd_ (x0u l frm g v w hl hg)
 obtain ⟨oa,ca,rfl,-⟩:=hl.shape
 clear hl hg
 go_enter func76,ntmps76
 go_wp2_with (go_at_call 149;refine HC.out.mono ?_;rintro e w2 ⟨⟨r,rfl,hr⟩,hb⟩)
 go_ret
 exact ⟨by rw [← hr];rfl,hb⟩
theorem y0z (c:Cut) (frm:Int) (w:U):QQ prog 197 #[.agg c.cells.toArray,Y X frm] w fun e w'=>e=A (d (y2a frm c))∧B w.heap.size w w':=by
 obtain ⟨ca,ci,cf,ct,cl⟩:=c
 have HB:=hd_ (z4b (w:=w) (L #[d ca,Y X ci,Y X cf,Y X ct,Y X cl] 88))
 obtain ⟨b1,h1⟩:∃ b,I (0≤ci)=b:=⟨_,rfl⟩
 obtain ⟨b3,h3⟩:∃ b,I (frm≤cf)=b:=⟨_,rfl⟩
 obtain ⟨b4,h4⟩:∃ b,I (cf<ct)=b:=⟨_,rfl⟩
 obtain ⟨b5,h5⟩:∃ b,I (ct≤1440)=b:=⟨_,rfl⟩
 obtain ⟨b6,h6⟩:∃ b,I (0≤cl)=b:=⟨_,rfl⟩
 obtain ⟨b7,h7⟩:∃ b,I (cl≤64)=b:=⟨_,rfl⟩
 change QQ prog 197 #[.agg #[d ca,Y X ci,Y X cf,Y X ct,Y X cl],_] w _
 cases ca
 ·obtain ⟨b2,h2⟩:∃ b,I (ci<64)=b:=⟨_,rfl⟩
  have HR:R (y2a frm ⟨J,ci,cf,ct,cl⟩=(b1&&b2&&b3&&b4&&b5&&b6&&b7)):=by
   show (inB ci 0 63&&inB cl 0 64&&I (frm≤cf)&&I (cf<ct)&&I (ct≤1440))=_
   have e2:I (ci≤63)=b2:=by rw [← h2];by_cases h:ci<64 <;> simp [h] <;> omega
   unfold inB
   rw [h1,e2,h3,h4,h5,h6,h7]
   cases b1 <;> cases b2 <;> cases b3 <;> cases b4 <;> cases b5 <;> cases b6 <;> cases b7 <;> rfl
  go_enter func197,ntmps197
  go_wp2_with fail
  ·(try clear h1 h2 h3 h4 h5 h6 h7);(try simp only [Bool.not_eq_true] at *);subst_vars;go_ret;exact ⟨by first|(rw [HR.out];rfl)|rfl,HB.out⟩
  all_goals (try clear h1 h2 h3 h4 h5 h6 h7;try simp only [Bool.not_eq_true] at *;subst_vars;go_ret;exact ⟨by first|(rw [HR.out];rfl)|rfl,HB.out⟩)
 ·obtain ⟨b2,h2⟩:∃ b,I (ci<16)=b:=⟨_,rfl⟩
  have HR:R (y2a frm ⟨G,ci,cf,ct,cl⟩=(b1&&b2&&b3&&b4&&b5&&b6&&b7)):=by
   show (inB ci 0 15&&inB cl 0 64&&I (frm≤cf)&&I (cf<ct)&&I (ct≤1440))=_
   have e2:I (ci≤15)=b2:=by rw [← h2];by_cases h:ci<16 <;> simp [h] <;> omega
   unfold inB
   rw [h1,e2,h3,h4,h5,h6,h7]
   cases b1 <;> cases b2 <;> cases b3 <;> cases b4 <;> cases b5 <;> cases b6 <;> cases b7 <;> rfl
  go_enter func197,ntmps197
  go_wp2_with fail
  ·(try clear h1 h2 h3 h4 h5 h6 h7);(try simp only [Bool.not_eq_true] at *);subst_vars;go_ret;exact ⟨by first|(rw [HR.out];rfl)|rfl,HB.out⟩
  all_goals (try clear h1 h2 h3 h4 h5 h6 h7;try simp only [Bool.not_eq_true] at *;subst_vars;go_ret;exact ⟨by first|(rw [HR.out];rfl)|rfl,HB.out⟩)
open Go.Maps (Keyed)
theorem y1z:Keyed prog 3:=Maps.int_keyed underlying3
theorem j7e {a:Int} (h:(Lit.int X a).wf=G):keyOf prog 3 (.int X a)=O (.int X a):=Maps.keyOf_int_mk underlying3 h
theorem j2s (w:U):(zeroValue 3).run prog w=.ok (Y X 0) w:=by kernel_rfl
theorem j8e (a:Int):WideAt.IsKeyLit (.int X a):=trivial
theorem j6y {a b:Int} (h:a≠b):(Lit.int X a)≠(Lit.int X b):=fun e=>h (by injection e)
def unI:DataW Nat→Int
 | .lit (.int _ n)=>n
 | _=>0
def j3s (w:U) (b n:Nat) (T:Int→Option Int):Prop :=
 ∃ D:DataW Nat,w.ownsMap prog 3 (plainElem prog 3) b n D∧(∀ t:Int,Maps.has D (.int X t)=(T t).isSome)∧∀ t:Int,(Lit.int X t).wf=G→D.atKey (.int X t) (.lit (.int X 0))=.lit (.int X ((T t).getD 0))
theorem j3s.made (w:U):j3s (w.alloc (.map #[] 0)) w.heap.size 0 (fun _=>E):=⟨_,World.ownsMap_made w _ _ _,fun _=>rfl,fun _ _=>rfl⟩
theorem j3s.lt {w:U} {b n:Nat} {T:Int→Option Int} (h:j3s w b n T):b<w.heap.size:=by obtain ⟨D,h,_⟩:=h;exact h.lt
theorem j3s.ext {w w':U} {b n:Nat} {T:Int→Option Int} (h:j3s w b n T) (hb:B w.heap.size w w'):j3s w' b n T:=by
 obtain ⟨D,⟨es,clock,h1,F,hs,hD⟩,q⟩:=h
 have hlt:b<w.heap.size:=(Array.getElem?_eq_some_iff.1 h1).1
 exact ⟨D,⟨es,clock,(hb.block b hlt).trans h1,F,hs,hD⟩,q⟩
theorem j3s.look {w:U} {b n:Nat} {T:Int→Option Int} (h:j3s w b n T) {t:Int} (ht:(Lit.int X t).wf=G) :
 (Instr.lookup 117 (.map (O b)) (Y X t) G).run prog w=.ok (.tuple #[Y X ((T t).getD 0),d (T t).isSome]) w:=by
 obtain ⟨D,h,q1,q2⟩:=h
 obtain ⟨v,ps,hrun,hv⟩:=h.look_ok y1z underlying117 (j2s w) (plainElem_int underlying3 (by decide)) (j7e ht)
 rw [q1 t] at hrun
 obtain ⟨c,rfl,hc,hwc⟩:=plainElem_int_inv underlying3 hv
 rw [q2 t ht] at hc
 simp only [Prod.mk.injEq] at hc
 have h2:(T t).getD 0=c:=congrArg unI hc.1
 rw [h2];exact hrun
theorem j3s.update {w:U} {b n:Nat} {T:Int→Option Int} (h:j3s w b n T) (hn:n<maxLen) {t v:Int} (ht:(Lit.int X t).wf=G) (hv:(Lit.int X v).wf=G) :
 ∃ w',(Instr.mapUpdate 117 (.map (O b)) (Y X t) (Y X v)).run prog w=.ok () w'∧j3s w' b (n+1) (fun s=>if s=t then O v else T s)∧w.grownBy w' (O b):=by
 obtain ⟨D,h,q1,q2⟩:=h
 obtain ⟨w',h1,h2,h3⟩:=h.update y1z underlying117 hn (j7e ht) (plainElem_int (H:=Nat) underlying3 hv)
 refine ⟨w',h1,⟨_,h2,fun s=>?_,fun s hs=>?_⟩,h3⟩
 ·by_cases he:s=t
  ·subst he
   rw [Maps.has_put_same h.isMap (j8e _)];simp
  ·rw [Maps.has_put_other (j6y he),q1 s];simp [he]
 ·by_cases he:s=t
  ·subst he
   rw [Maps.atKey_put_same h.isMap (j8e _)];simp
  ·rw [Maps.atKey_put_other (j6y he),q2 s hs];simp [he]
def x1u (l:List Nod) (p:Int):Int:=((l[p.toNat]?).map Nod.frm).getD 0
def x2u (l:List Nod) (i:Nat) (t:Nod):Bool:=((l.take i).drop 1).all fun s=>I (s.par≠t.par) || I (s.frm=t.frm)
def y7c (t:Nod):Bool:=t.cuts.all (y2a t.frm)&&I (t.cuts.length≤64)
def y2z (l:List Nod) (i:Nat) (t:Nod):Bool:=if i=0 then I (t.par = -1)&&I (t.frm=0) else inB t.par 0 ((i:Int) - 1)&&inB t.frm (x1u l t.par+1) 1439
def y9g (l:List Nod) (i:Nat) (t:Nod):Bool:=y2z l i t&&x2u l i t&&y7c t
def j9e (l:List Nod):Bool:=(List.range l.length).all fun i=>match l[i]? with
 | some t=>y9g l i t
 | none=>G
def z9o (l:List Nod):Bool:=I (1≤l.length)&&I (l.length≤32)&&j9e l
theorem y0h {l:List Nod} {i:Nat} {t:Nod} (ht:l[i]? = O t) (h:y9g l i t=J):z9o l=J:=by
 have:j9e l=J:=by
  unfold j9e
  rw [List.all_eq_false]
  exact ⟨i,List.mem_range.2 (gS.1 ht).1,by rw [ht];simp [h]⟩
 unfold z9o;rw [this];simp
theorem y3z {l:List Nod} (h1:1≤l.length) (h2:l.length≤32) (h:∀ j t,j<l.length→l[j]? = O t→y9g l j t=G):z9o l=G:=by
 have:j9e l=G:=by
  unfold j9e
  rw [List.all_eq_true]
  intro i hi
  have hi:=List.mem_range.1 hi
  have hg:l[i]? = O l[i]:=gE hi
  rw [hg];exact h i _ hi hg
 unfold z9o;rw [this,decide_eq_true h1,decide_eq_true h2];rfl
theorem y4q {l:List Nod} {i:Nat} {t:Nod} (h:∀ j s,1≤j→j<i→l[j]? = O s→s.par=t.par→s.frm=t.frm):x2u l i t=G:=by
 unfold x2u
 rw [List.all_eq_true]
 intro s hs
 obtain ⟨k,hk⟩:=List.mem_iff_getElem?.1 hs
 rw [List.getElem?_drop] at hk
 have hlt:1+k<i:=by
  have:=(gS.1 hk).1
  rw [List.length_take] at this;omega
 rw [List.getElem?_take_of_lt hlt] at hk
 by_cases hp:s.par=t.par
 ·have:=h (1+k) s (by omega) hlt hk hp
  simp [this]
 ·simp [hp]
theorem y4z {l:List Nod} {i j:Nat} {t s:Nod} (h1:1≤j) (h2:j<i) (hs:l[j]? = O s) (hp:s.par=t.par) (hf:s.frm≠t.frm):x2u l i t=J:=by
 unfold x2u
 rw [List.all_eq_false]
 refine ⟨s,?_,by simp [hp,hf]⟩
 rw [List.mem_iff_getElem?]
 exact ⟨j - 1,by rw [List.getElem?_drop,show 1+(j - 1)=j by omega,List.getElem?_take_of_lt h2];exact hs⟩
theorem k7d {l:List Nod} {i:Nat} (h:∀ j t,j<i→l[j]? = O t→y9g l j t=G):∀ j t,j<i→l[j]? = O t→0≤t.frm∧t.frm≤1439:=by
 intro j
 induction j using Nat.strongRecOn with
 | ind j ih =>
  intro t hj ht
  have hn:=h j t hj ht
  unfold y9g y2z at hn
  simp only [Bool.and_eq_true] at hn
  by_cases h0:j=0
  ·rw [if_pos h0] at hn
   simp only [Bool.and_eq_true,decide_eq_true_eq] at hn
   omega
  ·rw [if_neg h0] at hn
   have hp:=hn.1.1
   unfold inB at hp
   simp only [Bool.and_eq_true,decide_eq_true_eq] at hp
   have hlt:t.par.toNat<j:=by omega
   have hl:=(gS.1 ht).1
   have hg:l[t.par.toNat]? = O l[t.par.toNat]:=gE (by omega)
   have hb:=ih t.par.toNat hlt _ (by omega) hg
   have he:x1u l t.par=(l[t.par.toNat]).frm:=by unfold x1u;rw [hg];rfl
   omega
def KnI (l:List Nod) (i:Nat) (T:Int→Option Int):Prop :=
 (∀ p f,T p=O f→∃ j s,1≤j∧j<i∧l[j]? = O s∧s.par=p∧s.frm=f)∧∀ j s,1≤j→j<i→l[j]? = O s→T s.par=O s.frm
theorem j4s (l:List Nod):KnI l 0 (fun _=>E):=⟨fun p f h=>by simp at h,fun j s _ h=>by omega⟩
theorem k7p {l:List Nod} {T:Int→Option Int} (h:KnI l 0 T):KnI l 1 T :=
 ⟨fun p f hp=>by obtain ⟨j,s,h1,h2,_⟩:=h.1 p f hp;omega,fun j s h1 h2=>by omega⟩
theorem k8d {l:List Nod} {i:Nat} {T:Int→Option Int} {t:Nod} (h:KnI l i T) (hi:1≤i) (ht:l[i]? = O t) (ho:∀ f,T t.par=O f→f=t.frm) :
 KnI l (i+1) (fun s=>if s=t.par then O t.frm else T s):=by
 refine ⟨fun p f hp=>?_,fun j s h1 h2 hs=>?_⟩
 ·by_cases he:p=t.par
  ·simp only [he,if_pos] at hp
   injection hp with hp
   exact ⟨i,t,hi,by omega,ht,he.symm,hp⟩
  ·simp only [if_neg he] at hp
   obtain ⟨j,s,a,b,c⟩:=h.1 p f hp
   exact ⟨j,s,a,by omega,c⟩
 ·by_cases hj:j=i
  ·subst hj
   rw [ht] at hs;injection hs with hs
   subst hs;simp
  ·have hT:=h.2 j s h1 (by omega) hs
   by_cases he:s.par=t.par
   ·have:=ho s.frm (by rw [← he];exact hT)
    simp [he,this]
   ·simp only [if_neg he];exact hT
theorem k8p {l:List Nod} {i:Nat} {T:Int→Option Int} {t:Nod} (h:KnI l i T) (ho:∀ f,T t.par=O f→f=t.frm):x2u l i t=G :=
 y4q fun j s h1 h2 hs hp=>ho s.frm (by rw [← hp];exact h.2 j s h1 h2 hs)
theorem k9p {l:List Nod} {i:Nat} {T:Int→Option Int} {t:Nod} {f:Int} (h:KnI l i T) (hf:T t.par=O f) (hne:f≠t.frm):x2u l i t=J:=by
 obtain ⟨j,s,h1,h2,hs,hp,rfl⟩:=h.1 _ _ hf
 exact y4z h1 h2 hs hp hne
theorem y5z {l:List Nod} {p:Nat} {s:Nod} (h:l[p]? = O s):x1u l (p:Int)=s.frm:=by
 unfold x1u
 rw [show (p:Int).toNat=p by omega,h];rfl
theorem j0f {l:List Nod} {t:Nod} (h1:t.par = -1) (h2:t.frm=0) (hc:y7c t=G):y9g l 0 t=G:=by
 unfold y9g y2z;rw [if_pos rfl,decide_eq_true h1,decide_eq_true h2,hc];unfold x2u;simp
theorem y5q {l:List Nod} {i:Nat} {t:Nod} (h:y7c t=J):y9g l i t=J:=by unfold y9g;rw [h];simp
theorem y6q {l:List Nod} {i:Nat} {t:Nod} (h:y2z l i t=J):y9g l i t=J:=by unfold y9g;rw [h];rfl
theorem j1f {l:List Nod} {i:Nat} {t:Nod} (h:x2u l i t=J):y9g l i t=J:=by unfold y9g;rw [h];simp
theorem x3i {l:List Nod} {i:Nat} {t:Nod} (h1:y2z l i t=G) (h2:x2u l i t=G) (h3:y7c t=G):y9g l i t=G:=by unfold y9g;rw [h1,h2,h3];rfl
theorem y7q {t:Nod} (h:(t.cuts.any fun c=>!y2a t.frm c)=G):y7c t=J:=by
 unfold y7c
 obtain ⟨c,hc,hb⟩:=List.any_eq_true.1 h
 have:t.cuts.all (y2a t.frm)=J:=List.all_eq_false.2 ⟨c,hc,by simpa using hb⟩
 rw [this];rfl
theorem z7x {t:Nod} (h:(t.cuts.any fun c=>!y2a t.frm c)=J):y7c t=I (t.cuts.length≤64):=by
 unfold y7c
 have:t.cuts.all (y2a t.frm)=G:=List.all_eq_true.2 fun c hc=>by
  have:=List.any_eq_false.1 h c hc
  simpa using this
 rw [this];rfl
def k0q (l:List Nod) (n:Nat) (w:U) (vi:C) (wr:U):Prop :=
 ∃ (i k:Nat) (T:Int→Option Int),vi=Y X (i:Int)∧i≤n∧k≤i∧(∀ j y,j<i→l[j]? = O y→y9g l j y=G)∧KnI l i T∧j3s wr w.heap.size k T∧B w.heap.size w wr
theorem k9d (n a b:Int) (w:U):QQ prog 75 #[Y X n,Y X a,Y X b] w fun e w'=>e=A (d (inB n a b))∧w'=w:=by
 refine (y1q n a b w).mono ?_
 rintro e w' ⟨rfl,rfl⟩
 exact ⟨rfl,rfl⟩
theorem x3u (l:List Nod) (v:C) (w:U) (hl:z9j w l v) :
 QQ prog 30 #[v] w fun e w'=>e=A (Y X (if z9o l then 0 else 180))∧B w.heap.size w w':=by
 obtain ⟨oa,cap,rfl,la⟩:=hl.shape
 have HL:=hd_ hl
 obtain ⟨n,hn⟩:∃ n,l.length=n:=⟨_,rfl⟩
 rw [hn] at HL la ⊢
 have l1:(n:Int)≤9223372036854775807:=by omega
 have HN:=hd_ hn
 obtain ⟨Z,hZ⟩:∃ z:Int,(if z9o l then (0:Int) else 180)=z:=⟨_,rfl⟩
 have HZ:=hd_ hZ
 rw [hZ]
 clear hl hn la hZ
 have HI:=hd_ (fun W=>y1q (n:Int) 1 32 W)
 go_enter func30,ntmps30
 go_wp2_with fail
 go_step3
 by_cases hin:inB (n:Int) 1 32=G
 case neg =>
  have hin:inB (n:Int) 1 32=J:=by simpa using hin
  rw [hin] at HI
  have HE:R (Z=180):=by
   show _=_
   have:z9o l=J:=by
    unfold z9o;rw [HN.out]
    unfold inB at hin
    by_cases h1:1≤n
    ·have:¬ n≤32:=fun h2=>by simp at hin;omega
     simp [this]
    ·simp [h1]
   rw [← HZ.out,this];rfl
  clear hin
  go_wp2_with (go_at_call 75;refine (HI.out _).mono ?_;(rintro e w' ⟨rfl,rfl⟩))
  (try rw [Exit.noGoto_ret]);go_ret
  exact ⟨by rw [HE.out];rfl,Below.refl _ _⟩
 case pos =>
 rw [hin] at HI
 have lH:1≤n∧n≤32:=by unfold inB at hin;simp at hin;omega
 obtain ⟨n1,n2⟩:=lH
 clear hin
 obtain ⟨t0,ht0⟩:∃ t,l[0]? = O t:=⟨_,gE (by rw [HN.out];omega)⟩
 obtain ⟨ab,ao,r0,rfl,_,aC,kS⟩:=HL.out.el ht0
 obtain ⟨rp,rf,ro,rn,rc⟩:=r0
 have c0:w.cell? ⟨ab,ao,E⟩=O (Y X rp):=by have:=aC 0 _ rfl;simpa using this
 have c1:w.cell? ⟨ab,ao+1,E⟩=O (Y X rf):=by have:=aC 1 _ rfl;simpa using this
 obtain ⟨p1,p2,_⟩:=kS
 change rp=t0.par at p1;change rf=t0.frm at p2
 have HT0:=hd_ ht0
 have k0:(0:Int)<(n:Int):=by omega
 have k0':I ((0:Int)<(n:Int))=G:=decide_eq_true k0
 have k0'':I (0<n)=G:=decide_eq_true (by omega)
 clear ht0 aC
 by_cases hp:rp = -1∧rf=0
 case neg =>
  have HE:R (Z=180):=by
   show _=_
   have:z9o l=J:=y0h HT0.out (y6q (by
    unfold y2z;rw [if_pos rfl,← p1,← p2]
    by_cases h1:rp = -1
    ·have:rf≠0:=fun h2=>hp ⟨h1,h2⟩
     simp [this]
    ·simp [h1]))
   rw [← HZ.out,this];rfl
  clear p1 p2
  by_cases h1:rp = -1
  ·subst h1
   have h2:rf≠0:=fun h2=>hp ⟨rfl,h2⟩
   have u1:I (rf=0)=J:=decide_eq_false h2
   have u2:(rf == 0)=J:=beq_false_of_ne h2
   clear hp h2
   go_wp2_with (go_at_call 75;refine (HI.out _).mono ?_;(rintro e w' ⟨rfl,rfl⟩))
   (try rw [Exit.noGoto_ret]);go_ret
   exact ⟨by rw [HE.out];rfl,Below.refl _ _⟩
  ·have u1:I (rp = -1)=J:=decide_eq_false h1
   have u2:(rp == -1)=J:=beq_false_of_ne h1
   clear hp h1
   go_wp2_with (go_at_call 75;refine (HI.out _).mono ?_;(rintro e w' ⟨rfl,rfl⟩))
   (try rw [Exit.noGoto_ret]);go_ret
   exact ⟨by rw [HE.out];rfl,Below.refl _ _⟩
 case pos =>
 obtain ⟨rfl,rfl⟩:=hp
 have HP1:=hd_ p1.symm;have HP2:=hd_ p2.symm
 clear p1 p2
 have HK0:=hd_ (j3s.made w)
 have az:=hd_ (z4b (w:=w) (.map #[] 0))
 have hmm:=@run_makeMap prog
 go_wp2_with (go_at_call 75;refine (HI.out _).mono ?_;(rintro e w' ⟨rfl,rfl⟩))
 go_step3
 clear hmm c0 c1 k0 k0' k0'' HI
 generalize w.alloc (.map #[] 0)=w1 at *
 go_wp2_with fail
 go_loopw [30] (fun vi wr=>k0q l n w vi wr) (fun vi _=>n - z1f vi)
 case atStart=>exact ⟨0,0,_,rfl,by omega,by omega,fun j y h=>by omega,j4s l,HK0.out,az.out⟩
 case round =>
  obtain ⟨i,k,T,rfl,hi,hk,hs,hkn,hat,hb⟩:=hrel
  have HS:=hd_ hs;have HKn:=hd_ hkn;have HAt:=hd_ hat;have aq:=hd_ hb
  clear hs hkn hat hb HK0 az
  by_cases hlt:i<n
  case neg =>
   obtain rfl:i=n:=by omega
   have tj:I ((i:Int)<(i:Int))=J:=by simp
   have HE:R (Z=0):=by
    show _=_
    rw [← HZ.out,y3z (by rw [HN.out];exact n1) (by rw [HN.out];exact n2) (fun j t hj ht=>HS.out j t (by rw [← HN.out];exact hj) ht)];rfl
   go_wp2_with fail
   (try rw [Exit.noGoto_ret]);go_ret
   exact ⟨by rw [HE.out];rfl,aq.out⟩
  case pos =>
  have tj:I ((i:Int)<(n:Int))=G:=by simp;omega
  have eu:I (i<n)=G:=by simp;omega
  have kb:(i:Int)<(n:Int):=by omega
  have hi32:(i:Int)<32:=by omega
  obtain ⟨t,ht⟩:∃ t,l[i]? = O t:=⟨_,gE (by rw [HN.out];exact hlt)⟩
  obtain ⟨ab',ao',r,he,_,aC,hr⟩:=HL.out.el ht
  injection he with he;injection he with e1 e2 _
  subst e1 e2
  have hm32:k<maxLen:=by unfold maxLen;omega
  obtain ⟨rp,rf,ro,rn,rc⟩:=r
  have c0:wr.cell? ⟨ab,ao+i * 3,E⟩=O (Y X rp):=z1a aq.out (aC 0 _ rfl)
  have c1:wr.cell? ⟨ab,ao+i * 3+1,E⟩=O (Y X rf):=z1a aq.out (aC 1 _ rfl)
  have c2:wr.cell? ⟨ab,ao+i * 3+2,E⟩=O (M ro rn rc):=z1a aq.out (aC 2 _ rfl)
  have hbx:=z4b (w:=wr) (L #[Y X rp,Y X rf,M ro rn rc] 48)
  have hcx:CB (wr.alloc (L #[Y X rp,Y X rf,M ro rn rc] 48)) wr.heap.size 48 [Y X rp,Y X rf,M ro rn rc]:=CB.new wr _ _
  have nX:=hd_ hcx
  have iX:=hd_ (z0a aq.out hbx)
  have HAx:=hd_ (HAt.out.ext hbx)
  have hcu:z4g cuK (wr.alloc (L #[Y X rp,Y X rf,M ro rn rc] 48)).heap.size (wr.alloc (L #[Y X rp,Y X rf,M ro rn rc] 48)) t.cuts (M ro rn rc):=(hr.cuts.ext aq.out).ext hbx
  obtain ⟨dg,ca2,he2,lq⟩:=hcu.shape
  injection he2 with q1 q2 q3
  have hfr:rf=t.frm:=hr.frm
  have hpa:rp=t.par:=hr.par
  have ma:=hd_ (y3q t.cuts t.frm wr.heap.size _ _ hcu (by rw [← hfr];exact hcx.cell 1))
  have l2:(rn:Int)≤9223372036854775807:=by omega
  have gI:=hd_ q2
  have d2:=hcx.cv 2 (M ro rn rc)
  obtain ⟨bc,hbc⟩:∃ b,(t.cuts.any fun c=>!y2a t.frm c)=b:=⟨_,rfl⟩
  rw [hbc] at ma
  have Hbc:=hd_ hbc;have aN:=hd_ hlt;have Ht:=hd_ ht;have jM:=hd_ aC
  have iY:=hd_ hfr;have jA:=hd_ hpa
  clear hbc hlt ht aC hr hcu hcx hbx q1 q2 q3 hfr hpa lq
  have hmf:∀ (fn:Fn) (first cap:Array C) (w:U),(Instr.makeFunc fn first cap).run prog w=.ok (.func fn first cap) w:=fun _ _ _ _=>rfl
  have HBAD:R (y9g l i t=J→Z=180):=fun h=>by rw [← HZ.out,y0h Ht.out h];rfl
  go_upto_region 7 with fail
  clear c0 c1 c2
  generalize wr.alloc (L #[Y X rp,Y X rf,M ro rn rc] 48)=w1 at *
  cases bc
  case true =>
   have HE:R (Z=180):=HBAD.out (y5q (y7q Hbc.out))
   go_wp2_with (go_at_call 76;refine ma.out.mono ?_;(rintro e w2 ⟨rfl,hb⟩;have au:=hd_ hb;clear hb ma))
   (try rw [Exit.noGoto_ret]);go_ret
   exact ⟨by rw [HE.out];rfl,z0a iX.out au.out⟩
  case false =>
  go_upto_region 8 with (go_at_call 76;refine ma.out.mono ?_;(rintro e w2 ⟨rfl,hb⟩;have au:=hd_ hb;clear hb ma))
  clear d2 hmf
  have aA:=hd_ (z0a iX.out au.out)
  have HA3:=hd_ (HAx.out.ext au.out)
  have hcx:=nX.out.ext au.out
  have e0:=hcx.cv 0 (Y X rp)
  have e1:=hcx.cv 1 (Y X rf)
  have e2:=hcx.cv 2 (M ro rn rc)
  clear hcx au HAx HAt nX
  by_cases hc64:rn≤64
  case neg =>
   have HE:R (Z=180):=HBAD.out (y5q (by rw [z7x Hbc.out,← gI.out];simp [hc64]))
   have u1:I ((64:Int)<(rn:Int))=G:=decide_eq_true (by omega)
   clear hc64
   go_wp2_with fail
   (try rw [Exit.noGoto_ret]);go_ret
   exact ⟨by rw [HE.out];rfl,aA.out⟩
  case pos =>
  have u1:I ((64:Int)<(rn:Int))=J:=decide_eq_false (by omega)
  have kr:R (y7c t=G):=by show _=_;rw [z7x Hbc.out,← gI.out];simp [hc64]
  clear hc64
  by_cases hi0:i=0
  case pos =>
   subst hi0
   go_wp2_with fail
   have hTt:t=t0:=by have:=Ht.out.symm.trans HT0.out;injection this
   subst hTt
   have hno:y9g l 0 t=G:=j0f HP1.out HP2.out kr.out
   go_roundw
   case rel=>exact ⟨1,k,T,by go_num,aN.out,by omega,fun j z hj hz=>by
    have:j=0:=by omega
    subst this
    have:=Ht.out.symm.trans hz
    injection this with this
    rw [← this];exact hno,k7p HKn.out,HA3.out,aA.out⟩
   case measure=>simp [z1f];have:=aN.out;omega
  case neg =>
  have v0:I ((i:Int)=0)=J:=decide_eq_false (by omega)
  have mb:((i:Int) == 0)=J:=beq_false_of_ne (by omega)
  have mb':I (i=0)=J:=decide_eq_false (by omega)
  have w1':IntKind.i64.wrap ((i:Int) - 1)=(i:Int) - 1:=IntWalk.i64_in _ (by omega)
  have w1'':wrap64 ((i:Int) - 1)=(i:Int) - 1:=by first|(unfold wrap64;omega)|exact (IntKind.wrap_i64 _).symm.trans w1'
  obtain ⟨b1,h1⟩:∃ b,inB rp 0 ((i:Int) - 1)=b:=⟨_,rfl⟩
  go_upto_region 11 with fail
  cases b1
  case false =>
   have HE:R (Z=180):=HBAD.out (y6q (by unfold y2z;rw [if_neg hi0,← jA.out,h1];rfl))
   go_quiet ((go_at_call 75;exact Calls.quiet_of_same (k9d _ _ _ _)))
   go_wp2_with fail
   (try rw [Exit.noGoto_ret]);go_ret
   exact ⟨by rw [HE.out];rfl,z1c aA.out nq⟩
  case true =>
  have hr1:0≤rp∧rp≤(i:Int) - 1:=by unfold inB at h1;simp only [Bool.and_eq_true,decide_eq_true_eq] at h1;omega
  obtain ⟨p,rfl⟩:=Int.eq_ofNat_of_zero_le hr1.1
  have hpi:p<i:=by omega
  have hpn:(p:Int)<(n:Int):=by omega
  have hpn':I ((p:Int)<(n:Int))=G:=decide_eq_true hpn
  have hpn'':I (p<n)=G:=decide_eq_true (by omega)
  obtain ⟨s,hs⟩:∃ s,l[p]? = O s:=⟨_,gE (by rw [HN.out];omega)⟩
  obtain ⟨ab',ao',q,he,_,helq,hq⟩:=HL.out.el hs
  injection he with he;injection he with e1' e2' _
  subst e1' e2'
  have g1:w2.cell? ⟨ab,ao+p * 3+1,E⟩=O (Y X s.frm):=by rw [← hq.frm];exact z1a aA.out (helq 1 _ rfl)
  have hfm:=k7d HS.out p s hpi hs
  have x1:IntKind.i64.wrap (s.frm+1)=s.frm+1:=IntWalk.i64_in _ (by omega)
  have x2:wrap64 (s.frm+1)=s.frm+1:=by first|(unfold wrap64;omega)|exact (IntKind.wrap_i64 _).symm.trans x1
  obtain ⟨b2,h2⟩:∃ b,inB rf (s.frm+1) 1439=b:=⟨_,rfl⟩
  have HPB:R (y2z l i t=b2):=by show _=_;unfold y2z;rw [if_neg hi0,← jA.out,h1,y5z hs,← iY.out,h2];rfl
  have hwfp:(Lit.int X (p:Int)).wf=G:=by
   simp only [Lit.wf,Bool.and_eq_true,decide_eq_true_eq];simp [IntKind.min,IntKind.max,IntKind.signed,IntKind.bits];omega
  have Hwfp:=hd_ hwfp
  have H2:=hd_ h2;have Hhfm:=hd_ hfm
  clear hr1 hpi hs helq hq hfm hwfp
  cases b2
  case false =>
   have HE:R (Z=180):=HBAD.out (y6q HPB.out)
   go_quiet ((go_at_call 75;exact Calls.quiet_of_same (k9d _ _ _ _)))
   go_wp2_with fail
   (try rw [Exit.noGoto_ret]);go_ret
   exact ⟨by rw [HE.out];rfl,z1c aA.out nq⟩
  case true =>
  go_quiet ((go_at_call 75;exact Calls.quiet_of_same (k9d _ _ _ _)))
  have cH:R (B w.heap.size w (w2.drewN nq)):=z1c aA.out nq
  have HA4:R (j3s (w2.drewN nq) w.heap.size k T):=HA3.out
  have f0:(w2.drewN nq).cell? ⟨wr.heap.size,0,E⟩=O (Y X (p:Int)):=e0
  have f1:(w2.drewN nq).cell? ⟨wr.heap.size,1,E⟩=O (Y X rf):=e1
  clear e0 e1 e2 g1 h1 h2 x1 x2
  generalize w2.drewN nq=w3 at *
  have hlook:=HA4.out.look Hwfp.out
  have hwfv:(Lit.int X rf).wf=G:=by
   have:=H2.out;unfold inB at this;simp only [Bool.and_eq_true,decide_eq_true_eq] at this
   have:=Hhfm.out
   simp only [Lit.wf,Bool.and_eq_true,decide_eq_true_eq];simp [IntKind.min,IntKind.max,IntKind.signed,IntKind.bits];omega
  obtain ⟨w4,hrun,hK4,hg4⟩:=HA4.out.update hm32 Hwfp.out hwfv
  have HK4:=hd_ hK4
  have bZ:R (B w.heap.size w w4):=cH.out.grown hg4 cH.out.size (fun k e=>by injection e;omega)
  clear hK4 hg4 hwfv
  have HDONE:R ((∀ f,T (p:Int)=O f→f=rf)→k0q l n w (Y X ((i+1:Nat):Int)) w4):=fun ho =>
   have mw:∀ f,T t.par=O f→f=t.frm:=fun f hf=>by rw [← iY.out];exact ho f (by rw [jA.out];exact hf)
   have hno:y9g l i t=G:=x3i HPB.out (k8p HKn.out mw) kr.out
   ⟨i+1,k+1,_,rfl,aN.out,by omega,fun j z hj hz=>by
    rcases Nat.lt_succ_iff_lt_or_eq.1 hj with h|h
    ·exact HS.out j z h hz
    ·subst h
     have:=Ht.out.symm.trans hz
     injection this with this
     rw [← this];exact hno,by
    have:=k8d HKn.out (by omega) Ht.out mw
    rw [← iY.out,← jA.out] at this
    exact this,HK4.out,bZ.out⟩
  cases hT:T (p:Int) with
  | none =>
   rw [hT] at hlook
   change _=Result.ok (Value.tuple #[Y X 0,d J]) _ at hlook
   have HD:=hd_ (HDONE.out (fun f hf=>by rw [hT] at hf;cases hf))
   clear hT
   go_wp2_with fail
   go_roundw
   case rel=>exact HD.out
   case measure=>simp [z1f];have:=aN.out;omega
  | some f =>
   rw [hT] at hlook
   change _=Result.ok (Value.tuple #[Y X f,d G]) _ at hlook
   by_cases hf:f=rf
   ·subst hf
    have HD:=hd_ (HDONE.out (fun f' hf=>by rw [hT] at hf;injection hf with hf;exact hf.symm))
    clear hT
    go_wp2_with fail
    go_roundw
    case rel=>exact HD.out
    case measure=>simp [z1f];have:=aN.out;omega
   ·have HE:R (Z=180):=HBAD.out (j1f (k9p HKn.out (f:=f) (by rw [← jA.out];exact hT) (by rw [← iY.out];exact hf)))
    have v1:I (f=rf)=J:=decide_eq_false hf
    have v2:(f == rf)=J:=beq_false_of_ne hf
    clear hT hf
    go_wp2_with fail
    (try rw [Exit.noGoto_ret]);go_ret
    exact ⟨by rw [HE.out];rfl,cH.out⟩
def k1q (l:List Nod) (i:Nat) (t:Nod) (w:U) (cs:List C) (vi:C) (wr:U):Prop :=
 ∃ k:Nat,vi=Y X (k:Int)∧1≤k∧(k≤i∨k=1)∧(∀ j s,1≤j→j<k→l[j]? = O s→s.par=t.par→s.frm=t.frm)∧CB wr w.heap.size 48 cs∧B w.heap.size w wr
def k2q (t:Nod) (n:Nat) (w:U) (cs:List C) (vi:C) (wr:U):Prop :=
 ∃ k:Nat,vi=Y X (k:Int)∧k≤n∧(∀ j c,j<k→t.cuts[j]? = O c→y2a t.frm c=G)∧CB wr w.heap.size 48 cs∧B w.heap.size w wr
theorem x0p {l:List Nod} {i:Nat} {t:Nod} (h:i=0):y2z l i t=(I (t.par = -1)&&I (t.frm=0)):=by unfold y2z;rw [if_pos h]
theorem x4i {l:List Nod} {i:Nat} {t:Nod} (h:i≠0):y2z l i t=(inB t.par 0 ((i:Int) - 1)&&inB t.frm (x1u l t.par+1) 1439):=by unfold y2z;rw [if_neg h]
theorem z9t {n a b:Int} (h:n<a∨b<n):inB n a b=J:=by
 unfold inB
 by_cases h1:a≤n
 ·have:¬ n≤b:=by omega
  simp [this]
 ·simp [h1]
theorem j2f {n a b:Int} (h:a≤n∧n≤b):inB n a b=G:=by unfold inB;rw [decide_eq_true h.1,decide_eq_true h.2];rfl
theorem x4u (l:List Nod) (i:Nat) (t:Nod) (v:C) (w:U) (hl:z9j w l v) (ht:l[i]? = O t) :
 QQ prog 164 #[v,Y X (i:Int)] w fun e w'=>e=A (d (y9g l i t))∧B w.heap.size w w':=by
 obtain ⟨oa,cap,rfl,la⟩:=hl.shape
 have HL:=hd_ hl
 obtain ⟨n,hn⟩:∃ n,l.length=n:=⟨_,rfl⟩
 have hin:i<n:=by rw [← hn];exact (gS.1 ht).1
 rw [hn] at HL la ⊢
 have l1:(n:Int)≤9223372036854775807:=by omega
 have HN:=hd_ hn;have Ht:=hd_ ht
 obtain ⟨ab,ao,r,rfl,_,aC,hr⟩:=HL.out.el ht
 obtain ⟨rp,rf,ro,rn,rc⟩:=r
 have c0:w.cell? ⟨ab,ao+i * 3,E⟩=O (Y X rp):=aC 0 _ rfl
 have c1:w.cell? ⟨ab,ao+i * 3+1,E⟩=O (Y X rf):=aC 1 _ rfl
 have c2:w.cell? ⟨ab,ao+i * 3+2,E⟩=O (M ro rn rc):=aC 2 _ rfl
 have hbx:=z4b (w:=w) (L #[Y X rp,Y X rf,M ro rn rc] 48)
 have hcx:CB (w.alloc (L #[Y X rp,Y X rf,M ro rn rc] 48)) w.heap.size 48 [Y X rp,Y X rf,M ro rn rc]:=CB.new w _ _
 have nX:=hd_ hcx
 have iX:=hd_ hbx
 have hcu:z4g cuK (w.alloc (L #[Y X rp,Y X rf,M ro rn rc] 48)).heap.size (w.alloc (L #[Y X rp,Y X rf,M ro rn rc] 48)) t.cuts (M ro rn rc):=hr.cuts.ext hbx
 have kr:=hd_ hr.cuts
 obtain ⟨dg,ca2,he2,lq⟩:=hcu.shape
 injection he2 with q1 q2 q3
 have l2:(rn:Int)≤9223372036854775807:=by omega
 have gI:=hd_ q2
 have hpa:rp=t.par:=hr.par
 have hfr:rf=t.frm:=hr.frm
 have iY:=hd_ hfr;have jA:=hd_ hpa
 have d0:=hcx.cv 0 (Y X rp)
 have d1:=hcx.cv 1 (Y X rf)
 have kb:(i:Int)<(n:Int):=by omega
 have tj:I ((i:Int)<(n:Int))=G:=decide_eq_true kb
 have eu:I (i<n)=G:=decide_eq_true hin
 obtain ⟨Z,hZ⟩:∃ z:Bool,y9g l i t=z:=⟨_,rfl⟩
 have HZ:=hd_ hZ
 rw [hZ]
 have ku:R (y2z l i t=J→Z=J):=fun h=>by rw [← HZ.out,y6q h]
 have fg:R (x2u l i t=J→Z=J):=fun h=>by rw [← HZ.out,j1f h]
 have dM:R (y7c t=J→Z=J):=fun h=>by rw [← HZ.out,y5q h]
 clear hl ht hn la aC hr hcu hcx hbx q1 q2 q3 hfr hpa lq hZ hin
 go_enter func164,ntmps164
 go_upto_region 2 with fail
 clear c0 c1 c2
 generalize w.alloc (L #[Y X rp,Y X rf,M ro rn rc] 48)=w1 at *
 by_cases hi0:i=0
 case pos =>
  have v0:I ((i:Int)=0)=G:=decide_eq_true (by omega)
  have mb:((i:Int) == 0)=G:=by rw [beq_iff_eq];omega
  have mb':I (i=0)=G:=decide_eq_true hi0
  have z0:I ((0:Int)<(i:Int))=J:=decide_eq_false (by omega)
  have z0':I (0<i)=J:=decide_eq_false (by omega)
  have jN:=hd_ hi0
  clear hi0
  by_cases hp:rp = -1∧rf=0
  case neg =>
   have HE:R (Z=J):=ku.out (by
    rw [x0p jN.out,← jA.out,← iY.out]
    by_cases h1:rp = -1
    ·have:rf≠0:=fun h2=>hp ⟨h1,h2⟩
     simp [this]
    ·simp [h1])
   by_cases h1:rp = -1
   ·subst h1
    have h2:rf≠0:=fun h2=>hp ⟨rfl,h2⟩
    have u1:I (rf=0)=J:=decide_eq_false h2
    have u2:(rf == 0)=J:=beq_false_of_ne h2
    clear hp h2
    go_wp2_with fail
    go_ret
    exact ⟨by rw [HE.out];rfl,iX.out⟩
   ·have u1:I (rp = -1)=J:=decide_eq_false h1
    have u2:(rp == -1)=J:=beq_false_of_ne h1
    clear hp h1
    go_wp2_with fail
    go_ret
    exact ⟨by rw [HE.out];rfl,iX.out⟩
  case pos =>
  have hp1:y2z l i t=G:=by rw [x0p jN.out,← jA.out,← iY.out,hp.1,hp.2];rfl
  have HP:=hd_ hp1
  obtain ⟨rfl,rfl⟩:=hp
  clear hp1
  go_upto_region 4 with fail
  clear v0 mb mb'
  go_quiet (fail)
  have au:R (B w.heap.size w (w1.drewN nq)):=z1c iX.out nq
  have aP:R (CB (w1.drewN nq) w.heap.size 48 [Y X (-1),Y X 0,M ro rn rc]):=nX.out
  clear d0 d1 iX nX
  generalize w1.drewN nq=w2 at *
  go_wp2_with fail
  go_loopw [6] (fun vi wr=>k1q l i t w [Y X (-1),Y X 0,M ro rn rc] vi wr) (fun vi _=>i+1 - z1f vi)
  case atStart=>exact ⟨1,rfl,by omega,Or.inr rfl,fun j s h1 h2=>by omega,aP.out,au.out⟩
  case round =>
   obtain ⟨k,rfl,hk1,hk,hs,hc,hb⟩:=hrel
   have HS:=hd_ hs;have eG:=hd_ hc;have aq:=hd_ hb
   have HK1:=hd_ hk1
   clear hs hc hb aP au
   by_cases hki:k<i
   case neg =>
    have tk:I ((k:Int)<(i:Int))=J:=decide_eq_false (by omega)
    have kQ:I (k<i)=J:=decide_eq_false (by omega)
    have HSB:R (x2u l i t=G):=y4q (fun j s h1 h2=>HS.out j s h1 (by omega))
    go_wp2_with fail
    clear tk kQ hki hk hk1
    generalize wr=wr0 at *
    go_loopw [7] (fun vi wr=>k2q t rn w [Y X (-1),Y X 0,M ro rn rc] vi wr) (fun vi _=>rn - z1f vi)
    case atStart=>exact ⟨0,rfl,by omega,fun j c h=>by omega,eG.out,aq.out⟩
    case round =>
     obtain ⟨k,rfl,hk,hs,hc,hb⟩:=hrel
     have HQ:=hd_ hs;have kR:=hd_ hc;have eX:=hd_ hb
     have e1:=hc.cv 1 (Y X 0)
     have e2:=hc.cv 2 (M ro rn rc)
     clear hs hc hb eG aq
     by_cases hkn:k<rn
     case neg =>
      obtain rfl:k=rn:=by omega
      have tk:I ((k:Int)<(k:Int))=J:=by simp
      have HCT:R (y7c t=I (k≤64)):=by
       show _=_
       rw [z7x (by
        rw [List.any_eq_false]
        intro c hc
        obtain ⟨j,hj⟩:=List.mem_iff_getElem?.1 hc
        have:=HQ.out j c (by have:=(gS.1 hj).1;have:=gI.out;omega) hj
        simp [this]),gI.out]
      by_cases h64:k≤64
      ·have u9:I ((k:Int)≤64)=G:=decide_eq_true (by omega)
       have HE:R (Z=G):=by show _=_;rw [← HZ.out,x3i HP.out HSB.out (by rw [HCT.out,decide_eq_true h64])]
       go_wp2_with fail
       go_ret
       exact ⟨by rw [HE.out];first|done|rfl|simp,eX.out⟩
      ·have u9:I ((k:Int)≤64)=J:=decide_eq_false (by omega)
       have HE:R (Z=J):=dM.out (by rw [HCT.out,decide_eq_false h64])
       go_wp2_with fail
       go_ret
       exact ⟨by rw [HE.out];first|done|rfl|simp,eX.out⟩
     case pos =>
     have tk:I ((k:Int)<(rn:Int))=G:=by simp;omega
     have kQ:I (k<rn)=G:=by simp;omega
     have kk:(k:Int)<(rn:Int):=by omega
     obtain ⟨x,hx⟩:∃ x,t.cuts[k]? = O x:=⟨_,gE (by rw [← gI.out];exact hkn)⟩
     obtain ⟨cb,co,rfl⟩:=z9f kr.out (k:=k) (by rw [← gI.out];exact hkn)
     have mK:=hd_ hkn;have Hx:=hd_ hx
     go_upto_region 14 with fail
     have KB:=hd_ eX.out.drew
     have KC:R (CB wr.drew w.heap.size 48 [Y X (-1),Y X 0,M (O ⟨cb,co,E⟩) rn rc]):=kR.out
     have R1:=hd_ (z2m (z0w kr.out hx) KB.out)
     have R2:R (wr.drew.cell? ⟨w.heap.size,1,E⟩=O (Y X 0)):=e1
     have R3:R (wr.drew.cell? ⟨w.heap.size,2,E⟩=O (M (O ⟨cb,co,E⟩) rn rc)):=e2
     have S1:=R1;have S2:=R2;have S3:=R3
     have cY:=hd_ (fun W=>y0z x 0 W)
     obtain ⟨b,h⟩:∃ b,y2a 0 x=b:=⟨_,rfl⟩
     rw [h] at cY
     have Hb:=hd_ h
     clear hkn hx hk h e1 e2 eX kR
     refine wp_region_held_drew (S:=fun w'=>w'.rangeAt cb (co+k * 5) x.cells∧w'.cell? ⟨w.heap.size,1,E⟩=O (Y X 0)∧w'.cell? ⟨w.heap.size,2,E⟩=O (M (O ⟨cb,co,E⟩) rn rc)) (by kernel_rfl) ⟨R1.out,R2.out,R3.out⟩ (fun hHeld=>?_)
     clear R1 R2 R3
     generalize wr.drew=wA at *
     refine tkH 83 0 ?_
     refine tkH 84 1 ?_
     refine tkH 85 2 ?_
     refine tkH 86 3 ?_
     refine x1m 87 4 rfl (.agg x.cells.toArray) (yieldsIf_load_mid (by rfl) 88 _ rfl cb (co+k * 5) rfl x.cells _ (fun wS aa=>by obtain ⟨s1,s2,s3⟩:=aa;exact s1) underlying88 rfl (by kernel_rfl)) ?_
     refine tkH 88 5 ?_
     refine tkH 89 6 ?_
     refine rdH 7 fun K hK=>?_
     go_simp
     go_at_call 197
     refine (cY.out wA).mono ?_
     rintro e w3 ⟨rfl,aB⟩
     have aA:=hd_ (z0a KB.out aB)
     have iZ:=hd_ (KC.out.ext aB)
     refine hK.out _ _ ⟨z2m S1.out aB,z1a aB S2.out,z1a aB S3.out⟩ (fun hHeld=>?_)
     clear hK aB
     try simp only [Act.put,List.setIfInBounds_toArray,List.set_cons_zero,List.set_cons_succ]
     refine tkH 91 8 ?_
     refine wpAnyH_done (by kernel_rfl) ?_ _
     cases b
     ·have HE:R (Z=J):=dM.out (y7q (List.any_eq_true.2 ⟨x,mG Hx.out,by rw [← iY.out,Hb.out];rfl⟩))
      go_wp2_with fail
      go_ret
      exact ⟨by rw [HE.out];rfl,aA.out⟩
     ·go_wp2_with fail
      go_roundw
      case rel=>exact ⟨k+1,by go_num,mK.out,fun j z hj hz=>by
       rcases Nat.lt_succ_iff_lt_or_eq.1 hj with h|h
       ·exact HQ.out j z h hz
       ·subst h
        have:=Hx.out.symm.trans hz
        injection this with this
        rw [← this,← iY.out];exact Hb.out,iZ.out,aA.out⟩
      case measure=>simp [z1f];have:=mK.out;omega
   case pos =>
   exfalso;have:=jN.out;omega
 case neg =>
 have v0:I ((i:Int)=0)=J:=decide_eq_false (by omega)
 have mb:((i:Int) == 0)=J:=beq_false_of_ne (by omega)
 have mb':I (i=0)=J:=decide_eq_false (by omega)
 have z0:I ((0:Int)<(i:Int))=G:=decide_eq_true (by omega)
 have z0':I (0<i)=G:=decide_eq_true (by omega)
 have z1:(0:Int)<(i:Int):=by omega
 go_upto_region 4 with fail
 clear v0 mb mb'
 by_cases hneg:rp<0
 case pos =>
  have HE:R (Z=J):=ku.out (by rw [x4i hi0,← jA.out,z9t (Or.inl hneg)];rfl)
  have u1:I (rp<0)=G:=decide_eq_true hneg
  clear hneg
  go_quiet (fail)
  go_wp2_with fail
  go_ret
  exact ⟨by rw [HE.out];rfl,z1c iX.out nq⟩
 case neg =>
 obtain ⟨p,rfl⟩:=Int.eq_ofNat_of_zero_le (by omega:0≤rp)
 have u1:I ((p:Int)<0)=J:=decide_eq_false hneg
 clear hneg
 by_cases hpi:p<i
 case neg =>
  have HE:R (Z=J):=ku.out (by rw [x4i hi0,← jA.out,z9t (Or.inr (by omega))];rfl)
  have u2:I ((i:Int)≤(p:Int))=G:=decide_eq_true (by omega)
  have u2':I (i≤p)=G:=decide_eq_true (by omega)
  clear hpi
  go_quiet (fail)
  go_wp2_with fail
  go_ret
  exact ⟨by rw [HE.out];rfl,z1c iX.out nq⟩
 case pos =>
 have u2:I ((i:Int)≤(p:Int))=J:=decide_eq_false (by omega)
 have u2':I (i≤p)=J:=decide_eq_false (by omega)
 have hpn:(p:Int)<(n:Int):=by omega
 have hpn':I ((p:Int)<(n:Int))=G:=decide_eq_true hpn
 have hpn'':I (p<n)=G:=decide_eq_true (by omega)
 obtain ⟨s,hs⟩:∃ s,l[p]? = O s:=⟨_,gE (by rw [HN.out];omega)⟩
 obtain ⟨ab',ao',q,he,_,helq,hq⟩:=HL.out.el hs
 injection he with he;injection he with e1' e2' _
 subst e1' e2'
 have g1:w1.cell? ⟨ab,ao+p * 3+1,E⟩=O (Y X s.frm):=by rw [← hq.frm];exact z1a iX.out (helq 1 _ rfl)
 have HPB:R (y2z l i t=inB rf (s.frm+1) 1439):=by show _=_;rw [x4i hi0,← jA.out,j2f ⟨by omega,by omega⟩,y5z hs,← iY.out];rfl
 clear hpi hs helq hq
 by_cases hlo:rf≤s.frm
 case pos =>
  have HE:R (Z=J):=ku.out (by rw [HPB.out,z9t (Or.inl (by omega))])
  have u3:I (rf≤s.frm)=G:=decide_eq_true hlo
  clear hlo
  go_quiet (fail)
  go_wp2_with fail
  go_ret
  exact ⟨by rw [HE.out];rfl,z1c iX.out nq⟩
 case neg =>
 have u3:I (rf≤s.frm)=J:=decide_eq_false hlo
 by_cases hhi:1440≤rf
 case pos =>
  have HE:R (Z=J):=ku.out (by rw [HPB.out,z9t (Or.inr (by omega))])
  have u4:I (1440≤rf)=G:=decide_eq_true hhi
  clear hhi hlo
  go_quiet (fail)
  go_wp2_with fail
  go_ret
  exact ⟨by rw [HE.out];rfl,z1c iX.out nq⟩
 case neg =>
 have u4:I (1440≤rf)=J:=decide_eq_false hhi
 have HP:R (y2z l i t=G):=by show _=_;rw [HPB.out];exact j2f ⟨by omega,by omega⟩
 clear hhi hlo
 go_quiet (fail)
 have au:R (B w.heap.size w (w1.drewN nq)):=z1c iX.out nq
 have aP:R (CB (w1.drewN nq) w.heap.size 48 [Y X (p:Int),Y X rf,M ro rn rc]):=nX.out
 clear d0 d1 iX nX
 generalize w1.drewN nq=w2 at *
 go_wp2_with fail
 go_loopw [6] (fun vi wr=>k1q l i t w [Y X (p:Int),Y X rf,M ro rn rc] vi wr) (fun vi _=>i+1 - z1f vi)
 case atStart=>exact ⟨1,rfl,by omega,Or.inr rfl,fun j s h1 h2=>by omega,aP.out,au.out⟩
 case round =>
  obtain ⟨k,rfl,hk1,hk,hs,hc,hb⟩:=hrel
  have HS:=hd_ hs;have eG:=hd_ hc;have aq:=hd_ hb
  have HK1:=hd_ hk1
  clear hs hc hb aP au
  by_cases hki:k<i
  case neg =>
   have tk:I ((k:Int)<(i:Int))=J:=decide_eq_false (by omega)
   have kQ:I (k<i)=J:=decide_eq_false (by omega)
   have HSB:R (x2u l i t=G):=y4q (fun j s h1 h2=>HS.out j s h1 (by omega))
   go_wp2_with fail
   clear tk kQ hki hk hk1
   generalize wr=wr0 at *
   go_loopw [7] (fun vi wr=>k2q t rn w [Y X (p:Int),Y X rf,M ro rn rc] vi wr) (fun vi _=>rn - z1f vi)
   case atStart=>exact ⟨0,rfl,by omega,fun j c h=>by omega,eG.out,aq.out⟩
   case round =>
    obtain ⟨k,rfl,hk,hs,hc,hb⟩:=hrel
    have HQ:=hd_ hs;have kR:=hd_ hc;have eX:=hd_ hb
    have e1:=hc.cv 1 (Y X rf)
    have e2:=hc.cv 2 (M ro rn rc)
    clear hs hc hb eG aq
    by_cases hkn:k<rn
    case neg =>
     obtain rfl:k=rn:=by omega
     have tk:I ((k:Int)<(k:Int))=J:=by simp
     have HCT:R (y7c t=I (k≤64)):=by
      show _=_
      rw [z7x (by
       rw [List.any_eq_false]
       intro c hc
       obtain ⟨j,hj⟩:=List.mem_iff_getElem?.1 hc
       have:=HQ.out j c (by have:=(gS.1 hj).1;have:=gI.out;omega) hj
       simp [this]),gI.out]
     by_cases h64:k≤64
     ·have u9:I ((k:Int)≤64)=G:=decide_eq_true (by omega)
      have HE:R (Z=G):=by show _=_;rw [← HZ.out,x3i HP.out HSB.out (by rw [HCT.out,decide_eq_true h64])]
      go_wp2_with fail
      go_ret
      exact ⟨by rw [HE.out];first|done|rfl|simp,eX.out⟩
     ·have u9:I ((k:Int)≤64)=J:=decide_eq_false (by omega)
      have HE:R (Z=J):=dM.out (by rw [HCT.out,decide_eq_false h64])
      go_wp2_with fail
      go_ret
      exact ⟨by rw [HE.out];first|done|rfl|simp,eX.out⟩
    case pos =>
    have tk:I ((k:Int)<(rn:Int))=G:=by simp;omega
    have kQ:I (k<rn)=G:=by simp;omega
    have kk:(k:Int)<(rn:Int):=by omega
    obtain ⟨x,hx⟩:∃ x,t.cuts[k]? = O x:=⟨_,gE (by rw [← gI.out];exact hkn)⟩
    obtain ⟨cb,co,rfl⟩:=z9f kr.out (k:=k) (by rw [← gI.out];exact hkn)
    have mK:=hd_ hkn;have Hx:=hd_ hx
    go_upto_region 14 with fail
    have KB:=hd_ eX.out.drew
    have KC:R (CB wr.drew w.heap.size 48 [Y X (p:Int),Y X rf,M (O ⟨cb,co,E⟩) rn rc]):=kR.out
    have R1:=hd_ (z2m (z0w kr.out hx) KB.out)
    have R2:R (wr.drew.cell? ⟨w.heap.size,1,E⟩=O (Y X rf)):=e1
    have R3:R (wr.drew.cell? ⟨w.heap.size,2,E⟩=O (M (O ⟨cb,co,E⟩) rn rc)):=e2
    have S1:=R1;have S2:=R2;have S3:=R3
    have cY:=hd_ (fun W=>y0z x rf W)
    obtain ⟨b,h⟩:∃ b,y2a rf x=b:=⟨_,rfl⟩
    rw [h] at cY
    have Hb:=hd_ h
    clear hkn hx hk h e1 e2 eX kR
    refine wp_region_held_drew (S:=fun w'=>w'.rangeAt cb (co+k * 5) x.cells∧w'.cell? ⟨w.heap.size,1,E⟩=O (Y X rf)∧w'.cell? ⟨w.heap.size,2,E⟩=O (M (O ⟨cb,co,E⟩) rn rc)) (by kernel_rfl) ⟨R1.out,R2.out,R3.out⟩ (fun hHeld=>?_)
    clear R1 R2 R3
    generalize wr.drew=wA at *
    refine tkH 83 0 ?_
    refine tkH 84 1 ?_
    refine tkH 85 2 ?_
    refine tkH 86 3 ?_
    refine x1m 87 4 rfl (.agg x.cells.toArray) (yieldsIf_load_mid (by rfl) 88 _ rfl cb (co+k * 5) rfl x.cells _ (fun wS aa=>by obtain ⟨s1,s2,s3⟩:=aa;exact s1) underlying88 rfl (by kernel_rfl)) ?_
    refine tkH 88 5 ?_
    refine tkH 89 6 ?_
    refine rdH 7 fun K hK=>?_
    go_simp
    go_at_call 197
    refine (cY.out wA).mono ?_
    rintro e w3 ⟨rfl,aB⟩
    have aA:=hd_ (z0a KB.out aB)
    have iZ:=hd_ (KC.out.ext aB)
    refine hK.out _ _ ⟨z2m S1.out aB,z1a aB S2.out,z1a aB S3.out⟩ (fun hHeld=>?_)
    clear hK aB
    try simp only [Act.put,List.setIfInBounds_toArray,List.set_cons_zero,List.set_cons_succ]
    refine tkH 91 8 ?_
    refine wpAnyH_done (by kernel_rfl) ?_ _
    cases b
    ·have HE:R (Z=J):=dM.out (y7q (List.any_eq_true.2 ⟨x,mG Hx.out,by rw [← iY.out,Hb.out];rfl⟩))
     go_wp2_with fail
     go_ret
     exact ⟨by rw [HE.out];rfl,aA.out⟩
    ·go_wp2_with fail
     go_roundw
     case rel=>exact ⟨k+1,by go_num,mK.out,fun j z hj hz=>by
      rcases Nat.lt_succ_iff_lt_or_eq.1 hj with h|h
      ·exact HQ.out j z h hz
      ·subst h
       have:=Hx.out.symm.trans hz
       injection this with this
       rw [← this,← iY.out];exact Hb.out,iZ.out,aA.out⟩
     case measure=>simp [z1f];have:=mK.out;omega
  case pos =>
  have tk:I ((k:Int)<(i:Int))=G:=decide_eq_true (by omega)
  have kQ:I (k<i)=G:=decide_eq_true hki
  have hkn:(k:Int)<(n:Int):=by omega
  have hkn':I ((k:Int)<(n:Int))=G:=decide_eq_true hkn
  have hkn'':I (k<n)=G:=decide_eq_true (by omega)
  obtain ⟨y,hy⟩:∃ y,l[k]? = O y:=⟨_,gE (by rw [HN.out];omega)⟩
  obtain ⟨ab',ao',z,he,_,helz,hz⟩:=HL.out.el hy
  injection he with he;injection he with e1' e2' _
  subst e1' e2'
  obtain ⟨yp,yf,yo,yn,yc⟩:=z
  have k0:wr.cell? ⟨ab,ao+k * 3,E⟩=O (Y X yp):=z1a aq.out (helz 0 _ rfl)
  have k1:wr.cell? ⟨ab,ao+k * 3+1,E⟩=O (Y X yf):=z1a aq.out (helz 1 _ rfl)
  have e0:=eG.out.cv 0 (Y X (p:Int))
  have e1:=eG.out.cv 1 (Y X rf)
  have hyp:yp=y.par:=hz.par
  have hyf:yf=y.frm:=hz.frm
  have Hyp:=hd_ hyp;have Hyf:=hd_ hyf;have Hy:=hd_ hy;have lZ:=hd_ hki
  have HST:R ((y.par=t.par→y.frm=t.frm)→∀ j s,1≤j→j<k+1→l[j]? = O s→s.par=t.par→s.frm=t.frm):=fun ho j s h1 hj hs hpp=>by
   rcases Nat.lt_succ_iff_lt_or_eq.1 hj with h|h
   ·exact HS.out j s h1 h hs hpp
   ·subst h
    have:=Hy.out.symm.trans hs
    injection this with this
    subst this
    exact ho hpp
  clear helz hz hyp hyf hy hki hk hk1
  go_upto_region 9 with fail
  by_cases hpp:yp=(p:Int)
  case neg =>
   have v1:I (yp=(p:Int))=J:=decide_eq_false hpp
   have v2:(yp == (p:Int))=J:=beq_false_of_ne hpp
   have HX:=hd_ (HST.out (fun h=>absurd (by rw [Hyp.out,h,jA.out]) hpp))
   clear hpp
   go_quiet (fail)
   have K:R (B w.heap.size w (wr.drewN nq)):=z1c aq.out nq
   have KC:R (CB (wr.drewN nq) w.heap.size 48 [Y X (p:Int),Y X rf,M ro rn rc]):=eG.out
   clear k0 k1 e0 e1 aq eG
   generalize wr.drewN nq=wA at *
   go_wp2_with fail
   go_roundw
   case rel=>exact ⟨k+1,by go_num,by omega,Or.inl lZ.out,HX.out,KC.out,K.out⟩
   case measure=>simp [z1f];have:=lZ.out;omega
  case pos =>
  subst hpp
  by_cases hff:yf=rf
  case pos =>
   have HX:=hd_ (HST.out (fun _=>by rw [← Hyf.out,← iY.out];exact hff))
   subst hff
   go_quiet (fail)
   have K:R (B w.heap.size w (wr.drewN nq)):=z1c aq.out nq
   have KC:R (CB (wr.drewN nq) w.heap.size 48 [Y X (p:Int),Y X yf,M ro rn rc]):=eG.out
   clear k0 k1 e0 e1 aq eG
   generalize wr.drewN nq=wA at *
   go_wp2_with fail
   go_roundw
   case rel=>exact ⟨k+1,by go_num,by omega,Or.inl lZ.out,HX.out,KC.out,K.out⟩
   case measure=>simp [z1f];have:=lZ.out;omega
  case neg =>
  have HE:R (Z=J):=fg.out (y4z HK1.out lZ.out Hy.out (by rw [← Hyp.out,← jA.out]) (by rw [← Hyf.out,← iY.out];exact hff))
  have v1:I (yf=rf)=J:=decide_eq_false hff
  have v2:(yf == rf)=J:=beq_false_of_ne hff
  clear hff
  go_quiet (fail)
  go_wp2_with fail
  go_ret
  exact ⟨by rw [HE.out];rfl,z1c aq.out nq⟩
def k6z (l:List Nod) (n:Nat) (w:U) (vi:C) (wr:U):Prop:=∃ i:Nat,vi=Y X (i:Int)∧i≤n∧(∀ j t,j<i→l[j]? = O t→y9g l j t=G)∧B w.heap.size w wr
theorem x5i (l:List Nod) (v:C) (w:U) (hl:z9j w l v) :
 QQ prog 107 #[v] w fun e w'=>e=A (Y X (if z9o l then 0 else 180))∧B w.heap.size w w':=by
 obtain ⟨oa,cap,rfl,la⟩:=hl.shape
 have HL:=hd_ hl
 obtain ⟨n,hn⟩:∃ n,l.length=n:=⟨_,rfl⟩
 rw [hn] at HL la ⊢
 have l1:(n:Int)≤9223372036854775807:=by omega
 have HN:=hd_ hn
 obtain ⟨Z,hZ⟩:∃ z:Int,(if z9o l then (0:Int) else 180)=z:=⟨_,rfl⟩
 have HZ:=hd_ hZ
 rw [hZ]
 clear hl hn la hZ
 go_enter func107,ntmps107
 by_cases h1:n<1
 case pos =>
  have u1:I ((n:Int)<1)=G:=decide_eq_true (by omega)
  have HE:R (Z=180):=by
   show _=_
   have:z9o l=J:=by unfold z9o;rw [HN.out,decide_eq_false (by omega)];rfl
   rw [← HZ.out,this];rfl
  clear h1
  go_wp2_with fail
  go_ret
  exact ⟨by rw [HE.out];rfl,Below.refl _ _⟩
 case neg =>
 have u1:I ((n:Int)<1)=J:=decide_eq_false (by omega)
 by_cases h2:32<n
 case pos =>
  have u2:I ((32:Int)<(n:Int))=G:=decide_eq_true (by omega)
  have HE:R (Z=180):=by
   show _=_
   have:z9o l=J:=by unfold z9o;rw [HN.out,decide_eq_false (p:=n≤32) (by omega)];simp
   rw [← HZ.out,this];rfl
  clear h1 h2
  go_wp2_with fail
  go_ret
  exact ⟨by rw [HE.out];rfl,Below.refl _ _⟩
 case neg =>
 have u2:I ((32:Int)<(n:Int))=J:=decide_eq_false (by omega)
 have mL:R (1≤n):=by show _≤_;omega
 have dm:R (n≤32):=by show _≤_;omega
 clear h1 h2
 go_wp2_with fail
 clear u1 u2
 go_loopw [3] (fun vi wr=>k6z l n w vi wr) (fun vi _=>n - z1f vi)
 case atStart=>exact ⟨0,rfl,by omega,fun j t h=>by omega,Below.refl _ _⟩
 case round =>
  obtain ⟨i,rfl,hi,hs,hb⟩:=hrel
  have HS:=hd_ hs;have aq:=hd_ hb
  clear hs hb
  by_cases hlt:i<n
  case neg =>
   obtain rfl:i=n:=by omega
   have tj:I ((i:Int)<(i:Int))=J:=by simp
   have HE:R (Z=0):=by
    show _=_
    rw [← HZ.out,y3z (by rw [HN.out];exact mL.out) (by rw [HN.out];exact dm.out) (fun j t hj ht=>HS.out j t (by rw [← HN.out];exact hj) ht)];rfl
   go_wp2_with fail
   go_ret
   exact ⟨by rw [HE.out];rfl,aq.out⟩
  case pos =>
  have tj:I ((i:Int)<(n:Int))=G:=by simp;omega
  have eu:I (i<n)=G:=by simp;omega
  have kb:(i:Int)<(n:Int):=by omega
  obtain ⟨t,ht⟩:∃ t,l[i]? = O t:=⟨_,gE (by rw [HN.out];exact hlt)⟩
  have cY:=hd_ (x4u l i t _ wr (HL.out.ext aq.out) ht)
  obtain ⟨b,h⟩:∃ b,y9g l i t=b:=⟨_,rfl⟩
  rw [h] at cY
  have aN:=hd_ hlt;have Ht:=hd_ ht;have Hb:=hd_ h
  clear hlt ht h hi
  cases b
  ·have HE:R (Z=180):=by show _=_;rw [← HZ.out,y0h Ht.out Hb.out];rfl
   go_wp2_with (go_at_call 164;refine cY.out.mono ?_;(rintro e w2 ⟨rfl,hb⟩;have au:=hd_ (z0a aq.out hb);clear hb))
   go_ret
   exact ⟨by rw [HE.out];rfl,au.out⟩
  ·go_wp2_with (go_at_call 164;refine cY.out.mono ?_;(rintro e w2 ⟨rfl,hb⟩;have au:=hd_ (z0a aq.out hb);clear hb))
   go_roundw
   case rel=>exact ⟨i+1,by go_num,aN.out,fun j z hj hz=>by
    rcases Nat.lt_succ_iff_lt_or_eq.1 hj with h|h
    ·exact HS.out j z h hz
    ·subst h
     have:=Ht.out.symm.trans hz
     injection this with this
     rw [← this];exact Hb.out,au.out⟩
   case measure=>simp [z1f];have:=aN.out;omega
def k0e (cs:List C):Nat→List C→List C
 | _,[]=>cs
 | o,v::r=>k0e (cs.set o v) (o+1) r
theorem j3f {g:Nat} {t:TypeId}:∀ (vs:List C) (o:Nat) {w:U} {cs:List Value},CB w g t cs→CB (w.setCells g o vs) g t (k0e cs o vs)
 | [],_,_,_,h=>h
 | v::r,o,_,_,h=>j3f r (o+1) (h.set o v)
theorem y7m {w0:U} (g:Nat):∀ (vs:List C) (o:Nat) (w:U),w0.grownBy w (O g)→w0.grownBy (w.setCells g o vs) (O g)
 | [],_,_,h=>h
 | v::r,o,w,h=>y7m g r (o+1) _ (z2a h (z6b w g o v) (.inl rfl))
theorem CB.there {w:U} {g:Nat} {t:TypeId} {cs:List Value} (h:CB w g t cs) (o n:Nat) (hl:o+n≤cs.length):w.there g o n:=fun j hj =>
 ⟨by rw [h.cell,gE (by omega)];rfl,h.frozen _⟩
section
variable {P:Program} {w:U} {ops:Array Oper} {rest:List Oper} {o:Oper} {a:Act} {Q:Exit→Act→U→Prop}
theorem z0b (hgd:o.guard=E) (ty:TypeId) (x y:Operand) (ho:o.op=.store ty x y) (g off:Nat) (vs:List C) (hx:a.eval x=.pointer (O ⟨g,off,E⟩)) (hy:a.eval y=.agg vs.toArray)
 (t:TypeId) (cs:List C) (hg:CB w g t cs) (hl:off+vs.length≤cs.length) (hi:(P.info? ty).map (·.size)=O vs.length) (h1:∀ u∈vs,u.oneCell'=G)
 (h:∀ w',R (CB w' g t (k0e cs off vs))→R (w.grownBy w' (O g))→wpList P ops Q rest (a.put o.dst undef) w'):wpList P ops Q (o::rest) a w :=
 Go.wpList_store_mid hgd ty x y ho g off vs.toArray hx hy (by rw [List.size_toArray];exact hg.there off _ hl) (by rw [List.size_toArray];exact hi) (j9d h1)
  (h _ (j3f vs off hg) (y7m g vs off w (World.grownBy.refl w _)))
end
end Go.Proofs.YtdblnbnofjggnaaGreatDoor
