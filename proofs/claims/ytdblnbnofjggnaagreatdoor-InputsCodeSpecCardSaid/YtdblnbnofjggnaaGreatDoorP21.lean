/- Parts of the proofs of chapter 49's laws. -/
import Derived.Test.YtdblnbnofjggnaaGreatDoorP17
import Derived.Deep.QuietTactic
import Derived.BigQuiet
set_option maxHeartbeats 4000000
set_option maxRecDepth 100000
open Go.Lib renaming hid → hd_
open Go.Value renaming int → I, slice → Q
open Go.IntKind renaming i64 → J
open Bool renaming true → Y, false → Z
open Decidable renaming decide → X
set_option linter.all false
namespace Go.Proofs.YtdblnbnofjggnaaGreatDoor
open Go.RowKit
theorem y5d (n a b:Int) (t:Bool) (h:Hid (z1r (n,a,b)=t)) (w:World):Calls Tryz.prog 162 #[I J n,I J a,I J b] w fun e w'=>e=.returned (.bool (!t))∧w'=w :=
 (z6u n a b w).mono fun _ _ q=>⟨by rw [← h.out];exact q.1,q.2.symm⟩
theorem z9r {B:Nat} {w0 w:World} (h:Below B w0 w) (n:Nat):Below B w0 (w.drewN n):=h.trans ⟨rfl,rfl,rfl,Nat.le_refl _,fun _ _=>rfl⟩
def y2w (vol:Int) (l:List Int) (w:World) (i:Value) (wr:World):Prop :=
 ∃ (k n:Nat) (x:Int),k≤l.length∧i=I J k∧y6j (-1) vol l=y6j x vol (l.drop k)∧(k=0→x = -1)∧(∀ j,k=j+1→l[j]? = some x∧0≤x)∧wr=w.drewN n
theorem x6n {vol:Int} {l:List Int} {w wr:World} {i:Value} (h:y2w vol l w i wr) (q:Nat):y2w vol l w i (wr.drewN q):=by
 obtain ⟨k,n,x,h1,h2,h3,h4,h5,rfl⟩:=h
 exact ⟨k,n+q,x,h1,h2,h3,h4,h5,by rw [World.drewN_drewN]⟩
theorem j0c {vol:Int} {l:List Int} {w wr:World} (k n:Nat) (y:Int) (hk:k+1≤l.length) (hi:y6j (-1) vol l=y6j y vol (l.drop (k+1))) (hy:l[k]? = some y) (h0:0≤y) (hw:wr=w.drewN n):y2w vol l w (I J ((k+1:Nat):Int)) wr:=by
 refine ⟨k+1,n,y,hk,rfl,hi,fun h=>by omega,fun j h=>?_,hw⟩
 obtain rfl:j=k:=by omega
 exact ⟨hy,h0⟩
theorem k0p {vol:Int} {l:List Int} {w wr:World} {i i':Value} (h:y2w vol l w i wr) (e:i'=i):y2w vol l w i' wr:=e ▸ h
theorem y3w (vol m1 sh fa:Int) (l:List Int) (v:Value) (w:World) (hm:IntKind.i64.wrap (vol - 1)=m1) (hl:y6b w.heap.size w l v) :
 Calls Tryz.prog 105 #[I J vol,.agg #[v,I J sh,I J fa]] w (j4x (x0n vol l sh fa) w):=by
 obtain ⟨oa,cap,rfl,hlm⟩:=hl.shape
 have HI:=hd_ hl
 have bl:(l.length:Int)≤9223372036854775807:=by omega
 have Hm:=hd_ hm
 clear hl hlm hm
 obtain ⟨t0,h0⟩:∃ t,z1r (vol,1,64)=t:=⟨_,rfl⟩
 obtain ⟨t1,h1⟩:∃ t,z1r (sh,0,3)=t:=⟨_,rfl⟩
 obtain ⟨t2,h2⟩:∃ t,z1r (fa,0,3)=t:=⟨_,rfl⟩
 have hfin:Hid (x0n vol l sh fa=((!(t0 || t1 || t2) && !l.isEmpty)&&y6j (-1) vol l)):=by
  show _=_
  unfold x0n k5c
  simp only [List.any_cons,List.any_nil,h0,h1,h2]
  cases t0 <;> cases t1 <;> cases t2 <;> rfl
 have H0:=hd_ h0;have H1:=hd_ h1;have H2:=hd_ h2
 clear h0 h1 h2
 have aX:Hid (CB (w.alloc (.cells #[Q oa l.length cap,I J sh,I J fa] 37)) w.heap.size 37 [Q oa l.length cap,I J sh,I J fa]):=CB.new w _ _
 have ax:=hd_ ((Below.refl w.heap.size w).alloc (Nat.le_refl _) (.cells #[Q oa l.length cap,I J sh,I J fa] 37))
 go_enter Tryz.func105,Tryz.ntmps105
 go_upto_region 1 with fail
 generalize w.alloc (.cells #[Q oa l.length cap,I J sh,I J fa] 37)=w0 at *
 have c0:w0.cell? ⟨w.heap.size,0,none⟩=some (Q oa l.length cap):=aX.out.cell 0
 have c1:w0.cell? ⟨w.heap.size,1,none⟩=some (I J sh):=aX.out.cell 1
 have c2:w0.cell? ⟨w.heap.size,2,none⟩=some (I J fa):=aX.out.cell 2
 go_wp2_with fail
 refine (z6u vol 1 64 _).mono ?_
 rw [H0.out]
 rintro e w2 ⟨rfl,rfl⟩
 cases t0
 case true =>
  go_wp2_with fail
  go_ret
  exact ⟨by rw [hfin.out];simp,ax.out⟩
 have hm1:m1=vol - 1:=by
  have h:=H0.out
  unfold z1r at h
  simp at h
  rw [← Hm.out,IntWalk.i64_in _ (by omega)]
 have Hvol:Hid (1≤vol∧vol≤64):=by
  have h:=H0.out
  unfold z1r at h
  simp at h
  show _∧_
  omega
 have nB:=hd_ hm1
 clear hm1
 by_cases hz:l.length=0
 ·have Hf:Hid (x0n vol l sh fa=Z):=by
   show _=_
   rw [List.eq_nil_of_length_eq_zero hz] at hfin ⊢;rw [hfin.out];simp
  have k0:((l.length:Int) == 0)=Y:=by rw [hz];rfl
  clear hz
  go_wp2_with fail
  go_ret
  exact ⟨by rw [Hf.out];rfl,ax.out⟩
 have k0:((l.length:Int) == 0)=Z:=by rw [beq_eq_false_iff_ne];omega
 have hemp:l.isEmpty=Z:=by cases l <;> simp_all
 have Hemp:=hd_ hemp
 clear hz hemp
 go_wp2_with fail
 refine (z6u sh 0 3 _).mono ?_
 rw [H1.out]
 rintro e w2 ⟨rfl,rfl⟩
 cases t1
 case true =>
  go_wp2_with fail
  go_ret
  exact ⟨by rw [hfin.out];simp,ax.out⟩
 go_wp2_with fail
 refine (z6u fa 0 3 _).mono ?_
 rw [H2.out]
 rintro e w2 ⟨rfl,rfl⟩
 cases t2
 case true =>
  go_wp2_with fail
  go_ret
  exact ⟨by rw [hfin.out];simp,ax.out⟩
 have Hf:Hid (x0n vol l sh fa=y6j (-1) vol l):=by show _=_;rw [hfin.out,Hemp.out];simp
 have e1:IntKind.i64.wrap (vol - 1)=m1:=Hm.out
 clear hfin
 go_wp2_with fail
 clear c0 c1 c2 k0 e1
 go_loopw [5] (fun i wr=>y2w vol l w0 i wr) (fun i _=>l.length - (intOf i).toNat)
 case atStart=>exact ⟨0,0,-1,by omega,rfl,rfl,fun _=>rfl,fun j h=>by omega,rfl⟩
 case round =>
  obtain ⟨k,n,x,hk,rfl,hi,fX,ju,rfl⟩:=hrel
  have HIn:=hd_ hi;have nH:=hd_ fX;have HX1:=hd_ ju
  clear hi fX ju
  have c0:(w0.drewN n).cell? ⟨w.heap.size,0,none⟩=some (Q oa l.length cap):=aX.out.cell 0
  have hbn:=hd_ (z9r ax.out n)
  by_cases hlt:k<l.length
  ·have tj:X ((k:Int)<(l.length:Int))=Y:=by simp;omega
   have eu:X (k<l.length)=Y:=by simp;omega
   obtain ⟨y,hy⟩:∃ y,l[k]? = some y:=⟨_,List.getElem?_eq_getElem hlt⟩
   have hnn:¬ l=[]:=by rintro rfl;simp at hlt
   have aQ:=hd_ (x1n hy)
   obtain ⟨b,off,rfl,hcell⟩:∃ b off,oa=some ⟨b,off,none⟩∧∀ j z,l[j]? = some z→(w0.drewN n).cell? ⟨b,off+j,none⟩=some (I J z):=by
    rcases HI.out.ext hbn.out with ⟨h,_⟩|⟨b,off,cp,h1,_,_,_,h5⟩
    ·exact absurd h hnn
    ·injection h1 with h1 _ _
     exact ⟨b,off,h1,h5⟩
   have d0:=hcell k y hy
   have HC:=hd_ hcell
   have gj:=hd_ hy
   clear hy hnn hcell
   obtain ⟨s0,g0⟩:∃ t,z1r (y,0,m1)=t:=⟨_,rfl⟩
   have G0:=hd_ g0
   obtain ⟨s1,g1⟩:∃ t,X (y≤x)=t:=⟨_,rfl⟩
   obtain ⟨s2,g2⟩:∃ t,X (vol≤y)=t:=⟨_,rfl⟩
   have hst:Hid (y6j (-1) vol l=(!(s1 || s2)&&y6j y vol (l.drop (k+1)))):=by
    show _=_
    rw [HIn.out,aQ.out,y6j,g1,g2]
   have hs:Hid (s0=(X (y<0) || s2)):=by
    show _=_
    rw [← g0,← g2];unfold z1r;rw [nB.out,Bool.eq_iff_iff];simp;omega
   have G1:=hd_ g1
   have e1:IntKind.i64.wrap (vol - 1)=m1:=Hm.out
   clear g0 g1 g2
   generalize hwn:w0.drewN n=w5 at *
   have Hwn:=hd_ hwn
   clear hwn
   cases s0
   case true =>
    have ac:Hid (y6j (-1) vol l=Z):=by
     show _=_
     rw [hst.out]
     have h1:=hs.out;have h2:=G1.out
     cases s2
     ·simp at h1
      have:s1=Y:=by
       rw [← h2];simp
       by_cases hk0:k=0
       ·rw [nH.out hk0];omega
       ·obtain ⟨_,h⟩:=HX1.out (k - 1) (by omega);omega
      rw [this];rfl
     ·cases s1 <;> rfl
    go_wp2_with fail
    go_quiet ((go_at_call 162;exact Calls.quiet_of_same (y5d y 0 m1 Y G0 _)))
    go_wp2
    go_ret
    exact ⟨by rw [Hf.out,ac.out];rfl,z9r hbn.out _⟩
   case false =>
    have jX:s2=Z∧0≤y:=by
     have h1:=hs.out
     cases s2
     ·simp at h1;exact ⟨rfl,h1⟩
     ·simp at h1
    obtain ⟨rfl,hy0⟩:=jX
    have Hy0:=hd_ hy0
    clear hy0
    by_cases hk0:k=0
    ·subst hk0
     have bJ:s1=Z:=by rw [← G1.out,nH.out rfl];simp;have:=Hy0.out;omega
     subst bJ
     have hrel':Hid (y2w vol l w0 (I J ((1:Nat):Int)) w5):=by
      exact j0c 0 n y (by omega) (by rw [hst.out];rfl) gj.out Hy0.out Hwn.out.symm
     have fB:w5.cell? ⟨b,off,none⟩=some (I J y):=d0
     have hpos:(0:Int)<(l.length:Int):=by omega
     have hpos':X ((0:Int)<(l.length:Int))=Y:=by simp;omega
     go_wp2_with fail
     go_quiet ((go_at_call 162;exact Calls.quiet_of_same (y5d y 0 m1 Z G0 _)))
     go_wp2
     go_roundw
     case rel =>
      have h:=x6n hrel'.out nq
      exact h
     case measure=>simp [intOf];omega
    ·obtain ⟨j,hj⟩:∃ j,k=j+1:=⟨k - 1,by omega⟩
     obtain ⟨hx,fX⟩:=HX1.out j hj
     have d1:=HC.out j x hx
     have e2:IntKind.i64.wrap ((k:Int) - 1)=(j:Int):=by rw [IntWalk.i64_in _ (by omega)];omega
     have tk:X ((0:Int)<(k:Int))=Y:=by simp;omega
     have tk2:X (0<k)=Y:=by simp;omega
     have tjj:X ((j:Int)<(l.length:Int))=Y:=by simp;omega
     have tjj':(j:Int)<(l.length:Int):=by omega
     have tkk':(k:Int)<(l.length:Int):=by omega
     have g1:=G1.out
     have Hx0:=hd_ fX;have Hj:=hd_ hj
     clear hx fX hk0 hj
     cases s1
     case true =>
      have ac:Hid (y6j (-1) vol l=Z):=by show _=_;rw [hst.out];rfl
      go_wp2_with fail
      go_quiet ((go_at_call 162;exact Calls.quiet_of_same (y5d y 0 m1 Z G0 _)))
      go_wp2
      go_ret
      exact ⟨by rw [Hf.out,ac.out];rfl,z9r hbn.out _⟩
     case false =>
      have hrel':Hid (y2w vol l w0 (I J ((k+1:Nat):Int)) w5):=by
       exact j0c k n y (by omega) (by rw [hst.out];rfl) gj.out Hy0.out Hwn.out.symm
      go_wp2_with fail
      go_quiet ((go_at_call 162;exact Calls.quiet_of_same (y5d y 0 m1 Z G0 _)))
      go_wp2
      go_roundw
      case rel =>
       have h:=x6n hrel'.out nq
       exact k0p h (by go_num)
      case measure=>simp [intOf];omega
  ·obtain rfl:k=l.length:=by omega
   have tj:X ((l.length:Int)<(l.length:Int))=Z:=by simp
   have hend:Hid (y6j (-1) vol l=Y):=by show _=_;rw [HIn.out,List.drop_of_length_le (Nat.le_refl _)];rfl
   go_wp2_with fail
   go_ret
   exact ⟨by rw [Hf.out,hend.out];rfl,hbn.out⟩
end Go.Proofs.YtdblnbnofjggnaaGreatDoor
