/- Parts of the proofs of chapter 49's laws: Rsq. -/
import Derived.Test.YtdblnbnofjggnaaGreatDoorM17
import Derived.Deep.QuietTactic
import Derived.BigQuiet
set_option maxHeartbeats 4000000
set_option maxRecDepth 100000
open Go
open Lib renaming hid → hd_
namespace Go.Proofs.YtdblnbnofjggnaaGreatDoor
open Go.RowKit
theorem y4a (n a b:Int) (t:Bool) (h:Hid (z5p (n,a,b) = t)) (w:World):Calls Tryz.prog 162 #[.int .i64 n,.int .i64 a,.int .i64 b] w fun e w'=>e = .returned (.bool (!t))∧w' = w :=
 (z1t n a b w).mono fun _ _ q=>⟨by rw [← h.out];exact q.1,q.2.symm⟩
theorem z1q {B:Nat} {w0 w:World} (h:Below B w0 w) (n:Nat):Below B w0 (w.drewN n):=h.trans ⟨rfl,rfl,rfl,Nat.le_refl _,fun _ _=>rfl⟩
def y7t (vol:Int) (l:List Int) (w:World) (i:Value) (wr:World):Prop :=
 ∃ (k n:Nat) (x:Int),k ≤ l.length∧i = .int .i64 k∧y8g (-1) vol l = y8g x vol (l.drop k)∧(k = 0→x = -1)∧(∀ j,k = j + 1→l[j]? = some x∧0 ≤ x)∧wr = w.drewN n
theorem x0l {vol:Int} {l:List Int} {w wr:World} {i:Value} (h:y7t vol l w i wr) (q:Nat):y7t vol l w i (wr.drewN q):=by
 obtain ⟨k,n,x,h1,h2,h3,h4,h5,rfl⟩:=h
 exact ⟨k,n + q,x,h1,h2,h3,h4,h5,by rw [World.drewN_drewN]⟩
theorem x5y {vol:Int} {l:List Int} {w wr:World} (k n:Nat) (y:Int) (hk:k + 1 ≤ l.length) (hi:y8g (-1) vol l = y8g y vol (l.drop (k + 1))) (hy:l[k]? = some y) (h0:0 ≤ y) (hw:wr = w.drewN n):y7t vol l w (.int .i64 ((k + 1:Nat):Int)) wr:=by
 refine ⟨k + 1,n,y,hk,rfl,hi,fun h=>by omega,fun j h=>?_,hw⟩
 obtain rfl:j = k:=by omega
 exact ⟨hy,h0⟩
theorem k7h {vol:Int} {l:List Int} {w wr:World} {i i':Value} (h:y7t vol l w i wr) (e:i' = i):y7t vol l w i' wr:=e ▸ h
theorem y8t (vol m1 sh fa:Int) (l:List Int) (v:Value) (w:World) (hm:IntKind.i64.wrap (vol - 1) = m1) (hl:z4y w.heap.size w l v) :
 Calls Tryz.prog 105 #[.int .i64 vol,.agg #[v,.int .i64 sh,.int .i64 fa]] w (j7r (x4k vol l sh fa) w):=by
 obtain ⟨oa,cap,rfl,hlm⟩:=hl.shape
 have HI:=hd_ hl
 have bl:(l.length:Int) ≤ 9223372036854775807:=by omega
 have Hm:=hd_ hm
 clear hl hlm hm
 obtain ⟨t0,h0⟩:∃ t,z5p (vol,1,64) = t:=⟨_,rfl⟩
 obtain ⟨t1,h1⟩:∃ t,z5p (sh,0,3) = t:=⟨_,rfl⟩
 obtain ⟨t2,h2⟩:∃ t,z5p (fa,0,3) = t:=⟨_,rfl⟩
 have hfin:Hid (x4k vol l sh fa = ((!(t0 || t1 || t2) && !l.isEmpty) && y8g (-1) vol l)):=by
  show _ = _
  unfold x4k j9w
  simp only [List.any_cons,List.any_nil,h0,h1,h2]
  cases t0 <;> cases t1 <;> cases t2 <;> rfl
 have H0:=hd_ h0;have H1:=hd_ h1;have H2:=hd_ h2
 clear h0 h1 h2
 have hcb0:Hid (CB (w.alloc (.cells #[.slice oa l.length cap,.int .i64 sh,.int .i64 fa] 37)) w.heap.size 37 [.slice oa l.length cap,.int .i64 sh,.int .i64 fa]):=CB.new w _ _
 have hb0:=hd_ ((Below.refl w.heap.size w).alloc (Nat.le_refl _) (.cells #[.slice oa l.length cap,.int .i64 sh,.int .i64 fa] 37))
 go_enter Tryz.func105,Tryz.ntmps105
 go_upto_region 1 with fail
 generalize w.alloc (.cells #[.slice oa l.length cap,.int .i64 sh,.int .i64 fa] 37) = w0 at *
 have c0:w0.cell? ⟨w.heap.size,0,none⟩ = some (.slice oa l.length cap):=hcb0.out.cell 0
 have c1:w0.cell? ⟨w.heap.size,1,none⟩ = some (.int .i64 sh):=hcb0.out.cell 1
 have c2:w0.cell? ⟨w.heap.size,2,none⟩ = some (.int .i64 fa):=hcb0.out.cell 2
 go_wp2_with fail
 refine (z1t vol 1 64 _).mono ?_
 rw [H0.out]
 rintro e w2 ⟨rfl,rfl⟩
 cases t0
 case true =>
  go_wp2_with fail
  go_ret
  exact ⟨by rw [hfin.out];simp,hb0.out⟩
 have hm1:m1 = vol - 1:=by
  have h:=H0.out
  unfold z5p at h
  simp at h
  rw [← Hm.out,IntWalk.i64_in _ (by omega)]
 have Hvol:Hid (1 ≤ vol∧vol ≤ 64):=by
  have h:=H0.out
  unfold z5p at h
  simp at h
  show _∧_
  omega
 have HM1:=hd_ hm1
 clear hm1
 by_cases hz:l.length = 0
 · have Hf:Hid (x4k vol l sh fa = false):=by
    show _ = _
    rw [List.eq_nil_of_length_eq_zero hz] at hfin ⊢;rw [hfin.out];simp
   have k0:((l.length:Int) == 0) = true:=by rw [hz];rfl
   clear hz
   go_wp2_with fail
   go_ret
   exact ⟨by rw [Hf.out];rfl,hb0.out⟩
 have k0:((l.length:Int) == 0) = false:=by rw [beq_eq_false_iff_ne];omega
 have hemp:l.isEmpty = false:=by cases l <;> simp_all
 have Hemp:=hd_ hemp
 clear hz hemp
 go_wp2_with fail
 refine (z1t sh 0 3 _).mono ?_
 rw [H1.out]
 rintro e w2 ⟨rfl,rfl⟩
 cases t1
 case true =>
  go_wp2_with fail
  go_ret
  exact ⟨by rw [hfin.out];simp,hb0.out⟩
 go_wp2_with fail
 refine (z1t fa 0 3 _).mono ?_
 rw [H2.out]
 rintro e w2 ⟨rfl,rfl⟩
 cases t2
 case true =>
  go_wp2_with fail
  go_ret
  exact ⟨by rw [hfin.out];simp,hb0.out⟩
 have Hf:Hid (x4k vol l sh fa = y8g (-1) vol l):=by show _ = _;rw [hfin.out,Hemp.out];simp
 have e1:IntKind.i64.wrap (vol - 1) = m1:=Hm.out
 clear hfin
 go_wp2_with fail
 clear c0 c1 c2 k0 e1
 go_loopw [5] (fun i wr=>y7t vol l w0 i wr) (fun i _=>l.length - (intOf i).toNat)
 case atStart=>exact ⟨0,0,-1,by omega,rfl,rfl,fun _=>rfl,fun j h=>by omega,rfl⟩
 case round =>
  obtain ⟨k,n,x,hk,rfl,hi,hx0,hx1,rfl⟩:=hrel
  have HIn:=hd_ hi;have HX0:=hd_ hx0;have HX1:=hd_ hx1
  clear hi hx0 hx1
  have c0:(w0.drewN n).cell? ⟨w.heap.size,0,none⟩ = some (.slice oa l.length cap):=hcb0.out.cell 0
  have hbn:=hd_ (z1q hb0.out n)
  by_cases hlt:k < l.length
  · have tj:decide ((k:Int) < (l.length:Int)) = true:=by simp;omega
    have tj':decide (k < l.length) = true:=by simp;omega
    obtain ⟨y,hy⟩:∃ y,l[k]? = some y:=⟨_,List.getElem?_eq_getElem hlt⟩
    have hnn:¬ l = []:=by rintro rfl;simp at hlt
    have hdr:=hd_ (x5k hy)
    obtain ⟨b,off,rfl,hcell⟩:∃ b off,oa = some ⟨b,off,none⟩∧∀ j z,l[j]? = some z→(w0.drewN n).cell? ⟨b,off + j,none⟩ = some (.int .i64 z):=by
     rcases HI.out.ext hbn.out with ⟨h,_⟩ | ⟨b,off,cp,h1,_,_,_,h5⟩
     · exact absurd h hnn
     · injection h1 with h1 _ _
       exact ⟨b,off,h1,h5⟩
    have d0:=hcell k y hy
    have HC:=hd_ hcell
    have HC0:=hd_ hy
    clear hy hnn hcell
    obtain ⟨s0,g0⟩:∃ t,z5p (y,0,m1) = t:=⟨_,rfl⟩
    have G0:=hd_ g0
    obtain ⟨s1,g1⟩:∃ t,decide (y ≤ x) = t:=⟨_,rfl⟩
    obtain ⟨s2,g2⟩:∃ t,decide (vol ≤ y) = t:=⟨_,rfl⟩
    have hst:Hid (y8g (-1) vol l = (!(s1 || s2) && y8g y vol (l.drop (k + 1)))):=by
     show _ = _
     rw [HIn.out,hdr.out,y8g,g1,g2]
    have hs:Hid (s0 = (decide (y < 0) || s2)):=by
     show _ = _
     rw [← g0,← g2];unfold z5p;rw [HM1.out,Bool.eq_iff_iff];simp;omega
    have G1:=hd_ g1
    have e1:IntKind.i64.wrap (vol - 1) = m1:=Hm.out
    clear g0 g1 g2
    generalize hwn:w0.drewN n = w5 at *
    have Hwn:=hd_ hwn
    clear hwn
    cases s0
    case true =>
     have hbad:Hid (y8g (-1) vol l = false):=by
      show _ = _
      rw [hst.out]
      have h1:=hs.out;have h2:=G1.out
      cases s2
      · simp at h1
        have:s1 = true:=by
         rw [← h2];simp
         by_cases hk0:k = 0
         · rw [HX0.out hk0];omega
         · obtain ⟨_,h⟩:=HX1.out (k - 1) (by omega);omega
        rw [this];rfl
      · cases s1 <;> rfl
     go_wp2_with fail
     go_quiet ((go_at_call 162;exact Calls.quiet_of_same (y4a y 0 m1 true G0 _)))
     go_wp2
     go_ret
     exact ⟨by rw [Hf.out,hbad.out];rfl,z1q hbn.out _⟩
    case false =>
     have hs2:s2 = false∧0 ≤ y:=by
      have h1:=hs.out
      cases s2
      · simp at h1;exact ⟨rfl,h1⟩
      · simp at h1
     obtain ⟨rfl,hy0⟩:=hs2
     have Hy0:=hd_ hy0
     clear hy0
     by_cases hk0:k = 0
     · subst hk0
       have hs1:s1 = false:=by rw [← G1.out,HX0.out rfl];simp;have:=Hy0.out;omega
       subst hs1
       have hrel':Hid (y7t vol l w0 (.int .i64 ((1:Nat):Int)) w5):=by
        exact x5y 0 n y (by omega) (by rw [hst.out];rfl) HC0.out Hy0.out Hwn.out.symm
       have d00:w5.cell? ⟨b,off,none⟩ = some (.int .i64 y):=d0
       have hpos:(0:Int) < (l.length:Int):=by omega
       have hpos':decide ((0:Int) < (l.length:Int)) = true:=by simp;omega
       go_wp2_with fail
       go_quiet ((go_at_call 162;exact Calls.quiet_of_same (y4a y 0 m1 false G0 _)))
       go_wp2
       go_roundw
       case rel =>
        have h:=x0l hrel'.out nq
        exact h
       case measure=>simp [intOf];omega
     · obtain ⟨j,hj⟩:∃ j,k = j + 1:=⟨k - 1,by omega⟩
       obtain ⟨hx,hx0⟩:=HX1.out j hj
       have d1:=HC.out j x hx
       have e2:IntKind.i64.wrap ((k:Int) - 1) = (j:Int):=by rw [IntWalk.i64_in _ (by omega)];omega
       have tk:decide ((0:Int) < (k:Int)) = true:=by simp;omega
       have tk2:decide (0 < k) = true:=by simp;omega
       have tjj:decide ((j:Int) < (l.length:Int)) = true:=by simp;omega
       have tjj':(j:Int) < (l.length:Int):=by omega
       have tkk':(k:Int) < (l.length:Int):=by omega
       have g1:=G1.out
       have Hx0:=hd_ hx0;have Hj:=hd_ hj
       clear hx hx0 hk0 hj
       cases s1
       case true =>
        have hbad:Hid (y8g (-1) vol l = false):=by show _ = _;rw [hst.out];rfl
        go_wp2_with fail
        go_quiet ((go_at_call 162;exact Calls.quiet_of_same (y4a y 0 m1 false G0 _)))
        go_wp2
        go_ret
        exact ⟨by rw [Hf.out,hbad.out];rfl,z1q hbn.out _⟩
       case false =>
        have hrel':Hid (y7t vol l w0 (.int .i64 ((k + 1:Nat):Int)) w5):=by
         exact x5y k n y (by omega) (by rw [hst.out];rfl) HC0.out Hy0.out Hwn.out.symm
        go_wp2_with fail
        go_quiet ((go_at_call 162;exact Calls.quiet_of_same (y4a y 0 m1 false G0 _)))
        go_wp2
        go_roundw
        case rel =>
         have h:=x0l hrel'.out nq
         exact k7h h (by go_num)
        case measure=>simp [intOf];omega
  · obtain rfl:k = l.length:=by omega
    have tj:decide ((l.length:Int) < (l.length:Int)) = false:=by simp
    have hend:Hid (y8g (-1) vol l = true):=by show _ = _;rw [HIn.out,List.drop_of_length_le (Nat.le_refl _)];rfl
    go_wp2_with fail
    go_ret
    exact ⟨by rw [Hf.out,hend.out];rfl,hbn.out⟩
end Go.Proofs.YtdblnbnofjggnaaGreatDoor
