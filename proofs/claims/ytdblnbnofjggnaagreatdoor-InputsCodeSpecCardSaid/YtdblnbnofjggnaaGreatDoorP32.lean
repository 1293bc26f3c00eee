/- Parts of the proofs of chapter 49's laws. -/
import Derived.Test.YtdblnbnofjggnaaGreatDoorP31
import Derived.Test.YtdblnbnofjggnaaGreatDoorP21
set_option maxHeartbeats 8000000
set_option maxRecDepth 100000
open Go.Lib renaming hid → hd_
open Go.World renaming size_alloc → sA
open List renaming mem_cons → mC, not_mem_nil → nM
open Go.Value renaming int → I, slice → O, string → D, bool → C, pointer → T, agg → E
open Go.IntKind renaming i64 → Y
open Go.Ending renaming returned → M
open Option renaming none → S, some → U
open Bool renaming true → G, false → Q
open Decidable renaming decide → Z
open Go renaming World → J, Calls → X
open Go.RowKit renaming Below → R, Hid → F
set_option linter.all false
namespace Go.Proofs.YtdblnbnofjggnaaGreatDoor
open Go.Proofs.Tryz
open Go.RowKit
structure SlcS (s:Slc):Prop where
 ways:∃ o n c,s.ways=O o n c
 tree:∃ o n c,s.tree=O o n c
 modes:∃ o n c,s.modes=O o n c
 vols:∃ o n c,s.vols=O o n c
def z7i (w:J) (g:Nat) (y:Inp) (s:Slc) (e:Ending) (w':J):Prop:=(∃ v,e=M v)∧CB w' g 41 (y.cells s)∧w.grownBy w' (U g)
theorem z5d {A B:List Value} (o:Nat) (h:(A.drop o).take B.length=B) (j:Nat) (v:Value) (hv:B[j]? = U v):A[o+j]? = U v:=by
 have hj:=(List.getElem?_eq_some_iff.1 hv).1
 have h2:((A.drop o).take B.length)[j]? = U v:=by rw [h];exact hv
 rw [List.getElem?_take_of_lt hj,List.getElem?_drop] at h2
 exact h2
theorem j4f (x y:Inp) (s sy:Slc) (hs:SlcS s) (g:Nat) (w:J) (hg:CB w g 41 (y.cells sy)) :
 X prog 80 #[T (U ⟨g,0,S⟩),x.v s] w fun e w'=>z7i w g { y with text:=x.text } (sy) e w':=by
 obtain ⟨⟨oa,na,ca,ea⟩,⟨ob,nb,cb,eb⟩,⟨oc,nc,cc,ec⟩,⟨od,nd,cd,ed⟩⟩:=hs
 have hgl:=hg.lt
 have hne:g≠w.heap.size:=by omega
 have hc:=z3a w (bI x s) 41 (x.cells s) rfl
 have aK:=hg.alloc (bI x s)
 have c0:=hc.cv 4 (D x.text)
 have d0:=aK.cv 4 (D y.text)
 have zf:=aK.frozen 4
 have HG:=hd_ aK
 clear hc aK hg hgl
 go_enter func80,ntmps80
 go_upto_region 1 with fail
 change Code.wp _ _ _ _ (w.alloc (bI x s))
 have HW:F (w.grownBy (w.alloc (bI x s)) (U g)):=World.grownBy_alloc w _ _
 generalize w.alloc (bI x s)=w0 at *
 go_wp2_with fail
 refine bodyPost_end (results_none rfl _ _ _) rfl ?_
 exact ⟨⟨_,rfl⟩,by first|exact HG.out.set 4 _|(have h:=HG.out.set 4 (O ob nb cb);rw [← eb] at h ⊢;exact h),z2a HW.out (z6b w0 g 4 _) (.inl rfl)⟩
theorem j5f (x y:Inp) (s sy:Slc) (hs:SlcS s) (g:Nat) (w:J) (hg:CB w g 41 (y.cells sy)) :
 X prog 87 #[T (U ⟨g,0,S⟩),x.v s] w fun e w'=>z7i w g { y with tree:=x.tree } ({ sy with tree:=s.tree }) e w':=by
 obtain ⟨⟨oa,na,ca,ea⟩,⟨ob,nb,cb,eb⟩,⟨oc,nc,cc,ec⟩,⟨od,nd,cd,ed⟩⟩:=hs
 have hgl:=hg.lt
 have hne:g≠w.heap.size:=by omega
 have hc:=z3a w (bI x s) 41 (x.cells s) rfl
 have aK:=hg.alloc (bI x s)
 have c0:=hc.cv 13 s.tree
 have d0:=aK.cv 13 sy.tree
 have zf:=aK.frozen 13
 have HG:=hd_ aK
 clear hc aK hg hgl
 go_enter func87,ntmps87
 go_upto_region 1 with fail
 change Code.wp _ _ _ _ (w.alloc (bI x s))
 have HW:F (w.grownBy (w.alloc (bI x s)) (U g)):=World.grownBy_alloc w _ _
 generalize w.alloc (bI x s)=w0 at *
 go_wp2_with fail
 refine bodyPost_end (results_none rfl _ _ _) rfl ?_
 exact ⟨⟨_,rfl⟩,by first|exact HG.out.set 13 _|(have h:=HG.out.set 13 (O ob nb cb);rw [← eb] at h ⊢;exact h),z2a HW.out (z6b w0 g 13 _) (.inl rfl)⟩
theorem j6f (x y:Inp) (s sy:Slc) (hs:SlcS s) (g:Nat) (w:J) (hg:CB w g 41 (y.cells sy)) :
 X prog 89 #[T (U ⟨g,0,S⟩),x.v s] w fun e w'=>z7i w g { y with n:=x.n } (sy) e w':=by
 obtain ⟨⟨oa,na,ca,ea⟩,⟨ob,nb,cb,eb⟩,⟨oc,nc,cc,ec⟩,⟨od,nd,cd,ed⟩⟩:=hs
 have hgl:=hg.lt
 have hne:g≠w.heap.size:=by omega
 have hc:=z3a w (bI x s) 41 (x.cells s) rfl
 have aK:=hg.alloc (bI x s)
 have c0:=hc.cv 26 (I Y x.n)
 have d0:=aK.cv 26 (I Y y.n)
 have zf:=aK.frozen 26
 have HG:=hd_ aK
 clear hc aK hg hgl
 go_enter func89,ntmps89
 go_upto_region 1 with fail
 change Code.wp _ _ _ _ (w.alloc (bI x s))
 have HW:F (w.grownBy (w.alloc (bI x s)) (U g)):=World.grownBy_alloc w _ _
 generalize w.alloc (bI x s)=w0 at *
 go_wp2_with fail
 refine bodyPost_end (results_none rfl _ _ _) rfl ?_
 exact ⟨⟨_,rfl⟩,by first|exact HG.out.set 26 _|(have h:=HG.out.set 26 (O ob nb cb);rw [← eb] at h ⊢;exact h),z2a HW.out (z6b w0 g 26 _) (.inl rfl)⟩
theorem x5u (x y:Inp) (s sy:Slc) (hs:SlcS s) (g:Nat) (w:J) (hg:CB w g 41 (y.cells sy)) :
 X prog 98 #[T (U ⟨g,0,S⟩),x.v s] w fun e w'=>z7i w g { y with n:=x.n } (sy) e w':=by
 obtain ⟨⟨oa,na,ca,ea⟩,⟨ob,nb,cb,eb⟩,⟨oc,nc,cc,ec⟩,⟨od,nd,cd,ed⟩⟩:=hs
 have hgl:=hg.lt
 have hne:g≠w.heap.size:=by omega
 have hc:=z3a w (bI x s) 41 (x.cells s) rfl
 have aK:=hg.alloc (bI x s)
 have c0:=hc.cv 26 (I Y x.n)
 have d0:=aK.cv 26 (I Y y.n)
 have zf:=aK.frozen 26
 have HG:=hd_ aK
 clear hc aK hg hgl
 go_enter func98,ntmps98
 go_upto_region 1 with fail
 change Code.wp _ _ _ _ (w.alloc (bI x s))
 have HW:F (w.grownBy (w.alloc (bI x s)) (U g)):=World.grownBy_alloc w _ _
 generalize w.alloc (bI x s)=w0 at *
 go_wp2_with fail
 refine bodyPost_end (results_none rfl _ _ _) rfl ?_
 exact ⟨⟨_,rfl⟩,by first|exact HG.out.set 26 _|(have h:=HG.out.set 26 (O ob nb cb);rw [← eb] at h ⊢;exact h),z2a HW.out (z6b w0 g 26 _) (.inl rfl)⟩
theorem j7f (x y:Inp) (s sy:Slc) (hs:SlcS s) (g:Nat) (w:J) (hg:CB w g 41 (y.cells sy)) :
 X prog 82 #[T (U ⟨g,0,S⟩),x.v s] w fun e w'=>z7i w g { y with stn:=x.stn } ({ sy with vols:=s.vols }) e w':=by
 have bJ:∀ u∈x.stn.cells s.vols,u.oneCell'=G:=by
  obtain ⟨⟨oa,na,ca,ea⟩,⟨ob,nb,cb,eb⟩,⟨oc,nc,cc,ec⟩,⟨od,nd,cd,ed⟩⟩:=hs
  intro u hu
  simp only [Stn.cells,mC,nM,or_false] at hu
  (try rw [ea] at hu);(try rw [ec] at hu);(try rw [ed] at hu)
  rcases hu with rfl|rfl|rfl <;> rfl
 have hgl:=hg.lt
 have hc:=z3a w (bI x s) 41 (x.cells s) rfl
 have aK:=hg.alloc (bI x s)
 have hr:(w.alloc (bI x s)).rangeAt w.heap.size 27 (x.stn.cells s.vols):=fun j v hv=>by
  rw [hc.cell]
  exact z5d (B:=x.stn.cells s.vols) 27 (by rfl) j v hv
 have HR:=hd_ hr;have bC:=hd_ bJ
 have HG:=hd_ aK
 clear hc aK hg hgl hr bJ
 go_enter func82,ntmps82
 go_upto_region 1 with fail
 change Code.wp _ _ _ _ (w.alloc (bI x s))
 have HW:F (w.grownBy (w.alloc (bI x s)) (U g)):=World.grownBy_alloc w _ _
 generalize w.alloc (bI x s)=w0 at *
 go_wp2_with (first
  | (have _g:=HR.out;refine lmg 37 (.tmp 5) rfl w.heap.size 27 rfl (x.stn.cells s.vols) HR.out underlying37 ?_;clear HR)
  | (have _g:=bC.out;refine z0b rfl 37 (.tmp 8) (.tmp 6) rfl g 27 (x.stn.cells s.vols) rfl rfl _ _ HG.out (show 27+3≤32 by decide) (by kernel_rfl) bC.out (fun w2 aP dW=>?_);clear bC))
 refine bodyPost_end (results_none rfl _ _ _) rfl ?_
 exact ⟨⟨_,rfl⟩,aP.out,z2a HW.out dW.out (.inl rfl)⟩
theorem j8f (x y:Inp) (s sy:Slc) (hs:SlcS s) (g:Nat) (w:J) (hg:CB w g 41 (y.cells sy)) :
 X prog 84 #[T (U ⟨g,0,S⟩),x.v s] w fun e w'=>z7i w g { y with flt:=x.flt } ({ sy with ways:=s.ways }) e w':=by
 have bJ:∀ u∈x.flt.cells s.ways,u.oneCell'=G:=by
  obtain ⟨⟨oa,na,ca,ea⟩,⟨ob,nb,cb,eb⟩,⟨oc,nc,cc,ec⟩,⟨od,nd,cd,ed⟩⟩:=hs
  intro u hu
  simp only [Flt.cells,mC,nM,or_false] at hu
  (try rw [ea] at hu);(try rw [ec] at hu);(try rw [ed] at hu)
  rcases hu with rfl|rfl|rfl|rfl|rfl|rfl|rfl|rfl <;> rfl
 have hgl:=hg.lt
 have hc:=z3a w (bI x s) 41 (x.cells s) rfl
 have aK:=hg.alloc (bI x s)
 have hr:(w.alloc (bI x s)).rangeAt w.heap.size 5 (x.flt.cells s.ways):=fun j v hv=>by
  rw [hc.cell]
  exact z5d (B:=x.flt.cells s.ways) 5 (by rfl) j v hv
 have HR:=hd_ hr;have bC:=hd_ bJ
 have HG:=hd_ aK
 clear hc aK hg hgl hr bJ
 go_enter func84,ntmps84
 go_upto_region 1 with fail
 change Code.wp _ _ _ _ (w.alloc (bI x s))
 have HW:F (w.grownBy (w.alloc (bI x s)) (U g)):=World.grownBy_alloc w _ _
 generalize w.alloc (bI x s)=w0 at *
 go_wp2_with (first
  | (have _g:=HR.out;refine lmg 28 (.tmp 5) rfl w.heap.size 5 rfl (x.flt.cells s.ways) HR.out underlying28 ?_;clear HR)
  | (have _g:=bC.out;refine z0b rfl 28 (.tmp 8) (.tmp 6) rfl g 5 (x.flt.cells s.ways) rfl rfl _ _ HG.out (show 5+8≤32 by decide) (by kernel_rfl) bC.out (fun w2 aP dW=>?_);clear bC))
 refine bodyPost_end (results_none rfl _ _ _) rfl ?_
 exact ⟨⟨_,rfl⟩,aP.out,z2a HW.out dW.out (.inl rfl)⟩
theorem x6u (x y:Inp) (s sy:Slc) (hs:SlcS s) (g:Nat) (w:J) (hg:CB w g 41 (y.cells sy)) :
 X prog 91 #[T (U ⟨g,0,S⟩),x.v s] w fun e w'=>z7i w g { y with chg:=x.chg } ({ sy with modes:=s.modes }) e w':=by
 have bJ:∀ u∈x.chg.cells s.modes,u.oneCell'=G:=by
  obtain ⟨⟨oa,na,ca,ea⟩,⟨ob,nb,cb,eb⟩,⟨oc,nc,cc,ec⟩,⟨od,nd,cd,ed⟩⟩:=hs
  intro u hu
  simp only [Chg.cells,mC,nM,or_false] at hu
  (try rw [ea] at hu);(try rw [ec] at hu);(try rw [ed] at hu)
  rcases hu with rfl|rfl|rfl <;> rfl
 have hgl:=hg.lt
 have hc:=z3a w (bI x s) 41 (x.cells s) rfl
 have aK:=hg.alloc (bI x s)
 have hr:(w.alloc (bI x s)).rangeAt w.heap.size 14 (x.chg.cells s.modes):=fun j v hv=>by
  rw [hc.cell]
  exact z5d (B:=x.chg.cells s.modes) 14 (by rfl) j v hv
 have HR:=hd_ hr;have bC:=hd_ bJ
 have HG:=hd_ aK
 clear hc aK hg hgl hr bJ
 go_enter func91,ntmps91
 go_upto_region 1 with fail
 change Code.wp _ _ _ _ (w.alloc (bI x s))
 have HW:F (w.grownBy (w.alloc (bI x s)) (U g)):=World.grownBy_alloc w _ _
 generalize w.alloc (bI x s)=w0 at *
 go_wp2_with (first
  | (have _g:=HR.out;refine lmg 31 (.tmp 5) rfl w.heap.size 14 rfl (x.chg.cells s.modes) HR.out underlying31 ?_;clear HR)
  | (have _g:=bC.out;refine z0b rfl 31 (.tmp 8) (.tmp 6) rfl g 14 (x.chg.cells s.modes) rfl rfl _ _ HG.out (show 14+3≤32 by decide) (by kernel_rfl) bC.out (fun w2 aP dW=>?_);clear bC))
 refine bodyPost_end (results_none rfl _ _ _) rfl ?_
 exact ⟨⟨_,rfl⟩,aP.out,z2a HW.out dW.out (.inl rfl)⟩
theorem x7u (x y:Inp) (s sy:Slc) (hs:SlcS s) (g:Nat) (w:J) (hg:CB w g 41 (y.cells sy)) :
 X prog 94 #[T (U ⟨g,0,S⟩),x.v s] w fun e w'=>z7i w g { y with rep:=x.rep } (sy) e w':=by
 have bJ:∀ u∈x.rep.cells,u.oneCell'=G:=by
  obtain ⟨⟨oa,na,ca,ea⟩,⟨ob,nb,cb,eb⟩,⟨oc,nc,cc,ec⟩,⟨od,nd,cd,ed⟩⟩:=hs
  intro u hu
  simp only [Rp.cells,mC,nM,or_false] at hu
  (try rw [ea] at hu);(try rw [ec] at hu);(try rw [ed] at hu)
  rcases hu with rfl|rfl|rfl|rfl|rfl|rfl <;> rfl
 have hgl:=hg.lt
 have hc:=z3a w (bI x s) 41 (x.cells s) rfl
 have aK:=hg.alloc (bI x s)
 have hr:(w.alloc (bI x s)).rangeAt w.heap.size 17 (x.rep.cells):=fun j v hv=>by
  rw [hc.cell]
  exact z5d (B:=x.rep.cells) 17 (by rfl) j v hv
 have HR:=hd_ hr;have bC:=hd_ bJ
 have HG:=hd_ aK
 clear hc aK hg hgl hr bJ
 go_enter func94,ntmps94
 go_upto_region 1 with fail
 change Code.wp _ _ _ _ (w.alloc (bI x s))
 have HW:F (w.grownBy (w.alloc (bI x s)) (U g)):=World.grownBy_alloc w _ _
 generalize w.alloc (bI x s)=w0 at *
 go_wp2_with (first
  | (have _g:=HR.out;refine lmg 33 (.tmp 5) rfl w.heap.size 17 rfl (x.rep.cells) HR.out underlying33 ?_;clear HR)
  | (have _g:=bC.out;refine z0b rfl 33 (.tmp 8) (.tmp 6) rfl g 17 (x.rep.cells) rfl rfl _ _ HG.out (show 17+6≤32 by decide) (by kernel_rfl) bC.out (fun w2 aP dW=>?_);clear bC))
 refine bodyPost_end (results_none rfl _ _ _) rfl ?_
 exact ⟨⟨_,rfl⟩,aP.out,z2a HW.out dW.out (.inl rfl)⟩
theorem x8u (x y:Inp) (s sy:Slc) (hs:SlcS s) (g:Nat) (w:J) (hg:CB w g 41 (y.cells sy)) :
 X prog 96 #[T (U ⟨g,0,S⟩),x.v s] w fun e w'=>z7i w g { y with sts:=x.sts } (sy) e w':=by
 have bJ:∀ u∈x.sts.cells,u.oneCell'=G:=by
  obtain ⟨⟨oa,na,ca,ea⟩,⟨ob,nb,cb,eb⟩,⟨oc,nc,cc,ec⟩,⟨od,nd,cd,ed⟩⟩:=hs
  intro u hu
  simp only [Sts.cells,mC,nM,or_false] at hu
  (try rw [ea] at hu);(try rw [ec] at hu);(try rw [ed] at hu)
  rcases hu with rfl|rfl|rfl <;> rfl
 have hgl:=hg.lt
 have hc:=z3a w (bI x s) 41 (x.cells s) rfl
 have aK:=hg.alloc (bI x s)
 have hr:(w.alloc (bI x s)).rangeAt w.heap.size 23 (x.sts.cells):=fun j v hv=>by
  rw [hc.cell]
  exact z5d (B:=x.sts.cells) 23 (by rfl) j v hv
 have HR:=hd_ hr;have bC:=hd_ bJ
 have HG:=hd_ aK
 clear hc aK hg hgl hr bJ
 go_enter func96,ntmps96
 go_upto_region 1 with fail
 change Code.wp _ _ _ _ (w.alloc (bI x s))
 have HW:F (w.grownBy (w.alloc (bI x s)) (U g)):=World.grownBy_alloc w _ _
 generalize w.alloc (bI x s)=w0 at *
 go_wp2_with (first
  | (have _g:=HR.out;refine lmg 35 (.tmp 5) rfl w.heap.size 23 rfl (x.sts.cells) HR.out underlying35 ?_;clear HR)
  | (have _g:=bC.out;refine z0b rfl 35 (.tmp 8) (.tmp 6) rfl g 23 (x.sts.cells) rfl rfl _ _ HG.out (show 23+3≤32 by decide) (by kernel_rfl) bC.out (fun w2 aP dW=>?_);clear bC))
 refine bodyPost_end (results_none rfl _ _ _) rfl ?_
 exact ⟨⟨_,rfl⟩,aP.out,z2a HW.out dW.out (.inl rfl)⟩
theorem j9f {B:Nat} {w:J} {l:List Int} {v:Value} (h:z4g nuK B w l v):y6b B w l v:=by
 cases l with
 | nil =>
  obtain ⟨oa,cap,rfl,_⟩:=h.shape
  exact .inl ⟨rfl,oa,cap,rfl⟩
 | cons a r =>
  rcases h with ⟨h,_⟩|⟨b,off,cap,h1,h2,h3,h4,h5⟩
  ·cases h
  ·refine .inr ⟨b,off,cap,h1,h2,h3,h4,fun j y hj=>?_⟩
   have:=h5 j y hj 0 _ rfl
   simpa [nuK] using this
theorem x9u (x:Inp) (s:Slc) (w:J) (hx:InpR w x s)  :
 X prog 83 #[x.v s] w fun e w'=>e=M (C (x0n 64 x.stn.vols x.stn.sh x.stn.fa))∧R w.heap.size w w':=by
 have ax:=z4b (w:=w) (bI x s)
 have hc:=z3a w (bI x s) 41 (x.cells s) rfl
 have hr:(w.alloc (bI x s)).rangeAt w.heap.size 27 (x.stn.cells s.vols):=fun j v hv=>by
  rw [hc.cell]
  exact z5d (B:=x.stn.cells s.vols) 27 (by rfl) j v hv
 have HC:=hd_ (x1g 64 x.stn.sh x.stn.fa x.stn.vols s.vols _ (j9f (hx.vols.ext ax)))
 unfold j4x at HC
 obtain ⟨b,hb⟩:∃ b,x0n 64 x.stn.vols x.stn.sh x.stn.fa=b:=⟨_,rfl⟩
 rw [hb] at HC ⊢
 have HR:=hd_ hr;have az:=hd_ ax
 clear hc hr hb ax hx
 go_enter func83,ntmps83
 go_upto_region 1 with fail
 change Code.wp _ _ _ _ (w.alloc (bI x s))
 generalize w.alloc (bI x s)=w0 at *
 cases b <;> (
  go_wp2_with (first
   | (have _g:=HR.out;refine lmg 37 (.tmp 3) rfl w.heap.size 27 rfl (x.stn.cells s.vols) HR.out underlying37 ?_;clear HR)
   | (go_at_call 32;refine HC.out.mono ?_;(rintro e w2 ⟨rfl,hb⟩;have au:=hd_ (z0a az.out hb);clear hb HC)))
  go_ret
  exact ⟨rfl,au.out⟩)
theorem x0v (x:Inp) (s:Slc) (w:J) (hx:InpR w x s) (hz:x.flt.call.size≤9223372036854775807) :
 X prog 85 #[x.v s] w fun e w'=>e=M (C (y9y x.flt))∧R w.heap.size w w':=by
 have ax:=z4b (w:=w) (bI x s)
 have hc:=z3a w (bI x s) 41 (x.cells s) rfl
 have hr:(w.alloc (bI x s)).rangeAt w.heap.size 5 (x.flt.cells s.ways):=fun j v hv=>by
  rw [hc.cell]
  exact z5d (B:=x.flt.cells s.ways) 5 (by rfl) j v hv
 have HC:=hd_ (x8t x.flt s.ways _ (hx.ways.ext ax) hz)
 skip
 obtain ⟨b,hb⟩:∃ b,y9y x.flt=b:=⟨_,rfl⟩
 rw [hb] at HC ⊢
 have HR:=hd_ hr;have az:=hd_ ax
 clear hc hr hb ax hx
 go_enter func85,ntmps85
 go_upto_region 1 with fail
 change Code.wp _ _ _ _ (w.alloc (bI x s))
 generalize w.alloc (bI x s)=w0 at *
 cases b <;> (
  go_wp2_with (first
   | (have _g:=HR.out;refine lmg 28 (.tmp 3) rfl w.heap.size 5 rfl (x.flt.cells s.ways) HR.out underlying28 ?_;clear HR)
   | (go_at_call 86;refine HC.out.mono ?_;(rintro e w2 ⟨rfl,hb⟩;have au:=hd_ (z0a az.out hb);clear hb HC)))
  go_ret
  exact ⟨rfl,au.out⟩)
theorem x6i (x:Inp) (s:Slc) (w:J) (hx:InpR w x s)  :
 X prog 92 #[x.v s] w fun e w'=>e=M (C (x8o x.chg))∧R w.heap.size w w':=by
 have ax:=z4b (w:=w) (bI x s)
 have hc:=z3a w (bI x s) 41 (x.cells s) rfl
 have hr:(w.alloc (bI x s)).rangeAt w.heap.size 14 (x.chg.cells s.modes):=fun j v hv=>by
  rw [hc.cell]
  exact z5d (B:=x.chg.cells s.modes) 14 (by rfl) j v hv
 have HC:=hd_ (x6t x.chg s.modes _ (hx.modes.ext ax))
 skip
 obtain ⟨b,hb⟩:∃ b,x8o x.chg=b:=⟨_,rfl⟩
 rw [hb] at HC ⊢
 have HR:=hd_ hr;have az:=hd_ ax
 clear hc hr hb ax hx
 go_enter func92,ntmps92
 go_upto_region 1 with fail
 change Code.wp _ _ _ _ (w.alloc (bI x s))
 generalize w.alloc (bI x s)=w0 at *
 cases b <;> (
  go_wp2_with (first
   | (have _g:=HR.out;refine lmg 31 (.tmp 3) rfl w.heap.size 14 rfl (x.chg.cells s.modes) HR.out underlying31 ?_;clear HR)
   | (go_at_call 93;refine HC.out.mono ?_;(rintro e w2 ⟨rfl,hb⟩;have au:=hd_ (z0a az.out hb);clear hb HC)))
  go_ret
  exact ⟨rfl,au.out⟩)
theorem x7i (x:Inp) (s:Slc) (w:J) (_hx:InpR w x s) (hz:x.rep.cl.size≤9223372036854775807) :
 X prog 95 #[x.v s] w fun e w'=>e=M (C (j5b 4 3 x.rep))∧R w.heap.size w w':=by
 have ax:=z4b (w:=w) (bI x s)
 have hc:=z3a w (bI x s) 41 (x.cells s) rfl
 have hr:(w.alloc (bI x s)).rangeAt w.heap.size 17 (x.rep.cells):=fun j v hv=>by
  rw [hc.cell]
  exact z5d (B:=x.rep.cells) 17 (by rfl) j v hv
 have HC:=hd_ (x0g 4 3 x.rep (w.alloc (bI x s)) (by decide) hz)
 unfold j4x at HC
 obtain ⟨b,hb⟩:∃ b,j5b 4 3 x.rep=b:=⟨_,rfl⟩
 rw [hb] at HC ⊢
 have HR:=hd_ hr;have az:=hd_ ax
 clear hc hr hb ax _hx
 go_enter func95,ntmps95
 go_upto_region 1 with fail
 change Code.wp _ _ _ _ (w.alloc (bI x s))
 generalize w.alloc (bI x s)=w0 at *
 cases b <;> (
  go_wp2_with (first
   | (have _g:=HR.out;refine lmg 33 (.tmp 3) rfl w.heap.size 17 rfl (x.rep.cells) HR.out underlying33 ?_;clear HR)
   | (go_at_call 31;refine HC.out.mono ?_;(rintro e w2 ⟨rfl,hb⟩;have au:=hd_ (z0a az.out hb);clear hb HC)))
  go_ret
  exact ⟨rfl,au.out⟩)
theorem j7y (n a b:Int) (w:J):X prog 34 #[I Y n,I Y a,I Y b] w fun e w'=>e=M (C (inB n a b))∧R w.heap.size w w':=by
 refine (z5g n a b w).mono ?_
 rintro e w' ⟨rfl,rfl⟩
 exact ⟨rfl,Below.refl _ _⟩
theorem x8i (x:Inp) (s:Slc) (w:J) (_hx:InpR w x s)  :
 X prog 90 #[x.v s] w fun e w'=>e=M (C (inB x.n 0 31))∧R w.heap.size w w':=by
 have ax:=z4b (w:=w) (bI x s)
 have hc:=z3a w (bI x s) 41 (x.cells s) rfl
 have c0:=hc.cv 26 (I Y x.n)
 have HC:=hd_ (j7y x.n 0 31 (w.alloc (bI x s)))
 obtain ⟨b,hb⟩:∃ b,inB x.n 0 31=b:=⟨_,rfl⟩
 rw [hb] at HC ⊢
 have az:=hd_ ax
 clear hc hb ax _hx
 go_enter func90,ntmps90
 go_upto_region 1 with fail
 change Code.wp _ _ _ _ (w.alloc (bI x s))
 generalize w.alloc (bI x s)=w0 at *
 cases b <;> (
  go_wp2_with (go_at_call 34;refine HC.out.mono ?_;(rintro e w2 ⟨rfl,hb⟩;have au:=hd_ (z0a az.out hb);clear hb HC))
  go_ret
  exact ⟨rfl,au.out⟩)
theorem x9i (x:Inp) (s:Slc) (w:J) (_hx:InpR w x s)  :
 X prog 99 #[x.v s] w fun e w'=>e=M (C (inB x.n 0 1048576))∧R w.heap.size w w':=by
 have ax:=z4b (w:=w) (bI x s)
 have hc:=z3a w (bI x s) 41 (x.cells s) rfl
 have c0:=hc.cv 26 (I Y x.n)
 have HC:=hd_ (j7y x.n 0 1048576 (w.alloc (bI x s)))
 obtain ⟨b,hb⟩:∃ b,inB x.n 0 1048576=b:=⟨_,rfl⟩
 rw [hb] at HC ⊢
 have az:=hd_ ax
 clear hc hb ax _hx
 go_enter func99,ntmps99
 go_upto_region 1 with fail
 change Code.wp _ _ _ _ (w.alloc (bI x s))
 generalize w.alloc (bI x s)=w0 at *
 cases b <;> (
  go_wp2_with (go_at_call 34;refine HC.out.mono ?_;(rintro e w2 ⟨rfl,hb⟩;have au:=hd_ (z0a az.out hb);clear hb HC))
  go_ret
  exact ⟨rfl,au.out⟩)
theorem x1v (x:Inp) (s:Slc) (w:J) (hx:InpR w x s)  :
 X prog 88 #[x.v s] w fun e w'=>e=M (C (z9o x.tree))∧R w.heap.size w w':=by
 have ax:=z4b (w:=w) (bI x s)
 have hc:=z3a w (bI x s) 41 (x.cells s) rfl
 have HX:=hd_ (hx.tree.ext ax)
 have c0:=hc.cv 13 s.tree
 have HC:=hd_ (x3u x.tree s.tree _ (hx.tree.ext ax))
 obtain ⟨b,hb⟩:∃ b,z9o x.tree=b:=⟨_,rfl⟩
 rw [hb] at HC ⊢
 obtain ⟨oa,cap,he,la⟩:=HX.out.shape
 rw [he] at c0 HC
 clear he la HX
 have az:=hd_ ax
 clear hc hb ax hx
 go_enter func88,ntmps88
 go_upto_region 1 with fail
 change Code.wp _ _ _ _ (w.alloc (bI x s))
 generalize w.alloc (bI x s)=w0 at *
 cases b <;> (
  go_wp2_with (go_at_call 30;refine HC.out.mono ?_;(rintro e w2 ⟨rfl,hb⟩;have au:=hd_ (z0a az.out hb);clear hb HC))
  go_ret
  exact ⟨rfl,au.out⟩)
theorem x2v (x:Inp) (s:Slc) (w:J) (hz:x.text.size≤9223372036854775807) :
 X prog 81 #[x.v s] w fun e w'=>e=M (C (Z (x.text.size≤65536)))∧R w.heap.size w w':=by
 have ax:=z4b (w:=w) (bI x s)
 have hc:=z3a w (bI x s) 41 (x.cells s) rfl
 have c0:=hc.cv 4 (D x.text)
 obtain ⟨b,hb⟩:∃ b,Z (x.text.size≤65536)=b:=⟨_,rfl⟩
 have u1:Z ((x.text.size:Int)≤65536)=b:=by rw [← hb];by_cases h:x.text.size≤65536 <;> simp [h] <;> omega
 have l1:(x.text.size:Int)≤9223372036854775807:=by omega
 rw [hb]
 have az:=hd_ ax
 clear hc hb ax hz
 go_enter func81,ntmps81
 go_upto_region 1 with fail
 change Code.wp _ _ _ _ (w.alloc (bI x s))
 generalize w.alloc (bI x s)=w0 at *
 cases b <;> (
  go_wp2_with fail
  go_ret
  exact ⟨by first|rfl|simp [u1],az.out⟩)
theorem x0j (x:Inp) (s:Slc) (w:J) :
 X prog 101 #[x.v s] w fun e w'=>e=M (C G)∧R w.heap.size w w':=by
 have az:=hd_ (z4b (w:=w) (bI x s))
 go_enter func101,ntmps101
 go_upto_region 1 with fail
 change Code.wp _ _ _ _ (w.alloc (bI x s))
 generalize w.alloc (bI x s)=w0 at *
 go_wp2_with fail
 go_ret
 exact ⟨rfl,az.out⟩
theorem x1j (x:Inp) (s:Slc) (w:J) :
 X prog 97 #[x.v s] w fun e w'=>e=M (C (inB x.sts.st 0 3&&inB x.sts.frm 0 1439))∧R w.heap.size w w':=by
 have ax:=z4b (w:=w) (bI x s)
 have hc:=z3a w (bI x s) 41 (x.cells s) rfl
 have c0:=hc.cv 23 (I Y x.sts.st)
 have c1:=hc.cv 24 (I Y x.sts.frm)
 have H1:=hd_ (fun W=>z5g x.sts.st 0 3 W);have H2:=hd_ (fun W=>z5g x.sts.frm 0 1439 W)
 obtain ⟨b1,h1⟩:∃ b,inB x.sts.st 0 3=b:=⟨_,rfl⟩
 obtain ⟨b2,h2⟩:∃ b,inB x.sts.frm 0 1439=b:=⟨_,rfl⟩
 rw [h1] at H1;rw [h2] at H2;rw [h1,h2]
 have az:=hd_ ax
 clear hc h1 h2 ax
 go_enter func97,ntmps97
 go_upto_region 1 with fail
 change Code.wp _ _ _ _ (w.alloc (bI x s))
 generalize w.alloc (bI x s)=w0 at *
 cases b1 <;> cases b2 <;> (
  go_wp2_with (first
   | (go_at_call 34;refine (H1.out w0).mono ?_;(rintro e w' ⟨rfl,rfl⟩;clear H1))
   | (go_at_call 34;refine (H2.out w0).mono ?_;(rintro e w' ⟨rfl,rfl⟩;clear H2)))
  go_ret
  exact ⟨rfl,az.out⟩)
theorem x3v (x y:Inp) (s sy:Slc) (g:Nat) (w:J) (hg:CB w g 41 (y.cells sy)) :
 X prog 100 #[T (U ⟨g,0,S⟩),x.v s] w fun e w'=>z7i w g y sy e w':=by
 have HG:=hd_ hg
 clear hg
 go_enter func100,ntmps100
 go_wp2_with fail
 refine bodyPost_end (results_none rfl _ _ _) rfl ?_
 exact ⟨⟨_,rfl⟩,HG.out.alloc _,World.grownBy_alloc w _ _⟩
def j8y:List Value:=[Value.nilFunc,Value.nilFunc,Value.func (Fn.func 80) #[] #[],Value.func (Fn.func 81) #[] #[],Value.func (Fn.func 82) #[] #[],Value.func (Fn.func 83) #[] #[],Value.func (Fn.func 84) #[] #[],Value.func (Fn.func 85) #[] #[],Value.func (Fn.func 87) #[] #[],Value.func (Fn.func 88) #[] #[],Value.func (Fn.func 89) #[] #[],Value.func (Fn.func 90) #[] #[],Value.func (Fn.func 91) #[] #[],Value.func (Fn.func 92) #[] #[],Value.func (Fn.func 94) #[] #[],Value.func (Fn.func 95) #[] #[],Value.func (Fn.func 96) #[] #[],Value.func (Fn.func 97) #[] #[],Value.func (Fn.func 98) #[] #[],Value.func (Fn.func 99) #[] #[],Value.func (Fn.func 100) #[] #[],Value.func (Fn.func 101) #[] #[]]
theorem y6z (w:J):X prog 33 #[] w fun e w'=>e=M (O (U ⟨w.heap.size,0,S⟩) 11 11)∧CB w' w.heap.size 76 j8y∧R w.heap.size w w':=by
 go_enter func33,ntmps33
 go_wp2_with fail
 go_ret
 exact ⟨rfl,CB.new w _ j8y,z4b _⟩
def j5s:Flt:=⟨0,0,0,ByteArray.empty,[],0,0,Q⟩
def rpZ:Rp:=⟨0,0,0,0,ByteArray.empty,0⟩
def z9e (x:Inp):Inp:={ x with text:=ByteArray.empty,flt:=j5s,tree:=[],chg:=⟨0,0,[]⟩,rep:=rpZ,sts:=⟨0,0,Q⟩,n:=0,stn:=⟨[],0,0⟩ }
def z1h:Slc:=⟨O S 0 0,O S 0 0,O S 0 0,O S 0 0⟩
def z3j (x:Inp):Inp :=
 if x.kind=1 then { z9e x with text:=x.text } else if x.kind=2 then { z9e x with stn:=x.stn } else if x.kind=3 then { z9e x with flt:=x.flt }
 else if x.kind=4 then { z9e x with tree:=x.tree } else if x.kind=5 then { z9e x with n:=x.n } else if x.kind=6 then { z9e x with chg:=x.chg }
 else if x.kind=7 then { z9e x with rep:=x.rep } else if x.kind=8 then { z9e x with sts:=x.sts } else if x.kind=9 then { z9e x with n:=x.n } else z9e x
def z3s (x:Inp):Bool :=
 if x.kind=1 then Z (x.text.size≤65536) else if x.kind=2 then x0n 64 x.stn.vols x.stn.sh x.stn.fa else if x.kind=3 then y9y x.flt
 else if x.kind=4 then z9o x.tree else if x.kind=5 then inB x.n 0 31 else if x.kind=6 then x8o x.chg
 else if x.kind=7 then j5b 4 3 x.rep else if x.kind=8 then inB x.sts.st 0 3&&inB x.sts.frm 0 1439 else if x.kind=9 then inB x.n 0 1048576 else G
def y1h (x:Inp):Bool:=inB x.mi 0 1439&&inB x.ce 0 3&&inB x.no 1 1048576
def okI (x:Inp):Bool:=y1h x&&inB x.kind 1 10&&Z (z3j x=x)&&z3s x
def stC (x:Inp):List Value:=[I Y x.mi,I Y x.ce,I Y x.no]
theorem x2j (x:Inp):∀ u∈stC x,u.oneCell'=G:=by
 intro u hu
 simp only [stC,mC,nM,or_false] at hu
 rcases hu with rfl|rfl|rfl <;> rfl
theorem j0g {w:J} {g:Nat} {x:Inp} {s:Slc} (h:CB w g 41 (x.cells s)):w.rangeAt g 0 (stC x):=fun j v hv=>by
 rw [h.cell]
 exact z5d (B:=stC x) 0 (by rfl) j v hv
theorem j1g {w:J} {g:Nat} {x:Inp} {s:Slc} (h:CB w g 41 (x.cells s)):w.rangeAt g 30 [I Y x.sr,I Y x.ss]:=fun j v hv=>by
 rw [h.cell]
 exact z5d (B:=[I Y x.sr,I Y x.ss]) 30 (by rfl) j v hv
theorem x3j {w:J} {x:Inp} {s:Slc} (h:InpR w x s):SlcS s:=by
 obtain ⟨a1,b1,c1,_⟩:=h.ways.shape
 obtain ⟨a2,b2,c2,_⟩:=h.tree.shape
 obtain ⟨a3,b3,c3,_⟩:=h.modes.shape
 obtain ⟨a4,b4,c4,_⟩:=h.vols.shape
 exact ⟨⟨_,_,_,c1⟩,⟨_,_,_,c2⟩,⟨_,_,_,c3⟩,⟨_,_,_,c4⟩⟩
def StT (x:Inp) (s:Slc) (w w0:J) (v3 v4:Value) (wx:J):Prop :=
 ∃ g3 gT:Nat,v3=T (U ⟨g3,0,S⟩)∧v4=O (U ⟨gT,0,S⟩) 11 11∧CB wx g3 23 (stC x)∧CB wx gT 76 j8y∧CB wx w.heap.size 41 (x.cells s)∧w.heap.size<g3∧w.heap.size<gT∧g3≠gT∧w0.heap.size≤g3∧w0.heap.size≤gT∧R w0.heap.size w0 wx
def k1m (x:Inp) (w:J) (e:Ending) (w':J):Prop:=e=M (I Y (if okI x then 0 else 490))∧R w.heap.size w w'
def ZIc:List Value:=(⟨0,0,0,0,ByteArray.empty,j5s,[],⟨0,0,[]⟩,rpZ,⟨0,0,Q⟩,0,⟨[],0,0⟩,0,0⟩:Inp).cells z1h
def ZI:Obj:=.cells ZIc.toArray 41
theorem z4m {x:Inp} {w w':J} (h:okI x=Q) (hb:R w.heap.size w w'):k1m x w (.returned (I Y 490)) w':=⟨by rw [h];rfl,hb⟩
theorem j2g {x:Inp} {w w':J} (h:okI x=G) (hb:R w.heap.size w w'):k1m x w (.returned (I Y 0)) w':=⟨by rw [h];rfl,hb⟩
theorem y8m (x:Inp):prog.built 41 [(0,E (stC x).toArray),(1,I Y x.kind),(10,E #[I Y x.sr,I Y x.ss])]=U ((z9e x).cells z1h).toArray:=by
 kernel_rfl
def k7z (x:Inp) (w:J) (e:Ending) (w':J):Prop:=∃ s',e=M ((z3j x).v s')∧InpR w' (z3j x) s'∧R w.heap.size w w'
def z9y (x:Inp) (s:Slc):Slc:=if x.kind=2 then { z1h with vols:=s.vols } else if x.kind=3 then { z1h with ways:=s.ways } else if x.kind=4 then { z1h with tree:=s.tree } else if x.kind=6 then { z1h with modes:=s.modes } else z1h
theorem k3q {x:Inp} {s:Slc} (h:SlcS s):SlcS (z9y x s):=by
 have n:∃ o k c,(O S 0 0:Value)=O o k c:=⟨_,_,_,rfl⟩
 unfold z9y
 split
 ·exact ⟨n,n,n,h.vols⟩
 split
 ·exact ⟨h.ways,n,n,n⟩
 split
 ·exact ⟨n,h.tree,n,n⟩
 split
 ·exact ⟨n,n,h.modes,n⟩
 ·exact ⟨n,n,n,n⟩
theorem k4q {x:Inp} (h:x.kind=1) (s:Slc):z3j x = { z9e x with text:=x.text }∧z9y x s=z1h:=⟨by unfold z3j;simp [h],by unfold z9y;simp [h]⟩
theorem k5q {x:Inp} (h:x.kind=2) (s:Slc):z3j x = { z9e x with stn:=x.stn }∧z9y x s = { z1h with vols:=s.vols }:=⟨by unfold z3j;simp [h],by unfold z9y;simp [h]⟩
theorem k6q {x:Inp} (h:x.kind=3) (s:Slc):z3j x = { z9e x with flt:=x.flt }∧z9y x s = { z1h with ways:=s.ways }:=⟨by unfold z3j;simp [h],by unfold z9y;simp [h]⟩
theorem k7q {x:Inp} (h:x.kind=4) (s:Slc):z3j x = { z9e x with tree:=x.tree }∧z9y x s = { z1h with tree:=s.tree }:=⟨by unfold z3j;simp [h],by unfold z9y;simp [h]⟩
theorem k8q {x:Inp} (h:x.kind=5) (s:Slc):z3j x = { z9e x with n:=x.n }∧z9y x s=z1h:=⟨by unfold z3j;simp [h],by unfold z9y;simp [h]⟩
theorem k9q {x:Inp} (h:x.kind=6) (s:Slc):z3j x = { z9e x with chg:=x.chg }∧z9y x s = { z1h with modes:=s.modes }:=⟨by unfold z3j;simp [h],by unfold z9y;simp [h]⟩
theorem k0r {x:Inp} (h:x.kind=7) (s:Slc):z3j x = { z9e x with rep:=x.rep }∧z9y x s=z1h:=⟨by unfold z3j;simp [h],by unfold z9y;simp [h]⟩
theorem k1r {x:Inp} (h:x.kind=8) (s:Slc):z3j x = { z9e x with sts:=x.sts }∧z9y x s=z1h:=⟨by unfold z3j;simp [h],by unfold z9y;simp [h]⟩
theorem k2r {x:Inp} (h:x.kind=9) (s:Slc):z3j x = { z9e x with n:=x.n }∧z9y x s=z1h:=⟨by unfold z3j;simp [h],by unfold z9y;simp [h]⟩
theorem k3r {x:Inp} (h:∀ j:Int,1≤j→j≤9→x.kind≠j) (s:Slc):z3j x=z9e x∧z9y x s=z1h:=⟨by unfold z3j;simp [h 1 (by omega) (by omega),h 2 (by omega) (by omega),h 3 (by omega) (by omega),h 4 (by omega) (by omega),h 5 (by omega) (by omega),h 6 (by omega) (by omega),h 7 (by omega) (by omega),h 8 (by omega) (by omega),h 9 (by omega) (by omega)],by unfold z9y;simp [h 2 (by omega) (by omega),h 3 (by omega) (by omega),h 4 (by omega) (by omega),h 6 (by omega) (by omega)]⟩
theorem v7f {x:Inp} {s:Slc} {w:J} (r:InpR w x s):InpR w (z3j x) (z9y x s):=by
 by_cases k1:x.kind=1
 ·obtain ⟨a,b⟩:=k4q k1 s;rw [a,b];exact ⟨z4g.nil _ _ _ _,z9j.nil _ _ _,z4g.nil _ _ _ _,z4g.nil _ _ _ _⟩
 by_cases k2:x.kind=2
 ·obtain ⟨a,b⟩:=k5q k2 s;rw [a,b];exact ⟨z4g.nil _ _ _ _,z9j.nil _ _ _,z4g.nil _ _ _ _,r.vols⟩
 by_cases k3:x.kind=3
 ·obtain ⟨a,b⟩:=k6q k3 s;rw [a,b];exact ⟨r.ways,z9j.nil _ _ _,z4g.nil _ _ _ _,z4g.nil _ _ _ _⟩
 by_cases k4:x.kind=4
 ·obtain ⟨a,b⟩:=k7q k4 s;rw [a,b];exact ⟨z4g.nil _ _ _ _,r.tree,z4g.nil _ _ _ _,z4g.nil _ _ _ _⟩
 by_cases k5:x.kind=5
 ·obtain ⟨a,b⟩:=k8q k5 s;rw [a,b];exact ⟨z4g.nil _ _ _ _,z9j.nil _ _ _,z4g.nil _ _ _ _,z4g.nil _ _ _ _⟩
 by_cases k6:x.kind=6
 ·obtain ⟨a,b⟩:=k9q k6 s;rw [a,b];exact ⟨z4g.nil _ _ _ _,z9j.nil _ _ _,r.modes,z4g.nil _ _ _ _⟩
 by_cases k7:x.kind=7
 ·obtain ⟨a,b⟩:=k0r k7 s;rw [a,b];exact ⟨z4g.nil _ _ _ _,z9j.nil _ _ _,z4g.nil _ _ _ _,z4g.nil _ _ _ _⟩
 by_cases k8:x.kind=8
 ·obtain ⟨a,b⟩:=k1r k8 s;rw [a,b];exact ⟨z4g.nil _ _ _ _,z9j.nil _ _ _,z4g.nil _ _ _ _,z4g.nil _ _ _ _⟩
 by_cases k9:x.kind=9
 ·obtain ⟨a,b⟩:=k2r k9 s;rw [a,b];exact ⟨z4g.nil _ _ _ _,z9j.nil _ _ _,z4g.nil _ _ _ _,z4g.nil _ _ _ _⟩
 obtain ⟨a,b⟩:=k3r (x:=x) (fun j h1 h2 h=>by omega) s;rw [a,b];exact ⟨z4g.nil _ _ _ _,z9j.nil _ _ _,z4g.nil _ _ _ _,z4g.nil _ _ _ _⟩
theorem j6s (x:Inp) (s:Slc) (w:J) (hx:InpR w x s):X prog 45 #[x.v s] w (k7z x w):=by
 have gY:F (∀ u∈(z9e x).cells z1h,u.oneCell'=G):=by
  have h:=z9v (z9e x) z1h S S S S 0 0 0 0 0 0 0 0 rfl rfl rfl rfl
  exact fun u hu=>Array.all_eq_true_iff_forall_mem.1 h u (by simpa using hu)
 have lO:=hd_ (x3j hx)
 have ax:R w.heap.size w ((w.alloc (bI x s)).alloc ZI):=(z4b (w:=w) (bI x s)).alloc (z4b (w:=w) (bI x s)).size _
 have hcx:CB ((w.alloc (bI x s)).alloc ZI) w.heap.size 41 (x.cells s):=(z3a w (bI x s) _ _ rfl).alloc _
 have bY:CB ((w.alloc (bI x s)).alloc ZI) (w.heap.size+1) 41 ZIc:=by
  have:=z3a (w.alloc (bI x s)) ZI 41 ZIc rfl
  rwa [sA] at this
 have HI:=hd_ hcx;have aY:=hd_ hx;have H2:=hd_ bY;have HB:=hd_ ax
 have c3:=hcx.cv 3 (I Y x.kind)
 clear hcx bY hx ax
 change X prog 45 #[E (x.cells s).toArray] w _
 go_enter func45,ntmps45
 go_upto_region 1 with fail
 change Code.wp _ _ _ _ ((w.alloc (bI x s)).alloc ZI)
 have HZ:F (((w.alloc (bI x s)).alloc ZI).heap.size=w.heap.size+2):=by show _=_;rw [sA,sA]
 generalize (w.alloc (bI x s)).alloc ZI=w1 at *
 have gx:F (w1.rangeAt w.heap.size 0 (stC x)):=j0g HI.out
 have mM:F (w1.rangeAt w.heap.size 30 [I Y x.sr,I Y x.ss]):=j1g HI.out
 have mN:F (prog.built 41 [(0,E (stC x).toArray),(1,I Y x.kind),(10,E #[I Y x.sr,I Y x.ss])]=U ((z9e x).cells z1h).toArray):=hd_ (y8m x)
 have H5c:=hd_ (z3a w1 ZI 41 ZIc rfl)
 go_cut [3] (fun v3 wx=>∃ g3:Nat,v3=T (U ⟨g3,0,S⟩)∧CB wx g3 41 ((z9e x).cells z1h)∧CB wx w.heap.size 41 (x.cells s)∧CB wx (w.heap.size+1) 41 ZIc∧R w.heap.size w wx∧w.heap.size+1<g3)
 case first =>
  go_wp2_with (first
   | (have _g:=gx.out;refine lmg 23 (.tmp 4) rfl w.heap.size 0 rfl (stC x) gx.out underlying23 ?_;clear gx)
   | (have _g:=mM.out;refine lmg 39 (.tmp 8) rfl w.heap.size 30 rfl [I Y x.sr,I Y x.ss] mM.out underlying39 ?_;clear mM)
   | (have _g:=mN.out;refine z9b (by rfl) 41 #[(0,.tmp 5),(1,.tmp 7),(10,.tmp 9)] rfl ((z9e x).cells z1h) [(0,E (stC x).toArray),(1,I Y x.kind),(10,E #[I Y x.sr,I Y x.ss])] rfl mN.out ?_;clear mN)
   | (have _g:=gY.out;refine scs 41 (.tmp 3) (.tmp 10) rfl w1.heap.size ((z9e x).cells z1h) rfl rfl H5c.out gY.out (fun w2 aP dW fg=>?_);clear gY))
  have bH:F (CB w2 w.heap.size 41 (x.cells s)):=(HI.out.alloc ZI).keep (dW.out.block _ (by rw [sA];have:=HZ.out;omega) (fun e=>by injection e with e;have:=HZ.out;omega))
  have eH:F (CB w2 (w.heap.size+1) 41 ZIc):=(H2.out.alloc ZI).keep (dW.out.block _ (by rw [sA];have:=HZ.out;omega) (fun e=>by injection e with e;have:=HZ.out;omega))
  have aA:F (R w.heap.size w w2):=(z0a HB.out (z4b (w:=w1) ZI)).grown dW.out (z0a HB.out (z4b (w:=w1) ZI)).size (fun k hk=>by injection hk with hk;have:=HZ.out;omega)
  go_meet
  case rel=>exact ⟨_,rfl,aP.out,bH.out,eH.out,aA.out,by show _<_;rw [HZ.out];omega⟩
 case rest =>
 obtain ⟨g3,rfl,bY,hi3,h23,aB,bj⟩:=hcut
 have aP:=hd_ bY;have bH:=hd_ hi3;have eH:=hd_ h23;have aA:=hd_ aB;have fC:=hd_ bj
 clear bY hi3 h23 aB bj gx mM mN H5c gY HI H2 HB c3 HZ
 generalize wc=w2 at *
 have c3:=bH.out.cv 3 (I Y x.kind)
 go_step
 go_step
 go_cut [] (fun wx=>CB wx g3 41 ((z3j x).cells (z9y x s))∧CB wx (w.heap.size+1) 41 ZIc∧R w.heap.size w wx)
 case first =>
  by_cases k1:x.kind=1
  ·obtain ⟨he,hs⟩:=k4q k1 s
   have HE:=hd_ (And.intro he hs);clear he hs
   have u1:Z (x.kind=1)=G:=decide_eq_true k1;have v1:(x.kind == 1)=G:=beq_iff_eq.2 k1
   clear k1
   have c0:=bH.out.cv 4 (D x.text)
   have d0:=aP.out.cv 4 _
   have zf:=aP.out.frozen 4
   go_wp2_with fail
   go_meet
   case rel=>exact ⟨by rw [HE.out.1,HE.out.2];exact aP.out.set 4 _,eH.out.far (by show w.heap.size+1≠g3;have:=fC.out;omega) _,aA.out.grown (z6b w2 g3 4 _) aA.out.size (fun k hk=>by injection hk with hk;have:=fC.out;omega)⟩
  have u1:Z (x.kind=1)=Q:=decide_eq_false k1;have v1:(x.kind == 1)=Q:=beq_false_of_ne k1
  by_cases k2:x.kind=2
  ·obtain ⟨he,hs⟩:=k5q k2 s
   have HE:=hd_ (And.intro he hs);clear he hs
   have u2:Z (x.kind=2)=G:=decide_eq_true k2;have v2:(x.kind == 2)=G:=beq_iff_eq.2 k2
   clear k1 k2
   have bC:F (∀ u∈x.stn.cells s.vols,u.oneCell'=G):=by
    obtain ⟨⟨oa,na,ca,ea⟩,-,⟨oc,nc,cc,ec⟩,⟨od,nd,cd,ed⟩⟩:=lO.out
    intro u hu
    simp only [Stn.cells,mC,nM,or_false] at hu
    rw [ed] at hu
    rcases hu with rfl|rfl|rfl <;> rfl
   have HR:F (w2.rangeAt w.heap.size 27 (x.stn.cells s.vols)):=fun j v hv=>by
    rw [bH.out.cell];exact z5d (B:=x.stn.cells s.vols) 27 (by rfl) j v hv
   go_wp2_with (first
    | (have _g:=HR.out;refine lmg 37 (.tmp 20) rfl w.heap.size 27 rfl (x.stn.cells s.vols) HR.out underlying37 ?_;clear HR)
    | (have _g:=bC.out;refine z0b rfl 37 (.tmp 22) (.tmp 21) rfl g3 27 (x.stn.cells s.vols) rfl rfl _ _ aP.out (show 27+3≤32 by decide) (by kernel_rfl) bC.out (fun w5 dF gy=>?_);clear bC))
   go_meet
   case rel=>exact ⟨by rw [HE.out.1,HE.out.2];exact dF.out,eH.out.keep (gy.out.block _ eH.out.lt (fun e=>by injection e with e;have:=fC.out;omega)),aA.out.grown gy.out aA.out.size (fun k hk=>by injection hk with hk;have:=fC.out;omega)⟩
  have u2:Z (x.kind=2)=Q:=decide_eq_false k2;have v2:(x.kind == 2)=Q:=beq_false_of_ne k2
  by_cases k3:x.kind=3
  ·obtain ⟨he,hs⟩:=k6q k3 s
   have HE:=hd_ (And.intro he hs);clear he hs
   have u3:Z (x.kind=3)=G:=decide_eq_true k3;have v3:(x.kind == 3)=G:=beq_iff_eq.2 k3
   clear k1 k2 k3
   have bC:F (∀ u∈x.flt.cells s.ways,u.oneCell'=G):=by
    obtain ⟨⟨oa,na,ca,ea⟩,-,⟨oc,nc,cc,ec⟩,⟨od,nd,cd,ed⟩⟩:=lO.out
    intro u hu
    simp only [Flt.cells,mC,nM,or_false] at hu
    rw [ea] at hu
    rcases hu with rfl|rfl|rfl|rfl|rfl|rfl|rfl|rfl <;> rfl
   have HR:F (w2.rangeAt w.heap.size 5 (x.flt.cells s.ways)):=fun j v hv=>by
    rw [bH.out.cell];exact z5d (B:=x.flt.cells s.ways) 5 (by rfl) j v hv
   go_wp2_with (first
    | (have _g:=HR.out;refine lmg 28 (.tmp 25) rfl w.heap.size 5 rfl (x.flt.cells s.ways) HR.out underlying28 ?_;clear HR)
    | (have _g:=bC.out;refine z0b rfl 28 (.tmp 27) (.tmp 26) rfl g3 5 (x.flt.cells s.ways) rfl rfl _ _ aP.out (show 5+8≤32 by decide) (by kernel_rfl) bC.out (fun w5 dF gy=>?_);clear bC))
   go_meet
   case rel=>exact ⟨by rw [HE.out.1,HE.out.2];exact dF.out,eH.out.keep (gy.out.block _ eH.out.lt (fun e=>by injection e with e;have:=fC.out;omega)),aA.out.grown gy.out aA.out.size (fun k hk=>by injection hk with hk;have:=fC.out;omega)⟩
  have u3:Z (x.kind=3)=Q:=decide_eq_false k3;have v3:(x.kind == 3)=Q:=beq_false_of_ne k3
  by_cases k4:x.kind=4
  ·obtain ⟨he,hs⟩:=k7q k4 s
   have HE:=hd_ (And.intro he hs);clear he hs
   have u4:Z (x.kind=4)=G:=decide_eq_true k4;have v4:(x.kind == 4)=G:=beq_iff_eq.2 k4
   clear k1 k2 k3 k4
   obtain ⟨ob,nb,cb,eb⟩:=lO.out.tree
   have c0:=bH.out.cv 13 s.tree
   have d0:=aP.out.cv 13 _
   have zf:=aP.out.frozen 13
   rw [eb] at c0
   go_wp2_with fail
   go_meet
   case rel=>exact ⟨by rw [HE.out.1,HE.out.2];rw [← eb];exact aP.out.set 13 _,eH.out.far (by show w.heap.size+1≠g3;have:=fC.out;omega) _,aA.out.grown (z6b w2 g3 13 _) aA.out.size (fun k hk=>by injection hk with hk;have:=fC.out;omega)⟩
  have u4:Z (x.kind=4)=Q:=decide_eq_false k4;have v4:(x.kind == 4)=Q:=beq_false_of_ne k4
  by_cases k5:x.kind=5
  ·obtain ⟨he,hs⟩:=k8q k5 s
   have HE:=hd_ (And.intro he hs);clear he hs
   have u5:Z (x.kind=5)=G:=decide_eq_true k5;have v5:(x.kind == 5)=G:=beq_iff_eq.2 k5
   clear k1 k2 k3 k4 k5
   have c0:=bH.out.cv 26 (I Y x.n)
   have d0:=aP.out.cv 26 _
   have zf:=aP.out.frozen 26
   go_wp2_with fail
   go_meet
   case rel=>exact ⟨by rw [HE.out.1,HE.out.2];exact aP.out.set 26 _,eH.out.far (by show w.heap.size+1≠g3;have:=fC.out;omega) _,aA.out.grown (z6b w2 g3 26 _) aA.out.size (fun k hk=>by injection hk with hk;have:=fC.out;omega)⟩
  have u5:Z (x.kind=5)=Q:=decide_eq_false k5;have v5:(x.kind == 5)=Q:=beq_false_of_ne k5
  by_cases k6:x.kind=6
  ·obtain ⟨he,hs⟩:=k9q k6 s
   have HE:=hd_ (And.intro he hs);clear he hs
   have u6:Z (x.kind=6)=G:=decide_eq_true k6;have v6:(x.kind == 6)=G:=beq_iff_eq.2 k6
   clear k1 k2 k3 k4 k5 k6
   have bC:F (∀ u∈x.chg.cells s.modes,u.oneCell'=G):=by
    obtain ⟨⟨oa,na,ca,ea⟩,-,⟨oc,nc,cc,ec⟩,⟨od,nd,cd,ed⟩⟩:=lO.out
    intro u hu
    simp only [Chg.cells,mC,nM,or_false] at hu
    rw [ec] at hu
    rcases hu with rfl|rfl|rfl <;> rfl
   have HR:F (w2.rangeAt w.heap.size 14 (x.chg.cells s.modes)):=fun j v hv=>by
    rw [bH.out.cell];exact z5d (B:=x.chg.cells s.modes) 14 (by rfl) j v hv
   go_wp2_with (first
    | (have _g:=HR.out;refine lmg 31 (.tmp 41) rfl w.heap.size 14 rfl (x.chg.cells s.modes) HR.out underlying31 ?_;clear HR)
    | (have _g:=bC.out;refine z0b rfl 31 (.tmp 43) (.tmp 42) rfl g3 14 (x.chg.cells s.modes) rfl rfl _ _ aP.out (show 14+3≤32 by decide) (by kernel_rfl) bC.out (fun w5 dF gy=>?_);clear bC))
   go_meet
   case rel=>exact ⟨by rw [HE.out.1,HE.out.2];exact dF.out,eH.out.keep (gy.out.block _ eH.out.lt (fun e=>by injection e with e;have:=fC.out;omega)),aA.out.grown gy.out aA.out.size (fun k hk=>by injection hk with hk;have:=fC.out;omega)⟩
  have u6:Z (x.kind=6)=Q:=decide_eq_false k6;have v6:(x.kind == 6)=Q:=beq_false_of_ne k6
  by_cases k7:x.kind=7
  ·obtain ⟨he,hs⟩:=k0r k7 s
   have HE:=hd_ (And.intro he hs);clear he hs
   have u7:Z (x.kind=7)=G:=decide_eq_true k7;have v7:(x.kind == 7)=G:=beq_iff_eq.2 k7
   clear k1 k2 k3 k4 k5 k6 k7
   have bC:F (∀ u∈x.rep.cells,u.oneCell'=G):=by
    obtain ⟨⟨oa,na,ca,ea⟩,-,⟨oc,nc,cc,ec⟩,⟨od,nd,cd,ed⟩⟩:=lO.out
    intro u hu
    simp only [Rp.cells,mC,nM,or_false] at hu
    rcases hu with rfl|rfl|rfl|rfl|rfl|rfl <;> rfl
   have HR:F (w2.rangeAt w.heap.size 17 (x.rep.cells)):=fun j v hv=>by
    rw [bH.out.cell];exact z5d (B:=x.rep.cells) 17 (by rfl) j v hv
   go_wp2_with (first
    | (have _g:=HR.out;refine lmg 33 (.tmp 46) rfl w.heap.size 17 rfl (x.rep.cells) HR.out underlying33 ?_;clear HR)
    | (have _g:=bC.out;refine z0b rfl 33 (.tmp 48) (.tmp 47) rfl g3 17 (x.rep.cells) rfl rfl _ _ aP.out (show 17+6≤32 by decide) (by kernel_rfl) bC.out (fun w5 dF gy=>?_);clear bC))
   go_meet
   case rel=>exact ⟨by rw [HE.out.1,HE.out.2];exact dF.out,eH.out.keep (gy.out.block _ eH.out.lt (fun e=>by injection e with e;have:=fC.out;omega)),aA.out.grown gy.out aA.out.size (fun k hk=>by injection hk with hk;have:=fC.out;omega)⟩
  have u7:Z (x.kind=7)=Q:=decide_eq_false k7;have v7:(x.kind == 7)=Q:=beq_false_of_ne k7
  by_cases k8:x.kind=8
  ·obtain ⟨he,hs⟩:=k1r k8 s
   have HE:=hd_ (And.intro he hs);clear he hs
   have u8:Z (x.kind=8)=G:=decide_eq_true k8;have v8:(x.kind == 8)=G:=beq_iff_eq.2 k8
   clear k1 k2 k3 k4 k5 k6 k7 k8
   have bC:F (∀ u∈x.sts.cells,u.oneCell'=G):=by
    obtain ⟨⟨oa,na,ca,ea⟩,-,⟨oc,nc,cc,ec⟩,⟨od,nd,cd,ed⟩⟩:=lO.out
    intro u hu
    simp only [Sts.cells,mC,nM,or_false] at hu
    rcases hu with rfl|rfl|rfl <;> rfl
   have HR:F (w2.rangeAt w.heap.size 23 (x.sts.cells)):=fun j v hv=>by
    rw [bH.out.cell];exact z5d (B:=x.sts.cells) 23 (by rfl) j v hv
   go_wp2_with (first
    | (have _g:=HR.out;refine lmg 35 (.tmp 51) rfl w.heap.size 23 rfl (x.sts.cells) HR.out underlying35 ?_;clear HR)
    | (have _g:=bC.out;refine z0b rfl 35 (.tmp 53) (.tmp 52) rfl g3 23 (x.sts.cells) rfl rfl _ _ aP.out (show 23+3≤32 by decide) (by kernel_rfl) bC.out (fun w5 dF gy=>?_);clear bC))
   go_meet
   case rel=>exact ⟨by rw [HE.out.1,HE.out.2];exact dF.out,eH.out.keep (gy.out.block _ eH.out.lt (fun e=>by injection e with e;have:=fC.out;omega)),aA.out.grown gy.out aA.out.size (fun k hk=>by injection hk with hk;have:=fC.out;omega)⟩
  have u8:Z (x.kind=8)=Q:=decide_eq_false k8;have v8:(x.kind == 8)=Q:=beq_false_of_ne k8
  by_cases k9:x.kind=9
  ·obtain ⟨he,hs⟩:=k2r k9 s
   have HE:=hd_ (And.intro he hs);clear he hs
   have u9:Z (x.kind=9)=G:=decide_eq_true k9;have v9:(x.kind == 9)=G:=beq_iff_eq.2 k9
   clear k1 k2 k3 k4 k5 k6 k7 k8 k9
   have c0:=bH.out.cv 26 (I Y x.n)
   have d0:=aP.out.cv 26 _
   have zf:=aP.out.frozen 26
   go_wp2_with fail
   go_meet
   case rel=>exact ⟨by rw [HE.out.1,HE.out.2];exact aP.out.set 26 _,eH.out.far (by show w.heap.size+1≠g3;have:=fC.out;omega) _,aA.out.grown (z6b w2 g3 26 _) aA.out.size (fun k hk=>by injection hk with hk;have:=fC.out;omega)⟩
  have u9:Z (x.kind=9)=Q:=decide_eq_false k9;have v9:(x.kind == 9)=Q:=beq_false_of_ne k9
  obtain ⟨he,hs⟩:=k3r (x:=x) (fun j h1 h2 h=>by omega) s
  have HE:=hd_ (And.intro he hs);clear he hs
  clear k1 k2 k3 k4 k5 k6 k7 k8 k9
  go_wp2_with fail
  go_meet
  case rel=>exact ⟨by rw [HE.out.1,HE.out.2];exact aP.out,eH.out,aA.out⟩
 case rest =>
 obtain ⟨h5,h2,hb⟩:=hcut
 have dF:=hd_ h5;have H25:=hd_ h2;have bZ:=hd_ hb
 clear h5 h2 hb aP bH aA eH c3
 generalize wc=w5 at *
 have HSO5:F (∀ u∈(z3j x).cells (z9y x s),u.oneCell'=G):=by
  obtain ⟨⟨oa,na,ca,ea⟩,⟨ob,nb,cb,eb⟩,⟨oc,nc,cc,ec⟩,⟨od,nd,cd,ed⟩⟩:=k3q (x:=x) lO.out
  exact fun u hu=>Array.all_eq_true_iff_forall_mem.1 (z9v (z3j x) (z9y x s) _ _ _ _ _ _ _ _ _ _ _ _ ea eb ec ed) u (by simpa using hu)
 go_wp2_with (first
  | (have _g:=dF.out;refine lcs 41 (.tmp 3) rfl g3 _ rfl dF.out underlying41 ?_;clear dF)
  | (have _g:=HSO5.out;refine scs 41 (.tmp 2) (.tmp 54) rfl (w.heap.size+1) _ rfl rfl H25.out HSO5.out (fun w6 cD dw iz=>?_);clear HSO5))
 refine bodyPost_ret (v:=E ((z3j x).cells (z9y x s)).toArray) (results_cell_row rfl _ _ (w.heap.size+1) 41 _ (0,0) _ rfl cD.out underlying41 rfl (by kernel_rfl)) rfl ?_
 have hbe:R w.heap.size w w6:=bZ.out.grown dw.out bZ.out.size (fun k hk=>by injection hk with hk;omega)
 exact ⟨z9y x s,rfl,v7f (aY.out.ext hbe),hbe⟩
def FdP (x:Inp) (w:J) (e:Ending) (w':J):Prop:=e=M (C (inB x.kind 1 10&&z3s x))∧R w.heap.size w w'
theorem x4j (x:Inp) (s:Slc) (w:J) (_hx:InpR w x s) (hk:∀ j:Int,1≤j→j≤10→x.kind≠j):X prog 46 #[x.v s] w (FdP x w):=by
 have HV:F ((inB x.kind 1 10&&z3s x)=Q):=hd_ (by
  have:inB x.kind 1 10=Q:=by
   rcases (by have:=hk 1 (by omega) (by omega);have:=hk 2 (by omega) (by omega);have:=hk 3 (by omega) (by omega);have:=hk 4 (by omega) (by omega);have:=hk 5 (by omega) (by omega);have:=hk 6 (by omega) (by omega);have:=hk 7 (by omega) (by omega);have:=hk 8 (by omega) (by omega);have:=hk 9 (by omega) (by omega);have:=hk 10 (by omega) (by omega);omega:x.kind<1∨10<x.kind) with h|h
   ·exact z9t (.inl h)
   ·exact z9t (.inr h)
  rw [this];rfl)
 have hb:=z4b (w:=w) (bI x s)
 have hc:=z3a w (bI x s) 41 (x.cells s) rfl
 have c3:=hc.cv 3 (I Y x.kind)
 have u1:Z (x.kind=1)=Q:=decide_eq_false (hk 1 (by omega) (by omega))
 have v1:(x.kind == 1)=Q:=beq_false_of_ne (hk 1 (by omega) (by omega))
 have u2:Z (x.kind=2)=Q:=decide_eq_false (hk 2 (by omega) (by omega))
 have v2:(x.kind == 2)=Q:=beq_false_of_ne (hk 2 (by omega) (by omega))
 have u3:Z (x.kind=3)=Q:=decide_eq_false (hk 3 (by omega) (by omega))
 have v3:(x.kind == 3)=Q:=beq_false_of_ne (hk 3 (by omega) (by omega))
 have u4:Z (x.kind=4)=Q:=decide_eq_false (hk 4 (by omega) (by omega))
 have v4:(x.kind == 4)=Q:=beq_false_of_ne (hk 4 (by omega) (by omega))
 have u5:Z (x.kind=5)=Q:=decide_eq_false (hk 5 (by omega) (by omega))
 have v5:(x.kind == 5)=Q:=beq_false_of_ne (hk 5 (by omega) (by omega))
 have u6:Z (x.kind=6)=Q:=decide_eq_false (hk 6 (by omega) (by omega))
 have v6:(x.kind == 6)=Q:=beq_false_of_ne (hk 6 (by omega) (by omega))
 have u7:Z (x.kind=7)=Q:=decide_eq_false (hk 7 (by omega) (by omega))
 have v7:(x.kind == 7)=Q:=beq_false_of_ne (hk 7 (by omega) (by omega))
 have u8:Z (x.kind=8)=Q:=decide_eq_false (hk 8 (by omega) (by omega))
 have v8:(x.kind == 8)=Q:=beq_false_of_ne (hk 8 (by omega) (by omega))
 have u9:Z (x.kind=9)=Q:=decide_eq_false (hk 9 (by omega) (by omega))
 have v9:(x.kind == 9)=Q:=beq_false_of_ne (hk 9 (by omega) (by omega))
 have u10:Z (x.kind=10)=Q:=decide_eq_false (hk 10 (by omega) (by omega))
 have dV:(x.kind == 10)=Q:=beq_false_of_ne (hk 10 (by omega) (by omega))
 have az:=hd_ hb
 clear hc hb _hx hk
 change X prog 46 #[E (x.cells s).toArray] w _
 go_enter func46,ntmps46
 go_upto_region 1 with fail
 change Code.wp _ _ _ _ (w.alloc (bI x s))
 generalize w.alloc (bI x s)=w0 at *
 go_wp2_with fail
 go_ret
 exact ⟨by rw [HV.out];first|rfl|simp [u10],az.out⟩
theorem x5j (x:Inp) (s:Slc) (w:J) (_hx:InpR w x s) (hk:x.kind=1) (_hz:x.text.size≤9223372036854775807):X prog 46 #[x.v s] w (FdP x w):=by
 have HV:F ((inB x.kind 1 10&&z3s x)=(Z (x.text.size≤65536))):=hd_ (by rw [hk,show inB (1:Int) 1 10=G from rfl];unfold z3s;simp [hk])
 have hb:=z4b (w:=w) (bI x s)
 have hc:=z3a w (bI x s) 41 (x.cells s) rfl
 have c3:=hc.cv 3 (I Y x.kind)
 rw [hk] at c3
 have c0:=hc.cv 4 (D x.text)
 obtain ⟨b,hvb⟩:∃ b,(Z (x.text.size≤65536))=b:=⟨_,rfl⟩
 have u1:Z ((x.text.size:Int)≤65536)=b:=by rw [← hvb];by_cases h:x.text.size≤65536 <;> simp [h] <;> omega
 have l1:(x.text.size:Int)≤9223372036854775807:=by omega
 rw [hvb] at HV
 have az:=hd_ hb
 clear hc hvb hb _hx hk _hz
 change X prog 46 #[E (x.cells s).toArray] w _
 go_enter func46,ntmps46
 go_upto_region 1 with fail
 change Code.wp _ _ _ _ (w.alloc (bI x s))
 generalize w.alloc (bI x s)=w0 at *
 cases b <;> (
  go_wp2_with fail
  go_ret
  exact ⟨by rw [HV.out];first|rfl|simp [u1],az.out⟩)
theorem x6j (x:Inp) (s:Slc) (w:J) (hx:InpR w x s) (hk:x.kind=2) :X prog 46 #[x.v s] w (FdP x w):=by
 have HV:F ((inB x.kind 1 10&&z3s x)=(x0n 64 x.stn.vols x.stn.sh x.stn.fa)):=hd_ (by rw [hk,show inB (2:Int) 1 10=G from rfl];unfold z3s;simp [hk])
 have hb:=z4b (w:=w) (bI x s)
 have hc:=z3a w (bI x s) 41 (x.cells s) rfl
 have c3:=hc.cv 3 (I Y x.kind)
 rw [hk] at c3
 have HR:F ((w.alloc (bI x s)).rangeAt w.heap.size 27 (x.stn.cells s.vols)):=fun j v hv=>by
  rw [hc.cell]
  exact z5d (B:=x.stn.cells s.vols) 27 (by rfl) j v hv
 have HC:=hd_ (y3w 64 63 x.stn.sh x.stn.fa x.stn.vols s.vols (w.alloc (bI x s)) (by decide) (j9f (hx.vols.ext hb)))
 unfold j4x at HC
 obtain ⟨b,hvb⟩:∃ b,(x0n 64 x.stn.vols x.stn.sh x.stn.fa)=b:=⟨_,rfl⟩
 rw [hvb] at HC HV
 have az:=hd_ hb
 clear hc hvb hb hx hk
 change X prog 46 #[E (x.cells s).toArray] w _
 go_enter func46,ntmps46
 go_upto_region 1 with fail
 change Code.wp _ _ _ _ (w.alloc (bI x s))
 generalize w.alloc (bI x s)=w0 at *
 cases b <;> (
  go_wp2_with (first
   | (have _g:=HR.out;refine lmg 37 (.tmp 13) rfl w.heap.size 27 rfl (x.stn.cells s.vols) HR.out underlying37 ?_;clear HR)
   | (go_at_call 105;refine HC.out.mono ?_;(rintro e w2 ⟨rfl,hb⟩;have au:=hd_ (z0a az.out hb);clear hb HC)))
  go_ret
  exact ⟨by rw [HV.out];rfl,au.out⟩)
theorem x7j (x:Inp) (s:Slc) (w:J) (hx:InpR w x s) (hk:x.kind=3) (hz:x.flt.call.size≤9223372036854775807):X prog 46 #[x.v s] w (FdP x w):=by
 have HV:F ((inB x.kind 1 10&&z3s x)=(y9y x.flt)):=hd_ (by rw [hk,show inB (3:Int) 1 10=G from rfl];unfold z3s;simp [hk])
 have hb:=z4b (w:=w) (bI x s)
 have hc:=z3a w (bI x s) 41 (x.cells s) rfl
 have c3:=hc.cv 3 (I Y x.kind)
 rw [hk] at c3
 have HR:F ((w.alloc (bI x s)).rangeAt w.heap.size 5 (x.flt.cells s.ways)):=fun j v hv=>by
  rw [hc.cell]
  exact z5d (B:=x.flt.cells s.ways) 5 (by rfl) j v hv
 have HC:=hd_ (x2i x.flt s.ways (w.alloc (bI x s)) (hx.ways.ext hb) hz)
 skip
 obtain ⟨b,hvb⟩:∃ b,(y9y x.flt)=b:=⟨_,rfl⟩
 rw [hvb] at HC HV
 have az:=hd_ hb
 clear hc hvb hb hx hk
 change X prog 46 #[E (x.cells s).toArray] w _
 go_enter func46,ntmps46
 go_upto_region 1 with fail
 change Code.wp _ _ _ _ (w.alloc (bI x s))
 generalize w.alloc (bI x s)=w0 at *
 cases b <;> (
  go_wp2_with (first
   | (have _g:=HR.out;refine lmg 28 (.tmp 19) rfl w.heap.size 5 rfl (x.flt.cells s.ways) HR.out underlying28 ?_;clear HR)
   | (go_at_call 106;refine HC.out.mono ?_;(rintro e w2 ⟨rfl,hb⟩;have au:=hd_ (z0a az.out hb);clear hb HC)))
  go_ret
  exact ⟨by rw [HV.out];rfl,au.out⟩)
theorem x8j (x:Inp) (s:Slc) (w:J) (hx:InpR w x s) (hk:x.kind=4) :X prog 46 #[x.v s] w (FdP x w):=by
 have HV:F ((inB x.kind 1 10&&z3s x)=(z9o x.tree)):=hd_ (by rw [hk,show inB (4:Int) 1 10=G from rfl];unfold z3s;simp [hk])
 have hb:=z4b (w:=w) (bI x s)
 have hc:=z3a w (bI x s) 41 (x.cells s) rfl
 have c3:=hc.cv 3 (I Y x.kind)
 rw [hk] at c3
 have HX:=hd_ (hx.tree.ext hb)
 have c0:=hc.cv 13 s.tree
 have HC:=hd_ (x5i x.tree s.tree _ (hx.tree.ext hb))
 obtain ⟨b,hvb⟩:∃ b,(z9o x.tree)=b:=⟨_,rfl⟩
 rw [hvb] at HC HV
 obtain ⟨oa,cap,he,la⟩:=HX.out.shape
 rw [he] at c0 HC
 have az:=hd_ hb
 clear hc hvb hb hx hk he la HX
 change X prog 46 #[E (x.cells s).toArray] w _
 go_enter func46,ntmps46
 go_upto_region 1 with fail
 change Code.wp _ _ _ _ (w.alloc (bI x s))
 generalize w.alloc (bI x s)=w0 at *
 cases b <;> (
  go_wp2_with (go_at_call 107;refine HC.out.mono ?_;(rintro e w2 ⟨rfl,hb⟩;have au:=hd_ (z0a az.out hb);clear hb HC))
  go_ret
  exact ⟨by rw [HV.out];rfl,au.out⟩)
theorem x9j (x:Inp) (s:Slc) (w:J) (_hx:InpR w x s) (hk:x.kind=5) :X prog 46 #[x.v s] w (FdP x w):=by
 have HV:F ((inB x.kind 1 10&&z3s x)=(inB x.n 0 31)):=hd_ (by rw [hk,show inB (5:Int) 1 10=G from rfl];unfold z3s;simp [hk])
 have hb:=z4b (w:=w) (bI x s)
 have hc:=z3a w (bI x s) 41 (x.cells s) rfl
 have c3:=hc.cv 3 (I Y x.kind)
 rw [hk] at c3
 have c0:=hc.cv 26 (I Y x.n)
 have HC:=hd_ (z5e x.n 0 31 (w.alloc (bI x s)))
 obtain ⟨b,hvb⟩:∃ b,(inB x.n 0 31)=b:=⟨_,rfl⟩
 rw [hvb] at HC HV
 have az:=hd_ hb
 clear hc hvb hb _hx hk
 change X prog 46 #[E (x.cells s).toArray] w _
 go_enter func46,ntmps46
 go_upto_region 1 with fail
 change Code.wp _ _ _ _ (w.alloc (bI x s))
 generalize w.alloc (bI x s)=w0 at *
 cases b <;> (
  go_wp2_with (go_at_call 44;refine HC.out.mono ?_;(rintro e w2 ⟨rfl,rfl⟩;clear HC))
  go_ret
  exact ⟨by rw [HV.out];rfl,az.out⟩)
theorem x0k (x:Inp) (s:Slc) (w:J) (hx:InpR w x s) (hk:x.kind=6) :X prog 46 #[x.v s] w (FdP x w):=by
 have HV:F ((inB x.kind 1 10&&z3s x)=(x8o x.chg)):=hd_ (by rw [hk,show inB (6:Int) 1 10=G from rfl];unfold z3s;simp [hk])
 have hb:=z4b (w:=w) (bI x s)
 have hc:=z3a w (bI x s) 41 (x.cells s) rfl
 have c3:=hc.cv 3 (I Y x.kind)
 rw [hk] at c3
 have HR:F ((w.alloc (bI x s)).rangeAt w.heap.size 14 (x.chg.cells s.modes)):=fun j v hv=>by
  rw [hc.cell]
  exact z5d (B:=x.chg.cells s.modes) 14 (by rfl) j v hv
 have HC:=hd_ (x1i x.chg s.modes (w.alloc (bI x s)) (hx.modes.ext hb))
 skip
 obtain ⟨b,hvb⟩:∃ b,(x8o x.chg)=b:=⟨_,rfl⟩
 rw [hvb] at HC HV
 have az:=hd_ hb
 clear hc hvb hb hx hk
 change X prog 46 #[E (x.cells s).toArray] w _
 go_enter func46,ntmps46
 go_upto_region 1 with fail
 change Code.wp _ _ _ _ (w.alloc (bI x s))
 generalize w.alloc (bI x s)=w0 at *
 cases b <;> (
  go_wp2_with (first
   | (have _g:=HR.out;refine lmg 31 (.tmp 35) rfl w.heap.size 14 rfl (x.chg.cells s.modes) HR.out underlying31 ?_;clear HR)
   | (go_at_call 108;refine HC.out.mono ?_;(rintro e w2 ⟨rfl,hb⟩;have au:=hd_ (z0a az.out hb);clear hb HC)))
  go_ret
  exact ⟨by rw [HV.out];rfl,au.out⟩)
theorem x1k (x:Inp) (s:Slc) (w:J) (_hx:InpR w x s) (hk:x.kind=7) (hz:x.rep.cl.size≤9223372036854775807):X prog 46 #[x.v s] w (FdP x w):=by
 have HV:F ((inB x.kind 1 10&&z3s x)=(j5b 4 3 x.rep)):=hd_ (by rw [hk,show inB (7:Int) 1 10=G from rfl];unfold z3s;simp [hk])
 have hb:=z4b (w:=w) (bI x s)
 have hc:=z3a w (bI x s) 41 (x.cells s) rfl
 have c3:=hc.cv 3 (I Y x.kind)
 rw [hk] at c3
 have HR:F ((w.alloc (bI x s)).rangeAt w.heap.size 17 (x.rep.cells)):=fun j v hv=>by
  rw [hc.cell]
  exact z5d (B:=x.rep.cells) 17 (by rfl) j v hv
 have HC:=hd_ (y0w 4 3 x.rep (w.alloc (bI x s)) (by decide) hz)
 unfold j4x at HC
 obtain ⟨b,hvb⟩:∃ b,(j5b 4 3 x.rep)=b:=⟨_,rfl⟩
 rw [hvb] at HC HV
 have az:=hd_ hb
 clear hc hvb hb _hx hk
 change X prog 46 #[E (x.cells s).toArray] w _
 go_enter func46,ntmps46
 go_upto_region 1 with fail
 change Code.wp _ _ _ _ (w.alloc (bI x s))
 generalize w.alloc (bI x s)=w0 at *
 cases b <;> (
  go_wp2_with (first
   | (have _g:=HR.out;refine lmg 33 (.tmp 40) rfl w.heap.size 17 rfl (x.rep.cells) HR.out underlying33 ?_;clear HR)
   | (go_at_call 109;refine HC.out.mono ?_;(rintro e w2 ⟨rfl,hb⟩;have au:=hd_ (z0a az.out hb);clear hb HC)))
  go_ret
  exact ⟨by rw [HV.out];rfl,au.out⟩)
theorem x2k (x:Inp) (s:Slc) (w:J) (_hx:InpR w x s) (hk:x.kind=8) :X prog 46 #[x.v s] w (FdP x w):=by
 have HV:F ((inB x.kind 1 10&&z3s x)=(inB x.sts.st 0 3&&inB x.sts.frm 0 1439)):=hd_ (by rw [hk,show inB (8:Int) 1 10=G from rfl];unfold z3s;simp [hk])
 have hb:=z4b (w:=w) (bI x s)
 have hc:=z3a w (bI x s) 41 (x.cells s) rfl
 have c3:=hc.cv 3 (I Y x.kind)
 rw [hk] at c3
 have c0:=hc.cv 23 (I Y x.sts.st)
 have c1:=hc.cv 24 (I Y x.sts.frm)
 have H1:=hd_ (fun W=>z5e x.sts.st 0 3 W);have H2:=hd_ (fun W=>z5e x.sts.frm 0 1439 W)
 obtain ⟨b1,h1⟩:∃ b,inB x.sts.st 0 3=b:=⟨_,rfl⟩
 obtain ⟨b2,h2⟩:∃ b,inB x.sts.frm 0 1439=b:=⟨_,rfl⟩
 rw [h1] at H1 HV;rw [h2] at H2 HV
 have az:=hd_ hb
 clear hc h1 h2 hb _hx hk
 change X prog 46 #[E (x.cells s).toArray] w _
 go_enter func46,ntmps46
 go_upto_region 1 with fail
 change Code.wp _ _ _ _ (w.alloc (bI x s))
 generalize w.alloc (bI x s)=w0 at *
 cases b1 <;> cases b2 <;> (
  go_wp2_with (first
   | (go_at_call 44;refine (H1.out w0).mono ?_;(rintro e w' ⟨rfl,rfl⟩;clear H1))
   | (go_at_call 44;refine (H2.out w0).mono ?_;(rintro e w' ⟨rfl,rfl⟩;clear H2)))
  go_ret
  exact ⟨by rw [HV.out];rfl,az.out⟩)
theorem x3k (x:Inp) (s:Slc) (w:J) (_hx:InpR w x s) (hk:x.kind=9) :X prog 46 #[x.v s] w (FdP x w):=by
 have HV:F ((inB x.kind 1 10&&z3s x)=(inB x.n 0 1048576)):=hd_ (by rw [hk,show inB (9:Int) 1 10=G from rfl];unfold z3s;simp [hk])
 have hb:=z4b (w:=w) (bI x s)
 have hc:=z3a w (bI x s) 41 (x.cells s) rfl
 have c3:=hc.cv 3 (I Y x.kind)
 rw [hk] at c3
 have c0:=hc.cv 26 (I Y x.n)
 have HC:=hd_ (z5e x.n 0 1048576 (w.alloc (bI x s)))
 obtain ⟨b,hvb⟩:∃ b,(inB x.n 0 1048576)=b:=⟨_,rfl⟩
 rw [hvb] at HC HV
 have az:=hd_ hb
 clear hc hvb hb _hx hk
 change X prog 46 #[E (x.cells s).toArray] w _
 go_enter func46,ntmps46
 go_upto_region 1 with fail
 change Code.wp _ _ _ _ (w.alloc (bI x s))
 generalize w.alloc (bI x s)=w0 at *
 cases b <;> (
  go_wp2_with (go_at_call 44;refine HC.out.mono ?_;(rintro e w2 ⟨rfl,rfl⟩;clear HC))
  go_ret
  exact ⟨by rw [HV.out];rfl,az.out⟩)
theorem y7z (x:Inp) (s:Slc) (w:J) (_hx:InpR w x s) (hk:x.kind=10) :X prog 46 #[x.v s] w (FdP x w):=by
 have HV:F ((inB x.kind 1 10&&z3s x)=(G)):=hd_ (by rw [hk,show inB (10:Int) 1 10=G from rfl];unfold z3s;simp [hk])
 have hb:=z4b (w:=w) (bI x s)
 have hc:=z3a w (bI x s) 41 (x.cells s) rfl
 have c3:=hc.cv 3 (I Y x.kind)
 rw [hk] at c3
 have az:=hd_ hb
 clear hc hb _hx hk
 change X prog 46 #[E (x.cells s).toArray] w _
 go_enter func46,ntmps46
 go_upto_region 1 with fail
 change Code.wp _ _ _ _ (w.alloc (bI x s))
 generalize w.alloc (bI x s)=w0 at *
 go_wp2_with fail
 go_ret
 exact ⟨by rw [HV.out];rfl,az.out⟩
theorem x4v (x:Inp) (s:Slc) (w:J) (hx:InpR w x s) (z1:x.text.size≤9223372036854775807) (z2:x.flt.call.size≤9223372036854775807) (z3:x.rep.cl.size≤9223372036854775807):X prog 46 #[x.v s] w (FdP x w):=by
 by_cases h1:x.kind=1
 ·exact x5j x s w hx h1 z1
 by_cases h2:x.kind=2
 ·exact x6j x s w hx h2
 by_cases h3:x.kind=3
 ·exact x7j x s w hx h3 z2
 by_cases h4:x.kind=4
 ·exact x8j x s w hx h4
 by_cases h5:x.kind=5
 ·exact x9j x s w hx h5
 by_cases h6:x.kind=6
 ·exact x0k x s w hx h6
 by_cases h7:x.kind=7
 ·exact x1k x s w hx h7 z3
 by_cases h8:x.kind=8
 ·exact x2k x s w hx h8
 by_cases h9:x.kind=9
 ·exact x3k x s w hx h9
 by_cases h10:x.kind=10
 ·exact y7z x s w hx h10
 exact x4j x s w hx (fun j hj1 hj2 hj=>by omega)
end Go.Proofs.YtdblnbnofjggnaaGreatDoor
