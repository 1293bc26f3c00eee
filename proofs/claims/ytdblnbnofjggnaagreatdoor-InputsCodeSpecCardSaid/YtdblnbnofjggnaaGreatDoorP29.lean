/- Parts of the proofs of chapter 49's laws. -/
import Derived.Test.YtdblnbnofjggnaaGreatDoorP28
set_option maxHeartbeats 16000000
set_option maxRecDepth 100000
open Go.Lib renaming hid → hd_
open Go.Value renaming int → I, slice → G, string → Z, bool → M, agg → Y
open Go.IntKind renaming i64 → J
open Option renaming none → Q, some → R
open Decidable renaming decide → X
open Go renaming World → O
set_option linter.all false
namespace Go.Proofs.YtdblnbnofjggnaaGreatDoor
open Go.Proofs.Tryz
open Go.RowKit
def Flt.z:Flt:=⟨0,0,0,⟨#[]⟩,[],0,0,false⟩
def FZ:Obj:=.cells [I J 0,I J 0,I J 0,Z ⟨#[]⟩,G Q 0 0,I J 0,I J 0,M false].toArray 28
def bF (f:Flt) (v:Value):Obj:=.cells (f.cells v).toArray 28
theorem x5o (a b:ByteArray):(a.toList == b.toList)=X (a=b):=y5x a b
theorem y0y (p q:Flt):X (p=q)=(X (p.id=q.id)&&X (p.air=q.air)&&X (p.cls=q.cls)&&X (p.call=q.call)&&(X (p.wf=q.wf)&&X (p.wt=q.wt))&&X (p.can=q.can)&&X (p.ways=q.ways)):=by
 obtain ⟨a1,a2,a3,a4,a5,a6,a7,a8⟩:=p
 obtain ⟨b1,b2,b3,b4,b5,b6,b7,b8⟩:=q
 rw [Bool.eq_iff_iff]
 simp only [decide_eq_true_eq,Bool.and_eq_true,Flt.mk.injEq]
 exact ⟨fun ⟨h1,h2,h3,h4,h5,h6,h7,h8⟩=>⟨⟨⟨⟨⟨⟨h1,h2⟩,h3⟩,h4⟩,h6,h7⟩,h8⟩,h5⟩,fun ⟨⟨⟨⟨⟨⟨h1,h2⟩,h3⟩,h4⟩,h6,h7⟩,h8⟩,h5⟩=>⟨h1,h2,h3,h4,h5,h6,h7,h8⟩⟩
theorem y1y (p q:Chg):X (p=q)=(X (p.frm=q.frm)&&X (p.cfg=q.cfg)&&X (p.modes=q.modes)):=by
 obtain ⟨a1,a2,a3⟩:=p
 obtain ⟨b1,b2,b3⟩:=q
 rw [Bool.eq_iff_iff]
 simp only [decide_eq_true_eq,Bool.and_eq_true,Chg.mk.injEq,and_assoc]
theorem y2y (p q:Stn):X (p=q)=(X (p.sh=q.sh)&&X (p.fa=q.fa)&&X (p.vols=q.vols)):=by
 obtain ⟨a1,a2,a3⟩:=p
 obtain ⟨b1,b2,b3⟩:=q
 rw [Bool.eq_iff_iff]
 simp only [decide_eq_true_eq,Bool.and_eq_true,Stn.mk.injEq]
 exact ⟨fun ⟨h1,h2,h3⟩=>⟨⟨h2,h3⟩,h1⟩,fun ⟨⟨h2,h3⟩,h1⟩=>⟨h1,h2,h3⟩⟩
theorem y3y (p q:Inp):X (p=q)=((p.mi == q.mi&&p.ce == q.ce&&p.no == q.no)&&X (p.kind=q.kind)&&X (p.text=q.text)&&j5x p.rep q.rep&&(p.sts.st == q.sts.st&&p.sts.frm == q.sts.frm&&p.sts.wk == q.sts.wk)&&X (p.n=q.n)&&(p.sr == q.sr&&p.ss == q.ss)&&X (p.flt=q.flt)&&X (p.tree=q.tree)&&X (p.chg=q.chg)&&X (p.stn=q.stn)):=by
 obtain ⟨a1,a2,a3,a4,a5,a6,a7,a8,a9,⟨s1,s2,s3⟩,a11,a12,a13,a14⟩:=p
 obtain ⟨b1,b2,b3,b4,b5,b6,b7,b8,b9,⟨t1,t2,t3⟩,b11,b12,b13,b14⟩:=q
 rw [Bool.eq_iff_iff]
 simp only [decide_eq_true_eq,Bool.and_eq_true,beq_iff_eq,x9m,Inp.mk.injEq,Sts.mk.injEq]
 exact ⟨fun ⟨h1,h2,h3,h4,h5,h6,h7,h8,h9,⟨g1,g2,g3⟩,h11,h12,h13,h14⟩=>⟨⟨⟨⟨⟨⟨⟨⟨⟨⟨⟨⟨h1,h2⟩,h3⟩,h4⟩,h5⟩,h9⟩,⟨g1,g2⟩,g3⟩,h11⟩,h13,h14⟩,h6⟩,h7⟩,h8⟩,h12⟩,
  fun ⟨⟨⟨⟨⟨⟨⟨⟨⟨⟨⟨⟨h1,h2⟩,h3⟩,h4⟩,h5⟩,h9⟩,⟨g1,g2⟩,g3⟩,h11⟩,h13,h14⟩,h6⟩,h7⟩,h8⟩,h12⟩=>⟨h1,h2,h3,h4,h5,h6,h7,h8,h9,⟨g1,g2,g3⟩,h11,h12,h13,h14⟩⟩
theorem y9p {w:O} {g:Nat} {t:TypeId} {x:Inp} {s:Slc} (h:CB w g t (x.cells s)):w.rangeAt g 5 (x.flt.cells s.ways):=fun i u hu=>by
 rw [h.cell]
 have hi:i<8:=(List.getElem?_eq_some_iff.1 hu).1
 rw [← hu]
 show (([I J x.mi,I J x.ce,I J x.no,I J x.kind,Z x.text]:List Value)++x.flt.cells s.ways++[s.tree]++x.chg.cells s.modes++x.rep.cells++x.sts.cells++[I J x.n]++x.stn.cells s.vols++[I J x.sr,I J x.ss])[5+i]? = _
 simp only [List.append_assoc]
 rw [List.getElem?_append_right (by simp),List.getElem?_append_left (by simp;exact hi)]
 simp
def v6f (x y:Inp) (s t:Slc) (w0:O) (v5 v6:Value) (wx:O):Prop :=
 ∃ g5 g6:Nat,v5=.pointer (R ⟨g5,0,Q⟩)∧v6=.pointer (R ⟨g6,0,Q⟩)∧CB wx g5 28 (x.flt.cells s.ways)∧CB wx g6 28 (y.flt.cells t.ways)∧Below w0.heap.size w0 wx
def x9h (b:Bool) (w0:O) (v:Value) (wx:O):Prop:=v=M b∧Below w0.heap.size w0 wx
theorem y0q (f:Flt) (v:Value) (hv:v.oneCell'=true):∀ u∈f.cells v,u.oneCell'=true:=by
 intro u hu
 simp only [Flt.cells,List.mem_cons,List.not_mem_nil,or_false] at hu
 rcases hu with rfl|rfl|rfl|rfl|rfl|rfl|rfl|rfl <;> first|rfl|exact hv
theorem x6o (x y:Inp) (s t:Slc) (w:O) (hx:InpR w x s) (hy:InpR w y t) :
 Calls prog 15 #[x.v s,y.v t] w fun e w'=>e=.returned (M (X (x=y)))∧Below w.heap.size w w':=by
 have ax:Below w.heap.size w ((w.alloc (bI x s)).alloc (bI y t)):=(z4b (w:=w) (bI x s)).alloc (z4b (w:=w) (bI x s)).size _
 have hcx:CB ((w.alloc (bI x s)).alloc (bI y t)) w.heap.size 41 (x.cells s):=(z3a w (bI x s) _ _ rfl).alloc _
 have hcy:CB ((w.alloc (bI x s)).alloc (bI y t)) (w.heap.size+1) 41 (y.cells t):=by
  have:=z3a (w.alloc (bI x s)) (bI y t) 41 (y.cells t) rfl
  rwa [World.size_alloc] at this
 have az:=hd_ ax;have nH:=hd_ hcx;have HY0:=hd_ hcy;have aY:=hd_ hx;have gn:=hd_ hy
 obtain ⟨xa,xn,hxw,-⟩:=hx.ways.shape
 obtain ⟨ya,yn,hyw,-⟩:=hy.ways.shape
 have HXW:=hd_ hxw;have HYW:=hd_ hyw
 have dL:=hd_ (y3y x y)
 clear ax hcx hcy hx hy hxw hyw
 change Calls prog 15 #[Y (x.cells s).toArray,Y (y.cells t).toArray] w _
 go_enter func15,ntmps15
 go_upto_region 1 with fail
 change Code.wp _ _ _ _ ((w.alloc (bI x s)).alloc (bI y t))
 generalize (w.alloc (bI x s)).alloc (bI y t)=w0 at *
 go_cut [5,6] (fun v5 v6 wx=>v6f x y s t w0 v5 v6 wx)
 case first =>
  have hbd:Hid (Below w0.heap.size w0 w0.drew):=(Below.refl w0.heap.size w0).drew
  have HFX:=hd_ (y9p nH.out);have HFY:=hd_ (y9p HY0.out)
  have Hxo:Hid (∀ u∈x.flt.cells s.ways,u.oneCell'=true):=y0q x.flt s.ways (by rw [HXW.out];rfl)
  have Hyo:Hid (∀ u∈y.flt.cells t.ways,u.oneCell'=true):=y0q y.flt t.ways (by rw [HYW.out];rfl)
  clear nH HY0 az aY gn dL HXW HYW
  refine wp_region_held_drew (S:=fun w'=>Below w0.heap.size w0 w') (by kernel_rfl) hbd.out (fun hHeld=>?_)
  have aV:=hbd
  generalize w0.drew=wd at *
  refine tkH 11 0 ?_
  refine x1m 12 1 rfl (Y (x.flt.cells s.ways).toArray) (yieldsIf_load_mid (by rfl) 28 _ rfl w.heap.size 5 rfl (x.flt.cells s.ways) _ (fun wS aa=>z2m HFX.out aa) underlying28 rfl (by kernel_rfl)) ?_
  refine tkH 13 2 ?_
  refine x1m 14 3 rfl (Y (y.flt.cells t.ways).toArray) (yieldsIf_load_mid (by rfl) 28 _ rfl (w.heap.size+1) 5 rfl (y.flt.cells t.ways) _ (fun wS aa=>z2m HFY.out aa) underlying28 rfl (by kernel_rfl)) ?_
  refine wpAnyH_ready (rs:=[4,5]) (by kernel_rfl) (by simp) ?_
  refine AllReadyH.cons rfl (fun K hK=>?_) (AllReadyH.cons rfl (fun K hK=>?_) AllReadyH.nil)
  ·go_simp
   change K _ (wd.alloc FZ)
   have H5:Hid (CB (wd.alloc FZ) wd.heap.size 28 [I J 0,I J 0,I J 0,Z ⟨#[]⟩,G Q 0 0,I J 0,I J 0,M false]):=z3a wd _ _ _ rfl
   have lW:Hid (w0.heap.size≤wd.heap.size):=aV.out.size
   have aN:Hid (wd.heap.size<(wd.alloc FZ).heap.size):=by show _<_;rw [World.size_alloc];omega
   replace aV:=hd_ (z0a aV.out (z4b (w:=wd) FZ))
   generalize wd.alloc FZ=wda at *
   generalize wd.heap.size=E5 at *
   refine goK hK aV.out fun hHeld=>?_
   clear hK K
   refine rdH 5 fun K hK=>?_
   ·go_simp
    change K _ (wda.alloc FZ)
    have H6:Hid (CB (wda.alloc FZ) wda.heap.size 28 [I J 0,I J 0,I J 0,Z ⟨#[]⟩,G Q 0 0,I J 0,I J 0,M false]):=z3a wda _ _ _ rfl
    have H6g:Hid (w0.heap.size≤wda.heap.size):=aV.out.size
    replace H5:=hd_ (H5.out.alloc FZ)
    have bq:Hid (E5≠wda.heap.size):=Nat.ne_of_lt aN.out
    replace aV:=hd_ (z0a aV.out (z4b (w:=wda) FZ))
    generalize wda.alloc FZ=wdab at *
    generalize wda.heap.size=E6 at *
    refine goK hK aV.out fun hHeld=>?_
    clear hK K
    refine rdH 6 fun K hK=>?_
    ·refine sif 28 (.tmp 5) (.tmp 12) rfl E5 (x.flt.cells s.ways) rfl rfl H5.out Hxo.out ?_
     intro wdabc hcwdabc hgwdabc hzwdabc
     have ke:=hcwdabc
     have kf:=hd_ (H6.out.keep (hgwdabc.out.block _ H6.out.lt (by intro e;injection e with e;first|exact bq.out e|exact bq.out e.symm)))
     replace aV:=hd_ (aV.out.grown hgwdabc.out aV.out.size (fun k hk=>by injection hk with hk;have:=lW.out;omega))
     clear H5 H6
     have H5:=ke;have H6:=kf
     clear ke kf hcwdabc hgwdabc hzwdabc
     refine goK hK aV.out fun hHeld=>?_
     clear hK K
     refine rdH 7 fun K hK=>?_
     ·refine sif 28 (.tmp 6) (.tmp 14) rfl E6 (y.flt.cells t.ways) rfl rfl H6.out Hyo.out ?_
      intro wdabcd hcwdabcd hgwdabcd hzwdabcd
      have kf:=hcwdabcd
      have ke:=hd_ (H5.out.keep (hgwdabcd.out.block _ H5.out.lt (by intro e;injection e with e;first|exact bq.out e|exact bq.out e.symm)))
      replace aV:=hd_ (aV.out.grown hgwdabcd.out aV.out.size (fun k hk=>by injection hk with hk;have:=H6g.out;omega))
      clear H6 H5
      have H6:=kf;have H5:=ke
      clear kf ke hcwdabcd hgwdabcd hzwdabcd
      refine goK hK aV.out fun hHeld=>?_
      clear hK K
      refine wpAnyH_done (by kernel_rfl) ?_ _
      go_wp2_with fail
      go_meet
      case rel=>exact ⟨E5,E6,rfl,rfl,H5.out,H6.out,aV.out⟩
  ·go_simp
   change K _ (wd.alloc FZ)
   have H6:Hid (CB (wd.alloc FZ) wd.heap.size 28 [I J 0,I J 0,I J 0,Z ⟨#[]⟩,G Q 0 0,I J 0,I J 0,M false]):=z3a wd _ _ _ rfl
   have H6g:Hid (w0.heap.size≤wd.heap.size):=aV.out.size
   have aN:Hid (wd.heap.size<(wd.alloc FZ).heap.size):=by show _<_;rw [World.size_alloc];omega
   replace aV:=hd_ (z0a aV.out (z4b (w:=wd) FZ))
   generalize wd.alloc FZ=wdb at *
   generalize wd.heap.size=E6 at *
   refine goK hK aV.out fun hHeld=>?_
   clear hK K
   refine rdH 4 fun K hK=>?_
   ·go_simp
    change K _ (wdb.alloc FZ)
    have H5:Hid (CB (wdb.alloc FZ) wdb.heap.size 28 [I J 0,I J 0,I J 0,Z ⟨#[]⟩,G Q 0 0,I J 0,I J 0,M false]):=z3a wdb _ _ _ rfl
    have lW:Hid (w0.heap.size≤wdb.heap.size):=aV.out.size
    replace H6:=hd_ (H6.out.alloc FZ)
    have bq:Hid (E6≠wdb.heap.size):=Nat.ne_of_lt aN.out
    replace aV:=hd_ (z0a aV.out (z4b (w:=wdb) FZ))
    generalize wdb.alloc FZ=wdba at *
    generalize wdb.heap.size=E5 at *
    refine goK hK aV.out fun hHeld=>?_
    clear hK K
    refine rdH 6 fun K hK=>?_
    ·refine sif 28 (.tmp 5) (.tmp 12) rfl E5 (x.flt.cells s.ways) rfl rfl H5.out Hxo.out ?_
     intro wdbac hcwdbac hgwdbac hzwdbac
     have ke:=hcwdbac
     have kf:=hd_ (H6.out.keep (hgwdbac.out.block _ H6.out.lt (by intro e;injection e with e;first|exact bq.out e|exact bq.out e.symm)))
     replace aV:=hd_ (aV.out.grown hgwdbac.out aV.out.size (fun k hk=>by injection hk with hk;have:=lW.out;omega))
     clear H5 H6
     have H5:=ke;have H6:=kf
     clear ke kf hcwdbac hgwdbac hzwdbac
     refine goK hK aV.out fun hHeld=>?_
     clear hK K
     refine rdH 7 fun K hK=>?_
     ·refine sif 28 (.tmp 6) (.tmp 14) rfl E6 (y.flt.cells t.ways) rfl rfl H6.out Hyo.out ?_
      intro wdbacd hcwdbacd hgwdbacd hzwdbacd
      have kf:=hcwdbacd
      have ke:=hd_ (H5.out.keep (hgwdbacd.out.block _ H5.out.lt (by intro e;injection e with e;first|exact bq.out e|exact bq.out e.symm)))
      replace aV:=hd_ (aV.out.grown hgwdbacd.out aV.out.size (fun k hk=>by injection hk with hk;have:=H6g.out;omega))
      clear H6 H5
      have H6:=kf;have H5:=ke
      clear kf ke hcwdbacd hgwdbacd hzwdbacd
      refine goK hK aV.out fun hHeld=>?_
      clear hK K
      refine wpAnyH_done (by kernel_rfl) ?_ _
      go_wp2_with fail
      go_meet
      case rel=>exact ⟨E5,E6,rfl,rfl,H5.out,H6.out,aV.out⟩
 case rest =>
 obtain ⟨g5,g6,rfl,rfl,h5,h6,hbx⟩:=hcut
 have aG:=hd_ (z0a az.out hbx);have HX1:=hd_ (nH.out.ext hbx);have HY1:=hd_ (HY0.out.ext hbx);have H5:=hd_ h5;have H6:=hd_ h6
 clear hbx h5 h6 nH HY0 az
 generalize wc=w1 at *
 have nV:=hd_ (y0y x.flt y.flt)
 go_upto_region 2 with fail
 go_cut [7] (fun v7 wx=>x9h (X (x.flt=y.flt)) w1 v7 wx)
 case first =>
  have jy:=hd_ (y1a x.flt.ways y.flt.ways _ _ w1 (aY.out.ways.ext aG.out) (gn.out.ways.ext aG.out))
  rw [show s.ways=G xa x.flt.ways.length xn from HXW.out,show t.ways=G ya y.flt.ways.length yn from HYW.out] at jy
  rw [show s.ways=G xa x.flt.ways.length xn from HXW.out] at H5
  rw [show t.ways=G ya y.flt.ways.length yn from HYW.out] at H6
  clear HX1 HY1 aY gn dL HXW HYW aG
  generalize x.flt.ways.length=xm at *
  generalize y.flt.ways.length=ym at *
  generalize x.flt=xf at *
  generalize y.flt=yf at *
  have c0:=H5.out.cell 0;have c1:=H5.out.cell 1;have c2:=H5.out.cell 2;have c3:=H5.out.cell 3;have c4:=H5.out.cell 4;have c5:=H5.out.cell 5;have c6:=H5.out.cell 6;have c7:=H5.out.cell 7
  have d0:=H6.out.cell 0;have d1:=H6.out.cell 1;have d2:=H6.out.cell 2;have d3:=H6.out.cell 3;have d4:=H6.out.cell 4;have d5:=H6.out.cell 5;have d6:=H6.out.cell 6;have d7:=H6.out.cell 7
  clear H5 H6
  obtain ⟨fi,fa,fc,fl,fw,f5,f6,fx⟩:=xf
  obtain ⟨hi,ha,hc,hl,hw,h5,h6,hx⟩:=yf
  change w1.cell? ⟨g5,0,Q⟩=R (I J fi) at c0
  change w1.cell? ⟨g5,1,Q⟩=R (I J fa) at c1
  change w1.cell? ⟨g5,2,Q⟩=R (I J fc) at c2
  change w1.cell? ⟨g5,3,Q⟩=R (Z fl) at c3
  change w1.cell? ⟨g5,4,Q⟩=R (G xa xm xn) at c4
  change w1.cell? ⟨g5,5,Q⟩=R (I J f5) at c5
  change w1.cell? ⟨g5,6,Q⟩=R (I J f6) at c6
  change w1.cell? ⟨g5,7,Q⟩=R (M fx) at c7
  change w1.cell? ⟨g6,0,Q⟩=R (I J hi) at d0
  change w1.cell? ⟨g6,1,Q⟩=R (I J ha) at d1
  change w1.cell? ⟨g6,2,Q⟩=R (I J hc) at d2
  change w1.cell? ⟨g6,3,Q⟩=R (Z hl) at d3
  change w1.cell? ⟨g6,4,Q⟩=R (G ya ym yn) at d4
  change w1.cell? ⟨g6,5,Q⟩=R (I J h5) at d5
  change w1.cell? ⟨g6,6,Q⟩=R (I J h6) at d6
  change w1.cell? ⟨g6,7,Q⟩=R (M hx) at d7
  have nV:Hid (X ((⟨fi,fa,fc,fl,fw,f5,f6,fx⟩:Flt)=⟨hi,ha,hc,hl,hw,h5,h6,hx⟩)=(X (fi=hi)&&X (fa=ha)&&X (fc=hc)&&X (fl=hl)&&(X (f5=h5)&&X (f6=h6))&&X (fx=hx)&&X (fw=hw))):=nV.out
  change Hid (Calls prog 38 #[G xa xm xn,G ya ym yn] w1 fun e w'=>e=.returned (M (X (fw=hw)))∧Below w1.heap.size w1 w') at jy
  have hgs:=fun (a1 a2:Operand) (W:O)=>j1e .eql a1 a2 f5 f6 h5 h6 W
  obtain ⟨b1,af⟩:∃ b,X (fi=hi)=b:=⟨_,rfl⟩
  obtain ⟨b2,aj⟩:∃ b,X (fa=ha)=b:=⟨_,rfl⟩
  obtain ⟨b3,aB⟩:∃ b,X (fc=hc)=b:=⟨_,rfl⟩
  obtain ⟨b4,cO⟩:∃ b,X (fl=hl)=b:=⟨_,rfl⟩
  obtain ⟨b5,bp⟩:∃ b,(X (f5=h5)&&X (f6=h6))=b:=⟨_,rfl⟩
  obtain ⟨b6,dC⟩:∃ b,X (fx=hx)=b:=⟨_,rfl⟩
  obtain ⟨b7,ag⟩:∃ b,X (fw=hw)=b:=⟨_,rfl⟩
  have nV:Hid (X ((⟨fi,fa,fc,fl,fw,f5,f6,fx⟩:Flt)=⟨hi,ha,hc,hl,hw,h5,h6,hx⟩)=(b1&&b2&&b3&&b4&&b5&&b6&&b7)):=by
   have:=nV.out;rw [af,aj,aB,cO,bp,dC,ag] at this;exact this
  rw [ag] at jy
  have u1:(fi == hi)=b1:=by rw [← af];rfl
  have u2:(fa == ha)=b2:=by rw [← aj];rfl
  have u3:(fc == hc)=b3:=by rw [← aB];rfl
  have u4:(fl.toList == hl.toList)=b4:=by rw [← cO];exact x5o _ _
  have heq:∀ W:O,(Op.equalIn 10000 26 (Y #[I J f5,I J f6]) (Y #[I J h5,I J h6])).run prog W=.ok b5 W:=fun W=>by rw [j0e,← bp];rfl
  have u6:(fx == hx)=b6:=by rw [← dC];cases fx <;> cases hx <;> rfl
  clear bp ag
  go_wp2_with (go_at_call 38;refine jy.out.mono ?_;(rintro e w2 ⟨rfl,hb⟩;have kg:=hd_ hb;clear hb))
  ·(try clear u1 u2 u3 u4 u6 heq hgs af aj aB cO dC);(try simp only [Bool.not_eq_true] at *);subst_vars;go_meet;case rel=>exact ⟨by first|(rw [nV.out];rfl)|rfl,by first|exact kg.out|exact Below.refl _ _⟩
  all_goals (try clear u1 u2 u3 u4 u6 heq hgs af aj aB cO dC;try simp only [Bool.not_eq_true] at *;subst_vars;go_meet;case rel=>exact ⟨by first|(rw [nV.out];rfl)|rfl,by first|exact kg.out|exact Below.refl _ _⟩)
 case rest =>
 obtain ⟨rfl,hbx⟩:=hcut
 have au:=hd_ (z0a aG.out hbx);have HX2:=hd_ (HX1.out.ext hbx);have lX:=hd_ (HY1.out.ext hbx)
 obtain ⟨b8,kh⟩:∃ b,X (x.flt=y.flt)=b:=⟨_,rfl⟩
 rw [kh] at dL ⊢
 clear hbx aG HX1 HY1 H5 H6 kh nV HXW HYW
 generalize wc=w2 at *
 have HTR:=hd_ (x2t x.tree y.tree _ _ w2 (aY.out.tree.ext au.out) (gn.out.tree.ext au.out))
 obtain ⟨b9,ki⟩:∃ b,X (x.tree=y.tree)=b:=⟨_,rfl⟩
 rw [ki] at dL HTR
 clear ki
 have kj:=HX2.out.cv 13 s.tree
 have d13:=lX.out.cv 13 t.tree
 go_upto_region 4 with (go_at_call 39;refine HTR.out.mono ?_;(rintro e w3 ⟨rfl,aB⟩;have aA:=hd_ (z0a au.out aB);have kl:=hd_ (HX2.out.ext aB);have km:=hd_ (lX.out.ext aB);clear aB))
 clear kj d13 au HX2 lX HTR
 have kn:=hd_ (y1y x.chg y.chg)
 go_cut [9] (fun v9 wx=>x9h (X (x.chg=y.chg)) w3 v9 wx)
 case first =>
  have jy:=hd_ (y1a x.chg.modes y.chg.modes _ _ w3 (aY.out.modes.ext aA.out) (gn.out.modes.ext aA.out))
  have c14:=kl.out.cv 14 (I J x.chg.frm)
  have d14:=km.out.cv 14 (I J y.chg.frm)
  have c15:=kl.out.cv 15 (I J x.chg.cfg)
  have d15:=km.out.cv 15 (I J y.chg.cfg)
  have mx:=kl.out.cv 16 s.modes
  have d16:=km.out.cv 16 t.modes
  obtain ⟨b1,af⟩:∃ b,X (x.chg.frm=y.chg.frm)=b:=⟨_,rfl⟩
  obtain ⟨b2,aj⟩:∃ b,X (x.chg.cfg=y.chg.cfg)=b:=⟨_,rfl⟩
  obtain ⟨bl,hbl⟩:∃ b,X (x.chg.modes=y.chg.modes)=b:=⟨_,rfl⟩
  rw [af,aj,hbl] at kn
  rw [hbl] at jy
  have u1:(x.chg.frm == y.chg.frm)=b1:=by rw [← af];rfl
  have u2:(x.chg.cfg == y.chg.cfg)=b2:=by rw [← aj];rfl
  clear hbl kl km aY gn dL aA
  go_wp2_with (go_at_call 38;refine jy.out.mono ?_;(rintro e w9 ⟨rfl,hb⟩;have kg:=hd_ hb;clear hb))
  ·(try clear u1 u2 af aj);(try simp only [Bool.not_eq_true] at *);subst_vars;go_meet;case rel=>exact ⟨by first|(rw [kn.out];rfl)|rfl,by first|exact kg.out|exact Below.refl _ _⟩
  all_goals (try clear u1 u2 af aj;try simp only [Bool.not_eq_true] at *;subst_vars;go_meet;case rel=>exact ⟨by first|(rw [kn.out];rfl)|rfl,by first|exact kg.out|exact Below.refl _ _⟩)
 case rest =>
 obtain ⟨rfl,hbx⟩:=hcut
 have cH:=hd_ (z0a aA.out hbx);have kO:=hd_ (kl.out.ext hbx);have kP:=hd_ (km.out.ext hbx)
 obtain ⟨b10,bL⟩:∃ b,X (x.chg=y.chg)=b:=⟨_,rfl⟩
 rw [bL] at dL ⊢
 clear hbx aA kl km bL kn
 generalize wc=w4 at *
 go_upto_region 5 with fail
 have kn:=hd_ (y2y x.stn y.stn)
 go_cut [10] (fun dV wx=>x9h (X (x.stn=y.stn)) w4 dV wx)
 case first =>
  have jy:=hd_ (y1a x.stn.vols y.stn.vols _ _ w4 (aY.out.vols.ext cH.out) (gn.out.vols.ext cH.out))
  have c28:=kO.out.cv 28 (I J x.stn.sh)
  have d28:=kP.out.cv 28 (I J y.stn.sh)
  have c29:=kO.out.cv 29 (I J x.stn.fa)
  have d29:=kP.out.cv 29 (I J y.stn.fa)
  have c27:=kO.out.cv 27 s.vols
  have d27:=kP.out.cv 27 t.vols
  obtain ⟨b1,af⟩:∃ b,X (x.stn.sh=y.stn.sh)=b:=⟨_,rfl⟩
  obtain ⟨b2,aj⟩:∃ b,X (x.stn.fa=y.stn.fa)=b:=⟨_,rfl⟩
  obtain ⟨bl,hbl⟩:∃ b,X (x.stn.vols=y.stn.vols)=b:=⟨_,rfl⟩
  rw [af,aj,hbl] at kn
  rw [hbl] at jy
  have u1:(x.stn.sh == y.stn.sh)=b1:=by rw [← af];rfl
  have u2:(x.stn.fa == y.stn.fa)=b2:=by rw [← aj];rfl
  clear hbl kO kP aY gn dL cH
  go_wp2_with (go_at_call 38;refine jy.out.mono ?_;(rintro e w9 ⟨rfl,hb⟩;have kg:=hd_ hb;clear hb))
  ·(try clear u1 u2 af aj);(try simp only [Bool.not_eq_true] at *);subst_vars;go_meet;case rel=>exact ⟨by first|(rw [kn.out];rfl)|rfl,by first|exact kg.out|exact Below.refl _ _⟩
  all_goals (try clear u1 u2 af aj;try simp only [Bool.not_eq_true] at *;subst_vars;go_meet;case rel=>exact ⟨by first|(rw [kn.out];rfl)|rfl,by first|exact kg.out|exact Below.refl _ _⟩)
 case rest =>
 obtain ⟨rfl,hbx⟩:=hcut
 have bZ:=hd_ (z0a cH.out hbx);have go:=hd_ (kO.out.ext hbx);have gv:=hd_ (kP.out.ext hbx)
 obtain ⟨b11,dz⟩:∃ b,X (x.stn=y.stn)=b:=⟨_,rfl⟩
 rw [dz] at dL ⊢
 clear hbx cH kO kP dz kn
 generalize wc=w5 at *
 go_upto_region 6 with fail
 have c0:=go.out.cv 0 (I J x.mi)
 have d0:=gv.out.cv 0 (I J y.mi)
 have c1:=go.out.cv 1 (I J x.ce)
 have d1:=gv.out.cv 1 (I J y.ce)
 have c2:=go.out.cv 2 (I J x.no)
 have d2:=gv.out.cv 2 (I J y.no)
 have c3:=go.out.cv 3 (I J x.kind)
 have d3:=gv.out.cv 3 (I J y.kind)
 have c4:=go.out.cv 4 (Z x.text)
 have d4:=gv.out.cv 4 (Z y.text)
 have c17:=go.out.cv 17 (I J x.rep.st)
 have d17:=gv.out.cv 17 (I J y.rep.st)
 have c18:=go.out.cv 18 (I J x.rep.no)
 have d18:=gv.out.cv 18 (I J y.rep.no)
 have c19:=go.out.cv 19 (I J x.rep.mi)
 have d19:=gv.out.cv 19 (I J y.rep.mi)
 have c20:=go.out.cv 20 (I J x.rep.ar)
 have cg:=gv.out.cv 20 (I J y.rep.ar)
 have c21:=go.out.cv 21 (Z x.rep.cl)
 have ch:=gv.out.cv 21 (Z y.rep.cl)
 have c22:=go.out.cv 22 (I J x.rep.vo)
 have cj:=gv.out.cv 22 (I J y.rep.vo)
 have c23:=go.out.cv 23 (I J x.sts.st)
 have cA:=gv.out.cv 23 (I J y.sts.st)
 have c24:=go.out.cv 24 (I J x.sts.frm)
 have d24:=gv.out.cv 24 (I J y.sts.frm)
 have c25:=go.out.cv 25 (M x.sts.wk)
 have d25:=gv.out.cv 25 (M y.sts.wk)
 have c26:=go.out.cv 26 (I J x.n)
 have d26:=gv.out.cv 26 (I J y.n)
 have c30:=go.out.cv 30 (I J x.sr)
 have eE:=gv.out.cv 30 (I J y.sr)
 have c31:=go.out.cv 31 (I J x.ss)
 have eF:=gv.out.cv 31 (I J y.ss)
 obtain ⟨b1,af⟩:∃ b,(x.mi == y.mi&&x.ce == y.ce&&x.no == y.no)=b:=⟨_,rfl⟩
 obtain ⟨b2,aj⟩:∃ b,(X (x.kind=y.kind))=b:=⟨_,rfl⟩
 obtain ⟨b3,aB⟩:∃ b,(X (x.text=y.text))=b:=⟨_,rfl⟩
 obtain ⟨b4,cO⟩:∃ b,(j5x x.rep y.rep)=b:=⟨_,rfl⟩
 obtain ⟨b5,bp⟩:∃ b,(x.sts.st == y.sts.st&&x.sts.frm == y.sts.frm&&x.sts.wk == y.sts.wk)=b:=⟨_,rfl⟩
 obtain ⟨b6,dC⟩:∃ b,(X (x.n=y.n))=b:=⟨_,rfl⟩
 obtain ⟨b7,ag⟩:∃ b,(x.sr == y.sr&&x.ss == y.ss)=b:=⟨_,rfl⟩
 rw [af,aj,aB,cO,bp,dC,ag] at dL
 have qb1:∀ W:O,(Op.equalIn 10000 23 (Y #[I J x.mi,I J x.ce,I J x.no]) (Y #[I J y.mi,I J y.ce,I J y.no])).run prog W=.ok b1 W:=fun W=>by rw [← af];exact x2o x.mi x.ce x.no y.mi y.ce y.no W
 have gb1:∀ (a1 a2:Operand) (W:O),(eqGuard .eql 23 a1 a2 (Y #[I J x.mi,I J x.ce,I J x.no]) (Y #[I J y.mi,I J y.ce,I J y.no])).run prog W=.ok () W:=fun a1 a2 W=>x3o .eql a1 a2 x.mi x.ce x.no y.mi y.ce y.no W
 have qb4:∀ W:O,(Op.equalIn 10000 33 (Y #[I J x.rep.st,I J x.rep.no,I J x.rep.mi,I J x.rep.ar,Z x.rep.cl,I J x.rep.vo]) (Y #[I J y.rep.st,I J y.rep.no,I J y.rep.mi,I J y.rep.ar,Z y.rep.cl,I J y.rep.vo])).run prog W=.ok b4 W:=fun W=>by rw [← cO];exact k5o x.rep y.rep W
 have gb4:∀ (a1 a2:Operand) (W:O),(eqGuard .eql 33 a1 a2 (Y #[I J x.rep.st,I J x.rep.no,I J x.rep.mi,I J x.rep.ar,Z x.rep.cl,I J x.rep.vo]) (Y #[I J y.rep.st,I J y.rep.no,I J y.rep.mi,I J y.rep.ar,Z y.rep.cl,I J y.rep.vo])).run prog W=.ok () W:=fun a1 a2 W=>k6o .eql a1 a2 x.rep y.rep W
 have qb5:∀ W:O,(Op.equalIn 10000 35 (Y #[I J x.sts.st,I J x.sts.frm,M x.sts.wk]) (Y #[I J y.sts.st,I J y.sts.frm,M y.sts.wk])).run prog W=.ok b5 W:=fun W=>by rw [← bp];exact y7x x.sts.st x.sts.frm x.sts.wk y.sts.st y.sts.frm y.sts.wk W
 have gb5:∀ (a1 a2:Operand) (W:O),(eqGuard .eql 35 a1 a2 (Y #[I J x.sts.st,I J x.sts.frm,M x.sts.wk]) (Y #[I J y.sts.st,I J y.sts.frm,M y.sts.wk])).run prog W=.ok () W:=fun a1 a2 W=>y8x .eql a1 a2 x.sts.st x.sts.frm x.sts.wk y.sts.st y.sts.frm y.sts.wk W
 have qb7:∀ W:O,(Op.equalIn 10000 39 (Y #[I J x.sr,I J x.ss]) (Y #[I J y.sr,I J y.ss])).run prog W=.ok b7 W:=fun W=>by rw [← ag];exact j2y x.sr x.ss y.sr y.ss W
 have gb7:∀ (a1 a2:Operand) (W:O),(eqGuard .eql 39 a1 a2 (Y #[I J x.sr,I J x.ss]) (Y #[I J y.sr,I J y.ss])).run prog W=.ok () W:=fun a1 a2 W=>j3y .eql a1 a2 x.sr x.ss y.sr y.ss W
 have u2:(x.kind == y.kind)=b2:=by rw [← aj];rfl
 have u3:(x.text.toList == y.text.toList)=b3:=by rw [← aB];exact x5o _ _
 have u6:(x.n == y.n)=b6:=by rw [← dC];rfl
 clear af cO bp ag go gv aY gn
 go_wp2_with fail
 ·(try clear u2 u3 u6 qb1 qb4 qb5 qb7 gb1 gb4 gb5 gb7 aj aB dC);(try simp only [Bool.not_eq_true] at *);subst_vars;go_ret;exact ⟨by first|(rw [dL.out];rfl)|rfl,bZ.out⟩
 all_goals (try clear u2 u3 u6 qb1 qb4 qb5 qb7 gb1 gb4 gb5 gb7 aj aB dC;try simp only [Bool.not_eq_true] at *;subst_vars;go_ret;exact ⟨by first|(rw [dL.out];rfl)|rfl,bZ.out⟩)
end Go.Proofs.YtdblnbnofjggnaaGreatDoor
