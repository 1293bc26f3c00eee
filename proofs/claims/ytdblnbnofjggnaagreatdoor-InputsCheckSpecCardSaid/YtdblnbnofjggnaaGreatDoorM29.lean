/- Parts of the proofs of chapter 49's laws: Jsm Jrs. -/
import Derived.Test.YtdblnbnofjggnaaGreatDoorM28
set_option maxHeartbeats 16000000
set_option maxRecDepth 100000
open Go
open Lib renaming hid → hd_
open World renaming size_alloc → sA
open List renaming getElem?_eq_getElem → gE
namespace Go.Proofs.YtdblnbnofjggnaaGreatDoor
open Go.RowKit
def Flt.z:Flt:=⟨0,0,0,⟨#[]⟩,[],0,0,false⟩
def FZ:Obj:=.cells [.int .i64 0,.int .i64 0,.int .i64 0,.string ⟨#[]⟩,.slice none 0 0,.int .i64 0,.int .i64 0,.bool false].toArray 28
theorem x8l (a b:ByteArray):(a.toList == b.toList) = decide (a = b):=j0b a b
theorem y4v (p q:Flt):decide (p = q) = (decide (p.id = q.id) && decide (p.air = q.air) && decide (p.cls = q.cls) && decide (p.call = q.call) && (decide (p.wf = q.wf) && decide (p.wt = q.wt)) && decide (p.can = q.can) && decide (p.ways = q.ways)):=by
 obtain ⟨a1,a2,a3,a4,a5,a6,a7,a8⟩:=p
 obtain ⟨b1,b2,b3,b4,b5,b6,b7,b8⟩:=q
 rw [Bool.eq_iff_iff]
 simp only [decide_eq_true_eq,Bool.and_eq_true,Flt.mk.injEq]
 exact ⟨fun ⟨h1,h2,h3,h4,h5,h6,h7,h8⟩=>⟨⟨⟨⟨⟨⟨h1,h2⟩,h3⟩,h4⟩,h6,h7⟩,h8⟩,h5⟩,fun ⟨⟨⟨⟨⟨⟨h1,h2⟩,h3⟩,h4⟩,h6,h7⟩,h8⟩,h5⟩=>⟨h1,h2,h3,h4,h5,h6,h7,h8⟩⟩
theorem y5v (p q:Chg):decide (p = q) = (decide (p.frm = q.frm) && decide (p.cfg = q.cfg) && decide (p.modes = q.modes)):=by
 obtain ⟨a1,a2,a3⟩:=p
 obtain ⟨b1,b2,b3⟩:=q
 rw [Bool.eq_iff_iff]
 simp only [decide_eq_true_eq,Bool.and_eq_true,Chg.mk.injEq,and_assoc]
theorem y6v (p q:Stn):decide (p = q) = (decide (p.sh = q.sh) && decide (p.fa = q.fa) && decide (p.vols = q.vols)):=by
 obtain ⟨a1,a2,a3⟩:=p
 obtain ⟨b1,b2,b3⟩:=q
 rw [Bool.eq_iff_iff]
 simp only [decide_eq_true_eq,Bool.and_eq_true,Stn.mk.injEq]
 exact ⟨fun ⟨h1,h2,h3⟩=>⟨⟨h2,h3⟩,h1⟩,fun ⟨⟨h2,h3⟩,h1⟩=>⟨h1,h2,h3⟩⟩
theorem y7v (p q:Inp):decide (p = q) = ((p.mi == q.mi && p.ce == q.ce && p.no == q.no) && decide (p.kind = q.kind) && decide (p.text = q.text) && j8r p.rep q.rep && (p.sts.st == q.sts.st && p.sts.frm == q.sts.frm && p.sts.wk == q.sts.wk) && decide (p.n = q.n) && (p.sr == q.sr && p.ss == q.ss) && decide (p.flt = q.flt) && decide (p.tree = q.tree) && decide (p.chg = q.chg) && decide (p.stn = q.stn)):=by
 obtain ⟨a1,a2,a3,a4,a5,a6,a7,a8,a9,⟨s1,s2,s3⟩,a11,a12,a13,a14⟩:=p
 obtain ⟨b1,b2,b3,b4,b5,b6,b7,b8,b9,⟨t1,t2,t3⟩,b11,b12,b13,b14⟩:=q
 rw [Bool.eq_iff_iff]
 simp only [decide_eq_true_eq,Bool.and_eq_true,beq_iff_eq,x3k,Inp.mk.injEq,Sts.mk.injEq]
 exact ⟨fun ⟨h1,h2,h3,h4,h5,h6,h7,h8,h9,⟨g1,g2,g3⟩,h11,h12,h13,h14⟩=>⟨⟨⟨⟨⟨⟨⟨⟨⟨⟨⟨⟨h1,h2⟩,h3⟩,h4⟩,h5⟩,h9⟩,⟨g1,g2⟩,g3⟩,h11⟩,h13,h14⟩,h6⟩,h7⟩,h8⟩,h12⟩,
  fun ⟨⟨⟨⟨⟨⟨⟨⟨⟨⟨⟨⟨h1,h2⟩,h3⟩,h4⟩,h5⟩,h9⟩,⟨g1,g2⟩,g3⟩,h11⟩,h13,h14⟩,h6⟩,h7⟩,h8⟩,h12⟩=>⟨h1,h2,h3,h4,h5,h6,h7,h8,h9,⟨g1,g2,g3⟩,h11,h12,h13,h14⟩⟩
theorem y4n {w:World} {g:Nat} {t:TypeId} {x:Inp} {s:Slc} (h:CB w g t (x.cells s)):w.rangeAt g 5 (x.flt.cells s.ways):=fun i u hu=>by
 rw [h.cell]
 have hi:i < 8:=(List.getElem?_eq_some_iff.1 hu).1
 rw [← hu]
 show (([.int .i64 x.mi,.int .i64 x.ce,.int .i64 x.no,.int .i64 x.kind,.string x.text]:List Value) ++ x.flt.cells s.ways ++ [s.tree] ++ x.chg.cells s.modes ++ x.rep.cells ++ x.sts.cells ++ [.int .i64 x.n] ++ x.stn.cells s.vols ++ [.int .i64 x.sr,.int .i64 x.ss])[5 + i]? = _
 simp only [List.append_assoc]
 rw [List.getElem?_append_right (by simp),List.getElem?_append_left (by simp;exact hi)]
 simp
def k1x (x y:Inp) (s t:Slc) (w0:World) (v5 v6:Value) (wx:World):Prop :=
 ∃ g5 g6:Nat,v5 = .pointer (some ⟨g5,0,none⟩)∧v6 = .pointer (some ⟨g6,0,none⟩)∧CB wx g5 28 (x.flt.cells s.ways)∧CB wx g6 28 (y.flt.cells t.ways)∧Below w0.heap.size w0 wx
def x4e (b:Bool) (w0:World) (v:Value) (wx:World):Prop:=v = .bool b∧Below w0.heap.size w0 wx
theorem y5n (f:Flt) (v:Value) (hv:v.oneCell' = true):∀ u ∈ f.cells v,u.oneCell' = true:=by
 intro u hu
 simp only [Flt.cells,List.mem_cons,List.not_mem_nil,or_false] at hu
 rcases hu with rfl | rfl | rfl | rfl | rfl | rfl | rfl | rfl <;> first | rfl | exact hv
theorem x9l (x y:Inp) (s t:Slc) (w:World) (hx:InpR w x s) (hy:InpR w y t) :
 Calls Tryz.prog 15 #[x.v s,y.v t] w fun e w'=>e = .returned (.bool (decide (x = y)))∧Below w.heap.size w w':=by
 have hb0:Below w.heap.size w ((w.alloc (bI x s)).alloc (bI y t)):=(z5b (w:=w) (bI x s)).alloc (z5b (w:=w) (bI x s)).size _
 have hcx:CB ((w.alloc (bI x s)).alloc (bI y t)) w.heap.size 41 (x.cells s):=(z6a w (bI x s) _ _ rfl).alloc _
 have hcy:CB ((w.alloc (bI x s)).alloc (bI y t)) (w.heap.size + 1) 41 (y.cells t):=by
  have:=z6a (w.alloc (bI x s)) (bI y t) 41 (y.cells t) rfl
  rwa [sA] at this
 have HB0:=hd_ hb0;have HX0:=hd_ hcx;have HY0:=hd_ hcy;have HXR:=hd_ hx;have HYR:=hd_ hy
 obtain ⟨xa,xn,hxw,-⟩:=hx.ways.shape
 obtain ⟨ya,yn,hyw,-⟩:=hy.ways.shape
 have HXW:=hd_ hxw;have HYW:=hd_ hyw
 have HSP:=hd_ (y7v x y)
 clear hb0 hcx hcy hx hy hxw hyw
 change Calls Tryz.prog 15 #[.agg (x.cells s).toArray,.agg (y.cells t).toArray] w _
 go_enter Tryz.func15,Tryz.ntmps15
 go_upto_region 1 with fail
 change Code.wp _ _ _ _ ((w.alloc (bI x s)).alloc (bI y t))
 generalize (w.alloc (bI x s)).alloc (bI y t) = w0 at *
 go_cut [5,6] (fun v5 v6 wx=>k1x x y s t w0 v5 v6 wx)
 case first =>
  have hbd:Hid (Below w0.heap.size w0 w0.drew):=(Below.refl w0.heap.size w0).drew
  have HFX:=hd_ (y4n HX0.out);have HFY:=hd_ (y4n HY0.out)
  have Hxo:Hid (∀ u ∈ x.flt.cells s.ways,u.oneCell' = true):=y5n x.flt s.ways (by rw [HXW.out];rfl)
  have Hyo:Hid (∀ u ∈ y.flt.cells t.ways,u.oneCell' = true):=y5n y.flt t.ways (by rw [HYW.out];rfl)
  clear HX0 HY0 HB0 HXR HYR HSP HXW HYW
  refine wp_region_held_drew (S:=fun w'=>Below w0.heap.size w0 w') (by kernel_rfl) hbd.out (fun hHeld=>?_)
  have HBW:=hbd
  generalize w0.drew = wd at *
  refine tkH (some 11) 0 ?_
  refine x5j (some 12) 1 rfl (.agg (x.flt.cells s.ways).toArray) (yieldsIf_load_mid (by rfl) 28 _ rfl w.heap.size 5 rfl (x.flt.cells s.ways) _ (fun wS hSw=>z2l HFX.out hSw) Tryz.underlying28 rfl (by kernel_rfl)) ?_
  refine tkH (some 13) 2 ?_
  refine x5j (some 14) 3 rfl (.agg (y.flt.cells t.ways).toArray) (yieldsIf_load_mid (by rfl) 28 _ rfl (w.heap.size + 1) 5 rfl (y.flt.cells t.ways) _ (fun wS hSw=>z2l HFY.out hSw) Tryz.underlying28 rfl (by kernel_rfl)) ?_
  refine wpAnyH_ready (rs:=[4,5]) (by kernel_rfl) (by simp) ?_
  refine AllReadyH.cons rfl (fun K hK=>?_) (AllReadyH.cons rfl (fun K hK=>?_) AllReadyH.nil)
  · go_simp
    change K _ (wd.alloc FZ)
    have H5:Hid (CB (wd.alloc FZ) wd.heap.size 28 [.int .i64 0,.int .i64 0,.int .i64 0,.string ⟨#[]⟩,.slice none 0 0,.int .i64 0,.int .i64 0,.bool false]):=z6a wd _ _ _ rfl
    have H5g:Hid (w0.heap.size ≤ wd.heap.size):=HBW.out.size
    have Hlt:Hid (wd.heap.size < (wd.alloc FZ).heap.size):=by show _ < _;rw [sA];omega
    replace HBW:=hd_ (z0a HBW.out (z5b (w:=wd) FZ))
    generalize wd.alloc FZ = wda at *
    generalize wd.heap.size = E5 at *
    refine goK hK HBW.out fun hHeld=>?_
    clear hK K
    refine rdH 5 fun K hK=>?_
    · go_simp
      change K _ (wda.alloc FZ)
      have H6:Hid (CB (wda.alloc FZ) wda.heap.size 28 [.int .i64 0,.int .i64 0,.int .i64 0,.string ⟨#[]⟩,.slice none 0 0,.int .i64 0,.int .i64 0,.bool false]):=z6a wda _ _ _ rfl
      have H6g:Hid (w0.heap.size ≤ wda.heap.size):=HBW.out.size
      replace H5:=hd_ (H5.out.alloc FZ)
      have Hne:Hid (E5 ≠ wda.heap.size):=Nat.ne_of_lt Hlt.out
      replace HBW:=hd_ (z0a HBW.out (z5b (w:=wda) FZ))
      generalize wda.alloc FZ = wdab at *
      generalize wda.heap.size = E6 at *
      refine goK hK HBW.out fun hHeld=>?_
      clear hK K
      refine rdH 6 fun K hK=>?_
      · refine z8c (by rfl) 28 (.tmp 5) (.tmp 12) rfl E5 (x.flt.cells s.ways) rfl rfl 28 _ H5.out rfl (by kernel_rfl) Hxo.out ?_
        intro wdabc hcwdabc hgwdabc hzwdabc
        have HN5:=hcwdabc
        have HN6:=hd_ (H6.out.keep (hgwdabc.out.block _ H6.out.lt (by intro e;injection e with e;first | exact Hne.out e | exact Hne.out e.symm)))
        replace HBW:=hd_ (HBW.out.grown hgwdabc.out HBW.out.size (fun k hk=>by injection hk with hk;have:=H5g.out;omega))
        clear H5 H6
        have H5:=HN5;have H6:=HN6
        clear HN5 HN6 hcwdabc hgwdabc hzwdabc
        refine goK hK HBW.out fun hHeld=>?_
        clear hK K
        refine rdH 7 fun K hK=>?_
        · refine z8c (by rfl) 28 (.tmp 6) (.tmp 14) rfl E6 (y.flt.cells t.ways) rfl rfl 28 _ H6.out rfl (by kernel_rfl) Hyo.out ?_
          intro wdabcd hcwdabcd hgwdabcd hzwdabcd
          have HN6:=hcwdabcd
          have HN5:=hd_ (H5.out.keep (hgwdabcd.out.block _ H5.out.lt (by intro e;injection e with e;first | exact Hne.out e | exact Hne.out e.symm)))
          replace HBW:=hd_ (HBW.out.grown hgwdabcd.out HBW.out.size (fun k hk=>by injection hk with hk;have:=H6g.out;omega))
          clear H6 H5
          have H6:=HN6;have H5:=HN5
          clear HN6 HN5 hcwdabcd hgwdabcd hzwdabcd
          refine goK hK HBW.out fun hHeld=>?_
          clear hK K
          refine wpAnyH_done (by kernel_rfl) ?_ _
          go_wp2_with fail
          go_meet
          case rel=>exact ⟨E5,E6,rfl,rfl,H5.out,H6.out,HBW.out⟩
  · go_simp
    change K _ (wd.alloc FZ)
    have H6:Hid (CB (wd.alloc FZ) wd.heap.size 28 [.int .i64 0,.int .i64 0,.int .i64 0,.string ⟨#[]⟩,.slice none 0 0,.int .i64 0,.int .i64 0,.bool false]):=z6a wd _ _ _ rfl
    have H6g:Hid (w0.heap.size ≤ wd.heap.size):=HBW.out.size
    have Hlt:Hid (wd.heap.size < (wd.alloc FZ).heap.size):=by show _ < _;rw [sA];omega
    replace HBW:=hd_ (z0a HBW.out (z5b (w:=wd) FZ))
    generalize wd.alloc FZ = wdb at *
    generalize wd.heap.size = E6 at *
    refine goK hK HBW.out fun hHeld=>?_
    clear hK K
    refine rdH 4 fun K hK=>?_
    · go_simp
      change K _ (wdb.alloc FZ)
      have H5:Hid (CB (wdb.alloc FZ) wdb.heap.size 28 [.int .i64 0,.int .i64 0,.int .i64 0,.string ⟨#[]⟩,.slice none 0 0,.int .i64 0,.int .i64 0,.bool false]):=z6a wdb _ _ _ rfl
      have H5g:Hid (w0.heap.size ≤ wdb.heap.size):=HBW.out.size
      replace H6:=hd_ (H6.out.alloc FZ)
      have Hne:Hid (E6 ≠ wdb.heap.size):=Nat.ne_of_lt Hlt.out
      replace HBW:=hd_ (z0a HBW.out (z5b (w:=wdb) FZ))
      generalize wdb.alloc FZ = wdba at *
      generalize wdb.heap.size = E5 at *
      refine goK hK HBW.out fun hHeld=>?_
      clear hK K
      refine rdH 6 fun K hK=>?_
      · refine z8c (by rfl) 28 (.tmp 5) (.tmp 12) rfl E5 (x.flt.cells s.ways) rfl rfl 28 _ H5.out rfl (by kernel_rfl) Hxo.out ?_
        intro wdbac hcwdbac hgwdbac hzwdbac
        have HN5:=hcwdbac
        have HN6:=hd_ (H6.out.keep (hgwdbac.out.block _ H6.out.lt (by intro e;injection e with e;first | exact Hne.out e | exact Hne.out e.symm)))
        replace HBW:=hd_ (HBW.out.grown hgwdbac.out HBW.out.size (fun k hk=>by injection hk with hk;have:=H5g.out;omega))
        clear H5 H6
        have H5:=HN5;have H6:=HN6
        clear HN5 HN6 hcwdbac hgwdbac hzwdbac
        refine goK hK HBW.out fun hHeld=>?_
        clear hK K
        refine rdH 7 fun K hK=>?_
        · refine z8c (by rfl) 28 (.tmp 6) (.tmp 14) rfl E6 (y.flt.cells t.ways) rfl rfl 28 _ H6.out rfl (by kernel_rfl) Hyo.out ?_
          intro wdbacd hcwdbacd hgwdbacd hzwdbacd
          have HN6:=hcwdbacd
          have HN5:=hd_ (H5.out.keep (hgwdbacd.out.block _ H5.out.lt (by intro e;injection e with e;first | exact Hne.out e | exact Hne.out e.symm)))
          replace HBW:=hd_ (HBW.out.grown hgwdbacd.out HBW.out.size (fun k hk=>by injection hk with hk;have:=H6g.out;omega))
          clear H6 H5
          have H6:=HN6;have H5:=HN5
          clear HN6 HN5 hcwdbacd hgwdbacd hzwdbacd
          refine goK hK HBW.out fun hHeld=>?_
          clear hK K
          refine wpAnyH_done (by kernel_rfl) ?_ _
          go_wp2_with fail
          go_meet
          case rel=>exact ⟨E5,E6,rfl,rfl,H5.out,H6.out,HBW.out⟩
 case rest =>
 obtain ⟨g5,g6,rfl,rfl,h5,h6,hbx⟩:=hcut
 have HB1:=hd_ (z0a HB0.out hbx);have HX1:=hd_ (HX0.out.ext hbx);have HY1:=hd_ (HY0.out.ext hbx);have H5:=hd_ h5;have H6:=hd_ h6
 clear hbx h5 h6 HX0 HY0 HB0
 generalize wc = w1 at *
 have HFS:=hd_ (y4v x.flt y.flt)
 go_upto_region 2 with fail
 go_cut [7] (fun v7 wx=>x4e (decide (x.flt = y.flt)) w1 v7 wx)
 case first =>
  have HEQ:=hd_ (z5x x.flt.ways y.flt.ways _ _ w1 (HXR.out.ways.ext HB1.out) (HYR.out.ways.ext HB1.out))
  rw [show s.ways = .slice xa x.flt.ways.length xn from HXW.out,show t.ways = .slice ya y.flt.ways.length yn from HYW.out] at HEQ
  rw [show s.ways = .slice xa x.flt.ways.length xn from HXW.out] at H5
  rw [show t.ways = .slice ya y.flt.ways.length yn from HYW.out] at H6
  clear HX1 HY1 HXR HYR HSP HXW HYW HB1
  generalize x.flt.ways.length = xm at *
  generalize y.flt.ways.length = ym at *
  generalize x.flt = xf at *
  generalize y.flt = yf at *
  have c0:=H5.out.cell 0;have c1:=H5.out.cell 1;have c2:=H5.out.cell 2;have c3:=H5.out.cell 3;have c4:=H5.out.cell 4;have c5:=H5.out.cell 5;have c6:=H5.out.cell 6;have c7:=H5.out.cell 7
  have d0:=H6.out.cell 0;have d1:=H6.out.cell 1;have d2:=H6.out.cell 2;have d3:=H6.out.cell 3;have d4:=H6.out.cell 4;have d5:=H6.out.cell 5;have d6:=H6.out.cell 6;have d7:=H6.out.cell 7
  clear H5 H6
  obtain ⟨fi,fa,fc,fl,fw,f5,f6,fx⟩:=xf
  obtain ⟨hi,ha,hc,hl,hw,h5,h6,hx⟩:=yf
  change w1.cell? ⟨g5,0,none⟩ = some (.int .i64 fi) at c0
  change w1.cell? ⟨g5,1,none⟩ = some (.int .i64 fa) at c1
  change w1.cell? ⟨g5,2,none⟩ = some (.int .i64 fc) at c2
  change w1.cell? ⟨g5,3,none⟩ = some (.string fl) at c3
  change w1.cell? ⟨g5,4,none⟩ = some (.slice xa xm xn) at c4
  change w1.cell? ⟨g5,5,none⟩ = some (.int .i64 f5) at c5
  change w1.cell? ⟨g5,6,none⟩ = some (.int .i64 f6) at c6
  change w1.cell? ⟨g5,7,none⟩ = some (.bool fx) at c7
  change w1.cell? ⟨g6,0,none⟩ = some (.int .i64 hi) at d0
  change w1.cell? ⟨g6,1,none⟩ = some (.int .i64 ha) at d1
  change w1.cell? ⟨g6,2,none⟩ = some (.int .i64 hc) at d2
  change w1.cell? ⟨g6,3,none⟩ = some (.string hl) at d3
  change w1.cell? ⟨g6,4,none⟩ = some (.slice ya ym yn) at d4
  change w1.cell? ⟨g6,5,none⟩ = some (.int .i64 h5) at d5
  change w1.cell? ⟨g6,6,none⟩ = some (.int .i64 h6) at d6
  change w1.cell? ⟨g6,7,none⟩ = some (.bool hx) at d7
  have HFS:Hid (decide ((⟨fi,fa,fc,fl,fw,f5,f6,fx⟩:Flt) = ⟨hi,ha,hc,hl,hw,h5,h6,hx⟩) = (decide (fi = hi) && decide (fa = ha) && decide (fc = hc) && decide (fl = hl) && (decide (f5 = h5) && decide (f6 = h6)) && decide (fx = hx) && decide (fw = hw))):=HFS.out
  change Hid (Calls Tryz.prog 38 #[.slice xa xm xn,.slice ya ym yn] w1 fun e w'=>e = .returned (.bool (decide (fw = hw)))∧Below w1.heap.size w1 w') at HEQ
  have hgs:=fun (a1 a2:Operand) (W:World)=>j3b .eql a1 a2 f5 f6 h5 h6 W
  obtain ⟨b1,hb1⟩:∃ b,decide (fi = hi) = b:=⟨_,rfl⟩
  obtain ⟨b2,hb2⟩:∃ b,decide (fa = ha) = b:=⟨_,rfl⟩
  obtain ⟨b3,hb3⟩:∃ b,decide (fc = hc) = b:=⟨_,rfl⟩
  obtain ⟨b4,hb4⟩:∃ b,decide (fl = hl) = b:=⟨_,rfl⟩
  obtain ⟨b5,hb5⟩:∃ b,(decide (f5 = h5) && decide (f6 = h6)) = b:=⟨_,rfl⟩
  obtain ⟨b6,hb6⟩:∃ b,decide (fx = hx) = b:=⟨_,rfl⟩
  obtain ⟨b7,hb7⟩:∃ b,decide (fw = hw) = b:=⟨_,rfl⟩
  have HFS:Hid (decide ((⟨fi,fa,fc,fl,fw,f5,f6,fx⟩:Flt) = ⟨hi,ha,hc,hl,hw,h5,h6,hx⟩) = (b1 && b2 && b3 && b4 && b5 && b6 && b7)):=by
   have:=HFS.out;rw [hb1,hb2,hb3,hb4,hb5,hb6,hb7] at this;exact this
  rw [hb7] at HEQ
  have u1:(fi == hi) = b1:=by rw [← hb1];rfl
  have u2:(fa == ha) = b2:=by rw [← hb2];rfl
  have u3:(fc == hc) = b3:=by rw [← hb3];rfl
  have u4:(fl.toList == hl.toList) = b4:=by rw [← hb4];exact x8l _ _
  have heq:∀ W:World,(Op.equalIn 10000 26 (.agg #[.int .i64 f5,.int .i64 f6]) (.agg #[.int .i64 h5,.int .i64 h6])).run Tryz.prog W = .ok b5 W:=fun W=>by rw [j2b,← hb5];rfl
  have u6:(fx == hx) = b6:=by rw [← hb6];cases fx <;> cases hx <;> rfl
  clear hb5 hb7
  go_wp2_with (go_at_call 38;refine HEQ.out.mono ?_;go_loud (rintro e w2 ⟨rfl,hb⟩;have HBE:=hd_ hb;clear hb))
  · (try clear u1 u2 u3 u4 u6 heq hgs hb1 hb2 hb3 hb4 hb6);(try simp only [Bool.not_eq_true] at *);subst_vars;go_meet;case rel=>exact ⟨by first | (rw [HFS.out];rfl) | rfl,by first | exact HBE.out | exact Below.refl _ _⟩
  all_goals (try clear u1 u2 u3 u4 u6 heq hgs hb1 hb2 hb3 hb4 hb6;try simp only [Bool.not_eq_true] at *;subst_vars;go_meet;case rel=>exact ⟨by first | (rw [HFS.out];rfl) | rfl,by first | exact HBE.out | exact Below.refl _ _⟩)
 case rest =>
 obtain ⟨rfl,hbx⟩:=hcut
 have HB2:=hd_ (z0a HB1.out hbx);have HX2:=hd_ (HX1.out.ext hbx);have HY2:=hd_ (HY1.out.ext hbx)
 obtain ⟨b8,hb8⟩:∃ b,decide (x.flt = y.flt) = b:=⟨_,rfl⟩
 rw [hb8] at HSP ⊢
 clear hbx HB1 HX1 HY1 H5 H6 hb8 HFS HXW HYW
 generalize wc = w2 at *
 have HTR:=hd_ (x3q x.tree y.tree _ _ w2 (HXR.out.tree.ext HB2.out) (HYR.out.tree.ext HB2.out))
 obtain ⟨b9,hb9⟩:∃ b,decide (x.tree = y.tree) = b:=⟨_,rfl⟩
 rw [hb9] at HSP HTR
 clear hb9
 have c13:w2.cell? ⟨w.heap.size,13,none⟩ = some s.tree:=HX2.out.cell 13
 have d13:w2.cell? ⟨w.heap.size + 1,13,none⟩ = some t.tree:=HY2.out.cell 13
 go_upto_region 4 with (go_at_call 39;refine HTR.out.mono ?_;go_loud (rintro e w3 ⟨rfl,hb3⟩;have HB3:=hd_ (z0a HB2.out hb3);have HX3:=hd_ (HX2.out.ext hb3);have HY3:=hd_ (HY2.out.ext hb3);clear hb3))
 clear c13 d13 HB2 HX2 HY2 HTR
 have HCS:=hd_ (y5v x.chg y.chg)
 go_cut [9] (fun v9 wx=>x4e (decide (x.chg = y.chg)) w3 v9 wx)
 case first =>
  have HEQ:=hd_ (z5x x.chg.modes y.chg.modes _ _ w3 (HXR.out.modes.ext HB3.out) (HYR.out.modes.ext HB3.out))
  have c14:w3.cell? ⟨w.heap.size,14,none⟩ = some (.int .i64 x.chg.frm):=HX3.out.cell 14
  have d14:w3.cell? ⟨w.heap.size + 1,14,none⟩ = some (.int .i64 y.chg.frm):=HY3.out.cell 14
  have c15:w3.cell? ⟨w.heap.size,15,none⟩ = some (.int .i64 x.chg.cfg):=HX3.out.cell 15
  have d15:w3.cell? ⟨w.heap.size + 1,15,none⟩ = some (.int .i64 y.chg.cfg):=HY3.out.cell 15
  have c16:w3.cell? ⟨w.heap.size,16,none⟩ = some (s.modes):=HX3.out.cell 16
  have d16:w3.cell? ⟨w.heap.size + 1,16,none⟩ = some (t.modes):=HY3.out.cell 16
  obtain ⟨b1,hb1⟩:∃ b,decide (x.chg.frm = y.chg.frm) = b:=⟨_,rfl⟩
  obtain ⟨b2,hb2⟩:∃ b,decide (x.chg.cfg = y.chg.cfg) = b:=⟨_,rfl⟩
  obtain ⟨bl,hbl⟩:∃ b,decide (x.chg.modes = y.chg.modes) = b:=⟨_,rfl⟩
  rw [hb1,hb2,hbl] at HCS
  rw [hbl] at HEQ
  have u1:(x.chg.frm == y.chg.frm) = b1:=by rw [← hb1];rfl
  have u2:(x.chg.cfg == y.chg.cfg) = b2:=by rw [← hb2];rfl
  clear hbl HX3 HY3 HXR HYR HSP HB3
  go_wp2_with (go_at_call 38;refine HEQ.out.mono ?_;go_loud (rintro e w9 ⟨rfl,hb⟩;have HBE:=hd_ hb;clear hb))
  · (try clear u1 u2 hb1 hb2);(try simp only [Bool.not_eq_true] at *);subst_vars;go_meet;case rel=>exact ⟨by first | (rw [HCS.out];rfl) | rfl,by first | exact HBE.out | exact Below.refl _ _⟩
  all_goals (try clear u1 u2 hb1 hb2;try simp only [Bool.not_eq_true] at *;subst_vars;go_meet;case rel=>exact ⟨by first | (rw [HCS.out];rfl) | rfl,by first | exact HBE.out | exact Below.refl _ _⟩)
 case rest =>
 obtain ⟨rfl,hbx⟩:=hcut
 have HB4:=hd_ (z0a HB3.out hbx);have HX4:=hd_ (HX3.out.ext hbx);have HY4:=hd_ (HY3.out.ext hbx)
 obtain ⟨b10,hb10⟩:∃ b,decide (x.chg = y.chg) = b:=⟨_,rfl⟩
 rw [hb10] at HSP ⊢
 clear hbx HB3 HX3 HY3 hb10 HCS
 generalize wc = w4 at *
 go_upto_region 5 with fail
 have HCS:=hd_ (y6v x.stn y.stn)
 go_cut [10] (fun v10 wx=>x4e (decide (x.stn = y.stn)) w4 v10 wx)
 case first =>
  have HEQ:=hd_ (z5x x.stn.vols y.stn.vols _ _ w4 (HXR.out.vols.ext HB4.out) (HYR.out.vols.ext HB4.out))
  have c28:w4.cell? ⟨w.heap.size,28,none⟩ = some (.int .i64 x.stn.sh):=HX4.out.cell 28
  have d28:w4.cell? ⟨w.heap.size + 1,28,none⟩ = some (.int .i64 y.stn.sh):=HY4.out.cell 28
  have c29:w4.cell? ⟨w.heap.size,29,none⟩ = some (.int .i64 x.stn.fa):=HX4.out.cell 29
  have d29:w4.cell? ⟨w.heap.size + 1,29,none⟩ = some (.int .i64 y.stn.fa):=HY4.out.cell 29
  have c27:w4.cell? ⟨w.heap.size,27,none⟩ = some (s.vols):=HX4.out.cell 27
  have d27:w4.cell? ⟨w.heap.size + 1,27,none⟩ = some (t.vols):=HY4.out.cell 27
  obtain ⟨b1,hb1⟩:∃ b,decide (x.stn.sh = y.stn.sh) = b:=⟨_,rfl⟩
  obtain ⟨b2,hb2⟩:∃ b,decide (x.stn.fa = y.stn.fa) = b:=⟨_,rfl⟩
  obtain ⟨bl,hbl⟩:∃ b,decide (x.stn.vols = y.stn.vols) = b:=⟨_,rfl⟩
  rw [hb1,hb2,hbl] at HCS
  rw [hbl] at HEQ
  have u1:(x.stn.sh == y.stn.sh) = b1:=by rw [← hb1];rfl
  have u2:(x.stn.fa == y.stn.fa) = b2:=by rw [← hb2];rfl
  clear hbl HX4 HY4 HXR HYR HSP HB4
  go_wp2_with (go_at_call 38;refine HEQ.out.mono ?_;go_loud (rintro e w9 ⟨rfl,hb⟩;have HBE:=hd_ hb;clear hb))
  · (try clear u1 u2 hb1 hb2);(try simp only [Bool.not_eq_true] at *);subst_vars;go_meet;case rel=>exact ⟨by first | (rw [HCS.out];rfl) | rfl,by first | exact HBE.out | exact Below.refl _ _⟩
  all_goals (try clear u1 u2 hb1 hb2;try simp only [Bool.not_eq_true] at *;subst_vars;go_meet;case rel=>exact ⟨by first | (rw [HCS.out];rfl) | rfl,by first | exact HBE.out | exact Below.refl _ _⟩)
 case rest =>
 obtain ⟨rfl,hbx⟩:=hcut
 have HB5:=hd_ (z0a HB4.out hbx);have HX5:=hd_ (HX4.out.ext hbx);have HY5:=hd_ (HY4.out.ext hbx)
 obtain ⟨b11,hb11⟩:∃ b,decide (x.stn = y.stn) = b:=⟨_,rfl⟩
 rw [hb11] at HSP ⊢
 clear hbx HB4 HX4 HY4 hb11 HCS
 generalize wc = w5 at *
 go_upto_region 6 with fail
 have c0:w5.cell? ⟨w.heap.size,0,none⟩ = some (.int .i64 x.mi):=HX5.out.cell 0
 have d0:w5.cell? ⟨w.heap.size + 1,0,none⟩ = some (.int .i64 y.mi):=HY5.out.cell 0
 have c1:w5.cell? ⟨w.heap.size,1,none⟩ = some (.int .i64 x.ce):=HX5.out.cell 1
 have d1:w5.cell? ⟨w.heap.size + 1,1,none⟩ = some (.int .i64 y.ce):=HY5.out.cell 1
 have c2:w5.cell? ⟨w.heap.size,2,none⟩ = some (.int .i64 x.no):=HX5.out.cell 2
 have d2:w5.cell? ⟨w.heap.size + 1,2,none⟩ = some (.int .i64 y.no):=HY5.out.cell 2
 have c3:w5.cell? ⟨w.heap.size,3,none⟩ = some (.int .i64 x.kind):=HX5.out.cell 3
 have d3:w5.cell? ⟨w.heap.size + 1,3,none⟩ = some (.int .i64 y.kind):=HY5.out.cell 3
 have c4:w5.cell? ⟨w.heap.size,4,none⟩ = some (.string x.text):=HX5.out.cell 4
 have d4:w5.cell? ⟨w.heap.size + 1,4,none⟩ = some (.string y.text):=HY5.out.cell 4
 have c17:w5.cell? ⟨w.heap.size,17,none⟩ = some (.int .i64 x.rep.st):=HX5.out.cell 17
 have d17:w5.cell? ⟨w.heap.size + 1,17,none⟩ = some (.int .i64 y.rep.st):=HY5.out.cell 17
 have c18:w5.cell? ⟨w.heap.size,18,none⟩ = some (.int .i64 x.rep.no):=HX5.out.cell 18
 have d18:w5.cell? ⟨w.heap.size + 1,18,none⟩ = some (.int .i64 y.rep.no):=HY5.out.cell 18
 have c19:w5.cell? ⟨w.heap.size,19,none⟩ = some (.int .i64 x.rep.mi):=HX5.out.cell 19
 have d19:w5.cell? ⟨w.heap.size + 1,19,none⟩ = some (.int .i64 y.rep.mi):=HY5.out.cell 19
 have c20:w5.cell? ⟨w.heap.size,20,none⟩ = some (.int .i64 x.rep.ar):=HX5.out.cell 20
 have d20:w5.cell? ⟨w.heap.size + 1,20,none⟩ = some (.int .i64 y.rep.ar):=HY5.out.cell 20
 have c21:w5.cell? ⟨w.heap.size,21,none⟩ = some (.string x.rep.cl):=HX5.out.cell 21
 have d21:w5.cell? ⟨w.heap.size + 1,21,none⟩ = some (.string y.rep.cl):=HY5.out.cell 21
 have c22:w5.cell? ⟨w.heap.size,22,none⟩ = some (.int .i64 x.rep.vo):=HX5.out.cell 22
 have d22:w5.cell? ⟨w.heap.size + 1,22,none⟩ = some (.int .i64 y.rep.vo):=HY5.out.cell 22
 have c23:w5.cell? ⟨w.heap.size,23,none⟩ = some (.int .i64 x.sts.st):=HX5.out.cell 23
 have d23:w5.cell? ⟨w.heap.size + 1,23,none⟩ = some (.int .i64 y.sts.st):=HY5.out.cell 23
 have c24:w5.cell? ⟨w.heap.size,24,none⟩ = some (.int .i64 x.sts.frm):=HX5.out.cell 24
 have d24:w5.cell? ⟨w.heap.size + 1,24,none⟩ = some (.int .i64 y.sts.frm):=HY5.out.cell 24
 have c25:w5.cell? ⟨w.heap.size,25,none⟩ = some (.bool x.sts.wk):=HX5.out.cell 25
 have d25:w5.cell? ⟨w.heap.size + 1,25,none⟩ = some (.bool y.sts.wk):=HY5.out.cell 25
 have c26:w5.cell? ⟨w.heap.size,26,none⟩ = some (.int .i64 x.n):=HX5.out.cell 26
 have d26:w5.cell? ⟨w.heap.size + 1,26,none⟩ = some (.int .i64 y.n):=HY5.out.cell 26
 have c30:w5.cell? ⟨w.heap.size,30,none⟩ = some (.int .i64 x.sr):=HX5.out.cell 30
 have d30:w5.cell? ⟨w.heap.size + 1,30,none⟩ = some (.int .i64 y.sr):=HY5.out.cell 30
 have c31:w5.cell? ⟨w.heap.size,31,none⟩ = some (.int .i64 x.ss):=HX5.out.cell 31
 have d31:w5.cell? ⟨w.heap.size + 1,31,none⟩ = some (.int .i64 y.ss):=HY5.out.cell 31
 obtain ⟨b1,hb1⟩:∃ b,(x.mi == y.mi && x.ce == y.ce && x.no == y.no) = b:=⟨_,rfl⟩
 obtain ⟨b2,hb2⟩:∃ b,(decide (x.kind = y.kind)) = b:=⟨_,rfl⟩
 obtain ⟨b3,hb3⟩:∃ b,(decide (x.text = y.text)) = b:=⟨_,rfl⟩
 obtain ⟨b4,hb4⟩:∃ b,(j8r x.rep y.rep) = b:=⟨_,rfl⟩
 obtain ⟨b5,hb5⟩:∃ b,(x.sts.st == y.sts.st && x.sts.frm == y.sts.frm && x.sts.wk == y.sts.wk) = b:=⟨_,rfl⟩
 obtain ⟨b6,hb6⟩:∃ b,(decide (x.n = y.n)) = b:=⟨_,rfl⟩
 obtain ⟨b7,hb7⟩:∃ b,(x.sr == y.sr && x.ss == y.ss) = b:=⟨_,rfl⟩
 rw [hb1,hb2,hb3,hb4,hb5,hb6,hb7] at HSP
 have qb1:∀ W:World,(Op.equalIn 10000 23 (.agg #[.int .i64 x.mi,.int .i64 x.ce,.int .i64 x.no]) (.agg #[.int .i64 y.mi,.int .i64 y.ce,.int .i64 y.no])).run Tryz.prog W = .ok b1 W:=fun W=>by rw [← hb1];exact z3k x.mi x.ce x.no y.mi y.ce y.no W
 have gb1:∀ (a1 a2:Operand) (W:World),(eqGuard .eql 23 a1 a2 (.agg #[.int .i64 x.mi,.int .i64 x.ce,.int .i64 x.no]) (.agg #[.int .i64 y.mi,.int .i64 y.ce,.int .i64 y.no])).run Tryz.prog W = .ok () W:=fun a1 a2 W=>z4k .eql a1 a2 x.mi x.ce x.no y.mi y.ce y.no W
 have qb4:∀ W:World,(Op.equalIn 10000 33 (.agg #[.int .i64 x.rep.st,.int .i64 x.rep.no,.int .i64 x.rep.mi,.int .i64 x.rep.ar,.string x.rep.cl,.int .i64 x.rep.vo]) (.agg #[.int .i64 y.rep.st,.int .i64 y.rep.no,.int .i64 y.rep.mi,.int .i64 y.rep.ar,.string y.rep.cl,.int .i64 y.rep.vo])).run Tryz.prog W = .ok b4 W:=fun W=>by rw [← hb4];exact k2h x.rep y.rep W
 have gb4:∀ (a1 a2:Operand) (W:World),(eqGuard .eql 33 a1 a2 (.agg #[.int .i64 x.rep.st,.int .i64 x.rep.no,.int .i64 x.rep.mi,.int .i64 x.rep.ar,.string x.rep.cl,.int .i64 x.rep.vo]) (.agg #[.int .i64 y.rep.st,.int .i64 y.rep.no,.int .i64 y.rep.mi,.int .i64 y.rep.ar,.string y.rep.cl,.int .i64 y.rep.vo])).run Tryz.prog W = .ok () W:=fun a1 a2 W=>k3h .eql a1 a2 x.rep y.rep W
 have qb5:∀ W:World,(Op.equalIn 10000 35 (.agg #[.int .i64 x.sts.st,.int .i64 x.sts.frm,.bool x.sts.wk]) (.agg #[.int .i64 y.sts.st,.int .i64 y.sts.frm,.bool y.sts.wk])).run Tryz.prog W = .ok b5 W:=fun W=>by rw [← hb5];exact y1v x.sts.st x.sts.frm x.sts.wk y.sts.st y.sts.frm y.sts.wk W
 have gb5:∀ (a1 a2:Operand) (W:World),(eqGuard .eql 35 a1 a2 (.agg #[.int .i64 x.sts.st,.int .i64 x.sts.frm,.bool x.sts.wk]) (.agg #[.int .i64 y.sts.st,.int .i64 y.sts.frm,.bool y.sts.wk])).run Tryz.prog W = .ok () W:=fun a1 a2 W=>y2v .eql a1 a2 x.sts.st x.sts.frm x.sts.wk y.sts.st y.sts.frm y.sts.wk W
 have qb7:∀ W:World,(Op.equalIn 10000 39 (.agg #[.int .i64 x.sr,.int .i64 x.ss]) (.agg #[.int .i64 y.sr,.int .i64 y.ss])).run Tryz.prog W = .ok b7 W:=fun W=>by rw [← hb7];exact j5s x.sr x.ss y.sr y.ss W
 have gb7:∀ (a1 a2:Operand) (W:World),(eqGuard .eql 39 a1 a2 (.agg #[.int .i64 x.sr,.int .i64 x.ss]) (.agg #[.int .i64 y.sr,.int .i64 y.ss])).run Tryz.prog W = .ok () W:=fun a1 a2 W=>j6s .eql a1 a2 x.sr x.ss y.sr y.ss W
 have u2:(x.kind == y.kind) = b2:=by rw [← hb2];rfl
 have u3:(x.text.toList == y.text.toList) = b3:=by rw [← hb3];exact x8l _ _
 have u6:(x.n == y.n) = b6:=by rw [← hb6];rfl
 clear hb1 hb4 hb5 hb7 HX5 HY5 HXR HYR
 go_wp2_with fail
 · (try clear u2 u3 u6 qb1 qb4 qb5 qb7 gb1 gb4 gb5 gb7 hb2 hb3 hb6);(try simp only [Bool.not_eq_true] at *);subst_vars;go_ret;exact ⟨by first | (rw [HSP.out];rfl) | rfl,HB5.out⟩
 all_goals (try clear u2 u3 u6 qb1 qb4 qb5 qb7 gb1 gb4 gb5 gb7 hb2 hb3 hb6;try simp only [Bool.not_eq_true] at *;subst_vars;go_ret;exact ⟨by first | (rw [HSP.out];rfl) | rfl,HB5.out⟩)
theorem z1c {B:Nat} {w w1:World} (h:Below B w w1) (n:Nat):Below B w (w1.drewN n):=⟨h.os,h.tape,h.output,h.size,h.block⟩
theorem x4q (a b:List Int) (va vb:Value) (w:World) (ha:z9f nuK w.heap.size w a va) (hb:z9f nuK w.heap.size w b vb) :
 Calls Tryz.prog 110 #[va,vb] w fun e w'=>e = .returned (.bool (decide (a = b)))∧Below w.heap.size w w':=by
 obtain ⟨oa,ca,rfl,la⟩:=ha.shape
 obtain ⟨ob,cb,rfl,lb⟩:=hb.shape
 have HA:=hd_ ha;have HB:=hd_ hb
 obtain ⟨n,hn⟩:∃ n,a.length = n:=⟨_,rfl⟩
 obtain ⟨m,hm⟩:∃ m,b.length = m:=⟨_,rfl⟩
 rw [hn] at HA la;rw [hm] at HB lb
 have l1:(n:Int) ≤ 9223372036854775807:=by omega
 have l2:(m:Int) ≤ 9223372036854775807:=by omega
 rw [hn,hm]
 have HN:=hd_ hn;have HM:=hd_ hm
 clear ha hb hn hm la lb
 go_enter Tryz.func110,Tryz.ntmps110
 by_cases hl:n = m
 case neg =>
  have t1:decide ((n:Int) = (m:Int)) = false:=decide_eq_false (by omega)
  have t2:((n:Int) == (m:Int)) = false:=beq_false_of_ne (by omega)
  have t3:decide (n = m) = false:=decide_eq_false hl
  have hne:decide (a = b) = false:=decide_eq_false (fun e=>hl (by rw [← HN.out,← HM.out,e]))
  have HE:=hd_ hne
  clear hne hl
  go_wp2_with fail
  go_ret
  exact ⟨by rw [HE.out];rfl,Below.refl _ _⟩
 case pos =>
 subst hl
 go_wp2_with fail
 go_loopw [5] (fun vi wr=>x1q a b n w vi wr) (fun vi _=>n - z3e vi)
 case atStart=>exact ⟨0,rfl,by omega,fun j h=>by omega,Below.refl _ _⟩
 case round =>
  obtain ⟨i,rfl,hi,hs,hb⟩:=hrel
  have HS:=hd_ hs;have HBr:=hd_ hb
  clear hs hb
  by_cases hlt:i < n
  case neg =>
   obtain rfl:i = n:=by omega
   have tj:decide ((i:Int) < (i:Int)) = false:=by simp
   have HE:Hid (decide (a = b) = true):=decide_eq_true (z7j (by rw [HN.out,HM.out]) (fun j hj=>HS.out j (by rw [← HN.out];exact hj)))
   go_wp2_with fail
   go_ret
   exact ⟨by rw [HE.out];rfl,HBr.out⟩
  case pos =>
  have tj:decide ((i:Int) < (n:Int)) = true:=by simp;omega
  have tj':decide (i < n) = true:=by simp;omega
  have kb:(i:Int) < (n:Int):=by omega
  obtain ⟨x,hx⟩:∃ x,a[i]? = some x:=⟨_,gE (by rw [HN.out];exact hlt)⟩
  obtain ⟨y,hy⟩:∃ y,b[i]? = some y:=⟨_,gE (by rw [HM.out];exact hlt)⟩
  obtain ⟨ab,ao,rfl⟩:=z7e HA.out (k:=i) (by rw [HN.out];exact hlt)
  obtain ⟨bb,bo,rfl⟩:=z7e HB.out (k:=i) (by rw [HM.out];exact hlt)
  have Hlt:=hd_ hlt;have Hx:=hd_ hx;have Hy:=hd_ hy
  have HNX:Hid (x = y→∀ j,j < i + 1→a[j]? = b[j]?):=fun e j hj=>by
   rcases Nat.lt_succ_iff_lt_or_eq.1 hj with h | h
   · exact HS.out j h
   · rw [h,Hx.out,Hy.out,e]
  have HNE:Hid (x ≠ y→decide (a = b) = false):=fun hne=>decide_eq_false (fun e=>by
   have:=Hx.out;rw [e,Hy.out] at this;injection this with this;exact hne this.symm)
  have c1:=z1a HBr.out (z3l HA.out hx);have c2:=z1a HBr.out (z3l HB.out hy)
  clear hlt hx hy hi
  go_upto_region 6 with fail
  by_cases hxy:x = y
  · subst hxy
    go_quiet (fail)
    have K:Hid (Below w.heap.size w (wr.drewN nq)):=⟨HBr.out.os,HBr.out.tape,HBr.out.output,HBr.out.size,HBr.out.block⟩
    clear c1 c2 HBr
    generalize wr.drewN nq = wA at *
    go_wp2_with fail
    go_roundw
    case rel=>exact ⟨i + 1,by go_num,Hlt.out,HNX.out rfl,K.out⟩
    case measure=>simp [z3e];have:=Hlt.out;omega
  · have u1:decide (x = y) = false:=decide_eq_false hxy
    have u2:(x == y) = false:=beq_false_of_ne hxy
    have HE:=hd_ (HNE.out hxy)
    clear hxy
    go_quiet (fail)
    have K:Hid (Below w.heap.size w (wr.drewN nq)):=⟨HBr.out.os,HBr.out.tape,HBr.out.output,HBr.out.size,HBr.out.block⟩
    clear c1 c2 HBr
    generalize wr.drewN nq = wA at *
    go_wp2_with fail
    go_ret
    exact ⟨by rw [HE.out];rfl,K.out⟩
def y8v (a b:List Int) (n:Nat) (w:World) (g:Nat) (t:TypeId) (cs ds:List Value) (vi:Value) (wr:World):Prop:=∃ i:Nat,vi = .int .i64 (i:Int)∧i ≤ n∧(∀ j,j < i→a[j]? = b[j]?)∧CB wr g t cs∧CB wr (g + 1) t ds∧Below w.heap.size w wr
theorem j5b (p q:Flt) (va vb:Value) (w:World) (ha:z9f nuK w.heap.size w p.ways va) (hb:z9f nuK w.heap.size w q.ways vb) :
 Calls Tryz.prog 47 #[.agg (p.cells va).toArray,.agg (q.cells vb).toArray] w fun e w'=>e = .returned (.bool (decide (p = q)))∧Below w.heap.size w w':=by
 obtain ⟨oa,ca,rfl,la⟩:=ha.shape
 obtain ⟨ob,cb,rfl,lb⟩:=hb.shape
 obtain ⟨n,hn⟩:∃ n,p.ways.length = n:=⟨_,rfl⟩
 obtain ⟨m,hm⟩:∃ m,q.ways.length = m:=⟨_,rfl⟩
 rw [hn] at ha la ⊢
 rw [hm] at hb lb ⊢
 have hb0:Below w.heap.size w ((w.alloc (.cells (p.cells (.slice oa n ca)).toArray 28)).alloc (.cells (q.cells (.slice ob m cb)).toArray 28)):=(z5b (w:=w) (.cells (p.cells (.slice oa n ca)).toArray 28)).alloc (z5b (w:=w) (.cells (p.cells (.slice oa n ca)).toArray 28)).size _
 have hcx:CB ((w.alloc (.cells (p.cells (.slice oa n ca)).toArray 28)).alloc (.cells (q.cells (.slice ob m cb)).toArray 28)) w.heap.size 28 (p.cells (.slice oa n ca)):=(z6a w _ _ _ rfl).alloc _
 have hcy:CB ((w.alloc (.cells (p.cells (.slice oa n ca)).toArray 28)).alloc (.cells (q.cells (.slice ob m cb)).toArray 28)) (w.heap.size + 1) 28 (q.cells (.slice ob m cb)):=by
  have:=z6a (w.alloc (.cells (p.cells (.slice oa n ca)).toArray 28)) (.cells (q.cells (.slice ob m cb)).toArray 28) 28 (q.cells (.slice ob m cb)) rfl
  rwa [sA] at this
 have HB0:=hd_ hb0;have HX:=hd_ hcx;have HY:=hd_ hcy;have HA:=hd_ ha;have HB:=hd_ hb
 have HSP:=hd_ (y4v p q)
 have l1:(n:Int) ≤ 9223372036854775807:=by omega
 have l2:(m:Int) ≤ 9223372036854775807:=by omega
 have HN:=hd_ hn;have HM:=hd_ hm
 clear ha hb hn hm la lb hb0 hcx hcy
 go_enter Tryz.func47,Tryz.ntmps47
 go_upto_region 1 with fail
 change Code.wp _ _ _ _ ((w.alloc (.cells (p.cells (.slice oa n ca)).toArray 28)).alloc (.cells (q.cells (.slice ob m cb)).toArray 28))
 generalize (w.alloc (.cells (p.cells (.slice oa n ca)).toArray 28)).alloc (.cells (q.cells (.slice ob m cb)).toArray 28) = w0 at *
 have p0:w0.cell? ⟨w.heap.size,0,none⟩ = some (.int .i64 p.id):=HX.out.cell 0
 have q0:w0.cell? ⟨w.heap.size + 1,0,none⟩ = some (.int .i64 q.id):=HY.out.cell 0
 have p1:w0.cell? ⟨w.heap.size,1,none⟩ = some (.int .i64 p.air):=HX.out.cell 1
 have q1:w0.cell? ⟨w.heap.size + 1,1,none⟩ = some (.int .i64 q.air):=HY.out.cell 1
 have p2:w0.cell? ⟨w.heap.size,2,none⟩ = some (.int .i64 p.cls):=HX.out.cell 2
 have q2:w0.cell? ⟨w.heap.size + 1,2,none⟩ = some (.int .i64 q.cls):=HY.out.cell 2
 have p3:w0.cell? ⟨w.heap.size,3,none⟩ = some (.string p.call):=HX.out.cell 3
 have q3:w0.cell? ⟨w.heap.size + 1,3,none⟩ = some (.string q.call):=HY.out.cell 3
 have p5:w0.cell? ⟨w.heap.size,5,none⟩ = some (.int .i64 p.wf):=HX.out.cell 5
 have q5:w0.cell? ⟨w.heap.size + 1,5,none⟩ = some (.int .i64 q.wf):=HY.out.cell 5
 have p6:w0.cell? ⟨w.heap.size,6,none⟩ = some (.int .i64 p.wt):=HX.out.cell 6
 have q6:w0.cell? ⟨w.heap.size + 1,6,none⟩ = some (.int .i64 q.wt):=HY.out.cell 6
 have p7:w0.cell? ⟨w.heap.size,7,none⟩ = some (.bool p.can):=HX.out.cell 7
 have q7:w0.cell? ⟨w.heap.size + 1,7,none⟩ = some (.bool q.can):=HY.out.cell 7
 have p4:w0.cell? ⟨w.heap.size,4,none⟩ = some (.slice oa n ca):=HX.out.cell 4
 have q4:w0.cell? ⟨w.heap.size + 1,4,none⟩ = some (.slice ob m cb):=HY.out.cell 4
 obtain ⟨c1,hc1⟩:∃ c,decide (p.id = q.id) = !c:=⟨!decide (p.id = q.id),by simp⟩
 have u1:(p.id == q.id) = !c1:=by rw [← hc1];rfl
 have v1:(p.id != q.id) = c1:=by unfold bne;rw [u1];simp
 obtain ⟨c2,hc2⟩:∃ c,decide (p.air = q.air) = !c:=⟨!decide (p.air = q.air),by simp⟩
 have u2:(p.air == q.air) = !c2:=by rw [← hc2];rfl
 have v2:(p.air != q.air) = c2:=by unfold bne;rw [u2];simp
 obtain ⟨c3,hc3⟩:∃ c,decide (p.cls = q.cls) = !c:=⟨!decide (p.cls = q.cls),by simp⟩
 have u3:(p.cls == q.cls) = !c3:=by rw [← hc3];rfl
 have v3:(p.cls != q.cls) = c3:=by unfold bne;rw [u3];simp
 obtain ⟨c4,hc4⟩:∃ c,decide (p.call = q.call) = !c:=⟨!decide (p.call = q.call),by simp⟩
 have u4:(p.call.toList == q.call.toList) = !c4:=by rw [← hc4];exact x8l _ _
 have v4:(!(p.call.toList == q.call.toList)) = c4:=by rw [u4];simp
 obtain ⟨c5,hc5⟩:∃ c,(decide (p.wf = q.wf) && decide (p.wt = q.wt)) = !c:=⟨!(decide (p.wf = q.wf) && decide (p.wt = q.wt)),by simp⟩
 have v5:∀ W:World,(Op.equalIn 10000 26 (.agg #[.int .i64 p.wf,.int .i64 p.wt]) (.agg #[.int .i64 q.wf,.int .i64 q.wt])).run Tryz.prog W = .ok (!c5) W:=fun W=>by rw [j2b,← hc5];rfl
 have u5:∀ (a1 a2:Operand) (W:World),(eqGuard .neq 26 a1 a2 (.agg #[.int .i64 p.wf,.int .i64 p.wt]) (.agg #[.int .i64 q.wf,.int .i64 q.wt])).run Tryz.prog W = .ok () W:=fun a1 a2 W=>j3b .neq a1 a2 p.wf p.wt q.wf q.wt W
 obtain ⟨c6,hc6⟩:∃ c,decide (p.can = q.can) = !c:=⟨!decide (p.can = q.can),by simp⟩
 have u6:(p.can == q.can) = !c6:=by rw [← hc6];cases p.can <;> cases q.can <;> rfl
 have v6:(p.can != q.can) = c6:=by unfold bne;rw [u6];simp
 obtain ⟨c7,hc7⟩:∃ c,decide (n = m) = !c:=⟨!decide (n = m),by simp⟩
 have u7:((n:Int) == (m:Int)) = !c7:=by rw [← hc7];by_cases h:n = m <;> simp [h] <;> omega
 have v7:((n:Int) != (m:Int)) = c7:=by unfold bne;rw [u7];simp
 have HSP2:Hid (decide (p = q) = (!c1 && !c2 && !c3 && !c4 && !c5 && !c6 && decide (p.ways = q.ways))):=by have:=HSP.out;rw [hc1,hc2,hc3,hc4,hc5,hc6] at this;exact this
 have HLN:Hid (c7 = true→decide (p.ways = q.ways) = false):=fun h=>decide_eq_false (fun e=>by
  rw [h] at hc7
  have:n = m:=by rw [← HN.out,← HM.out,e]
  rw [decide_eq_true this] at hc7;cases hc7)
 by_cases hall:(c1 || c2 || c3 || c4 || c5 || c6 || c7) = true
 case pos =>
  have HALL:=hd_ hall
  have HFA:Hid (decide (p = q) = false):=by
   show _ = _
   rw [HSP2.out]
   have h:=HALL.out
   have hl:=HLN.out
   clear u1 v1 u2 v2 u3 v3 u4 v4 u5 v5 u6 v6 u7 v7 hc1 hc2 hc3 hc4 hc5 hc6 hc7 p0 q0 p1 q1 p2 q2 p3 q3 p5 q5 p6 q6 p7 q7 p4 q4 hall HSP HSP2 HLN HX HY HA HB HB0 HN HM HALL l1 l2
   revert h hl
   generalize decide (p.ways = q.ways) = dd
   intro h hl
   cases c7
   · cases c1 <;> cases c2 <;> cases c3 <;> cases c4 <;> cases c5 <;> cases c6 <;> simp_all
   · rw [hl rfl];simp
  clear hall HSP HSP2 HLN HX HY HA HB HN HM
  go_wp2_with fail
  all_goals first
   | (go_ret;exact ⟨by rw [HFA.out];rfl,HB0.out⟩)
   | (exfalso;have h:=HALL.out;simp_all)
 case neg =>
 have hall':(c1 || c2 || c3 || c4 || c5 || c6 || c7) = false:=by simpa using hall
 simp only [Bool.or_eq_false_iff] at hall'
 obtain ⟨⟨⟨⟨⟨⟨rfl,rfl⟩,rfl⟩,rfl⟩,rfl⟩,rfl⟩,rfl⟩:=hall'
 have hnm:n = m:=by simpa using hc7
 subst hnm
 have HSP3:Hid (decide (p = q) = decide (p.ways = q.ways)):=by show _ = _;rw [HSP2.out];rfl
 clear hall HSP HSP2 HLN hc1 hc2 hc3 hc4 hc5 hc6 hc7
 go_wp2_with fail
 clear u1 v1 u2 v2 u3 v3 u4 v4 u5 v5 u6 v6 u7 v7 p0 q0 p1 q1 p2 q2 p3 q3 p5 q5 p6 q6 p7 q7 p4 q4
 go_loopw [5] (fun vi wr=>y8v p.ways q.ways n w w.heap.size 28 (p.cells (.slice oa n ca)) (q.cells (.slice ob n cb)) vi wr) (fun vi _=>n - z3e vi)
 case atStart=>exact ⟨0,rfl,by omega,fun j h=>by omega,HX.out,HY.out,HB0.out⟩
 case round =>
  obtain ⟨i,rfl,hi,hs,hx,hy,hb⟩:=hrel
  have HS:=hd_ hs;have HBr:=hd_ hb;have HXr:=hd_ hx;have HYr:=hd_ hy
  have p4:wr.cell? ⟨w.heap.size,4,none⟩ = some (.slice oa n ca):=hx.cell 4
  have q4:wr.cell? ⟨w.heap.size + 1,4,none⟩ = some (.slice ob n cb):=hy.cell 4
  clear hs hb hx hy HX HY HB0
  by_cases hlt:i < n
  case neg =>
   obtain rfl:i = n:=by omega
   have tj:decide ((i:Int) < (i:Int)) = false:=by simp
   have HE:Hid (decide (p.ways = q.ways) = true):=decide_eq_true (z7j (by rw [HN.out,HM.out]) (fun j hj=>HS.out j (by rw [← HN.out];exact hj)))
   go_wp2_with fail
   go_ret
   exact ⟨by rw [HSP3.out,HE.out];rfl,HBr.out⟩
  case pos =>
  have tj:decide ((i:Int) < (n:Int)) = true:=by simp;omega
  have tj':decide (i < n) = true:=by simp;omega
  have kb:(i:Int) < (n:Int):=by omega
  obtain ⟨x,hx⟩:∃ x,p.ways[i]? = some x:=⟨_,gE (by rw [HN.out];exact hlt)⟩
  obtain ⟨y,hy⟩:∃ y,q.ways[i]? = some y:=⟨_,gE (by rw [HM.out];exact hlt)⟩
  obtain ⟨ab,ao,rfl⟩:=z7e HA.out (k:=i) (by rw [HN.out];exact hlt)
  obtain ⟨bb,bo,rfl⟩:=z7e HB.out (k:=i) (by rw [HM.out];exact hlt)
  have Hlt:=hd_ hlt;have Hx:=hd_ hx;have Hy:=hd_ hy
  have HNX:Hid (x = y→∀ j,j < i + 1→p.ways[j]? = q.ways[j]?):=fun e j hj=>by
   rcases Nat.lt_succ_iff_lt_or_eq.1 hj with h | h
   · exact HS.out j h
   · rw [h,Hx.out,Hy.out,e]
  have HNE:Hid (x ≠ y→decide (p.ways = q.ways) = false):=fun hne=>decide_eq_false (fun e=>by
   have:=Hx.out;rw [e,Hy.out] at this;injection this with this;exact hne this.symm)
  have c1:=z1a HBr.out (z3l HA.out hx);have c2:=z1a HBr.out (z3l HB.out hy)
  clear hlt hx hy hi
  go_upto_region 6 with fail
  by_cases hxy:x = y
  · subst hxy
    go_quiet (fail)
    have K:Hid (Below w.heap.size w (wr.drewN nq)):=z1c HBr.out nq
    have KX:Hid (CB (wr.drewN nq) w.heap.size 28 (p.cells (.slice (some ⟨ab,ao,none⟩) n ca))):=HXr.out
    have KY:Hid (CB (wr.drewN nq) (w.heap.size + 1) 28 (q.cells (.slice (some ⟨bb,bo,none⟩) n cb))):=HYr.out
    clear c1 c2 HBr HXr HYr p4 q4
    generalize wr.drewN nq = wA at *
    go_wp2_with fail
    go_roundw
    case rel=>exact ⟨i + 1,by go_num,Hlt.out,HNX.out rfl,KX.out,KY.out,K.out⟩
    case measure=>simp [z3e];have:=Hlt.out;omega
  · have u1:decide (x = y) = false:=decide_eq_false hxy
    have u2:(x == y) = false:=beq_false_of_ne hxy
    have HE:=hd_ (HNE.out hxy)
    clear hxy
    go_quiet (fail)
    have K:Hid (Below w.heap.size w (wr.drewN nq)):=z1c HBr.out nq
    clear c1 c2 HBr p4 q4
    generalize wr.drewN nq = wA at *
    go_wp2_with fail
    go_ret
    exact ⟨by rw [HSP3.out,HE.out];rfl,K.out⟩
def y9v (a b:List Int) (n:Nat) (w:World) (g:Nat) (t:TypeId) (cs ds:List Value) (vi:Value) (wr:World):Prop:=∃ i:Nat,vi = .int .i64 (i:Int)∧i ≤ n∧(∀ j,j < i→a[j]? = b[j]?)∧CB wr g t cs∧CB wr (g + 1) t ds∧Below w.heap.size w wr
theorem j6b (p q:Chg) (va vb:Value) (w:World) (ha:z9f nuK w.heap.size w p.modes va) (hb:z9f nuK w.heap.size w q.modes vb) :
 Calls Tryz.prog 49 #[.agg (p.cells va).toArray,.agg (q.cells vb).toArray] w fun e w'=>e = .returned (.bool (decide (p = q)))∧Below w.heap.size w w':=by
 obtain ⟨oa,ca,rfl,la⟩:=ha.shape
 obtain ⟨ob,cb,rfl,lb⟩:=hb.shape
 obtain ⟨n,hn⟩:∃ n,p.modes.length = n:=⟨_,rfl⟩
 obtain ⟨m,hm⟩:∃ m,q.modes.length = m:=⟨_,rfl⟩
 rw [hn] at ha la ⊢
 rw [hm] at hb lb ⊢
 have hb0:Below w.heap.size w ((w.alloc (.cells (p.cells (.slice oa n ca)).toArray 31)).alloc (.cells (q.cells (.slice ob m cb)).toArray 31)):=(z5b (w:=w) (.cells (p.cells (.slice oa n ca)).toArray 31)).alloc (z5b (w:=w) (.cells (p.cells (.slice oa n ca)).toArray 31)).size _
 have hcx:CB ((w.alloc (.cells (p.cells (.slice oa n ca)).toArray 31)).alloc (.cells (q.cells (.slice ob m cb)).toArray 31)) w.heap.size 31 (p.cells (.slice oa n ca)):=(z6a w _ _ _ rfl).alloc _
 have hcy:CB ((w.alloc (.cells (p.cells (.slice oa n ca)).toArray 31)).alloc (.cells (q.cells (.slice ob m cb)).toArray 31)) (w.heap.size + 1) 31 (q.cells (.slice ob m cb)):=by
  have:=z6a (w.alloc (.cells (p.cells (.slice oa n ca)).toArray 31)) (.cells (q.cells (.slice ob m cb)).toArray 31) 31 (q.cells (.slice ob m cb)) rfl
  rwa [sA] at this
 have HB0:=hd_ hb0;have HX:=hd_ hcx;have HY:=hd_ hcy;have HA:=hd_ ha;have HB:=hd_ hb
 have HSP:=hd_ (y5v p q)
 have l1:(n:Int) ≤ 9223372036854775807:=by omega
 have l2:(m:Int) ≤ 9223372036854775807:=by omega
 have HN:=hd_ hn;have HM:=hd_ hm
 clear ha hb hn hm la lb hb0 hcx hcy
 go_enter Tryz.func49,Tryz.ntmps49
 go_upto_region 1 with fail
 change Code.wp _ _ _ _ ((w.alloc (.cells (p.cells (.slice oa n ca)).toArray 31)).alloc (.cells (q.cells (.slice ob m cb)).toArray 31))
 generalize (w.alloc (.cells (p.cells (.slice oa n ca)).toArray 31)).alloc (.cells (q.cells (.slice ob m cb)).toArray 31) = w0 at *
 have p0:w0.cell? ⟨w.heap.size,0,none⟩ = some (.int .i64 p.frm):=HX.out.cell 0
 have q0:w0.cell? ⟨w.heap.size + 1,0,none⟩ = some (.int .i64 q.frm):=HY.out.cell 0
 have p1:w0.cell? ⟨w.heap.size,1,none⟩ = some (.int .i64 p.cfg):=HX.out.cell 1
 have q1:w0.cell? ⟨w.heap.size + 1,1,none⟩ = some (.int .i64 q.cfg):=HY.out.cell 1
 have p2:w0.cell? ⟨w.heap.size,2,none⟩ = some (.slice oa n ca):=HX.out.cell 2
 have q2:w0.cell? ⟨w.heap.size + 1,2,none⟩ = some (.slice ob m cb):=HY.out.cell 2
 obtain ⟨c1,hc1⟩:∃ c,decide (p.frm = q.frm) = !c:=⟨!decide (p.frm = q.frm),by simp⟩
 have u1:(p.frm == q.frm) = !c1:=by rw [← hc1];rfl
 have v1:(p.frm != q.frm) = c1:=by unfold bne;rw [u1];simp
 obtain ⟨c2,hc2⟩:∃ c,decide (p.cfg = q.cfg) = !c:=⟨!decide (p.cfg = q.cfg),by simp⟩
 have u2:(p.cfg == q.cfg) = !c2:=by rw [← hc2];rfl
 have v2:(p.cfg != q.cfg) = c2:=by unfold bne;rw [u2];simp
 obtain ⟨c3,hc3⟩:∃ c,decide (n = m) = !c:=⟨!decide (n = m),by simp⟩
 have u3:((n:Int) == (m:Int)) = !c3:=by rw [← hc3];by_cases h:n = m <;> simp [h] <;> omega
 have v3:((n:Int) != (m:Int)) = c3:=by unfold bne;rw [u3];simp
 have HSP2:Hid (decide (p = q) = (!c1 && !c2 && decide (p.modes = q.modes))):=by have:=HSP.out;rw [hc1,hc2] at this;exact this
 have HLN:Hid (c3 = true→decide (p.modes = q.modes) = false):=fun h=>decide_eq_false (fun e=>by
  rw [h] at hc3
  have:n = m:=by rw [← HN.out,← HM.out,e]
  rw [decide_eq_true this] at hc3;cases hc3)
 by_cases hall:(c1 || c2 || c3) = true
 case pos =>
  have HALL:=hd_ hall
  have HFA:Hid (decide (p = q) = false):=by
   show _ = _
   rw [HSP2.out]
   have h:=HALL.out
   have hl:=HLN.out
   clear u1 v1 u2 v2 u3 v3 hc1 hc2 hc3 p0 q0 p1 q1 p2 q2 hall HSP HSP2 HLN HX HY HA HB HB0 HN HM HALL l1 l2
   revert h hl
   generalize decide (p.modes = q.modes) = dd
   intro h hl
   cases c3
   · cases c1 <;> cases c2 <;> simp_all
   · rw [hl rfl];simp
  clear hall HSP HSP2 HLN HX HY HA HB HN HM
  go_wp2_with fail
  all_goals first
   | (go_ret;exact ⟨by rw [HFA.out];rfl,HB0.out⟩)
   | (exfalso;have h:=HALL.out;simp_all)
 case neg =>
 have hall':(c1 || c2 || c3) = false:=by simpa using hall
 simp only [Bool.or_eq_false_iff] at hall'
 obtain ⟨⟨rfl,rfl⟩,rfl⟩:=hall'
 have hnm:n = m:=by simpa using hc3
 subst hnm
 have HSP3:Hid (decide (p = q) = decide (p.modes = q.modes)):=by show _ = _;rw [HSP2.out];rfl
 clear hall HSP HSP2 HLN hc1 hc2 hc3
 go_wp2_with fail
 clear u1 v1 u2 v2 u3 v3 p0 q0 p1 q1 p2 q2
 go_loopw [5] (fun vi wr=>y9v p.modes q.modes n w w.heap.size 31 (p.cells (.slice oa n ca)) (q.cells (.slice ob n cb)) vi wr) (fun vi _=>n - z3e vi)
 case atStart=>exact ⟨0,rfl,by omega,fun j h=>by omega,HX.out,HY.out,HB0.out⟩
 case round =>
  obtain ⟨i,rfl,hi,hs,hx,hy,hb⟩:=hrel
  have HS:=hd_ hs;have HBr:=hd_ hb;have HXr:=hd_ hx;have HYr:=hd_ hy
  have p2:wr.cell? ⟨w.heap.size,2,none⟩ = some (.slice oa n ca):=hx.cell 2
  have q2:wr.cell? ⟨w.heap.size + 1,2,none⟩ = some (.slice ob n cb):=hy.cell 2
  clear hs hb hx hy HX HY HB0
  by_cases hlt:i < n
  case neg =>
   obtain rfl:i = n:=by omega
   have tj:decide ((i:Int) < (i:Int)) = false:=by simp
   have HE:Hid (decide (p.modes = q.modes) = true):=decide_eq_true (z7j (by rw [HN.out,HM.out]) (fun j hj=>HS.out j (by rw [← HN.out];exact hj)))
   go_wp2_with fail
   go_ret
   exact ⟨by rw [HSP3.out,HE.out];rfl,HBr.out⟩
  case pos =>
  have tj:decide ((i:Int) < (n:Int)) = true:=by simp;omega
  have tj':decide (i < n) = true:=by simp;omega
  have kb:(i:Int) < (n:Int):=by omega
  obtain ⟨x,hx⟩:∃ x,p.modes[i]? = some x:=⟨_,gE (by rw [HN.out];exact hlt)⟩
  obtain ⟨y,hy⟩:∃ y,q.modes[i]? = some y:=⟨_,gE (by rw [HM.out];exact hlt)⟩
  obtain ⟨ab,ao,rfl⟩:=z7e HA.out (k:=i) (by rw [HN.out];exact hlt)
  obtain ⟨bb,bo,rfl⟩:=z7e HB.out (k:=i) (by rw [HM.out];exact hlt)
  have Hlt:=hd_ hlt;have Hx:=hd_ hx;have Hy:=hd_ hy
  have HNX:Hid (x = y→∀ j,j < i + 1→p.modes[j]? = q.modes[j]?):=fun e j hj=>by
   rcases Nat.lt_succ_iff_lt_or_eq.1 hj with h | h
   · exact HS.out j h
   · rw [h,Hx.out,Hy.out,e]
  have HNE:Hid (x ≠ y→decide (p.modes = q.modes) = false):=fun hne=>decide_eq_false (fun e=>by
   have:=Hx.out;rw [e,Hy.out] at this;injection this with this;exact hne this.symm)
  have c1:=z1a HBr.out (z3l HA.out hx);have c2:=z1a HBr.out (z3l HB.out hy)
  clear hlt hx hy hi
  go_upto_region 6 with fail
  by_cases hxy:x = y
  · subst hxy
    go_quiet (fail)
    have K:Hid (Below w.heap.size w (wr.drewN nq)):=z1c HBr.out nq
    have KX:Hid (CB (wr.drewN nq) w.heap.size 31 (p.cells (.slice (some ⟨ab,ao,none⟩) n ca))):=HXr.out
    have KY:Hid (CB (wr.drewN nq) (w.heap.size + 1) 31 (q.cells (.slice (some ⟨bb,bo,none⟩) n cb))):=HYr.out
    clear c1 c2 HBr HXr HYr p2 q2
    generalize wr.drewN nq = wA at *
    go_wp2_with fail
    go_roundw
    case rel=>exact ⟨i + 1,by go_num,Hlt.out,HNX.out rfl,KX.out,KY.out,K.out⟩
    case measure=>simp [z3e];have:=Hlt.out;omega
  · have u1:decide (x = y) = false:=decide_eq_false hxy
    have u2:(x == y) = false:=beq_false_of_ne hxy
    have HE:=hd_ (HNE.out hxy)
    clear hxy
    go_quiet (fail)
    have K:Hid (Below w.heap.size w (wr.drewN nq)):=z1c HBr.out nq
    clear c1 c2 HBr p2 q2
    generalize wr.drewN nq = wA at *
    go_wp2_with fail
    go_ret
    exact ⟨by rw [HSP3.out,HE.out];rfl,K.out⟩
theorem j7b (p q:Stn) (va vb:Value) (w:World) (ha:z9f nuK w.heap.size w p.vols va) (hb:z9f nuK w.heap.size w q.vols vb) :
 Calls Tryz.prog 50 #[.agg (p.cells va).toArray,.agg (q.cells vb).toArray] w fun e w'=>e = .returned (.bool (decide (p = q)))∧Below w.heap.size w w':=by
 have hb0:Below w.heap.size w ((w.alloc (.cells (p.cells va).toArray 37)).alloc (.cells (q.cells vb).toArray 37)):=(z5b (w:=w) (.cells (p.cells va).toArray 37)).alloc (z5b (w:=w) (.cells (p.cells va).toArray 37)).size _
 have hcx:CB ((w.alloc (.cells (p.cells va).toArray 37)).alloc (.cells (q.cells vb).toArray 37)) w.heap.size 37 (p.cells va):=(z6a w _ _ _ rfl).alloc _
 have hcy:CB ((w.alloc (.cells (p.cells va).toArray 37)).alloc (.cells (q.cells vb).toArray 37)) (w.heap.size + 1) 37 (q.cells vb):=by
  have:=z6a (w.alloc (.cells (p.cells va).toArray 37)) (.cells (q.cells vb).toArray 37) 37 (q.cells vb) rfl
  rwa [sA] at this
 have HB0:=hd_ hb0
 have HEQ:=hd_ (x4q p.vols q.vols va vb _ (ha.ext hb0) (hb.ext hb0))
 have HSP:=hd_ (y6v p q)
 have p0:=hcx.cell 0;have p1:=hcx.cell 1;have p2:=hcx.cell 2;have q0:=hcy.cell 0;have q1:=hcy.cell 1;have q2:=hcy.cell 2
 change _ = some va at p0;change _ = some (Value.int .i64 p.sh) at p1;change _ = some (Value.int .i64 p.fa) at p2;change _ = some vb at q0;change _ = some (Value.int .i64 q.sh) at q1;change _ = some (Value.int .i64 q.fa) at q2
 obtain ⟨b1,hb1⟩:∃ b,decide (p.sh = q.sh) = b:=⟨_,rfl⟩
 obtain ⟨b2,hb2⟩:∃ b,decide (p.fa = q.fa) = b:=⟨_,rfl⟩
 obtain ⟨b3,hb3⟩:∃ b,decide (p.vols = q.vols) = b:=⟨_,rfl⟩
 rw [hb1,hb2,hb3] at HSP
 rw [hb3] at HEQ
 have u1:(p.sh == q.sh) = b1:=by rw [← hb1];rfl
 have u2:(p.fa == q.fa) = b2:=by rw [← hb2];rfl
 clear ha hb hb0 hcx hcy hb1 hb2 hb3
 go_enter Tryz.func50,Tryz.ntmps50
 go_upto_region 1 with fail
 change Code.wp _ _ _ _ ((w.alloc (.cells (p.cells va).toArray 37)).alloc (.cells (q.cells vb).toArray 37))
 generalize (w.alloc (.cells (p.cells va).toArray 37)).alloc (.cells (q.cells vb).toArray 37) = w0 at *
 go_wp2_with (go_at_call 110;refine HEQ.out.mono ?_;go_loud (rintro e w9 ⟨rfl,hb⟩;have HBE:=hd_ (z0a HB0.out hb);clear hb))
 · (try clear u1 u2);(try simp only [Bool.not_eq_true] at *);subst_vars;go_ret;exact ⟨by first | (rw [HSP.out];rfl) | rfl,by first | exact HBE.out | exact HB0.out⟩
 all_goals (try clear u1 u2;try simp only [Bool.not_eq_true] at *;subst_vars;go_ret;exact ⟨by first | (rw [HSP.out];rfl) | rfl,by first | exact HBE.out | exact HB0.out⟩)
end Go.Proofs.YtdblnbnofjggnaaGreatDoor
