/- Parts of the proofs of chapter 49's laws. -/
import Derived.Test.YtdblnbnofjggnaaGreatDoorP37
set_option maxHeartbeats 16000000
set_option maxRecDepth 100000
open Go.Lib renaming hid → hd_
open List renaming mem_cons → mC, not_mem_nil → nM, setIfInBounds_toArray → aS, set_cons_zero → aZ, set_cons_succ → aU
open Nat renaming lt_of_lt_of_le → lL
open Go.Value renaming int → J, slice → I, bool → E, pointer → F, agg → C
open Go.IntKind renaming i64 → X
open Go.Obj renaming cells → Q
open Option renaming none → Y, some → Z
open Bool renaming true → U, false → T
open Go renaming World → O, Value → R
open Go.RowKit renaming Below → M, Hid → G
set_option linter.all false
namespace Go.Proofs.YtdblnbnofjggnaaGreatDoor
open Go.Proofs.Tryz
open Go.RowKit
structure InpL (x:Inp):Prop where
 ways:x.flt.ways.length≤1000000
 tree:x.tree.length≤1000000
 cuts:∀ n∈x.tree,n.cuts.length≤1000000
 modes:x.chg.modes.length≤1000000
 vols:x.stn.vols.length≤1000000
def k8z (x:Inp) (w:O) (e:Ending) (w':O):Prop:=∃ lv,e=.returned (C (lvC lv).toArray)∧z1j (fun _=>False) w.heap.size w' lv (z8e x)∧M w.heap.size w w'
def ZFc:List R:=j5s.cells (I Y 0 0)
def ZRc:List R:=rpZ.cells
def v8f (x:Inp) (s:Slc) (w0:O) (v3 v4 v5:R) (wx:O):Prop :=
 ∃ g3 g4 g5:Nat,v3=F (Z ⟨g3,0,Y⟩)∧v4=F (Z ⟨g4,0,Y⟩)∧v5=F (Z ⟨g5,0,Y⟩)∧CB wx g3 28 (x.flt.cells s.ways)∧CB wx g4 33 x.rep.cells∧CB wx g5 80 (lvC (I Y 0 0)) ∧
  w0.heap.size≤g3∧w0.heap.size≤g4∧w0.heap.size≤g5∧M w0.heap.size w0 wx
def G1 (B:Nat) (k:Nat) (v:R) (w:O):Prop :=
 (k=4→v=C (lvC (I Y 0 0)).toArray)∧(k=5→∃ g,v=F (Z ⟨g,0,Y⟩)∧CB w g 28 ZFc∧B≤g)∧(k=6→∃ g,v=F (Z ⟨g,0,Y⟩)∧CB w g 33 ZRc∧B≤g)∧(k=7→∃ g,v=F (Z ⟨g,0,Y⟩)∧CB w g 80 Z4c∧B≤g)
theorem G1.keep {B k:Nat} {v:Value} {w w':O} (h:G1 B k v w) (hb:M w.heap.size w w'):G1 B k v w':=by
 obtain ⟨h1,h2,h3,h4⟩:=h
 exact ⟨h1,fun e=>by obtain ⟨g,a,b,c⟩:=h2 e;exact ⟨g,a,b.ext hb,c⟩,fun e=>by obtain ⟨g,a,b,c⟩:=h3 e;exact ⟨g,a,b.ext hb,c⟩,fun e=>by obtain ⟨g,a,b,c⟩:=h4 e;exact ⟨g,a,b.ext hb,c⟩⟩
theorem z5q {w:O} {g:Nat} {t t':TypeId} {cs mP:List Value} (h:CB w g t cs) (h':CB w g t' mP):t=t':=by
 unfold CB at h h'
 rw [h] at h'
 injection h' with h'
 injection h' with _ h' _
theorem j0z {w:O} {g:Nat} {x:Inp} {s:Slc} (h:CB w g 41 (x.cells s)):w.rangeAt g 17 x.rep.cells:=fun j v hv=>by
 rw [h.cell]
 exact z5d (B:=x.rep.cells) 17 (by rfl) j v hv
theorem j1z (r:Rp):∀ u∈r.cells,u.oneCell'=U:=by
 intro u hu
 simp only [Rp.cells,mC,nM,or_false] at hu
 rcases hu with rfl|rfl|rfl|rfl|rfl|rfl <;> rfl
theorem z3r.up {D D':Nat→Prop} {w:O} {l:List It} {v:Value} (h:z3r D w l v) (hB:∀ k,D k→D' k):z3r D' w l v:=by
 refine ⟨fun t ht=>?_,h.2⟩
 have:=h.1 t ht
 cases t with
 | val x lx=>exact z0z.keep this hB (fun _ _=>rfl)
 | _=>exact this
def k9z (x:Inp) (B g3 g4 _g5:Nat) (ow om ov:Option Addr) (cw cm cv:Nat):List GK :=
 [.p B 0,.p B 0,.i x.mi,.f x.mi,.p B 0,.p B 1,.i x.ce,.f x.ce,.p B 0,.p B 2,.i x.no,.f x.no,(.its [.num x.mi,.num x.ce,.num x.no]),(.val (lV [iV x.mi,iV x.ce,iV x.no])),(.ifv (lV [iV x.mi,iV x.ce,iV x.no])),.p B 3,.i x.kind,.f x.kind,.p B 4,(.eq (.string x.text)),(.eq (.iface 9 (.string x.text))),.p g3 0,.i x.flt.id,.f x.flt.id,.p g3 1,.i x.flt.air,.f x.flt.air,.p g3 2,.i x.flt.cls,.f x.flt.cls,.p g3 3,(.eq (.string x.flt.call)),(.eq (.iface 9 (.string x.flt.call))),.p g3 4,(.eq ((I ow x.flt.ways.length cw))),(.eq (.iface 24 ((I ow x.flt.ways.length cw)))),.p g3 5,(.eq (.agg #[.int X x.flt.wf,.int X x.flt.wt])),(.eq (.iface 26 (.agg #[.int X x.flt.wf,.int X x.flt.wt]))),.p g3 7,(.eq (.bool x.flt.can)),(.eq (.iface 4 (.bool x.flt.can))),(.its [.num x.flt.id,.num x.flt.air,.num x.flt.cls,.txt x.flt.call,.nums x.flt.ways (I ow x.flt.ways.length cw),.span x.flt.wf x.flt.wt,.flag x.flt.can]),(.val (lV (y0n x.flt))),(.ifv (lV (y0n x.flt))),(.val (lV (x.tree.map z5j))),(.ifv (lV (x.tree.map z5j))),.p B 14,.p B 14,.i x.chg.frm,.f x.chg.frm,.p B 14,.p B 15,.i x.chg.cfg,.f x.chg.cfg,.p B 14,.p B 16,(.eq ((I om x.chg.modes.length cm))),(.eq (.iface 24 ((I om x.chg.modes.length cm)))),(.its [.num x.chg.frm,.num x.chg.cfg,.nums x.chg.modes (I om x.chg.modes.length cm)]),(.val (lV [iV x.chg.frm,iV x.chg.cfg,nsV x.chg.modes])),(.ifv (lV [iV x.chg.frm,iV x.chg.cfg,nsV x.chg.modes])),.p g4 0,.i x.rep.st,.f x.rep.st,.p g4 1,.i x.rep.no,.f x.rep.no,.p g4 2,.i x.rep.mi,.f x.rep.mi,.p g4 3,.i x.rep.ar,.f x.rep.ar,.p g4 4,(.eq (.string x.rep.cl)),(.eq (.iface 9 (.string x.rep.cl))),.p g4 5,.i x.rep.vo,.f x.rep.vo,(.its [.num x.rep.st,.num x.rep.no,.num x.rep.mi,.num x.rep.ar,.txt x.rep.cl,.num x.rep.vo]),(.val (lV (z1p x.rep))),(.ifv (lV (z1p x.rep))),.p B 23,.p B 23,.i x.sts.st,.f x.sts.st,.p B 23,.p B 24,.i x.sts.frm,.f x.sts.frm,.p B 23,.p B 25,(.eq (.bool x.sts.wk)),(.eq (.iface 4 (.bool x.sts.wk))),(.its [.num x.sts.st,.num x.sts.frm,.flag x.sts.wk]),(.val (lV [iV x.sts.st,iV x.sts.frm,bV x.sts.wk])),(.ifv (lV [iV x.sts.st,iV x.sts.frm,bV x.sts.wk])),.p B 26,.i x.n,.f x.n,.p B 27,.p B 27,(.eq ((I ov x.stn.vols.length cv))),(.eq (.iface 24 ((I ov x.stn.vols.length cv)))),.p B 27,.p B 28,.i x.stn.sh,.f x.stn.sh,.p B 27,.p B 29,.i x.stn.fa,.f x.stn.fa,(.its [.nums x.stn.vols (I ov x.stn.vols.length cv),.num x.stn.sh,.num x.stn.fa]),(.val (lV [nsV x.stn.vols,iV x.stn.sh,iV x.stn.fa])),(.ifv (lV [nsV x.stn.vols,iV x.stn.sh,iV x.stn.fa])),(.itx (z8e x)),(.own (z8e x))]
def k1s (x:Inp) (W1:O) (g5:Nat) (i:R) (wr:O):Prop :=
 ∃ (xs:List V) (lv:R),xs=(x.tree.take xs.length).map z5j∧xs.length≤x.tree.length∧i=J X (xs.length:Int)∧CB wr g5 80 (lvC lv)∧z1j (fun _=>False) W1.heap.size wr lv xs∧W1.grownBy wr (Z g5)
def k2s (t:Nod) (wo:O) (cs:List R) (g8:Nat) (i:R) (wr:O):Prop :=
 ∃ (xs:List V) (lv:R),xs=(t.cuts.take xs.length).map z0p∧xs.length≤t.cuts.length∧i=J X (xs.length:Int)∧CB wr g8 80 (lvC lv)∧z1j (fun _=>False) (g8+1) wr lv xs∧CB wr wo.heap.size 48 cs∧M wo.heap.size wo wr
theorem x9p {α:Type} {f:α→V} {l:List α} {xs:List V} {c:α} (hc:l[xs.length]? = Z c) (hx:xs=(l.take xs.length).map f):xs++[f c]=(l.take (xs++[f c]).length).map f:=by
 rw [List.length_append,List.length_singleton,List.take_add_one,hc]
 simp [← hx]
theorem x9v {t:Nod} {wo w9:O} {cs:List Value} {g8:Nat} {xs:List V} {lv:Value} {c:Cut} {oa:Option Addr} {cp:Nat} (hc:t.cuts[xs.length]? = Z c) (hx:xs=(t.cuts.take xs.length).map z0p) (hT:CB w9 g8 80 (lvC lv))
 (hO:z1j (fun _=>False) (g8+1) w9 (I oa (xs.length+1) cp) (xs++[z0p c])) (h7:CB w9 wo.heap.size 48 cs) (hb:M wo.heap.size wo w9) (hg:wo.heap.size<g8) :
 k2s t wo cs g8 (J X ((xs.length:Int)+1)) (w9.setCell ⟨g8,3,Y⟩ (I oa (xs.length+1) cp)):=by
 have hl:(xs++[z0p c]).length=xs.length+1:=by simp
 have hlt:=(List.getElem?_eq_some_iff.1 hc).1
 refine ⟨xs++[z0p c],I oa (xs.length+1) cp,x9p hc hx,by omega,by rw [hl];simp,hT.set 3 _,hO.set (by omega) (fun h=>h) 3 _,h7.far (by show wo.heap.size≠g8;omega) _,hb.grown (z6b w9 _ 3 _) hb.size (fun k hk=>by injection hk with hk;omega)⟩
theorem x0w {x:Inp} {W1 w9:O} {g5:Nat} {xs:List V} {lv:Value} {t:Nod} {oa:Option Addr} {cp:Nat} (hc:x.tree[xs.length]? = Z t) (hx:xs=(x.tree.take xs.length).map z5j) (hT:CB w9 g5 80 (lvC lv))
 (hO:z1j (fun _=>False) W1.heap.size w9 (I oa (xs.length+1) cp) (xs++[z5j t])) (h1:W1.grownBy w9 (Z g5)) (hg:g5<W1.heap.size) :
 k1s x W1 g5 (J X ((xs.length:Int)+1)) (w9.setCell ⟨g5,3,Y⟩ (I oa (xs.length+1) cp)):=by
 have hl:(xs++[z5j t]).length=xs.length+1:=by simp
 have hlt:=(List.getElem?_eq_some_iff.1 hc).1
 exact ⟨xs++[z5j t],I oa (xs.length+1) cp,x9p hc hx,by omega,by rw [hl];simp,hT.set 3 _,hO.set hg (fun h=>h) 3 _,z2a h1 (z6b w9 _ 3 _) (.inl rfl)⟩
theorem y0c (x:Inp) (s:Slc) (w:O) (hx:InpR w x s) (hi:InpI x) (hl:InpL x):Calls prog 35 #[x.v s] w (k8z x w):=by
 have ax:M w.heap.size w ((w.alloc (bI x s)).alloc Z4):=(z4b (w:=w) (bI x s)).alloc (z4b (w:=w) (bI x s)).size _
 have hcx:CB ((w.alloc (bI x s)).alloc Z4) w.heap.size 41 (x.cells s):=(z3a w (bI x s) _ _ rfl).alloc _
 have bY:CB ((w.alloc (bI x s)).alloc Z4) (w.heap.size+1) 80 Z4c:=by
  have:=z3a (w.alloc (bI x s)) Z4 80 Z4c rfl
  rwa [World.size_alloc] at this
 have HI:=hd_ hcx;have H2:=hd_ bY;have az:=hd_ ax;have aY:=hd_ hx;have Hi:=hd_ hi;have Hl:=hd_ hl
 have HFo:G (∀ u∈x.flt.cells s.ways,u.oneCell'=U):=y0q x.flt s.ways (by obtain ⟨oa,cap,e,_⟩:=hx.ways.shape;rw [e];rfl)
 have HL2:G (w.heap.size+1<((w.alloc (bI x s)).alloc Z4).heap.size):=bY.lt
 have HL0:G (w.heap.size<((w.alloc (bI x s)).alloc Z4).heap.size):=hcx.lt
 clear ax hcx bY hx hi hl
 change Calls prog 35 #[C (x.cells s).toArray] w _
 go_enter func35,ntmps35
 go_upto_region 1 with fail
 change Code.wp _ _ _ _ ((w.alloc (bI x s)).alloc Z4)
 generalize (w.alloc (bI x s)).alloc Z4=w0 at *
 go_cut [3,4,5] (fun v3 v4 v5 wx=>v8f x s w0 v3 v4 v5 wx)
 case first =>
  clear H2 az aY Hi Hl HL2
  refine z7a (S:=fun w'=>CB w' w.heap.size 41 (x.cells s)∧M w0.heap.size w0 w') (late:=fun _=>T) (by kernel_rfl) ⟨HI.out.ext (Below.refl w0.heap.size w0).drew,(Below.refl w0.heap.size w0).drew⟩ (fun hHeld=>?_)
  replace HI:=hd_ hHeld.1
  have iW:=hd_ hHeld.2
  generalize w0.drew=wd at *
  refine tkL 11 0 ?_
  refine z2x 12 1 rfl (C (x.flt.cells s.ways).toArray) (yieldsIf_load_mid (by rfl) 28 _ rfl w.heap.size 5 rfl (x.flt.cells s.ways) _ (fun wS aa=>y9p aa.1) underlying28 rfl (by kernel_rfl)) ?_
  refine tkL 13 2 ?_
  refine z2x 14 3 rfl (C (x.rep.cells).toArray) (yieldsIf_load_mid (by rfl) 33 _ rfl w.heap.size 17 rfl (x.rep.cells) _ (fun wS aa=>j0z aa.1) underlying33 rfl (by kernel_rfl)) ?_
  refine z8n [(4,15),(5,3),(6,4),(7,5)] #[U,U,U,U,U,U,U,U,T,T,T] 3 (G1 w0.heap.size) (by kernel_rfl) (by decide) (by decide) (by kernel_rfl) (by kernel_rfl) (by kernel_rfl) (by kernel_rfl) (fun _ _ _ _ h hb=>h.keep hb) (fun _ _ h hb=>⟨h.1.ext hb,z0a h.2 hb⟩) hHeld ?_ ?_
  ·intro i hi
   simp only [List.map_cons,List.map_nil,mC,nM,or_false] at hi
   rcases hi with rfl|rfl|rfl|rfl
   ·refine Obl.mk rfl (fun a wa ha hs hd K hK=>?_)
    go_simp
    go_at_call 36
    refine (z1y _ _ wa).mono ?_
    rintro e w' ⟨rfl,hb⟩
    exact hK.out _ _ ⟨fun _=>rfl,fun h=>absurd h (by decide),fun h=>absurd h (by decide),fun h=>absurd h (by decide)⟩ hb
   ·refine Obl.mk rfl (fun a wa ha hs hd K hK=>?_)
    go_simp
    exact hK.out _ _ ⟨fun h=>absurd h (by decide),fun _=>⟨wa.heap.size,rfl,z3a wa (Q ZFc.toArray 28) _ _ rfl,hs.2.size⟩,fun h=>absurd h (by decide),fun h=>absurd h (by decide)⟩ (z4b _)
   ·refine Obl.mk rfl (fun a wa ha hs hd K hK=>?_)
    go_simp
    exact hK.out _ _ ⟨fun h=>absurd h (by decide),fun h=>absurd h (by decide),fun _=>⟨wa.heap.size,rfl,z3a wa (Q ZRc.toArray 33) _ _ rfl,hs.2.size⟩,fun h=>absurd h (by decide)⟩ (z4b _)
   ·refine Obl.mk rfl (fun a wa ha hs hd K hK=>?_)
    go_simp
    exact hK.out _ _ ⟨fun h=>absurd h (by decide),fun h=>absurd h (by decide),fun h=>absurd h (by decide),fun _=>⟨wa.heap.size,rfl,z3a wa (Q Z4c.toArray 80) _ _ rfl,hs.2.size⟩⟩ (z4b _)
  ·intro vals w1 bJ hg
   obtain ⟨e15,-⟩:=hg (4,15) (by simp)
   obtain ⟨-,h5,-⟩:=hg (5,3) (by simp)
   obtain ⟨-,-,h6,-⟩:=hg (6,4) (by simp)
   obtain ⟨-,-,-,h7⟩:=hg (7,5) (by simp)
   obtain ⟨g3,e3,k3,l3⟩:=h5 rfl
   obtain ⟨g4,e4,k4,l4⟩:=h6 rfl
   obtain ⟨g5,e5,k5,l5⟩:=h7 rfl
   have e15:=e15 rfl
   simp only [y1v,Act.put,aS,aZ,aU]
   simp only at e3 e4 e5 e15
   rw [e3,e4,e5,e15]
   have n34:g3≠g4:=fun e=>by subst e;have:=z5q k3 k4;revert this;decide
   have n35:g3≠g5:=fun e=>by subst e;have:=z5q k3 k5;revert this;decide
   have n45:g4≠g5:=fun e=>by subst e;have:=z5q k4 k5;revert this;decide
   have K3:=hd_ k3;have K4:=hd_ k4;have K5:=hd_ k5;have L3:=hd_ l3;have L4:=hd_ l4;have L5:=hd_ l5;have N34:=hd_ n34;have N35:=hd_ n35;have N45:=hd_ n45
   have dJ:=hd_ bJ.1;have aG:=hd_ bJ.2;have hHeld:=bJ
   have HwL:G (w.heap.size<w0.heap.size):=HL0.out
   clear hg h5 h6 h7 e3 e4 e5 e15 k3 k4 k5 l3 l4 l5 n34 n35 n45 bJ
   refine rdL 8 fun K hK=>?_
   refine sif 28 (.tmp 3) (.tmp 12) rfl g3 (x.flt.cells s.ways) rfl rfl K3.out (HFo.out) ?_
   intro w2 hc hg hz
   replace K3:=hc
   replace K4:=hd_ (K4.out.keep (hg.out.block _ K4.out.lt (fun e=>by injection e with e;exact N34.out e.symm)))
   replace K5:=hd_ (K5.out.keep (hg.out.block _ K5.out.lt (fun e=>by injection e with e;exact N35.out e.symm)))
   replace dJ:=hd_ (dJ.out.keep (hg.out.block _ dJ.out.lt (fun e=>by injection e with e;have:=HwL.out;have:=L3.out;omega)))
   replace aG:=hd_ (aG.out.grown hg.out aG.out.size (fun k hk=>by injection hk with hk;have:=L3.out;omega))
   clear hc hg hz hHeld
   refine z4n hK ⟨dJ.out,aG.out⟩ fun hHeld=>?_
   clear hK K
   refine rdL 9 fun K hK=>?_
   refine sif 33 (.tmp 4) (.tmp 14) rfl g4 (x.rep.cells) rfl rfl K4.out (j1z x.rep) ?_
   intro w3 hc hg hz
   replace K4:=hc
   replace K3:=hd_ (K3.out.keep (hg.out.block _ K3.out.lt (fun e=>by injection e with e;exact N34.out e)))
   replace K5:=hd_ (K5.out.keep (hg.out.block _ K5.out.lt (fun e=>by injection e with e;exact N45.out e.symm)))
   replace dJ:=hd_ (dJ.out.keep (hg.out.block _ dJ.out.lt (fun e=>by injection e with e;have:=HwL.out;have:=L4.out;omega)))
   replace aG:=hd_ (aG.out.grown hg.out aG.out.size (fun k hk=>by injection hk with hk;have:=L4.out;omega))
   clear hc hg hz hHeld
   refine z4n hK ⟨dJ.out,aG.out⟩ fun hHeld=>?_
   clear hK K
   refine rdL 10 fun K hK=>?_
   refine sif 80 (.tmp 5) (.tmp 15) rfl g5 (lvC (I Y 0 0)) rfl rfl K5.out (z4q _ rfl) ?_
   intro w4 hc hg hz
   replace K5:=hc
   replace K3:=hd_ (K3.out.keep (hg.out.block _ K3.out.lt (fun e=>by injection e with e;exact N35.out e)))
   replace K4:=hd_ (K4.out.keep (hg.out.block _ K4.out.lt (fun e=>by injection e with e;exact N45.out e)))
   replace dJ:=hd_ (dJ.out.keep (hg.out.block _ dJ.out.lt (fun e=>by injection e with e;have:=HwL.out;have:=L5.out;omega)))
   replace aG:=hd_ (aG.out.grown hg.out aG.out.size (fun k hk=>by injection hk with hk;have:=L5.out;omega))
   clear hc hg hz hHeld
   refine z4n hK ⟨dJ.out,aG.out⟩ fun hHeld=>?_
   clear hK K
   refine z3b (by kernel_rfl) ?_ _
   go_wp2_with fail
   go_meet
   case rel=>exact ⟨g3,g4,g5,rfl,rfl,rfl,K3.out,K4.out,K5.out,L3.out,L4.out,L5.out,aG.out⟩
 case rest =>
 obtain ⟨g3,g4,g5,rfl,rfl,rfl,k3,k4,k5,l3,l4,l5,hbx⟩:=hcut
 replace HI:=hd_ (HI.out.ext hbx);replace H2:=hd_ (H2.out.ext hbx);have aG:=hd_ (z0a az.out hbx);have K3:=hd_ k3;have K4:=hd_ k4;have K5:=hd_ k5
 have L3:=hd_ (lL HL0.out l3);have L4:=hd_ (lL HL0.out l4);have L5:=hd_ (lL HL0.out l5)
 have L2:G (w.heap.size+1<w0.heap.size):=HL2.out
 have L52:G (w.heap.size+1<g5):=lL L2.out l5
 clear k3 k4 k5 l3 l4 l5 hbx az HFo HL0 L2 HL2
 generalize wc=W1 at *
 obtain ⟨ot,ct,htw,ltr⟩:=aY.out.tree.shape
 have kj:W1.cell? ⟨w.heap.size,13,Y⟩=Z (I ot x.tree.length ct):=by rw [← htw];exact HI.out.cell 13
 have HTr:G (z9j w x.tree (I ot x.tree.length ct)):=hd_ (by rw [← htw];exact aY.out.tree)
 have l1:(x.tree.length:Int)≤9223372036854775807:=by omega
 clear htw
 go_wp2_with fail
 go_loopw [19] (fun i wr=>k1s x W1 g5 i wr) (fun i _=>x.tree.length - (intOf i).toNat)
 case atStart=>exact ⟨[],I Y 0 0,rfl,by simp,rfl,K5.out,z1j.nil _ _ _ (fun j h=>h.elim),z1b W1 _⟩
 case round =>
  obtain ⟨xs,lv,hxs,hle,rfl,hT,hO,hg⟩:=hrel
  obtain ⟨ol,cl,rfl⟩:=hO.shape
  have gJ:=hd_ hxs;have HT:=hd_ hT;have HO:=hd_ hO;have HG:=hd_ hg
  have jc:=hd_ (aG.out.grown hg aG.out.size (fun q e=>by injection e with e;have:=L5.out;omega))
  clear hT hO hg hxs kj
  by_cases hlt:xs.length<x.tree.length
  case pos =>
   obtain ⟨t,ht⟩:∃ t,x.tree[xs.length]? = Z t:=⟨_,List.getElem?_eq_getElem hlt⟩
   have tj:decide ((xs.length:Int)<(x.tree.length:Int))=U:=decide_eq_true (by omega)
   have eu:decide (xs.length<x.tree.length)=U:=decide_eq_true hlt
   obtain ⟨ab,ao,nb,rfl,hab,aC,hr⟩:=(HTr.out.ext jc.out).el ht
   obtain ⟨rp,rf,ro,rn,rc⟩:=nb
   have Hpar:G (rp=t.par):=hr.par;have Hfrm:G (rf=t.frm):=hr.frm;have kr:=hd_ hr.cuts
   obtain ⟨oc2,cc2,he2,lq⟩:=(show z4g cuK wr.heap.size wr t.cuts (I ro rn rc) from hr.cuts).shape
   injection he2 with q1 q2 q3
   have gI:=hd_ q2
   have l2:(rn:Int)≤9223372036854775807:=by omega
   have htm:=List.mem_of_getElem? ht
   have oE:=hd_ (Hi.out.tree t htm);have mR:=hd_ (Hl.out.cuts t htm)
   have Ht:=hd_ ht;have Hxlt:=hd_ hlt
   have mc:G (I64 rp∧I64 rf):=⟨by rw [Hpar.out];exact oE.out.par,by rw [Hfrm.out];exact oE.out.frm⟩
   have oH:G (wr.rangeAt ab (ao+xs.length * 3) [J X rp,J X rf,I ro rn rc]):=fun j u hj=>aC j u hj
   have HW1o:G (W1.heap.size≤wr.heap.size):=HG.out.size
   have HOlo:=hd_ (fun g e=>(HO.out.own g e).2)
   clear ht aC hr q1 q2 q3 lq htm hab hlt
   generalize wr=wo at *
   have kz:G (CB (wo.alloc (Q [J X 0,J X 0,I Y 0 0].toArray 48)) wo.heap.size 48 [J X 0,J X 0,I Y 0 0]):=z3a wo _ _ _ rfl
   have oI:G (∀ u∈([J X rp,J X rf,I ro rn rc]:List R),u.oneCell'=U):=hd_ (z8y rfl)
   go_upto_region 5 with (first|(have _g:=oH.out;refine lmg 48 (.tmp 21) rfl ab (ao+xs.length * 3) rfl [J X rp,J X rf,I ro rn rc] oH.out underlying48 ?_;clear oH)|(have _g:=oI.out;refine scs 48 (.tmp 7) (.tmp 22) rfl wo.heap.size [J X rp,J X rf,I ro rn rc] rfl rfl kz.out oI.out (fun w3 H7 ex dM=>?_);clear oI))
   have me:G (M wo.heap.size wo w3):=(z4b (w:=wo) (Q [J X 0,J X 0,I Y 0 0].toArray 48)).grown ex.out (by simp) (fun q e=>by injection e with e;omega)
   have H73:=H7
   clear ex dM kz
   have oo:=hd_ (z4q (I Y 0 0) rfl)
   go_upto_region 6 with (first|(go_at_call 36;refine (z1y _ _ _).mono ?_;(rintro e w5 ⟨rfl,bp⟩;have bZ:=hd_ bp;have gK:G (CB (w5.alloc Z4) w5.heap.size 80 Z4c):=z3a w5 Z4 _ _ rfl;clear bp))|(have _g:=oo.out;refine scs 80 (.tmp 8) (.tmp 23) rfl w5.heap.size (lvC (I Y 0 0)) rfl rfl gK.out oo.out (fun w6 H8 dw iz=>?_);clear oo))
   have oJ:M w5.heap.size w5 w6:=(z4b (w:=w5) Z4).grown dw.out (by simp) (fun q e=>by injection e with e;omega)
   replace H7:=hd_ ((H7.out.ext bZ.out).ext oJ);have Hz:=hd_ (z0a (z0a me.out bZ.out) oJ)
   have bg:G (wo.heap.size<w5.heap.size):=hd_ (by have h1:=H7.out.lt;have h2:=(z0a me.out bZ.out).size;have h3:wo.heap.size<w3.heap.size:=H73.out.lt;have h4:=bZ.out.size;omega)
   clear dw iz gK bZ me H73 oJ
   generalize w5.heap.size=g8 at *
   have d7:=H7.out.cv 2 (I ro rn rc)
   go_wp2_with fail
   go_loopw [27] (fun i wr=>k2s t wo [J X rp,J X rf,I ro rn rc] g8 i wr) (fun i _=>t.cuts.length - (intOf i).toNat)
   case atStart=>exact ⟨[],I Y 0 0,rfl,by simp,rfl,H8.out,z1j.nil _ _ _ (fun j h=>h.elim),H7.out,Hz.out⟩
   case round =>
    obtain ⟨ms,lv2,hms,hmle,rfl,h8,dr,h7,hz⟩:=hrel
    obtain ⟨o2,c2,rfl⟩:=dr.shape
    clear H7 H8 Hz d7
    have mQ:=hd_ hms;have H8:=hd_ h8;have dh:=hd_ dr;have H7:=hd_ h7;have Hz:=hd_ hz
    clear h8 dr h7 hz hms
    have hrn:rn=t.cuts.length:=gI.out
    by_cases hml:ms.length<t.cuts.length
    case pos =>
     obtain ⟨c,hc⟩:∃ c,t.cuts[ms.length]? = Z c:=⟨_,List.getElem?_eq_getElem hml⟩
     have Hc:=hd_ hc;have gL:=hd_ (oE.out.cuts c (List.mem_of_getElem? hc));have Hmlt:=hd_ hml
     have tm:decide ((ms.length:Int)<(rn:Int))=U:=decide_eq_true (by omega)
     have tm':decide (ms.length<rn)=U:=decide_eq_true (by omega)
     have nv:ms.length<rn:=by omega
     clear hrn
     have hcu:z4g cuK wr.heap.size wr t.cuts (I ro t.cuts.length rc):=(by have h:z4g cuK wr.heap.size wr t.cuts (I ro rn rc):=kr.out.ext Hz.out;rw [show rn=t.cuts.length from gI.out] at h;exact h)
     obtain ⟨cb,co,hco,_,hat⟩:=hcu.at (k:=ms.length) hml
     subst hco
     clear hcu
     have oL:G (wr.rangeAt cb (co+ms.length * 5) c.cells):=fun j u hj=>hat ms.length c hc j u hj
     have gM:G (CB (wr.alloc (Q [E T,J X 0,J X 0,J X 0,J X 0].toArray 88)) wr.heap.size 88 [E T,J X 0,J X 0,J X 0,J X 0]):=z3a wr _ _ _ rfl
     have eZ:G (∀ u∈c.cells,u.oneCell'=U):=hd_ (by intro u hu;simp only [Cut.cells,mC,nM,or_false] at hu;rcases hu with rfl|rfl|rfl|rfl|rfl <;> rfl)
     clear hat hc hml
     go_upto_region 9 with (first|(have _g:=oL.out;refine lmg 88 (.tmp 29) rfl cb (co+ms.length * 5) rfl c.cells oL.out underlying88 ?_;clear oL)|(have _g:=eZ.out;refine scs 88 (.tmp 10) (.tmp 30) rfl wr.heap.size c.cells rfl rfl gM.out eZ.out (fun w7 dN mT mU=>?_);clear eZ))
     have iS:M wr.heap.size wr w7:=(z4b (w:=wr) (Q [E T,J X 0,J X 0,J X 0,J X 0].toArray 88)).grown mT.out (by simp) (fun q e=>by injection e with e;omega)
     have NH8:G ((I o2 ms.length c2).ownBlock≠Z g8):=fun e=>by have:=(dh.out.own _ e).1;omega
     have NH7:G ((I o2 ms.length c2).ownBlock≠Z wo.heap.size):=fun e=>by have:=(dh.out.own _ e).1;have:=bg.out;omega
     have NH10:G ((I o2 ms.length c2).ownBlock≠Z wr.heap.size):=fun e=>by have:=(dh.out.own _ e).2;omega
     have BHz:G (wo.heap.size≤g8+1):=hd_ (by have:=bg.out;omega)
     replace H8:=hd_ (H8.out.ext iS);replace H7:=hd_ (H7.out.ext iS);replace dh:=hd_ (dh.out.ext iS);replace Hz:=hd_ (z0a Hz.out iS)
     clear mT mU gM iS
     refine z7a (S:=fun w'=>CB w' g8 80 (lvC (I o2 ms.length c2))∧CB w' wr.heap.size 88 c.cells) (late:=fun j=>j == 19) (by kernel_rfl) ⟨H8.out.ext (Below.refl w7.heap.size w7).drew,dN.out.ext (Below.refl w7.heap.size w7).drew⟩ (fun hHeld=>?_)
     have aQ:=(Below.refl w7.heap.size w7).drew
     replace H8:=hd_ (H8.out.ext aQ);replace dh:=hd_ (dh.out.ext aQ);replace H7:=hd_ (H7.out.ext aQ);replace dN:=hd_ (dN.out.ext aQ);replace Hz:=hd_ (z0a Hz.out aQ)
     clear aQ
     generalize w7.drew=W4 at *
     refine tkL 31 0 ?_
     refine tkL 32 1 ?_ (hy:=fun wS aa=>by have e1:=aa.1.cv 3 (I o2 ms.length c2);go_simp;first|done|with_reducible rfl)
     refine tkL 33 2 ?_
     refine tkL 34 3 ?_ (hy:=fun wS aa=>by have e1:=aa.2.cv 0 (E c.ap);go_simp;first|done|with_reducible rfl)
     refine tkL 35 4 ?_
     refine tkL 36 5 ?_
     refine tkL 37 6 ?_ (hy:=fun wS aa=>by have e1:=aa.2.cv 1 (J X c.ix);go_simp;first|done|with_reducible rfl)
     refine tkL 38 7 ?_
     refine tkL 39 8 ?_
     refine z2x 40 9 rfl (C ([J X c.mf,J X c.mt]).toArray) (yieldsIf_load_mid (by rfl) 26 _ rfl wr.heap.size 2 rfl ([J X c.mf,J X c.mt]) _ (fun wS aa=>fun j u hj=>by rw [aa.2.cell];exact z5d (A:=c.cells) (B:=[J X c.mf,J X c.mt]) 2 rfl j u hj) underlying26 rfl (by kernel_rfl)) ?_
     refine tkL 41 10 ?_
     refine tkL 42 11 ?_
     refine tkL 43 12 ?_ (hy:=fun wS aa=>by have e1:=aa.2.cv 4 (J X c.less);go_simp;first|done|with_reducible rfl)
     refine tkL 44 13 ?_
     refine rdL 14 fun K hK=>?_
     go_simp
     have hz:M W4.heap.size W4 (W4.alloc (Q (([.flag c.ap,.num c.ix,.span c.mf c.mt,.num c.less]:List It).map It.v).toArray 20)):=z4b _
     have oh:G (z3r (fun _=>False) (W4.alloc (Q (([.flag c.ap,.num c.ix,.span c.mf c.mt,.num c.less]:List It).map It.v).toArray 20)) [.flag c.ap,.num c.ix,.span c.mf c.mt,.num c.less] (I (Z ⟨W4.heap.size,0,Y⟩) 4 4)):=hd_ (z8m (fun _=>False) W4 [.flag c.ap,.num c.ix,.span c.mf c.mt,.num c.less] (fun t ht=>by simp only [mC,nM,or_false] at ht;rcases ht with rfl|rfl|rfl|rfl <;> first|trivial|exact gL.out.ix|exact gL.out.less|exact ⟨gL.out.mf,gL.out.mt⟩) (fun j h=>h.elim))
     have HDc:G (∀ j,(fun _=>False) j→j<W4.heap.size):=fun j h=>h.elim
     have H45:G (W4.heap.size≤(W4.alloc (Q (([.flag c.ap,.num c.ix,.span c.mf c.mt,.num c.less]:List It).map It.v).toArray 20)).heap.size):=hz.size
     change K _ (W4.alloc (Q (([.flag c.ap,.num c.ix,.span c.mf c.mt,.num c.less]:List It).map It.v).toArray 20))
     replace H8:=hd_ (H8.out.ext hz);replace dh:=hd_ (dh.out.ext hz);replace H7:=hd_ (H7.out.ext hz);replace dN:=hd_ (dN.out.ext hz);replace Hz:=hd_ (z0a Hz.out hz)
     clear hz
     generalize W4.alloc (Q (([.flag c.ap,.num c.ix,.span c.mf c.mt,.num c.less]:List It).map It.v).toArray 20)=W5 at *
     refine z4n hK ⟨H8.out,dN.out⟩ fun hHeld=>?_
     clear hK K
     refine rdL 15 fun K hK=>?_
     go_simp
     go_at_call 36
     refine (z6j [.flag c.ap,.num c.ix,.span c.mf c.mt,.num c.less] _ (fun _=>False) W5 (by simp) oh.out (fun j h=>lL (HDc.out j h) H45.out)).mono ?_
     rintro e W7 ⟨dY,rfl,cI,ag⟩
     obtain ⟨o7,c7,rfl⟩:=cI.shape
     have iA:=hd_ cI
     have iB:=hd_ (fun g (e:((I o2 ms.length c2):R).ownBlock=Z g)=>(dh.out.own g e))
     have HOl5:G (W5.heap.size≤W7.heap.size):=ag.size
     have HBw5:G ((g8+1)≤W5.heap.size):=H8.out.lt
     replace H8:=hd_ (H8.out.ext ag);replace dh:=hd_ (dh.out.ext ag);replace H7:=hd_ (H7.out.ext ag);replace dN:=hd_ (dN.out.ext ag);replace Hz:=hd_ (z0a Hz.out ag)
     clear cI ag
     refine z4n hK ⟨H8.out,dN.out⟩ fun hHeld=>?_
     clear hK K
     refine rdL 16 fun K hK=>?_
     go_simp
     have aF:G (CB (W7.alloc (Q (w4 3 0 (I o7 4 c7)).toArray 80)) W7.heap.size 80 (w4 3 0 (I o7 4 c7))):=z3a W7 _ _ _ rfl
     have hz:M W7.heap.size W7 (W7.alloc (Q (w4 3 0 (I o7 4 c7)).toArray 80)):=z4b _
     have fO:G (z0z (DL (fun _=>False) (g8+1) (W7.alloc (Q (w4 3 0 (I o7 4 c7)).toArray 80)) (I o2 ms.length c2)) (W7.alloc (Q (w4 3 0 (I o7 4 c7)).toArray 80)) (z0p c) (I o7 4 c7)):=z0z.keep (D:=fun j=>((fun _=>False) j∨W5.heap.size≤j)∧j<W7.heap.size) (w:=W7) ⟨by show I64 3;unfold I64;omega,by show I64 0;unfold I64;omega,by show (0:Nat)≤_;unfold maxLen;decide,iA.out.sl⟩ (fun k hk=>⟨.inr (by have:=hk.1.resolve_left id;have:=HBw5.out;omega),by have:=hk.2;rw [World.size_alloc];omega,fun e=>by have:=(iB.out k e.symm).2;have:=hk.1.resolve_left id;omega⟩) (fun k hk=>Below.heap_alloc W7 _ k hk.2)
     change K _ (W7.alloc (Q (w4 3 0 (I o7 4 c7)).toArray 80))
     replace H8:=hd_ (H8.out.ext hz);replace dh:=hd_ (dh.out.ext hz);replace H7:=hd_ (H7.out.ext hz);replace dN:=hd_ (dN.out.ext hz);replace Hz:=hd_ (z0a Hz.out hz)
     clear hz iA
     generalize W7.alloc (Q (w4 3 0 (I o7 4 c7)).toArray 80)=W8 at *
     generalize W7.heap.size=gk at *
     refine z4n hK ⟨H8.out,dN.out⟩ fun hHeld=>?_
     clear hK K
     refine rdL 17 fun K hK=>?_
     refine z2f underlying78 z8j rfl (.tmp 32) (.tmp 47) rfl (fun _=>False) (g8+1) ((I o2 ms.length c2)) ms rfl ?q1 gk (z0p c) (I o7 4 c7) rfl ?q2 ?q3 ?q4 ?q5 ?_
     case q1=>exact dh.out
     case q2=>exact fO.out
     case q3=>(refine ⟨?_,?_,?_,?_⟩ <;> first|exact aF.out.cell 0|exact aF.out.cell 1|exact aF.out.cell 2|exact aF.out.cell 3)
     case q4=>exact Nat.le_trans (Nat.le_of_lt Hmlt.out) mR.out
     case q5=>exact H8.out.lt
     intro dg dq w9 dr al
     replace H8:=hd_ (H8.out.keep (al.out.block _ H8.out.lt (fun e=>NH8.out e.symm)))
     replace H7:=hd_ (H7.out.keep (al.out.block _ H7.out.lt (fun e=>NH7.out e.symm)))
     replace dN:=hd_ (dN.out.keep (al.out.block _ dN.out.lt (fun e=>NH10.out e.symm)))
     replace Hz:=hd_ (Hz.out.grown al.out Hz.out.size (fun q e=>by have:=(dh.out.own q e).1;have:=BHz.out;omega))
     have y3:=H8.out.cv 3 ((I o2 ms.length c2):R)
     have yf:=H8.out.frozen 3
     clear al aF fO dh
     refine hK.out (Act.put _ (Z 48) _) w9 (fun _=>⟨H8.out,dN.out⟩) (fun ae=>?_)
     clear hK K
     have hHeld:=ae (by rfl)
     clear ae
     try simp only [Act.put,aS,aZ,aU]
     refine tkL 49 18 ?_
     refine rdL 19 fun K hK=>?_
     go_simp
     refine hK.out _ _ (fun h=>absurd h (by decide)) (fun ae=>?_)
     clear hK K
     try simp only [Act.put,aS,aZ,aU]
     refine z3b (by kernel_rfl) ?_ _
     go_wp2_with fail
     go_roundw
     case rel=>exact x9v Hc.out mQ.out H8.out dr.out H7.out Hz.out bg.out
     case measure=>(simp [intOf];have:=Hmlt.out;omega)
    case neg =>
     have tm:decide ((ms.length:Int)<(rn:Int))=T:=decide_eq_false (by omega)
     have nv:¬ ms.length<rn:=by omega
     clear hrn
     have hmx:ms=t.cuts.map z0p:=(by have h:=mQ.out;have hk:ms.length=t.cuts.length:=(by omega);rw [hk,List.take_length] at h;exact h)
     have HVt:G (lV [iV rp,iV rf,lV ms]=z5j t):=hd_ (by rw [Hpar.out,Hfrm.out,hmx];rfl)
     have HNms:G (∀ W:O,(wr.heap.size≤W.heap.size∧∀ k,k<wr.heap.size→W.heap[k]? = wr.heap[k]?)→z0z (fun j=>(False∨g8+1≤j)∧j<wr.heap.size) W (lV ms) (I o2 ms.length c2)):=fun W hW=>z0z.keep (w:=wr) ⟨by show I64 3;unfold I64;omega,by show I64 0;unfold I64;omega,by show (0:Nat)≤_;unfold maxLen;decide,dh.out.sl⟩ (fun k hk=>hk) (fun k hk=>hW.2 k hk.2)
     clear hmx
     have HTo:=HT
     replace HT:=hd_ (HT.out.ext Hz.out);replace HO:=hd_ (HO.out.ext Hz.out)
     have NHT:G ((I ol xs.length cl).ownBlock≠Z g5):=fun e=>by have:=(HO.out.own _ e).1;have:=K5.out.lt;omega
     have NH7:G ((I ol xs.length cl).ownBlock≠Z wo.heap.size):=fun e=>by have:=HOlo.out _ e;omega
     have NH8:G ((I ol xs.length cl).ownBlock≠Z g8):=fun e=>by have:=HOlo.out _ e;have:=bg.out;omega
     go_upto_region 11 with fail
     refine z7a (S:=fun w'=>CB w' g5 80 (lvC (I ol xs.length cl))∧CB w' wo.heap.size 48 [J X rp,J X rf,I ro rn rc]∧CB w' g8 80 (lvC (I o2 ms.length c2))) (late:=fun j=>j == 15) (by kernel_rfl) ⟨HT.out.ext (Below.refl wr.heap.size wr).drew,H7.out.ext (Below.refl wr.heap.size wr).drew,H8.out.ext (Below.refl wr.heap.size wr).drew⟩ (fun hHeld=>?_)
     have aQ:=(Below.refl wr.heap.size wr).drew
     replace HT:=hd_ (HT.out.ext aQ);replace HO:=hd_ (HO.out.ext aQ);replace H7:=hd_ (H7.out.ext aQ);replace H8:=hd_ (H8.out.ext aQ);replace Hz:=hd_ (z0a Hz.out aQ)
     clear aQ
     have hWle:wr.heap.size≤wr.drew.heap.size∧∀ k,k<wr.heap.size→wr.drew.heap[k]? = wr.heap[k]?:=⟨Nat.le_refl _,fun _ _=>rfl⟩
     generalize wr.drew=W4 at *
     refine tkL 51 0 ?_
     refine tkL 52 1 ?_ (hy:=fun wS aa=>by have e1:=aa.1.cv 3 (I ol xs.length cl);go_simp;first|done|with_reducible rfl)
     refine tkL 53 2 ?_
     refine tkL 54 3 ?_ (hy:=fun wS aa=>by have e1:=aa.2.1.cv 0 (J X rp);go_simp;first|done|with_reducible rfl)
     refine tkL 55 4 ?_
     refine tkL 56 5 ?_
     refine tkL 57 6 ?_ (hy:=fun wS aa=>by have e1:=aa.2.1.cv 1 (J X rf);go_simp;first|done|with_reducible rfl)
     refine tkL 58 7 ?_
     refine z2x 59 8 rfl (C (lvC (I o2 ms.length c2)).toArray) (yieldsIf_load_mid (by rfl) 80 _ rfl g8 0 rfl (lvC (I o2 ms.length c2)) _ (fun wS aa=>z3h aa.2.2) underlying80 rfl (by kernel_rfl)) ?_
     refine tkL 60 9 ?_
     refine rdL 10 fun K hK=>?_
     go_simp
     have hz:M W4.heap.size W4 (W4.alloc (Q (([.num rp,.num rf,.val (lV ms) (I o2 ms.length c2)]:List It).map It.v).toArray 20)):=z4b _
     have oh:G (z3r (fun j=>(False∨g8+1≤j)∧j<wr.heap.size) (W4.alloc (Q (([.num rp,.num rf,.val (lV ms) (I o2 ms.length c2)]:List It).map It.v).toArray 20)) [.num rp,.num rf,.val (lV ms) (I o2 ms.length c2)] (I (Z ⟨W4.heap.size,0,Y⟩) 3 3)):=hd_ (z8m (fun j=>(False∨g8+1≤j)∧j<wr.heap.size) W4 [.num rp,.num rf,.val (lV ms) (I o2 ms.length c2)] (fun t ht=>by simp only [mC,nM,or_false] at ht;rcases ht with rfl|rfl|rfl <;> first|exact mc.out.1|exact mc.out.2|exact HNms.out W4 hWle) (fun j h=>lL h.2 hWle.1))
     have HDc:G (∀ j,(fun j=>(False∨g8+1≤j)∧j<wr.heap.size) j→j<W4.heap.size):=fun j h=>lL h.2 hWle.1
     have H45:G (W4.heap.size≤(W4.alloc (Q (([.num rp,.num rf,.val (lV ms) (I o2 ms.length c2)]:List It).map It.v).toArray 20)).heap.size):=hz.size
     change K _ (W4.alloc (Q (([.num rp,.num rf,.val (lV ms) (I o2 ms.length c2)]:List It).map It.v).toArray 20))
     replace HT:=hd_ (HT.out.ext hz);replace HO:=hd_ (HO.out.ext hz);replace H7:=hd_ (H7.out.ext hz);replace H8:=hd_ (H8.out.ext hz);replace Hz:=hd_ (z0a Hz.out hz)
     clear hz
     generalize W4.alloc (Q (([.num rp,.num rf,.val (lV ms) (I o2 ms.length c2)]:List It).map It.v).toArray 20)=W5 at *
     refine z4n hK ⟨HT.out,H7.out,H8.out⟩ fun hHeld=>?_
     clear hK K
     refine rdL 11 fun K hK=>?_
     go_simp
     go_at_call 36
     refine (z6j [.num rp,.num rf,.val (lV ms) (I o2 ms.length c2)] _ (fun j=>(False∨g8+1≤j)∧j<wr.heap.size) W5 (by simp) oh.out (fun j h=>lL (HDc.out j h) H45.out)).mono ?_
     rintro e W7 ⟨dY,rfl,cI,ag⟩
     obtain ⟨o7,c7,rfl⟩:=cI.shape
     have iA:=hd_ cI
     have iB:=hd_ (fun g (e:((I ol xs.length cl):R).ownBlock=Z g)=>(HO.out.own g e))
     have HOl5:G (W5.heap.size≤W7.heap.size):=ag.size
     have HBw5:G (W1.heap.size≤W5.heap.size):=Nat.le_trans HW1o.out Hz.out.size
     replace HT:=hd_ (HT.out.ext ag);replace HO:=hd_ (HO.out.ext ag);replace H7:=hd_ (H7.out.ext ag);replace H8:=hd_ (H8.out.ext ag);replace Hz:=hd_ (z0a Hz.out ag)
     clear cI ag
     refine z4n hK ⟨HT.out,H7.out,H8.out⟩ fun hHeld=>?_
     clear hK K
     refine rdL 12 fun K hK=>?_
     go_simp
     have aF:G (CB (W7.alloc (Q (w4 3 0 (I o7 3 c7)).toArray 80)) W7.heap.size 80 (w4 3 0 (I o7 3 c7))):=z3a W7 _ _ _ rfl
     have hz:M W7.heap.size W7 (W7.alloc (Q (w4 3 0 (I o7 3 c7)).toArray 80)):=z4b _
     have fO:G (z0z (DL (fun _=>False) W1.heap.size (W7.alloc (Q (w4 3 0 (I o7 3 c7)).toArray 80)) (I ol xs.length cl)) (W7.alloc (Q (w4 3 0 (I o7 3 c7)).toArray 80)) (lV [iV rp,iV rf,lV ms]) (I o7 3 c7)):=z0z.keep (D:=fun j=>((fun j=>(False∨g8+1≤j)∧j<wr.heap.size) j∨W5.heap.size≤j)∧j<W7.heap.size) (w:=W7) ⟨by show I64 3;unfold I64;omega,by show I64 0;unfold I64;omega,by show (0:Nat)≤_;unfold maxLen;decide,iA.out.sl⟩ (fun k hk=>⟨.inr (by have:=HW1o.out;have:=bg.out;have:=HBw5.out;exact hk.1.elim (fun h=>by have:=h.1.resolve_left id;omega) (fun h=>by omega)),by have:=hk.2;rw [World.size_alloc];omega,fun e=>by have:=HOlo.out k e.symm;have:=bg.out;have:=(iB.out k e.symm).2;exact hk.1.elim (fun h=>by have:=h.1.resolve_left id;omega) (fun h=>by omega)⟩) (fun k hk=>Below.heap_alloc W7 _ k hk.2)
     change K _ (W7.alloc (Q (w4 3 0 (I o7 3 c7)).toArray 80))
     replace HT:=hd_ (HT.out.ext hz);replace HO:=hd_ (HO.out.ext hz);replace H7:=hd_ (H7.out.ext hz);replace H8:=hd_ (H8.out.ext hz);replace Hz:=hd_ (z0a Hz.out hz)
     clear hz iA
     generalize W7.alloc (Q (w4 3 0 (I o7 3 c7)).toArray 80)=W8 at *
     generalize W7.heap.size=gk at *
     refine z4n hK ⟨HT.out,H7.out,H8.out⟩ fun hHeld=>?_
     clear hK K
     refine rdL 13 fun K hK=>?_
     refine z2f underlying78 z8j rfl (.tmp 52) (.tmp 63) rfl (fun _=>False) W1.heap.size ((I ol xs.length cl)) xs rfl ?q1 gk (lV [iV rp,iV rf,lV ms]) (I o7 3 c7) rfl ?q2 ?q3 ?q4 ?q5 ?_
     case q1=>exact HO.out
     case q2=>exact fO.out
     case q3=>(refine ⟨?_,?_,?_,?_⟩ <;> first|exact aF.out.cell 0|exact aF.out.cell 1|exact aF.out.cell 2|exact aF.out.cell 3)
     case q4=>exact Nat.le_trans (Nat.le_of_lt Hxlt.out) Hl.out.tree
     case q5=>exact Nat.le_trans HW1o.out Hz.out.size
     intro dg dq w9 dr al
     replace HT:=hd_ (HT.out.keep (al.out.block _ HT.out.lt (fun e=>NHT.out e.symm)))
     replace H7:=hd_ (H7.out.keep (al.out.block _ H7.out.lt (fun e=>NH7.out e.symm)))
     replace H8:=hd_ (H8.out.keep (al.out.block _ H8.out.lt (fun e=>NH8.out e.symm)))
     have oM:=hd_ (z2a (z2a HG.out (z9a Hz.out) (.inr fun q e=>by cases e)) al.out (.inr fun q e=>(HO.out.own q e).1))
     have y3:=HT.out.cv 3 ((I ol xs.length cl):R)
     have yf:=HT.out.frozen 3
     clear al aF fO HO
     refine hK.out (Act.put _ (Z 64) _) w9 (fun _=>⟨HT.out,H7.out,H8.out⟩) (fun ae=>?_)
     clear hK K
     have hHeld:=ae (by rfl)
     clear ae
     try simp only [Act.put,aS,aZ,aU]
     refine tkL 65 14 ?_
     refine rdL 15 fun K hK=>?_
     go_simp
     refine hK.out _ _ (fun h=>absurd h (by decide)) (fun ae=>?_)
     clear hK K
     try simp only [Act.put,aS,aZ,aU]
     refine z3b (by kernel_rfl) ?_ _
     go_wp2_with fail
     skip
     go_roundw
     case rel=>exact x0w Ht.out gJ.out HT.out (by have h:=dr.out;rw [HVt.out] at h;exact h) oM.out K5.out.lt
     case measure=>(simp [intOf];have:=Hxlt.out;omega)
  case neg =>
   have hk:xs.length=x.tree.length:=by omega
   have tj:decide ((xs.length:Int)<(x.tree.length:Int))=T:=decide_eq_false (by omega)
   have HX:G (xs=x.tree.map z5j):=hd_ (by have h:=gJ.out;rw [hk,List.take_length] at h;exact h)
   obtain ⟨ow,cw,hsw,-⟩:=aY.out.ways.shape
   obtain ⟨om,cm,hsm,-⟩:=aY.out.modes.shape
   obtain ⟨ov,cv,hsv,-⟩:=aY.out.vols.shape
   have Hsw:=hd_ hsw;have Hsm:=hd_ hsm;have Hsv:=hd_ hsv
   have HWs:G (∀ W,M w.heap.size w W→z4g nuK W.heap.size W x.flt.ways (I ow x.flt.ways.length cw)):=fun W hb=>by rw [← Hsw.out];exact aY.out.ways.ext hb
   have HMs:G (∀ W,M w.heap.size w W→z4g nuK W.heap.size W x.chg.modes (I om x.chg.modes.length cm)):=fun W hb=>by rw [← Hsm.out];exact aY.out.modes.ext hb
   have HVs:G (∀ W,M w.heap.size w W→z4g nuK W.heap.size W x.stn.vols (I ov x.stn.vols.length cv)):=fun W hb=>by rw [← Hsv.out];exact aY.out.vols.ext hb
   have n35:g3≠g5:=fun e=>by subst e;have:=z5q K3.out K5.out;revert this;decide
   have n45:g4≠g5:=fun e=>by subst e;have:=z5q K4.out K5.out;revert this;decide
   have hI:=HI.out.keep (HG.out.block _ HI.out.lt (fun e=>by injection e with e;have:=L5.out;omega))
   have h3:=K3.out.keep (HG.out.block _ K3.out.lt (fun e=>by injection e with e;exact n35 e))
   have h4:=K4.out.keep (HG.out.block _ K4.out.lt (fun e=>by injection e with e;exact n45 e))
   have h2:=H2.out.keep (HG.out.block _ H2.out.lt (fun e=>by injection e with e;have:=L52.out;omega))
   have hOf:=z2p HO.out H2.out.lt (fun j h=>h.elim)
   have HS13:G ((fun w'=>CB w' w.heap.size 41 (x.cells s)∧CB w' g3 28 (x.flt.cells s.ways)∧CB w' g4 33 x.rep.cells∧CB w' g5 80 (lvC (I ol xs.length cl))∧z1j (fun _=>False) (w.heap.size+2) w' (I ol xs.length cl) xs∧M w.heap.size w w'∧CB w' (w.heap.size+1) 80 Z4c) wr):=⟨hI,h3,h4,HT.out,hOf,jc.out,h2⟩
   clear n35 n45 hI h3 h4 h2 hOf hsw hsm hsv hk HI H2 K3 K4 K5 HT HO jc aG HG L3 L4 L5 L52 HTr l1 ltr hle
   go_upto_region 13 with fail
   refine z7a (S:=fun w'=>CB w' w.heap.size 41 (x.cells s)∧CB w' g3 28 (x.flt.cells s.ways)∧CB w' g4 33 x.rep.cells∧CB w' g5 80 (lvC (I ol xs.length cl))∧z1j (fun _=>False) (w.heap.size+2) w' (I ol xs.length cl) xs∧M w.heap.size w w'∧CB w' (w.heap.size+1) 80 Z4c) (late:=fun j=>j == 118) (by kernel_rfl) ?hs0 (fun hHeld=>?_)
   case hs0=>(obtain ⟨q1,q2,q3,q4,q5,q6,q7⟩:=HS13.out;have aQ:=(Below.refl wr.heap.size wr).drew;exact ⟨q1.ext aQ,q2.ext aQ,q3.ext aQ,q4.ext aQ,q5.ext aQ,z0a q6 aQ,q7.ext aQ⟩)
   clear HS13
   generalize wr.drew=wd at *
   refine y9b [(0,67),(1,68),(2,69),(3,70),(4,71),(5,72),(6,73),(7,74),(8,75),(9,76),(10,77),(11,78),(12,79),(13,80),(14,81),(15,82),(16,83),(17,84),(18,85),(19,86),(20,87),(21,88),(22,89),(23,90),(24,91),(25,92),(26,93),(27,94),(28,95),(29,96),(30,97),(31,98),(32,99),(33,100),(34,101),(35,102),(36,103),(37,104),(38,105),(39,106),(40,107),(41,108),(42,109),(43,110),(44,111),(45,112),(46,113),(47,114),(48,115),(49,116),(50,117),(51,118),(52,119),(53,120),(54,121),(55,122),(56,123),(57,124),(58,125),(59,126),(60,127),(61,128),(62,129),(63,130),(64,131),(65,132),(66,133),(67,134),(68,135),(69,136),(70,137),(71,138),(72,139),(73,140),(74,141),(75,142),(76,143),(77,144),(78,145),(79,146),(80,147),(81,148),(82,149),(83,150),(84,151),(85,152),(86,153),(87,154),(88,155),(89,156),(90,157),(91,158),(92,159),(93,160),(94,161),(95,162),(96,163),(97,164),(98,165),(99,166),(100,167),(101,168),(102,169),(103,170),(104,171),(105,172),(106,173),(107,174),(108,175),(109,176),(110,177),(111,178),(112,179),(113,180),(114,181),(115,182),(116,183),(117,184)] (((List.replicate 118 U)++[T]).toArray) 1 (w.heap.size+2) (k9z x w.heap.size g3 g4 g5 ow om ov cw cm cv) (by kernel_rfl) (by decide) (by decide) (by kernel_rfl) (by kernel_rfl) (by kernel_rfl) (by kernel_rfl) (fun _ _ h hb=>⟨h.1.ext hb,h.2.1.ext hb,h.2.2.1.ext hb,h.2.2.2.1.ext hb,h.2.2.2.2.1.ext hb,z0a h.2.2.2.2.2.1 hb,h.2.2.2.2.2.2.ext hb⟩) hHeld ?_ ?_
   ·skip
    refine oc0 1 ?_
    refine oc1 0 67 ?_
    refine z2i 1 68 (fun wa hs=>(hs.1.cell 0:wa.cell? ⟨w.heap.size,0,Y⟩=Z (J X x.mi))) ?_
    refine oc1 2 69 ?_
    refine oc0 1 ?_
    refine oc1 4 71 ?_
    refine z2i 5 72 (fun wa hs=>(hs.1.cell 1:wa.cell? ⟨w.heap.size,1,Y⟩=Z (J X x.ce))) ?_
    refine oc1 6 73 ?_
    refine oc0 1 ?_
    refine oc1 8 75 ?_
    refine z2i 9 76 (fun wa hs=>(hs.1.cell 2:wa.cell? ⟨w.heap.size,2,Y⟩=Z (J X x.no))) ?_
    refine oc1 10 77 ?_
    refine ocO (fun a wa ha hs hd K hK=>?_) ?_
    ·have e0:=dpO hd 3 70
     have e1:=dpO hd 7 74
     have e2:=dpO hd 11 78
     go_simp
     exact hK.out _ _ (GT.mk rfl (z8m (fun _=>False) wa [.num x.mi,.num x.ce,.num x.no] (fun t ht=>by simp only [mC,nM,or_false] at ht;rcases ht with rfl|rfl|rfl <;> first|exact Hi.out.mi|exact Hi.out.ce|exact Hi.out.no))) (z4b _)
    refine ocO (fun a wa ha hs hd K hK=>?_) ?_
    ·obtain ⟨v0,e0,q0⟩:=dgO hd 12 79
     go_simp
     go_at_call 36
     refine (z6j [.num x.mi,.num x.ce,.num x.no] _ (fun _=>False) wa (by simp) q0 (fun j h=>h.elim)).mono ?_
     rintro e W7 ⟨dY,rfl,cI,ag⟩
     exact hK.out _ _ (GT.mk rfl ⟨dY,rfl,x7v cI hs.2.2.2.2.2.2.lt (fun j h=>h.elim)⟩) ag
    refine ocO (fun a wa ha hs hd K hK=>?_) ?_
    ·obtain ⟨v0,e0,q0⟩:=dgO hd 13 80
     obtain ⟨lx,rfl,hn⟩:=q0
     go_simp
     exact hK.out _ _ (GT.mk rfl ⟨lx,rfl,hn⟩) (Below.refl _ _)
    refine oc0 1 ?_
    refine z2i 15 82 (fun wa hs=>(hs.1.cell 3:wa.cell? ⟨w.heap.size,3,Y⟩=Z (J X x.kind))) ?_
    refine oc1 16 83 ?_
    refine oc0 1 ?_
    refine z2i 18 85 (fun wa hs=>(hs.1.cell 4:wa.cell? ⟨w.heap.size,4,Y⟩=Z (.string x.text))) ?_
    refine oc1 19 86 ?_
    refine oc0 3 ?_
    refine z2i 21 88 (fun wa hs=>(hs.2.1.cell 0:wa.cell? ⟨g3,0,Y⟩=Z (J X x.flt.id))) ?_
    refine oc1 22 89 ?_
    refine oc0 3 ?_
    refine z2i 24 91 (fun wa hs=>(hs.2.1.cell 1:wa.cell? ⟨g3,1,Y⟩=Z (J X x.flt.air))) ?_
    refine oc1 25 92 ?_
    refine oc0 3 ?_
    refine z2i 27 94 (fun wa hs=>(hs.2.1.cell 2:wa.cell? ⟨g3,2,Y⟩=Z (J X x.flt.cls))) ?_
    refine oc1 28 95 ?_
    refine oc0 3 ?_
    refine z2i 30 97 (fun wa hs=>(hs.2.1.cell 3:wa.cell? ⟨g3,3,Y⟩=Z (.string x.flt.call))) ?_
    refine oc1 31 98 ?_
    refine oc0 3 ?_
    refine z2i 33 100 (fun wa hs=>((by rw [← Hsw.out];exact hs.2.1.cell 4):wa.cell? ⟨g3,4,Y⟩=Z ((I ow x.flt.ways.length cw)))) ?_
    refine oc1 34 101 ?_
    refine oc0 3 ?_
    refine ocO (fun a wa ha hs hd K hK=>?_) ?_
    ·have e0:=dpO hd 36 103
     have c0:=hs.2.1.cv 5 (.int X x.flt.wf)
     have c1:=hs.2.1.cv 6 (J X x.flt.wt)
     go_simp
     exact gqO hK
    refine oc1 37 104 ?_
    refine oc0 3 ?_
    refine z2i 39 106 (fun wa hs=>(hs.2.1.cell 7:wa.cell? ⟨g3,7,Y⟩=Z (E x.flt.can))) ?_
    refine oc1 40 107 ?_
    refine ocO (fun a wa ha hs hd K hK=>?_) ?_
    ·have e0:=dpO hd 23 90
     have e1:=dpO hd 26 93
     have e2:=dpO hd 29 96
     have e3:=dpO hd 32 99
     have e4:=dpO hd 35 102
     have e5:=dpO hd 38 105
     have e6:=dpO hd 41 108
     go_simp
     exact hK.out _ _ (GT.mk rfl (z8m (fun _=>False) wa [.num x.flt.id,.num x.flt.air,.num x.flt.cls,.txt x.flt.call,.nums x.flt.ways (I ow x.flt.ways.length cw),.span x.flt.wf x.flt.wt,.flag x.flt.can] (fun t ht=>by simp only [mC,nM,or_false] at ht;rcases ht with rfl|rfl|rfl|rfl|rfl|rfl|rfl <;> first|trivial|exact Hi.out.flt.id|exact Hi.out.flt.air|exact Hi.out.flt.cls|exact Hi.out.flt.call|exact ⟨Hi.out.flt.wf,Hi.out.flt.wt⟩|exact ⟨Hi.out.flt.ways,Hl.out.ways,HWs.out wa hs.2.2.2.2.2.1⟩))) (z4b _)
    refine ocO (fun a wa ha hs hd K hK=>?_) ?_
    ·obtain ⟨v0,e0,q0⟩:=dgO hd 42 109
     go_simp
     go_at_call 36
     refine (z6j [.num x.flt.id,.num x.flt.air,.num x.flt.cls,.txt x.flt.call,.nums x.flt.ways (I ow x.flt.ways.length cw),.span x.flt.wf x.flt.wt,.flag x.flt.can] _ (fun _=>False) wa (by simp) q0 (fun j h=>h.elim)).mono ?_
     rintro e W7 ⟨dY,rfl,cI,ag⟩
     exact hK.out _ _ (GT.mk rfl ⟨dY,rfl,x7v cI hs.2.2.2.2.2.2.lt (fun j h=>h.elim)⟩) ag
    refine ocO (fun a wa ha hs hd K hK=>?_) ?_
    ·obtain ⟨v0,e0,q0⟩:=dgO hd 43 110
     obtain ⟨lx,rfl,hn⟩:=q0
     go_simp
     exact hK.out _ _ (GT.mk rfl ⟨lx,rfl,hn⟩) (Below.refl _ _)
    refine ocO (fun a wa ha hs hd K hK=>?_) ?_
    ·have e0:=daO ha 5
     have c0:=hs.2.2.2.1.cv 0 (J X 3)
     have c1:=hs.2.2.2.1.cv 1 (J X 0)
     have c2:=hs.2.2.2.1.cv 2 (.string ⟨#[]⟩)
     have c3:=hs.2.2.2.1.cv 3 (I ol xs.length cl)
     go_simp
     exact hK.out _ _ (GT.mk rfl ⟨I ol xs.length cl,rfl,by rw [← HX.out];exact x1z hs.2.2.2.2.1⟩) (Below.refl _ _)
    refine ocO (fun a wa ha hs hd K hK=>?_) ?_
    ·obtain ⟨v0,e0,q0⟩:=dgO hd 45 112
     obtain ⟨lx,rfl,hn⟩:=q0
     go_simp
     exact hK.out _ _ (GT.mk rfl ⟨lx,rfl,hn⟩) (Below.refl _ _)
    refine oc0 1 ?_
    refine oc1 47 114 ?_
    refine z2i 48 115 (fun wa hs=>(hs.1.cell 14:wa.cell? ⟨w.heap.size,14,Y⟩=Z (J X x.chg.frm))) ?_
    refine oc1 49 116 ?_
    refine oc0 1 ?_
    refine oc1 51 118 ?_
    refine z2i 52 119 (fun wa hs=>(hs.1.cell 15:wa.cell? ⟨w.heap.size,15,Y⟩=Z (J X x.chg.cfg))) ?_
    refine oc1 53 120 ?_
    refine oc0 1 ?_
    refine oc1 55 122 ?_
    refine z2i 56 123 (fun wa hs=>((by rw [← Hsm.out];exact hs.1.cell 16):wa.cell? ⟨w.heap.size,16,Y⟩=Z ((I om x.chg.modes.length cm)))) ?_
    refine oc1 57 124 ?_
    refine ocO (fun a wa ha hs hd K hK=>?_) ?_
    ·have e0:=dpO hd 50 117
     have e1:=dpO hd 54 121
     have e2:=dpO hd 58 125
     go_simp
     exact hK.out _ _ (GT.mk rfl (z8m (fun _=>False) wa [.num x.chg.frm,.num x.chg.cfg,.nums x.chg.modes (I om x.chg.modes.length cm)] (fun t ht=>by simp only [mC,nM,or_false] at ht;rcases ht with rfl|rfl|rfl <;> first|exact Hi.out.cfrm|exact Hi.out.cfg|exact ⟨Hi.out.modes,Hl.out.modes,HMs.out wa hs.2.2.2.2.2.1⟩))) (z4b _)
    refine ocO (fun a wa ha hs hd K hK=>?_) ?_
    ·obtain ⟨v0,e0,q0⟩:=dgO hd 59 126
     go_simp
     go_at_call 36
     refine (z6j [.num x.chg.frm,.num x.chg.cfg,.nums x.chg.modes (I om x.chg.modes.length cm)] _ (fun _=>False) wa (by simp) q0 (fun j h=>h.elim)).mono ?_
     rintro e W7 ⟨dY,rfl,cI,ag⟩
     exact hK.out _ _ (GT.mk rfl ⟨dY,rfl,x7v cI hs.2.2.2.2.2.2.lt (fun j h=>h.elim)⟩) ag
    refine ocO (fun a wa ha hs hd K hK=>?_) ?_
    ·obtain ⟨v0,e0,q0⟩:=dgO hd 60 127
     obtain ⟨lx,rfl,hn⟩:=q0
     go_simp
     exact hK.out _ _ (GT.mk rfl ⟨lx,rfl,hn⟩) (Below.refl _ _)
    refine oc0 4 ?_
    refine z2i 62 129 (fun wa hs=>(hs.2.2.1.cell 0:wa.cell? ⟨g4,0,Y⟩=Z (J X x.rep.st))) ?_
    refine oc1 63 130 ?_
    refine oc0 4 ?_
    refine z2i 65 132 (fun wa hs=>(hs.2.2.1.cell 1:wa.cell? ⟨g4,1,Y⟩=Z (J X x.rep.no))) ?_
    refine oc1 66 133 ?_
    refine oc0 4 ?_
    refine z2i 68 135 (fun wa hs=>(hs.2.2.1.cell 2:wa.cell? ⟨g4,2,Y⟩=Z (J X x.rep.mi))) ?_
    refine oc1 69 136 ?_
    refine oc0 4 ?_
    refine z2i 71 138 (fun wa hs=>(hs.2.2.1.cell 3:wa.cell? ⟨g4,3,Y⟩=Z (J X x.rep.ar))) ?_
    refine oc1 72 139 ?_
    refine oc0 4 ?_
    refine z2i 74 141 (fun wa hs=>(hs.2.2.1.cell 4:wa.cell? ⟨g4,4,Y⟩=Z (.string x.rep.cl))) ?_
    refine oc1 75 142 ?_
    refine oc0 4 ?_
    refine z2i 77 144 (fun wa hs=>(hs.2.2.1.cell 5:wa.cell? ⟨g4,5,Y⟩=Z (J X x.rep.vo))) ?_
    refine oc1 78 145 ?_
    refine ocO (fun a wa ha hs hd K hK=>?_) ?_
    ·have e0:=dpO hd 64 131
     have e1:=dpO hd 67 134
     have e2:=dpO hd 70 137
     have e3:=dpO hd 73 140
     have e4:=dpO hd 76 143
     have e5:=dpO hd 79 146
     go_simp
     exact hK.out _ _ (GT.mk rfl (z8m (fun _=>False) wa [.num x.rep.st,.num x.rep.no,.num x.rep.mi,.num x.rep.ar,.txt x.rep.cl,.num x.rep.vo] (fun t ht=>by simp only [mC,nM,or_false] at ht;rcases ht with rfl|rfl|rfl|rfl|rfl|rfl <;> first|exact Hi.out.rst|exact Hi.out.rno|exact Hi.out.rmi|exact Hi.out.rar|exact Hi.out.rcl|exact Hi.out.rvo))) (z4b _)
    refine ocO (fun a wa ha hs hd K hK=>?_) ?_
    ·obtain ⟨v0,e0,q0⟩:=dgO hd 80 147
     go_simp
     go_at_call 36
     refine (z6j [.num x.rep.st,.num x.rep.no,.num x.rep.mi,.num x.rep.ar,.txt x.rep.cl,.num x.rep.vo] _ (fun _=>False) wa (by simp) q0 (fun j h=>h.elim)).mono ?_
     rintro e W7 ⟨dY,rfl,cI,ag⟩
     exact hK.out _ _ (GT.mk rfl ⟨dY,rfl,x7v cI hs.2.2.2.2.2.2.lt (fun j h=>h.elim)⟩) ag
    refine ocO (fun a wa ha hs hd K hK=>?_) ?_
    ·obtain ⟨v0,e0,q0⟩:=dgO hd 81 148
     obtain ⟨lx,rfl,hn⟩:=q0
     go_simp
     exact hK.out _ _ (GT.mk rfl ⟨lx,rfl,hn⟩) (Below.refl _ _)
    refine oc0 1 ?_
    refine oc1 83 150 ?_
    refine z2i 84 151 (fun wa hs=>(hs.1.cell 23:wa.cell? ⟨w.heap.size,23,Y⟩=Z (J X x.sts.st))) ?_
    refine oc1 85 152 ?_
    refine oc0 1 ?_
    refine oc1 87 154 ?_
    refine z2i 88 155 (fun wa hs=>(hs.1.cell 24:wa.cell? ⟨w.heap.size,24,Y⟩=Z (J X x.sts.frm))) ?_
    refine oc1 89 156 ?_
    refine oc0 1 ?_
    refine oc1 91 158 ?_
    refine z2i 92 159 (fun wa hs=>(hs.1.cell 25:wa.cell? ⟨w.heap.size,25,Y⟩=Z (E x.sts.wk))) ?_
    refine oc1 93 160 ?_
    refine ocO (fun a wa ha hs hd K hK=>?_) ?_
    ·have e0:=dpO hd 86 153
     have e1:=dpO hd 90 157
     have e2:=dpO hd 94 161
     go_simp
     exact hK.out _ _ (GT.mk rfl (z8m (fun _=>False) wa [.num x.sts.st,.num x.sts.frm,.flag x.sts.wk] (fun t ht=>by simp only [mC,nM,or_false] at ht;rcases ht with rfl|rfl|rfl <;> first|trivial|exact Hi.out.sst|exact Hi.out.sfr))) (z4b _)
    refine ocO (fun a wa ha hs hd K hK=>?_) ?_
    ·obtain ⟨v0,e0,q0⟩:=dgO hd 95 162
     go_simp
     go_at_call 36
     refine (z6j [.num x.sts.st,.num x.sts.frm,.flag x.sts.wk] _ (fun _=>False) wa (by simp) q0 (fun j h=>h.elim)).mono ?_
     rintro e W7 ⟨dY,rfl,cI,ag⟩
     exact hK.out _ _ (GT.mk rfl ⟨dY,rfl,x7v cI hs.2.2.2.2.2.2.lt (fun j h=>h.elim)⟩) ag
    refine ocO (fun a wa ha hs hd K hK=>?_) ?_
    ·obtain ⟨v0,e0,q0⟩:=dgO hd 96 163
     obtain ⟨lx,rfl,hn⟩:=q0
     go_simp
     exact hK.out _ _ (GT.mk rfl ⟨lx,rfl,hn⟩) (Below.refl _ _)
    refine oc0 1 ?_
    refine z2i 98 165 (fun wa hs=>(hs.1.cell 26:wa.cell? ⟨w.heap.size,26,Y⟩=Z (J X x.n))) ?_
    refine oc1 99 166 ?_
    refine oc0 1 ?_
    refine oc1 101 168 ?_
    refine z2i 102 169 (fun wa hs=>((by rw [← Hsv.out];exact hs.1.cell 27):wa.cell? ⟨w.heap.size,27,Y⟩=Z ((I ov x.stn.vols.length cv)))) ?_
    refine oc1 103 170 ?_
    refine oc0 1 ?_
    refine oc1 105 172 ?_
    refine z2i 106 173 (fun wa hs=>(hs.1.cell 28:wa.cell? ⟨w.heap.size,28,Y⟩=Z (J X x.stn.sh))) ?_
    refine oc1 107 174 ?_
    refine oc0 1 ?_
    refine oc1 109 176 ?_
    refine z2i 110 177 (fun wa hs=>(hs.1.cell 29:wa.cell? ⟨w.heap.size,29,Y⟩=Z (J X x.stn.fa))) ?_
    refine oc1 111 178 ?_
    refine ocO (fun a wa ha hs hd K hK=>?_) ?_
    ·have e0:=dpO hd 104 171
     have e1:=dpO hd 108 175
     have e2:=dpO hd 112 179
     go_simp
     exact hK.out _ _ (GT.mk rfl (z8m (fun _=>False) wa [.nums x.stn.vols (I ov x.stn.vols.length cv),.num x.stn.sh,.num x.stn.fa] (fun t ht=>by simp only [mC,nM,or_false] at ht;rcases ht with rfl|rfl|rfl <;> first|exact ⟨Hi.out.vols,Hl.out.vols,HVs.out wa hs.2.2.2.2.2.1⟩|exact Hi.out.sh|exact Hi.out.fa))) (z4b _)
    refine ocO (fun a wa ha hs hd K hK=>?_) ?_
    ·obtain ⟨v0,e0,q0⟩:=dgO hd 113 180
     go_simp
     go_at_call 36
     refine (z6j [.nums x.stn.vols (I ov x.stn.vols.length cv),.num x.stn.sh,.num x.stn.fa] _ (fun _=>False) wa (by simp) q0 (fun j h=>h.elim)).mono ?_
     rintro e W7 ⟨dY,rfl,cI,ag⟩
     exact hK.out _ _ (GT.mk rfl ⟨dY,rfl,x7v cI hs.2.2.2.2.2.2.lt (fun j h=>h.elim)⟩) ag
    refine ocO (fun a wa ha hs hd K hK=>?_) ?_
    ·obtain ⟨v0,e0,q0⟩:=dgO hd 114 181
     obtain ⟨lx,rfl,hn⟩:=q0
     go_simp
     exact hK.out _ _ (GT.mk rfl ⟨lx,rfl,hn⟩) (Below.refl _ _)
    refine ocO (fun a wa ha hs hd K hK=>?_) ?_
    ·obtain ⟨v0,e0,q0⟩:=dgO hd 14 81
     obtain ⟨kA,rfl,ig⟩:=q0
     have e1:=dpO hd 17 84
     have e2:=dpO hd 20 87
     obtain ⟨v3,e3,q3⟩:=dgO hd 44 111
     obtain ⟨lx3,rfl,eJ⟩:=q3
     obtain ⟨v4,e4,q4⟩:=dgO hd 46 113
     obtain ⟨oN,rfl,lP⟩:=q4
     obtain ⟨v5,e5,q5⟩:=dgO hd 61 128
     obtain ⟨oO,rfl,ir⟩:=q5
     obtain ⟨v6,e6,q6⟩:=dgO hd 82 149
     obtain ⟨lx6,rfl,hn6⟩:=q6
     obtain ⟨v7,e7,q7⟩:=dgO hd 97 164
     obtain ⟨lx7,rfl,hn7⟩:=q7
     have e8:=dpO hd 100 167
     obtain ⟨v9,e9,q9⟩:=dgO hd 115 182
     obtain ⟨lx9,rfl,eM⟩:=q9
     go_simp
     exact hK.out _ _ (GT.mk rfl ⟨[.val (lV [iV x.mi,iV x.ce,iV x.no]) kA,.num x.kind,.txt x.text,.val (lV (y0n x.flt)) lx3,.val (lV (x.tree.map z5j)) oN,.val (lV [iV x.chg.frm,iV x.chg.cfg,nsV x.chg.modes]) oO,.val (lV (z1p x.rep)) lx6,.val (lV [iV x.sts.st,iV x.sts.frm,bV x.sts.wk]) lx7,.num x.n,.val (lV [nsV x.stn.vols,iV x.stn.sh,iV x.stn.fa]) lx9],rfl,z3r.up (z8m (DB (w.heap.size+2) wa) wa [.val (lV [iV x.mi,iV x.ce,iV x.no]) kA,.num x.kind,.txt x.text,.val (lV (y0n x.flt)) lx3,.val (lV (x.tree.map z5j)) oN,.val (lV [iV x.chg.frm,iV x.chg.cfg,nsV x.chg.modes]) oO,.val (lV (z1p x.rep)) lx6,.val (lV [iV x.sts.st,iV x.sts.frm,bV x.sts.wk]) lx7,.num x.n,.val (lV [nsV x.stn.vols,iV x.stn.sh,iV x.stn.fa]) lx9] (fun t ht=>by simp only [mC,nM,or_false] at ht;rcases ht with rfl|rfl|rfl|rfl|rfl|rfl|rfl|rfl|rfl|rfl <;> first|exact Hi.out.kind|exact Hi.out.text|exact Hi.out.n|exact ig|exact eJ|exact lP|exact ir|exact hn6|exact hn7|exact eM) (fun k h=>h.2)) (DB.mono (z4b (w:=wa) (Q (([.val (lV [iV x.mi,iV x.ce,iV x.no]) kA,.num x.kind,.txt x.text,.val (lV (y0n x.flt)) lx3,.val (lV (x.tree.map z5j)) oN,.val (lV [iV x.chg.frm,iV x.chg.cfg,nsV x.chg.modes]) oO,.val (lV (z1p x.rep)) lx6,.val (lV [iV x.sts.st,iV x.sts.frm,bV x.sts.wk]) lx7,.num x.n,.val (lV [nsV x.stn.vols,iV x.stn.sh,iV x.stn.fa]) lx9]:List It).map It.v).toArray 20)))⟩) (z4b _)
    refine ocO (fun a wa ha hs hd K hK=>?_) ?_
    ·obtain ⟨v0,e0,q0⟩:=dgO hd 116 183
     obtain ⟨its,hx10,hit⟩:=q0
     have hil:its.length=10:=(by have:=congrArg List.length hx10;rw [List.length_map] at this;exact this)
     go_simp
     go_at_call 36
     refine (z6j its _ (DB (w.heap.size+2) wa) wa (by omega) hit (fun j h=>h.2)).mono ?_
     rintro e W7 ⟨dY,rfl,cI,ag⟩
     exact hK.out _ _ (GT.mk rfl ⟨dY,rfl,by rw [← hx10];exact z2p cI hs.2.2.2.2.2.2.lt (fun j h=>h.1.resolve_left id)⟩) ag
    exact trivial
   ·intro a w1 ha hdf hsz bJ hg
    obtain ⟨v,e184,q⟩:=hg 117 184 (by kernel_rfl)
    obtain ⟨lvF,rfl,hOF⟩:=GT.out (g:=(.own (z8e x))) rfl q
    have e2:=daO ha 2
    obtain ⟨oF,cF,rfl⟩:=hOF.shape
    have HOF:=hd_ hOF;have dx:=hd_ bJ.2.2.2.2.2.1;have aP:=hd_ bJ.2.2.2.2.2.2
    clear hg hOF q bJ ha
    refine rdL 118 fun K hK=>?_
    refine z0l (by rfl) 80 (.tmp 2) (.tmp 184) rfl (w.heap.size+1) (lvC (.slice oF (z8e x).length cF)) (by simp [Act.eval,e2]) (by simp [Act.eval,e184]) 80 Z4c aP.out rfl (by kernel_rfl) (z4q _ rfl) ?_
    intro w9 nY ay hz9
    refine hK.out (Act.put _ Y undef) w9 (fun h=>absurd h (by decide)) (fun _=>?_)
    clear hK K
    refine z3b (by kernel_rfl) ?_ _
    go_wp2_with fail
    refine bodyPost_ret (v:=C (lvC (.slice oF (z8e x).length cF)).toArray) (results_cell_row rfl _ _ (w.heap.size+1) 80 _ (0,0) _ (by simp [e2]) nY.out underlying80 rfl (by kernel_rfl)) hdf ?_
    exact ⟨_,rfl,z2p (HOF.out.keep ay.out (fun q e=>by injection e with e;subst e;exact ⟨by omega,fun h=>h⟩)) (by omega) (fun j h=>h.elim),dx.out.grown ay.out dx.out.size (fun q e=>by injection e with e;omega)⟩
end Go.Proofs.YtdblnbnofjggnaaGreatDoor
