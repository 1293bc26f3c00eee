/- Parts of the proofs of chapter 49's laws: Jcn. -/
import Derived.Test.YtdblnbnofjggnaaGreatDoorM40
set_option maxHeartbeats 16000000
set_option maxRecDepth 100000
open Go
open Lib renaming hid → hd_
open List renaming mem_cons → mC
open List renaming not_mem_nil → nM
open List renaming setIfInBounds_toArray → aS
open List renaming set_cons_zero → aZ
open List renaming set_cons_succ → aU
open Nat renaming lt_of_lt_of_le → lL
namespace Go.Proofs.YtdblnbnofjggnaaGreatDoor
open Go.RowKit
structure InpL (x:Inp):Prop where
 ways:x.flt.ways.length ≤ 1000000
 tree:x.tree.length ≤ 1000000
 cuts:∀ n ∈ x.tree,n.cuts.length ≤ 1000000
 modes:x.chg.modes.length ≤ 1000000
 vols:x.stn.vols.length ≤ 1000000
def k8s (x:Inp) (w:World) (e:Ending) (w':World):Prop:=∃ lv,e = .returned (.agg (lvC lv).toArray)∧z3j (fun _=>False) w.heap.size w' lv (z5e x)∧Below w.heap.size w w'
def ZFc:List Value:=j0z.cells (.slice none 0 0)
def ZRc:List Value:=rpZ.cells
def k3x (x:Inp) (s:Slc) (w0:World) (v3 v4 v5:Value) (wx:World):Prop :=
 ∃ g3 g4 g5:Nat,v3 = .pointer (some ⟨g3,0,none⟩)∧v4 = .pointer (some ⟨g4,0,none⟩)∧v5 = .pointer (some ⟨g5,0,none⟩)∧CB wx g3 28 (x.flt.cells s.ways)∧CB wx g4 33 x.rep.cells∧CB wx g5 80 (lvC (.slice none 0 0)) ∧
  w0.heap.size ≤ g3∧w0.heap.size ≤ g4∧w0.heap.size ≤ g5∧Below w0.heap.size w0 wx
def G1 (B:Nat) (k:Nat) (v:Value) (w:World):Prop :=
 (k = 4→v = .agg (lvC (.slice none 0 0)).toArray)∧(k = 5→∃ g,v = .pointer (some ⟨g,0,none⟩)∧CB w g 28 ZFc∧B ≤ g)∧(k = 6→∃ g,v = .pointer (some ⟨g,0,none⟩)∧CB w g 33 ZRc∧B ≤ g)∧(k = 7→∃ g,v = .pointer (some ⟨g,0,none⟩)∧CB w g 80 Z4c∧B ≤ g)
theorem G1.keep {B k:Nat} {v:Value} {w w':World} (h:G1 B k v w) (hb:Below w.heap.size w w'):G1 B k v w':=by
 obtain ⟨h1,h2,h3,h4⟩:=h
 exact ⟨h1,fun e=>by obtain ⟨g,a,b,c⟩:=h2 e;exact ⟨g,a,b.ext hb,c⟩,fun e=>by obtain ⟨g,a,b,c⟩:=h3 e;exact ⟨g,a,b.ext hb,c⟩,fun e=>by obtain ⟨g,a,b,c⟩:=h4 e;exact ⟨g,a,b.ext hb,c⟩⟩
theorem y5e {w:World} {g:Nat} {t t':TypeId} {cs cs':List Value} (h:CB w g t cs) (h':CB w g t' cs'):t = t':=by
 unfold CB at h h'
 rw [h] at h'
 injection h' with h'
 injection h' with _ h' _
theorem j4t {w:World} {g:Nat} {x:Inp} {s:Slc} (h:CB w g 41 (x.cells s)):w.rangeAt g 17 x.rep.cells:=fun j v hv=>by
 rw [h.cell]
 exact z2d (B:=x.rep.cells) 17 (by rfl) j v hv
theorem j5t (r:Rp):∀ u ∈ r.cells,u.oneCell' = true:=by
 intro u hu
 simp only [Rp.cells,mC,nM,or_false] at hu
 rcases hu with rfl | rfl | rfl | rfl | rfl | rfl <;> rfl
theorem z6p.up {D D':Nat→Prop} {w:World} {l:List It} {v:Value} (h:z6p D w l v) (hB:∀ k,D k→D' k):z6p D' w l v:=by
 refine ⟨fun t ht=>?_,h.2⟩
 have:=h.1 t ht
 cases t with
 | val x lx=>exact y2e.keep this hB (fun _ _=>rfl)
 | _=>exact this
def k9s (x:Inp) (B g3 g4 _g5:Nat) (ow om ov:Option Addr) (cw cm cv:Nat):List GK :=
 [(.eq (.pointer (some ⟨B,0,none⟩))),(.eq (.pointer (some ⟨B,0,none⟩))),(.eq (.int .i64 x.mi)),(.eq (.iface 3 (.int .i64 x.mi))),(.eq (.pointer (some ⟨B,0,none⟩))),(.eq (.pointer (some ⟨B,1,none⟩))),(.eq (.int .i64 x.ce)),(.eq (.iface 3 (.int .i64 x.ce))),(.eq (.pointer (some ⟨B,0,none⟩))),(.eq (.pointer (some ⟨B,2,none⟩))),(.eq (.int .i64 x.no)),(.eq (.iface 3 (.int .i64 x.no))),(.its [.num x.mi,.num x.ce,.num x.no]),(.val (lV [iV x.mi,iV x.ce,iV x.no])),(.ifv (lV [iV x.mi,iV x.ce,iV x.no])),(.eq (.pointer (some ⟨B,3,none⟩))),(.eq (.int .i64 x.kind)),(.eq (.iface 3 (.int .i64 x.kind))),(.eq (.pointer (some ⟨B,4,none⟩))),(.eq (.string x.text)),(.eq (.iface 9 (.string x.text))),(.eq (.pointer (some ⟨g3,0,none⟩))),(.eq (.int .i64 x.flt.id)),(.eq (.iface 3 (.int .i64 x.flt.id))),(.eq (.pointer (some ⟨g3,1,none⟩))),(.eq (.int .i64 x.flt.air)),(.eq (.iface 3 (.int .i64 x.flt.air))),(.eq (.pointer (some ⟨g3,2,none⟩))),(.eq (.int .i64 x.flt.cls)),(.eq (.iface 3 (.int .i64 x.flt.cls))),(.eq (.pointer (some ⟨g3,3,none⟩))),(.eq (.string x.flt.call)),(.eq (.iface 9 (.string x.flt.call))),(.eq (.pointer (some ⟨g3,4,none⟩))),(.eq ((.slice ow x.flt.ways.length cw))),(.eq (.iface 24 ((.slice ow x.flt.ways.length cw)))),(.eq (.pointer (some ⟨g3,5,none⟩))),(.eq (.agg #[.int .i64 x.flt.wf,.int .i64 x.flt.wt])),(.eq (.iface 26 (.agg #[.int .i64 x.flt.wf,.int .i64 x.flt.wt]))),(.eq (.pointer (some ⟨g3,7,none⟩))),(.eq (.bool x.flt.can)),(.eq (.iface 4 (.bool x.flt.can))),(.its [.num x.flt.id,.num x.flt.air,.num x.flt.cls,.txt x.flt.call,.nums x.flt.ways (.slice ow x.flt.ways.length cw),.span x.flt.wf x.flt.wt,.flag x.flt.can]),(.val (lV (z7z x.flt))),(.ifv (lV (z7z x.flt))),(.val (lV (x.tree.map z8j))),(.ifv (lV (x.tree.map z8j))),(.eq (.pointer (some ⟨B,14,none⟩))),(.eq (.pointer (some ⟨B,14,none⟩))),(.eq (.int .i64 x.chg.frm)),(.eq (.iface 3 (.int .i64 x.chg.frm))),(.eq (.pointer (some ⟨B,14,none⟩))),(.eq (.pointer (some ⟨B,15,none⟩))),(.eq (.int .i64 x.chg.cfg)),(.eq (.iface 3 (.int .i64 x.chg.cfg))),(.eq (.pointer (some ⟨B,14,none⟩))),(.eq (.pointer (some ⟨B,16,none⟩))),(.eq ((.slice om x.chg.modes.length cm))),(.eq (.iface 24 ((.slice om x.chg.modes.length cm)))),(.its [.num x.chg.frm,.num x.chg.cfg,.nums x.chg.modes (.slice om x.chg.modes.length cm)]),(.val (lV [iV x.chg.frm,iV x.chg.cfg,nsV x.chg.modes])),(.ifv (lV [iV x.chg.frm,iV x.chg.cfg,nsV x.chg.modes])),(.eq (.pointer (some ⟨g4,0,none⟩))),(.eq (.int .i64 x.rep.st)),(.eq (.iface 3 (.int .i64 x.rep.st))),(.eq (.pointer (some ⟨g4,1,none⟩))),(.eq (.int .i64 x.rep.no)),(.eq (.iface 3 (.int .i64 x.rep.no))),(.eq (.pointer (some ⟨g4,2,none⟩))),(.eq (.int .i64 x.rep.mi)),(.eq (.iface 3 (.int .i64 x.rep.mi))),(.eq (.pointer (some ⟨g4,3,none⟩))),(.eq (.int .i64 x.rep.ar)),(.eq (.iface 3 (.int .i64 x.rep.ar))),(.eq (.pointer (some ⟨g4,4,none⟩))),(.eq (.string x.rep.cl)),(.eq (.iface 9 (.string x.rep.cl))),(.eq (.pointer (some ⟨g4,5,none⟩))),(.eq (.int .i64 x.rep.vo)),(.eq (.iface 3 (.int .i64 x.rep.vo))),(.its [.num x.rep.st,.num x.rep.no,.num x.rep.mi,.num x.rep.ar,.txt x.rep.cl,.num x.rep.vo]),(.val (lV (z9j x.rep))),(.ifv (lV (z9j x.rep))),(.eq (.pointer (some ⟨B,23,none⟩))),(.eq (.pointer (some ⟨B,23,none⟩))),(.eq (.int .i64 x.sts.st)),(.eq (.iface 3 (.int .i64 x.sts.st))),(.eq (.pointer (some ⟨B,23,none⟩))),(.eq (.pointer (some ⟨B,24,none⟩))),(.eq (.int .i64 x.sts.frm)),(.eq (.iface 3 (.int .i64 x.sts.frm))),(.eq (.pointer (some ⟨B,23,none⟩))),(.eq (.pointer (some ⟨B,25,none⟩))),(.eq (.bool x.sts.wk)),(.eq (.iface 4 (.bool x.sts.wk))),(.its [.num x.sts.st,.num x.sts.frm,.flag x.sts.wk]),(.val (lV [iV x.sts.st,iV x.sts.frm,bV x.sts.wk])),(.ifv (lV [iV x.sts.st,iV x.sts.frm,bV x.sts.wk])),(.eq (.pointer (some ⟨B,26,none⟩))),(.eq (.int .i64 x.n)),(.eq (.iface 3 (.int .i64 x.n))),(.eq (.pointer (some ⟨B,27,none⟩))),(.eq (.pointer (some ⟨B,27,none⟩))),(.eq ((.slice ov x.stn.vols.length cv))),(.eq (.iface 24 ((.slice ov x.stn.vols.length cv)))),(.eq (.pointer (some ⟨B,27,none⟩))),(.eq (.pointer (some ⟨B,28,none⟩))),(.eq (.int .i64 x.stn.sh)),(.eq (.iface 3 (.int .i64 x.stn.sh))),(.eq (.pointer (some ⟨B,27,none⟩))),(.eq (.pointer (some ⟨B,29,none⟩))),(.eq (.int .i64 x.stn.fa)),(.eq (.iface 3 (.int .i64 x.stn.fa))),(.its [.nums x.stn.vols (.slice ov x.stn.vols.length cv),.num x.stn.sh,.num x.stn.fa]),(.val (lV [nsV x.stn.vols,iV x.stn.sh,iV x.stn.fa])),(.ifv (lV [nsV x.stn.vols,iV x.stn.sh,iV x.stn.fa])),(.itx (z5e x)),(.own (z5e x))]
def k1l (x:Inp) (W1:World) (g5:Nat) (i:Value) (wr:World):Prop :=
 ∃ (xs:List V) (lv:Value),xs = (x.tree.take xs.length).map z8j∧xs.length ≤ x.tree.length∧i = .int .i64 (xs.length:Int)∧CB wr g5 80 (lvC lv)∧z3j (fun _=>False) W1.heap.size wr lv xs∧W1.grownBy wr (some g5)
def k2l (t:Nod) (wo:World) (cs:List Value) (g8:Nat) (i:Value) (wr:World):Prop :=
 ∃ (xs:List V) (lv:Value),xs = (t.cuts.take xs.length).map z2s∧xs.length ≤ t.cuts.length∧i = .int .i64 (xs.length:Int)∧CB wr g8 80 (lvC lv)∧z3j (fun _=>False) (g8 + 1) wr lv xs∧CB wr wo.heap.size 48 cs∧Below wo.heap.size wo wr
theorem x7m {α:Type} {f:α→V} {l:List α} {xs:List V} {c:α} (hc:l[xs.length]? = some c) (hx:xs = (l.take xs.length).map f):xs ++ [f c] = (l.take (xs ++ [f c]).length).map f:=by
 rw [List.length_append,List.length_singleton,List.take_add_one,hc]
 simp [← hx]
theorem x9s {t:Nod} {wo w9:World} {cs:List Value} {g8:Nat} {xs:List V} {lv:Value} {c:Cut} {oa:Option Addr} {cp:Nat} (hc:t.cuts[xs.length]? = some c) (hx:xs = (t.cuts.take xs.length).map z2s) (hT:CB w9 g8 80 (lvC lv))
 (hO:z3j (fun _=>False) (g8 + 1) w9 (.slice oa (xs.length + 1) cp) (xs ++ [z2s c])) (h7:CB w9 wo.heap.size 48 cs) (hb:Below wo.heap.size wo w9) (hg:wo.heap.size < g8) :
 k2l t wo cs g8 (.int .i64 ((xs.length:Int) + 1)) (w9.setCell ⟨g8,3,none⟩ (.slice oa (xs.length + 1) cp)):=by
 have hl:(xs ++ [z2s c]).length = xs.length + 1:=by simp
 have hlt:=(List.getElem?_eq_some_iff.1 hc).1
 refine ⟨xs ++ [z2s c],.slice oa (xs.length + 1) cp,x7m hc hx,by omega,by rw [hl];simp,hT.set 3 _,hO.set (by omega) (fun h=>h) 3 _,h7.far (by show wo.heap.size ≠ g8;omega) _,hb.grown (z8b w9 _ 3 _) hb.size (fun k hk=>by injection hk with hk;omega)⟩
theorem x0t {x:Inp} {W1 w9:World} {g5:Nat} {xs:List V} {lv:Value} {t:Nod} {oa:Option Addr} {cp:Nat} (hc:x.tree[xs.length]? = some t) (hx:xs = (x.tree.take xs.length).map z8j) (hT:CB w9 g5 80 (lvC lv))
 (hO:z3j (fun _=>False) W1.heap.size w9 (.slice oa (xs.length + 1) cp) (xs ++ [z8j t])) (h1:W1.grownBy w9 (some g5)) (hg:g5 < W1.heap.size) :
 k1l x W1 g5 (.int .i64 ((xs.length:Int) + 1)) (w9.setCell ⟨g5,3,none⟩ (.slice oa (xs.length + 1) cp)):=by
 have hl:(xs ++ [z8j t]).length = xs.length + 1:=by simp
 have hlt:=(List.getElem?_eq_some_iff.1 hc).1
 exact ⟨xs ++ [z8j t],.slice oa (xs.length + 1) cp,x7m hc hx,by omega,by rw [hl];simp,hT.set 3 _,hO.set hg (fun h=>h) 3 _,z2a h1 (z8b w9 _ 3 _) (.inl rfl)⟩
theorem z0z (x:Inp) (s:Slc) (w:World) (hx:InpR w x s) (hi:InpI x) (hl:InpL x):Calls Tryz.prog 35 #[x.v s] w (k8s x w):=by
 have hb0:Below w.heap.size w ((w.alloc (bI x s)).alloc Z4):=(z5b (w:=w) (bI x s)).alloc (z5b (w:=w) (bI x s)).size _
 have hcx:CB ((w.alloc (bI x s)).alloc Z4) w.heap.size 41 (x.cells s):=(z6a w (bI x s) _ _ rfl).alloc _
 have hc2:CB ((w.alloc (bI x s)).alloc Z4) (w.heap.size + 1) 80 Z4c:=by
  have:=z6a (w.alloc (bI x s)) Z4 80 Z4c rfl
  rwa [World.size_alloc] at this
 have HI:=hd_ hcx;have H2:=hd_ hc2;have HB0:=hd_ hb0;have HXR:=hd_ hx;have Hi:=hd_ hi;have Hl:=hd_ hl
 have HFo:Hid (∀ u ∈ x.flt.cells s.ways,u.oneCell' = true):=y5n x.flt s.ways (by obtain ⟨oa,cap,e,_⟩:=hx.ways.shape;rw [e];rfl)
 have HL2:Hid (w.heap.size + 1 < ((w.alloc (bI x s)).alloc Z4).heap.size):=hc2.lt
 have HL0:Hid (w.heap.size < ((w.alloc (bI x s)).alloc Z4).heap.size):=hcx.lt
 clear hb0 hcx hc2 hx hi hl
 change Calls Tryz.prog 35 #[.agg (x.cells s).toArray] w _
 go_enter Tryz.func35,Tryz.ntmps35
 go_upto_region 1 with fail
 change Code.wp _ _ _ _ ((w.alloc (bI x s)).alloc Z4)
 generalize (w.alloc (bI x s)).alloc Z4 = w0 at *
 go_cut [3,4,5] (fun v3 v4 v5 wx=>k3x x s w0 v3 v4 v5 wx)
 case first =>
  clear H2 HB0 HXR Hi Hl HL2
  refine z9a (S:=fun w'=>CB w' w.heap.size 41 (x.cells s)∧Below w0.heap.size w0 w') (late:=fun _=>false) (by kernel_rfl) ⟨HI.out.ext (Below.refl w0.heap.size w0).drew,(Below.refl w0.heap.size w0).drew⟩ (fun hHeld=>?_)
  replace HI:=hd_ hHeld.1
  have HBd:=hd_ hHeld.2
  generalize w0.drew = wd at *
  refine tkL (some 11) 0 ?_
  refine z9s (some 12) 1 rfl (.agg (x.flt.cells s.ways).toArray) (yieldsIf_load_mid (by rfl) 28 _ rfl w.heap.size 5 rfl (x.flt.cells s.ways) _ (fun wS hSw=>y4n hSw.1) Tryz.underlying28 rfl (by kernel_rfl)) ?_
  refine tkL (some 13) 2 ?_
  refine z9s (some 14) 3 rfl (.agg (x.rep.cells).toArray) (yieldsIf_load_mid (by rfl) 33 _ rfl w.heap.size 17 rfl (x.rep.cells) _ (fun wS hSw=>j4t hSw.1) Tryz.underlying33 rfl (by kernel_rfl)) ?_
  refine z3m [(4,15),(5,3),(6,4),(7,5)] #[true,true,true,true,true,true,true,true,false,false,false] 3 (G1 w0.heap.size) (by kernel_rfl) (by decide) (by decide) (by kernel_rfl) (by kernel_rfl) (by kernel_rfl) (by kernel_rfl) (fun _ _ _ _ h hb=>h.keep hb) (fun _ _ h hb=>⟨h.1.ext hb,z0a h.2 hb⟩) hHeld ?_ ?_
  · intro i hi
    simp only [List.map_cons,List.map_nil,mC,nM,or_false] at hi
    rcases hi with rfl | rfl | rfl | rfl
    · refine Obl.mk rfl (fun a wa ha hs hd K hK=>?_)
      go_simp
      go_at_call 36
      refine (z3w _ _ wa).mono ?_
      rintro e w' ⟨rfl,hb⟩
      exact hK.out _ _ ⟨fun _=>rfl,fun h=>absurd h (by decide),fun h=>absurd h (by decide),fun h=>absurd h (by decide)⟩ hb
    · refine Obl.mk rfl (fun a wa ha hs hd K hK=>?_)
      go_simp
      exact hK.out _ _ ⟨fun h=>absurd h (by decide),fun _=>⟨wa.heap.size,rfl,z6a wa (.cells ZFc.toArray 28) _ _ rfl,hs.2.size⟩,fun h=>absurd h (by decide),fun h=>absurd h (by decide)⟩ (z5b (w:=wa) (.cells ZFc.toArray 28))
    · refine Obl.mk rfl (fun a wa ha hs hd K hK=>?_)
      go_simp
      exact hK.out _ _ ⟨fun h=>absurd h (by decide),fun h=>absurd h (by decide),fun _=>⟨wa.heap.size,rfl,z6a wa (.cells ZRc.toArray 33) _ _ rfl,hs.2.size⟩,fun h=>absurd h (by decide)⟩ (z5b (w:=wa) (.cells ZRc.toArray 33))
    · refine Obl.mk rfl (fun a wa ha hs hd K hK=>?_)
      go_simp
      exact hK.out _ _ ⟨fun h=>absurd h (by decide),fun h=>absurd h (by decide),fun h=>absurd h (by decide),fun _=>⟨wa.heap.size,rfl,z6a wa (.cells Z4c.toArray 80) _ _ rfl,hs.2.size⟩⟩ (z5b (w:=wa) (.cells Z4c.toArray 80))
  · intro vals w1 hs1 hg
    obtain ⟨e15,-⟩:=hg (4,15) (by simp)
    obtain ⟨-,h5,-⟩:=hg (5,3) (by simp)
    obtain ⟨-,-,h6,-⟩:=hg (6,4) (by simp)
    obtain ⟨-,-,-,h7⟩:=hg (7,5) (by simp)
    obtain ⟨g3,e3,k3,l3⟩:=h5 rfl
    obtain ⟨g4,e4,k4,l4⟩:=h6 rfl
    obtain ⟨g5,e5,k5,l5⟩:=h7 rfl
    have e15:=e15 rfl
    simp only [y6s,Act.put,aS,aZ,aU]
    simp only at e3 e4 e5 e15
    rw [e3,e4,e5,e15]
    have n34:g3 ≠ g4:=fun e=>by subst e;have:=y5e k3 k4;revert this;decide
    have n35:g3 ≠ g5:=fun e=>by subst e;have:=y5e k3 k5;revert this;decide
    have n45:g4 ≠ g5:=fun e=>by subst e;have:=y5e k4 k5;revert this;decide
    have K3:=hd_ k3;have K4:=hd_ k4;have K5:=hd_ k5;have L3:=hd_ l3;have L4:=hd_ l4;have L5:=hd_ l5;have N34:=hd_ n34;have N35:=hd_ n35;have N45:=hd_ n45
    have HI1:=hd_ hs1.1;have HB1:=hd_ hs1.2;have hHeld:=hs1
    have HwL:Hid (w.heap.size < w0.heap.size):=HL0.out
    clear hg h5 h6 h7 e3 e4 e5 e15 k3 k4 k5 l3 l4 l5 n34 n35 n45 hs1
    refine rdL 8 fun K hK=>?_
    refine z8c (by rfl) 28 (.tmp 3) (.tmp 12) rfl g3 (x.flt.cells s.ways) rfl rfl 28 ZFc K3.out rfl (by kernel_rfl) (HFo.out) ?_
    intro w2 hc hg hz
    replace K3:=hc
    replace K4:=hd_ (K4.out.keep (hg.out.block _ K4.out.lt (fun e=>by injection e with e;exact N34.out e.symm)))
    replace K5:=hd_ (K5.out.keep (hg.out.block _ K5.out.lt (fun e=>by injection e with e;exact N35.out e.symm)))
    replace HI1:=hd_ (HI1.out.keep (hg.out.block _ HI1.out.lt (fun e=>by injection e with e;have:=HwL.out;have:=L3.out;omega)))
    replace HB1:=hd_ (HB1.out.grown hg.out HB1.out.size (fun k hk=>by injection hk with hk;have:=L3.out;omega))
    clear hc hg hz hHeld
    refine z8l hK ⟨HI1.out,HB1.out⟩ fun hHeld=>?_
    clear hK K
    refine rdL 9 fun K hK=>?_
    refine z8c (by rfl) 33 (.tmp 4) (.tmp 14) rfl g4 (x.rep.cells) rfl rfl 33 ZRc K4.out rfl (by kernel_rfl) (j5t x.rep) ?_
    intro w3 hc hg hz
    replace K4:=hc
    replace K3:=hd_ (K3.out.keep (hg.out.block _ K3.out.lt (fun e=>by injection e with e;exact N34.out e)))
    replace K5:=hd_ (K5.out.keep (hg.out.block _ K5.out.lt (fun e=>by injection e with e;exact N45.out e.symm)))
    replace HI1:=hd_ (HI1.out.keep (hg.out.block _ HI1.out.lt (fun e=>by injection e with e;have:=HwL.out;have:=L4.out;omega)))
    replace HB1:=hd_ (HB1.out.grown hg.out HB1.out.size (fun k hk=>by injection hk with hk;have:=L4.out;omega))
    clear hc hg hz hHeld
    refine z8l hK ⟨HI1.out,HB1.out⟩ fun hHeld=>?_
    clear hK K
    refine rdL 10 fun K hK=>?_
    refine z8c (by rfl) 80 (.tmp 5) (.tmp 15) rfl g5 (lvC (.slice none 0 0)) rfl rfl 80 Z4c K5.out rfl (by kernel_rfl) (z0p _ rfl) ?_
    intro w4 hc hg hz
    replace K5:=hc
    replace K3:=hd_ (K3.out.keep (hg.out.block _ K3.out.lt (fun e=>by injection e with e;exact N35.out e)))
    replace K4:=hd_ (K4.out.keep (hg.out.block _ K4.out.lt (fun e=>by injection e with e;exact N45.out e)))
    replace HI1:=hd_ (HI1.out.keep (hg.out.block _ HI1.out.lt (fun e=>by injection e with e;have:=HwL.out;have:=L5.out;omega)))
    replace HB1:=hd_ (HB1.out.grown hg.out HB1.out.size (fun k hk=>by injection hk with hk;have:=L5.out;omega))
    clear hc hg hz hHeld
    refine z8l hK ⟨HI1.out,HB1.out⟩ fun hHeld=>?_
    clear hK K
    refine z6b (by kernel_rfl) ?_ _
    go_wp2_with fail
    go_meet
    case rel=>exact ⟨g3,g4,g5,rfl,rfl,rfl,K3.out,K4.out,K5.out,L3.out,L4.out,L5.out,HB1.out⟩
 case rest =>
 obtain ⟨g3,g4,g5,rfl,rfl,rfl,k3,k4,k5,l3,l4,l5,hbx⟩:=hcut
 replace HI:=hd_ (HI.out.ext hbx);replace H2:=hd_ (H2.out.ext hbx);have HB1:=hd_ (z0a HB0.out hbx);have K3:=hd_ k3;have K4:=hd_ k4;have K5:=hd_ k5
 have L3:=hd_ (lL HL0.out l3);have L4:=hd_ (lL HL0.out l4);have L5:=hd_ (lL HL0.out l5)
 have L2:Hid (w.heap.size + 1 < w0.heap.size):=HL2.out
 have L52:Hid (w.heap.size + 1 < g5):=lL L2.out l5
 clear k3 k4 k5 l3 l4 l5 hbx HB0 HFo HL0 L2 HL2
 generalize wc = W1 at *
 obtain ⟨ot,ct,htw,ltr⟩:=HXR.out.tree.shape
 have c13:W1.cell? ⟨w.heap.size,13,none⟩ = some (.slice ot x.tree.length ct):=by rw [← htw];exact HI.out.cell 13
 have HTr:Hid (z6j w x.tree (.slice ot x.tree.length ct)):=hd_ (by rw [← htw];exact HXR.out.tree)
 have l1:(x.tree.length:Int) ≤ 9223372036854775807:=by omega
 clear htw
 go_wp2_with fail
 go_loopw [19] (fun i wr=>k1l x W1 g5 i wr) (fun i _=>x.tree.length - (intOf i).toNat)
 case atStart=>exact ⟨[],.slice none 0 0,rfl,by simp,rfl,K5.out,z3j.nil _ _ _ (fun j h=>h.elim),z7b W1 _⟩
 case round =>
  obtain ⟨xs,lv,hxs,hle,rfl,hT,hO,hg⟩:=hrel
  obtain ⟨ol,cl,rfl⟩:=hO.shape
  have Hxs:=hd_ hxs;have HT:=hd_ hT;have HO:=hd_ hO;have HG:=hd_ hg
  have HBw:=hd_ (HB1.out.grown hg HB1.out.size (fun q e=>by injection e with e;have:=L5.out;omega))
  clear hT hO hg hxs c13
  by_cases hlt:xs.length < x.tree.length
  case pos =>
   obtain ⟨t,ht⟩:∃ t,x.tree[xs.length]? = some t:=⟨_,List.getElem?_eq_getElem hlt⟩
   have tj:decide ((xs.length:Int) < (x.tree.length:Int)) = true:=decide_eq_true (by omega)
   have tj':decide (xs.length < x.tree.length) = true:=decide_eq_true hlt
   obtain ⟨ab,ao,nb,rfl,hab,hel,hr⟩:=(HTr.out.ext HBw.out).el ht
   obtain ⟨rp,rf,ro,rn,rc⟩:=nb
   have Hpar:Hid (rp = t.par):=hr.par;have Hfrm:Hid (rf = t.frm):=hr.frm;have HCU:=hd_ hr.cuts
   obtain ⟨oc2,cc2,he2,lq⟩:=(show z9f cuK wr.heap.size wr t.cuts (.slice ro rn rc) from hr.cuts).shape
   injection he2 with q1 q2 q3
   have HRn:=hd_ q2
   have l2:(rn:Int) ≤ 9223372036854775807:=by omega
   have htm:=List.mem_of_getElem? ht
   have HNI:=hd_ (Hi.out.tree t htm);have Hcl:=hd_ (Hl.out.cuts t htm)
   have Ht:=hd_ ht;have Hxlt:=hd_ hlt
   have Hni:Hid (I64 rp∧I64 rf):=⟨by rw [Hpar.out];exact HNI.out.par,by rw [Hfrm.out];exact HNI.out.frm⟩
   have HRg:Hid (wr.rangeAt ab (ao + xs.length * 3) [.int .i64 rp,.int .i64 rf,.slice ro rn rc]):=fun j u hj=>hel j u hj
   have HW1o:Hid (W1.heap.size ≤ wr.heap.size):=HG.out.size
   have HOlo:=hd_ (fun g e=>(HO.out.own g e).2)
   clear ht hel hr q1 q2 q3 lq htm hab hlt
   generalize wr = wo at *
   have H7z:Hid (CB (wo.alloc (.cells [Value.int .i64 0,.int .i64 0,.slice none 0 0].toArray 48)) wo.heap.size 48 [Value.int .i64 0,.int .i64 0,.slice none 0 0]):=z6a wo _ _ _ rfl
   have H7o:Hid (∀ u ∈ ([.int .i64 rp,.int .i64 rf,.slice ro rn rc]:List Value),u.oneCell' = true):=hd_ (by intro u hu;simp only [mC,nM,or_false] at hu;rcases hu with rfl | rfl | rfl <;> rfl)
   go_upto_region 5 with (first | (have _g:=HRg.out;refine z7a (by rfl) 48 (.tmp 21) rfl ab (ao + xs.length * 3) rfl [.int .i64 rp,.int .i64 rf,.slice ro rn rc] _ HRg.out Tryz.underlying48 rfl (by kernel_rfl) ?_;clear HRg) | (have _g:=H7o.out;refine z4a rfl 48 (.tmp 7) (.tmp 22) rfl wo.heap.size [.int .i64 rp,.int .i64 rf,.slice ro rn rc] rfl rfl 48 [Value.int .i64 0,.int .i64 0,.slice none 0 0] H7z.out rfl (by kernel_rfl) H7o.out (fun w3 H7 HW3 HZ3=>?_);clear H7o))
   have Hz3:Hid (Below wo.heap.size wo w3):=(z5b (w:=wo) (.cells [Value.int .i64 0,.int .i64 0,.slice none 0 0].toArray 48)).grown HW3.out (by simp) (fun q e=>by injection e with e;omega)
   have H73:=H7
   clear HW3 HZ3 H7z
   have HLn:=hd_ (z0p (.slice none 0 0) rfl)
   go_upto_region 6 with (first | (go_at_call 36;refine (z3w _ _ _).mono ?_;go_loud (rintro e w5 ⟨rfl,hb5⟩;have HB5:=hd_ hb5;have H12:Hid (CB (w5.alloc Z4) w5.heap.size 80 Z4c):=z6a w5 Z4 _ _ rfl;clear hb5)) | (have _g:=HLn.out;refine z4a rfl 80 (.tmp 8) (.tmp 23) rfl w5.heap.size (lvC (.slice none 0 0)) rfl rfl 80 Z4c H12.out rfl (by kernel_rfl) HLn.out (fun w6 H8 HW6 HZ6=>?_);clear HLn))
   have hz6:Below w5.heap.size w5 w6:=(z5b (w:=w5) Z4).grown HW6.out (by simp) (fun q e=>by injection e with e;omega)
   replace H7:=hd_ ((H7.out.ext HB5.out).ext hz6);have Hz:=hd_ (z0a (z0a Hz3.out HB5.out) hz6)
   have HG8:Hid (wo.heap.size < w5.heap.size):=hd_ (by have h1:=H7.out.lt;have h2:=(z0a Hz3.out HB5.out).size;have h3:wo.heap.size < w3.heap.size:=H73.out.lt;have h4:=HB5.out.size;omega)
   clear HW6 HZ6 H12 HB5 Hz3 H73 hz6
   generalize w5.heap.size = g8 at *
   have d7:_ = some (Value.slice ro rn rc):=H7.out.cell 2
   go_wp2_with fail
   go_loopw [27] (fun i wr=>k2l t wo [.int .i64 rp,.int .i64 rf,.slice ro rn rc] g8 i wr) (fun i _=>t.cuts.length - (intOf i).toNat)
   case atStart=>exact ⟨[],.slice none 0 0,rfl,by simp,rfl,H8.out,z3j.nil _ _ _ (fun j h=>h.elim),H7.out,Hz.out⟩
   case round =>
    obtain ⟨ms,lv2,hms,hmle,rfl,h8,hO2,h7,hz⟩:=hrel
    obtain ⟨o2,c2,rfl⟩:=hO2.shape
    clear H7 H8 Hz d7
    have Hms:=hd_ hms;have H8:=hd_ h8;have HO2:=hd_ hO2;have H7:=hd_ h7;have Hz:=hd_ hz
    clear h8 hO2 h7 hz hms
    have hrn:rn = t.cuts.length:=HRn.out
    by_cases hml:ms.length < t.cuts.length
    case pos =>
     obtain ⟨c,hc⟩:∃ c,t.cuts[ms.length]? = some c:=⟨_,List.getElem?_eq_getElem hml⟩
     have Hc:=hd_ hc;have Hci:=hd_ (HNI.out.cuts c (List.mem_of_getElem? hc));have Hmlt:=hd_ hml
     have tm:decide ((ms.length:Int) < (rn:Int)) = true:=decide_eq_true (by omega)
     have tm':decide (ms.length < rn) = true:=decide_eq_true (by omega)
     have hm2:ms.length < rn:=by omega
     clear hrn
     have hcu:z9f cuK wr.heap.size wr t.cuts (.slice ro t.cuts.length rc):=(by have h:z9f cuK wr.heap.size wr t.cuts (.slice ro rn rc):=HCU.out.ext Hz.out;rw [show rn = t.cuts.length from HRn.out] at h;exact h)
     obtain ⟨cb,co,hco,_,hat⟩:=hcu.at (k:=ms.length) hml
     subst hco
     clear hcu
     have HRc:Hid (wr.rangeAt cb (co + ms.length * 5) c.cells):=fun j u hj=>hat ms.length c hc j u hj
     have H10z:Hid (CB (wr.alloc (.cells [Value.bool false,.int .i64 0,.int .i64 0,.int .i64 0,.int .i64 0].toArray 88)) wr.heap.size 88 [Value.bool false,.int .i64 0,.int .i64 0,.int .i64 0,.int .i64 0]):=z6a wr _ _ _ rfl
     have H10o:Hid (∀ u ∈ c.cells,u.oneCell' = true):=hd_ (by intro u hu;simp only [Cut.cells,mC,nM,or_false] at hu;rcases hu with rfl | rfl | rfl | rfl | rfl <;> rfl)
     clear hat hc hml
     go_upto_region 9 with (first | (have _g:=HRc.out;refine z7a (by rfl) 88 (.tmp 29) rfl cb (co + ms.length * 5) rfl c.cells _ HRc.out Tryz.underlying88 rfl (by kernel_rfl) ?_;clear HRc) | (have _g:=H10o.out;refine z4a rfl 88 (.tmp 10) (.tmp 30) rfl wr.heap.size c.cells rfl rfl 88 [Value.bool false,.int .i64 0,.int .i64 0,.int .i64 0,.int .i64 0] H10z.out rfl (by kernel_rfl) H10o.out (fun w7 H10 HW7 HZ7=>?_);clear H10o))
     have hz7:Below wr.heap.size wr w7:=(z5b (w:=wr) (.cells [Value.bool false,.int .i64 0,.int .i64 0,.int .i64 0,.int .i64 0].toArray 88)).grown HW7.out (by simp) (fun q e=>by injection e with e;omega)
     have NH8:Hid ((Value.slice o2 ms.length c2).ownBlock ≠ some g8):=fun e=>by have:=(HO2.out.own _ e).1;omega
     have NH7:Hid ((Value.slice o2 ms.length c2).ownBlock ≠ some wo.heap.size):=fun e=>by have:=(HO2.out.own _ e).1;have:=HG8.out;omega
     have NH10:Hid ((Value.slice o2 ms.length c2).ownBlock ≠ some wr.heap.size):=fun e=>by have:=(HO2.out.own _ e).2;omega
     have BHz:Hid (wo.heap.size ≤ g8 + 1):=hd_ (by have:=HG8.out;omega)
     replace H8:=hd_ (H8.out.ext hz7);replace H7:=hd_ (H7.out.ext hz7);replace HO2:=hd_ (HO2.out.ext hz7);replace Hz:=hd_ (z0a Hz.out hz7)
     clear HW7 HZ7 H10z hz7
     refine z9a (S:=fun w'=>CB w' g8 80 (lvC (.slice o2 ms.length c2))∧CB w' wr.heap.size 88 c.cells) (late:=fun j=>j == 19) (by kernel_rfl) ⟨H8.out.ext (Below.refl w7.heap.size w7).drew,H10.out.ext (Below.refl w7.heap.size w7).drew⟩ (fun hHeld=>?_)
     have hdr:=(Below.refl w7.heap.size w7).drew
     replace H8:=hd_ (H8.out.ext hdr);replace HO2:=hd_ (HO2.out.ext hdr);replace H7:=hd_ (H7.out.ext hdr);replace H10:=hd_ (H10.out.ext hdr);replace Hz:=hd_ (z0a Hz.out hdr)
     clear hdr
     generalize w7.drew = W4 at *
     refine tkL (some 31) 0 ?_
     refine tkL (some 32) 1 ?_ (hy:=fun wS hSw=>by have e1:wS.cell? ⟨g8,3,none⟩ = some (.slice o2 ms.length c2):=hSw.1.cell 3;go_simp;first | done | with_reducible rfl)
     refine tkL (some 33) 2 ?_
     refine tkL (some 34) 3 ?_ (hy:=fun wS hSw=>by have e1:wS.cell? ⟨wr.heap.size,0,none⟩ = some (.bool c.ap):=hSw.2.cell 0;go_simp;first | done | with_reducible rfl)
     refine tkL (some 35) 4 ?_
     refine tkL (some 36) 5 ?_
     refine tkL (some 37) 6 ?_ (hy:=fun wS hSw=>by have e1:wS.cell? ⟨wr.heap.size,1,none⟩ = some (.int .i64 c.ix):=hSw.2.cell 1;go_simp;first | done | with_reducible rfl)
     refine tkL (some 38) 7 ?_
     refine tkL (some 39) 8 ?_
     refine z9s (some 40) 9 rfl (.agg ([Value.int .i64 c.mf,.int .i64 c.mt]).toArray) (yieldsIf_load_mid (by rfl) 26 _ rfl wr.heap.size 2 rfl ([Value.int .i64 c.mf,.int .i64 c.mt]) _ (fun wS hSw=>fun j u hj=>by rw [hSw.2.cell];exact z2d (A:=c.cells) (B:=[Value.int .i64 c.mf,.int .i64 c.mt]) 2 rfl j u hj) Tryz.underlying26 rfl (by kernel_rfl)) ?_
     refine tkL (some 41) 10 ?_
     refine tkL (some 42) 11 ?_
     refine tkL (some 43) 12 ?_ (hy:=fun wS hSw=>by have e1:wS.cell? ⟨wr.heap.size,4,none⟩ = some (.int .i64 c.less):=hSw.2.cell 4;go_simp;first | done | with_reducible rfl)
     refine tkL (some 44) 13 ?_
     refine rdL 14 fun K hK=>?_
     go_simp
     have hz:Below W4.heap.size W4 (W4.alloc (.cells (([.flag c.ap,.num c.ix,.span c.mf c.mt,.num c.less]:List It).map It.v).toArray 20)):=z5b _
     have HIa:Hid (z6p (fun _=>False) (W4.alloc (.cells (([.flag c.ap,.num c.ix,.span c.mf c.mt,.num c.less]:List It).map It.v).toArray 20)) [.flag c.ap,.num c.ix,.span c.mf c.mt,.num c.less] (.slice (some ⟨W4.heap.size,0,none⟩) 4 4)):=hd_ (z5l (fun _=>False) W4 [.flag c.ap,.num c.ix,.span c.mf c.mt,.num c.less] (fun t ht=>by simp only [mC,nM,or_false] at ht;rcases ht with rfl | rfl | rfl | rfl <;> first | trivial | exact Hci.out.ix | exact Hci.out.less | exact ⟨Hci.out.mf,Hci.out.mt⟩) (fun j h=>h.elim))
     have HDc:Hid (∀ j,(fun _=>False) j→j < W4.heap.size):=fun j h=>h.elim
     have H45:Hid (W4.heap.size ≤ (W4.alloc (.cells (([.flag c.ap,.num c.ix,.span c.mf c.mt,.num c.less]:List It).map It.v).toArray 20)).heap.size):=hz.size
     change K _ (W4.alloc (.cells (([.flag c.ap,.num c.ix,.span c.mf c.mt,.num c.less]:List It).map It.v).toArray 20))
     replace H8:=hd_ (H8.out.ext hz);replace HO2:=hd_ (HO2.out.ext hz);replace H7:=hd_ (H7.out.ext hz);replace H10:=hd_ (H10.out.ext hz);replace Hz:=hd_ (z0a Hz.out hz)
     clear hz
     generalize W4.alloc (.cells (([.flag c.ap,.num c.ix,.span c.mf c.mt,.num c.less]:List It).map It.v).toArray 20) = W5 at *
     refine z8l hK ⟨H8.out,H10.out⟩ fun hHeld=>?_
     clear hK K
     refine rdL 15 fun K hK=>?_
     go_simp
     go_at_call 36
     refine (z4j [.flag c.ap,.num c.ix,.span c.mf c.mt,.num c.less] _ (fun _=>False) W5 (by simp) HIa.out (fun j h=>lL (HDc.out j h) H45.out)).mono ?_
     rintro e W7 ⟨lv7,rfl,hO7,hb7⟩
     obtain ⟨o7,c7,rfl⟩:=hO7.shape
     have HO7:=hd_ hO7
     have HOlt:=hd_ (fun g (e:((.slice o2 ms.length c2):Value).ownBlock = some g)=>(HO2.out.own g e))
     have HOl5:Hid (W5.heap.size ≤ W7.heap.size):=hb7.size
     have HBw5:Hid ((g8 + 1) ≤ W5.heap.size):=H8.out.lt
     replace H8:=hd_ (H8.out.ext hb7);replace HO2:=hd_ (HO2.out.ext hb7);replace H7:=hd_ (H7.out.ext hb7);replace H10:=hd_ (H10.out.ext hb7);replace Hz:=hd_ (z0a Hz.out hb7)
     clear hO7 hb7
     refine z8l hK ⟨H8.out,H10.out⟩ fun hHeld=>?_
     clear hK K
     refine rdL 16 fun K hK=>?_
     go_simp
     have HBk:Hid (CB (W7.alloc (.cells [.int .i64 3,.int .i64 0,.string ⟨#[]⟩,.slice o7 4 c7].toArray 80)) W7.heap.size 80 [.int .i64 3,.int .i64 0,.string ⟨#[]⟩,.slice o7 4 c7]):=z6a W7 _ _ _ rfl
     have hz:Below W7.heap.size W7 (W7.alloc (.cells [.int .i64 3,.int .i64 0,.string ⟨#[]⟩,.slice o7 4 c7].toArray 80)):=z5b _
     have HNv:Hid (y2e (DL (fun _=>False) (g8 + 1) (W7.alloc (.cells [.int .i64 3,.int .i64 0,.string ⟨#[]⟩,.slice o7 4 c7].toArray 80)) (.slice o2 ms.length c2)) (W7.alloc (.cells [.int .i64 3,.int .i64 0,.string ⟨#[]⟩,.slice o7 4 c7].toArray 80)) (z2s c) (.slice o7 4 c7)):=y2e.keep (D:=fun j=>((fun _=>False) j∨W5.heap.size ≤ j)∧j < W7.heap.size) (w:=W7) ⟨by show I64 3;unfold I64;omega,by show I64 0;unfold I64;omega,by show (0:Nat) ≤ _;unfold maxLen;decide,HO7.out.sl⟩ (fun k hk=>⟨.inr (by have:=hk.1.resolve_left id;have:=HBw5.out;omega),by have:=hk.2;rw [World.size_alloc];omega,fun e=>by have:=(HOlt.out k e.symm).2;have:=hk.1.resolve_left id;omega⟩) (fun k hk=>Below.heap_alloc W7 _ k hk.2)
     change K _ (W7.alloc (.cells [.int .i64 3,.int .i64 0,.string ⟨#[]⟩,.slice o7 4 c7].toArray 80))
     replace H8:=hd_ (H8.out.ext hz);replace HO2:=hd_ (HO2.out.ext hz);replace H7:=hd_ (H7.out.ext hz);replace H10:=hd_ (H10.out.ext hz);replace Hz:=hd_ (z0a Hz.out hz)
     clear hz HO7
     generalize W7.alloc (.cells [.int .i64 3,.int .i64 0,.string ⟨#[]⟩,.slice o7 4 c7].toArray 80) = W8 at *
     generalize W7.heap.size = gk at *
     refine z8l hK ⟨H8.out,H10.out⟩ fun hHeld=>?_
     clear hK K
     refine rdL 17 fun K hK=>?_
     refine z8h Tryz.underlying78 z1m rfl (.tmp 32) (.tmp 47) rfl (fun _=>False) (g8 + 1) ((.slice o2 ms.length c2)) ms rfl ?q1 gk (z2s c) (.slice o7 4 c7) rfl ?q2 ?q3 ?q4 ?q5 ?_
     case q1=>exact HO2.out
     case q2=>exact HNv.out
     case q3=>(refine ⟨?_,?_,?_,?_⟩ <;> first | exact HBk.out.cell 0 | exact HBk.out.cell 1 | exact HBk.out.cell 2 | exact HBk.out.cell 3)
     case q4=>exact Nat.le_trans (Nat.le_of_lt Hmlt.out) Hcl.out
     case q5=>exact H8.out.lt
     intro oa2 cp2 w9 hO2 hg2
     replace H8:=hd_ (H8.out.keep (hg2.out.block _ H8.out.lt (fun e=>NH8.out e.symm)))
     replace H7:=hd_ (H7.out.keep (hg2.out.block _ H7.out.lt (fun e=>NH7.out e.symm)))
     replace H10:=hd_ (H10.out.keep (hg2.out.block _ H10.out.lt (fun e=>NH10.out e.symm)))
     replace Hz:=hd_ (Hz.out.grown hg2.out Hz.out.size (fun q e=>by have:=(HO2.out.own q e).1;have:=BHz.out;omega))
     have y3:_ = some ((.slice o2 ms.length c2):Value):=H8.out.cell 3
     have yf:=H8.out.frozen 3
     clear hg2 HBk HNv HO2
     refine hK.out (Act.put _ (some 48) _) w9 (fun _=>⟨H8.out,H10.out⟩) (fun hHeld0=>?_)
     clear hK K
     have hHeld:=hHeld0 (by rfl)
     clear hHeld0
     try simp only [Act.put,aS,aZ,aU]
     refine tkL (some 49) 18 ?_
     refine rdL 19 fun K hK=>?_
     go_simp
     refine hK.out _ _ (fun h=>absurd h (by decide)) (fun hHeld0=>?_)
     clear hK K
     try simp only [Act.put,aS,aZ,aU]
     refine z6b (by kernel_rfl) ?_ _
     go_wp2_with fail
     go_roundw
     case rel=>exact x9s Hc.out Hms.out H8.out hO2.out H7.out Hz.out HG8.out
     case measure=>(simp [intOf];have:=Hmlt.out;omega)
    case neg =>
     have tm:decide ((ms.length:Int) < (rn:Int)) = false:=decide_eq_false (by omega)
     have hm2:¬ ms.length < rn:=by omega
     clear hrn
     have hmx:ms = t.cuts.map z2s:=(by have h:=Hms.out;have hk:ms.length = t.cuts.length:=(by omega);rw [hk,List.take_length] at h;exact h)
     have HVt:Hid (lV [iV rp,iV rf,lV ms] = z8j t):=hd_ (by rw [Hpar.out,Hfrm.out,hmx];rfl)
     have HNms:Hid (∀ W:World,(wr.heap.size ≤ W.heap.size∧∀ k,k < wr.heap.size→W.heap[k]? = wr.heap[k]?)→y2e (fun j=>(False∨g8 + 1 ≤ j)∧j < wr.heap.size) W (lV ms) (.slice o2 ms.length c2)):=fun W hW=>y2e.keep (w:=wr) ⟨by show I64 3;unfold I64;omega,by show I64 0;unfold I64;omega,by show (0:Nat) ≤ _;unfold maxLen;decide,HO2.out.sl⟩ (fun k hk=>hk) (fun k hk=>hW.2 k hk.2)
     clear hmx
     have HTo:=HT
     replace HT:=hd_ (HT.out.ext Hz.out);replace HO:=hd_ (HO.out.ext Hz.out)
     have NHT:Hid ((Value.slice ol xs.length cl).ownBlock ≠ some g5):=fun e=>by have:=(HO.out.own _ e).1;have:=K5.out.lt;omega
     have NH7:Hid ((Value.slice ol xs.length cl).ownBlock ≠ some wo.heap.size):=fun e=>by have:=HOlo.out _ e;omega
     have NH8:Hid ((Value.slice ol xs.length cl).ownBlock ≠ some g8):=fun e=>by have:=HOlo.out _ e;have:=HG8.out;omega
     go_upto_region 11 with fail
     refine z9a (S:=fun w'=>CB w' g5 80 (lvC (.slice ol xs.length cl))∧CB w' wo.heap.size 48 [.int .i64 rp,.int .i64 rf,.slice ro rn rc]∧CB w' g8 80 (lvC (.slice o2 ms.length c2))) (late:=fun j=>j == 15) (by kernel_rfl) ⟨HT.out.ext (Below.refl wr.heap.size wr).drew,H7.out.ext (Below.refl wr.heap.size wr).drew,H8.out.ext (Below.refl wr.heap.size wr).drew⟩ (fun hHeld=>?_)
     have hdr:=(Below.refl wr.heap.size wr).drew
     replace HT:=hd_ (HT.out.ext hdr);replace HO:=hd_ (HO.out.ext hdr);replace H7:=hd_ (H7.out.ext hdr);replace H8:=hd_ (H8.out.ext hdr);replace Hz:=hd_ (z0a Hz.out hdr)
     clear hdr
     have hWle:wr.heap.size ≤ wr.drew.heap.size∧∀ k,k < wr.heap.size→wr.drew.heap[k]? = wr.heap[k]?:=⟨Nat.le_refl _,fun _ _=>rfl⟩
     generalize wr.drew = W4 at *
     refine tkL (some 51) 0 ?_
     refine tkL (some 52) 1 ?_ (hy:=fun wS hSw=>by have e1:wS.cell? ⟨g5,3,none⟩ = some (.slice ol xs.length cl):=hSw.1.cell 3;go_simp;first | done | with_reducible rfl)
     refine tkL (some 53) 2 ?_
     refine tkL (some 54) 3 ?_ (hy:=fun wS hSw=>by have e1:wS.cell? ⟨wo.heap.size,0,none⟩ = some (.int .i64 rp):=hSw.2.1.cell 0;go_simp;first | done | with_reducible rfl)
     refine tkL (some 55) 4 ?_
     refine tkL (some 56) 5 ?_
     refine tkL (some 57) 6 ?_ (hy:=fun wS hSw=>by have e1:wS.cell? ⟨wo.heap.size,1,none⟩ = some (.int .i64 rf):=hSw.2.1.cell 1;go_simp;first | done | with_reducible rfl)
     refine tkL (some 58) 7 ?_
     refine z9s (some 59) 8 rfl (.agg (lvC (.slice o2 ms.length c2)).toArray) (yieldsIf_load_mid (by rfl) 80 _ rfl g8 0 rfl (lvC (.slice o2 ms.length c2)) _ (fun wS hSw=>z1d hSw.2.2) Tryz.underlying80 rfl (by kernel_rfl)) ?_
     refine tkL (some 60) 9 ?_
     refine rdL 10 fun K hK=>?_
     go_simp
     have hz:Below W4.heap.size W4 (W4.alloc (.cells (([.num rp,.num rf,.val (lV ms) (.slice o2 ms.length c2)]:List It).map It.v).toArray 20)):=z5b _
     have HIa:Hid (z6p (fun j=>(False∨g8 + 1 ≤ j)∧j < wr.heap.size) (W4.alloc (.cells (([.num rp,.num rf,.val (lV ms) (.slice o2 ms.length c2)]:List It).map It.v).toArray 20)) [.num rp,.num rf,.val (lV ms) (.slice o2 ms.length c2)] (.slice (some ⟨W4.heap.size,0,none⟩) 3 3)):=hd_ (z5l (fun j=>(False∨g8 + 1 ≤ j)∧j < wr.heap.size) W4 [.num rp,.num rf,.val (lV ms) (.slice o2 ms.length c2)] (fun t ht=>by simp only [mC,nM,or_false] at ht;rcases ht with rfl | rfl | rfl <;> first | exact Hni.out.1 | exact Hni.out.2 | exact HNms.out W4 hWle) (fun j h=>lL h.2 hWle.1))
     have HDc:Hid (∀ j,(fun j=>(False∨g8 + 1 ≤ j)∧j < wr.heap.size) j→j < W4.heap.size):=fun j h=>lL h.2 hWle.1
     have H45:Hid (W4.heap.size ≤ (W4.alloc (.cells (([.num rp,.num rf,.val (lV ms) (.slice o2 ms.length c2)]:List It).map It.v).toArray 20)).heap.size):=hz.size
     change K _ (W4.alloc (.cells (([.num rp,.num rf,.val (lV ms) (.slice o2 ms.length c2)]:List It).map It.v).toArray 20))
     replace HT:=hd_ (HT.out.ext hz);replace HO:=hd_ (HO.out.ext hz);replace H7:=hd_ (H7.out.ext hz);replace H8:=hd_ (H8.out.ext hz);replace Hz:=hd_ (z0a Hz.out hz)
     clear hz
     generalize W4.alloc (.cells (([.num rp,.num rf,.val (lV ms) (.slice o2 ms.length c2)]:List It).map It.v).toArray 20) = W5 at *
     refine z8l hK ⟨HT.out,H7.out,H8.out⟩ fun hHeld=>?_
     clear hK K
     refine rdL 11 fun K hK=>?_
     go_simp
     go_at_call 36
     refine (z4j [.num rp,.num rf,.val (lV ms) (.slice o2 ms.length c2)] _ (fun j=>(False∨g8 + 1 ≤ j)∧j < wr.heap.size) W5 (by simp) HIa.out (fun j h=>lL (HDc.out j h) H45.out)).mono ?_
     rintro e W7 ⟨lv7,rfl,hO7,hb7⟩
     obtain ⟨o7,c7,rfl⟩:=hO7.shape
     have HO7:=hd_ hO7
     have HOlt:=hd_ (fun g (e:((.slice ol xs.length cl):Value).ownBlock = some g)=>(HO.out.own g e))
     have HOl5:Hid (W5.heap.size ≤ W7.heap.size):=hb7.size
     have HBw5:Hid (W1.heap.size ≤ W5.heap.size):=Nat.le_trans HW1o.out Hz.out.size
     replace HT:=hd_ (HT.out.ext hb7);replace HO:=hd_ (HO.out.ext hb7);replace H7:=hd_ (H7.out.ext hb7);replace H8:=hd_ (H8.out.ext hb7);replace Hz:=hd_ (z0a Hz.out hb7)
     clear hO7 hb7
     refine z8l hK ⟨HT.out,H7.out,H8.out⟩ fun hHeld=>?_
     clear hK K
     refine rdL 12 fun K hK=>?_
     go_simp
     have HBk:Hid (CB (W7.alloc (.cells [.int .i64 3,.int .i64 0,.string ⟨#[]⟩,.slice o7 3 c7].toArray 80)) W7.heap.size 80 [.int .i64 3,.int .i64 0,.string ⟨#[]⟩,.slice o7 3 c7]):=z6a W7 _ _ _ rfl
     have hz:Below W7.heap.size W7 (W7.alloc (.cells [.int .i64 3,.int .i64 0,.string ⟨#[]⟩,.slice o7 3 c7].toArray 80)):=z5b _
     have HNv:Hid (y2e (DL (fun _=>False) W1.heap.size (W7.alloc (.cells [.int .i64 3,.int .i64 0,.string ⟨#[]⟩,.slice o7 3 c7].toArray 80)) (.slice ol xs.length cl)) (W7.alloc (.cells [.int .i64 3,.int .i64 0,.string ⟨#[]⟩,.slice o7 3 c7].toArray 80)) (lV [iV rp,iV rf,lV ms]) (.slice o7 3 c7)):=y2e.keep (D:=fun j=>((fun j=>(False∨g8 + 1 ≤ j)∧j < wr.heap.size) j∨W5.heap.size ≤ j)∧j < W7.heap.size) (w:=W7) ⟨by show I64 3;unfold I64;omega,by show I64 0;unfold I64;omega,by show (0:Nat) ≤ _;unfold maxLen;decide,HO7.out.sl⟩ (fun k hk=>⟨.inr (by have:=HW1o.out;have:=HG8.out;have:=HBw5.out;exact hk.1.elim (fun h=>by have:=h.1.resolve_left id;omega) (fun h=>by omega)),by have:=hk.2;rw [World.size_alloc];omega,fun e=>by have:=HOlo.out k e.symm;have:=HG8.out;have:=(HOlt.out k e.symm).2;exact hk.1.elim (fun h=>by have:=h.1.resolve_left id;omega) (fun h=>by omega)⟩) (fun k hk=>Below.heap_alloc W7 _ k hk.2)
     change K _ (W7.alloc (.cells [.int .i64 3,.int .i64 0,.string ⟨#[]⟩,.slice o7 3 c7].toArray 80))
     replace HT:=hd_ (HT.out.ext hz);replace HO:=hd_ (HO.out.ext hz);replace H7:=hd_ (H7.out.ext hz);replace H8:=hd_ (H8.out.ext hz);replace Hz:=hd_ (z0a Hz.out hz)
     clear hz HO7
     generalize W7.alloc (.cells [.int .i64 3,.int .i64 0,.string ⟨#[]⟩,.slice o7 3 c7].toArray 80) = W8 at *
     generalize W7.heap.size = gk at *
     refine z8l hK ⟨HT.out,H7.out,H8.out⟩ fun hHeld=>?_
     clear hK K
     refine rdL 13 fun K hK=>?_
     refine z8h Tryz.underlying78 z1m rfl (.tmp 52) (.tmp 63) rfl (fun _=>False) W1.heap.size ((.slice ol xs.length cl)) xs rfl ?q1 gk (lV [iV rp,iV rf,lV ms]) (.slice o7 3 c7) rfl ?q2 ?q3 ?q4 ?q5 ?_
     case q1=>exact HO.out
     case q2=>exact HNv.out
     case q3=>(refine ⟨?_,?_,?_,?_⟩ <;> first | exact HBk.out.cell 0 | exact HBk.out.cell 1 | exact HBk.out.cell 2 | exact HBk.out.cell 3)
     case q4=>exact Nat.le_trans (Nat.le_of_lt Hxlt.out) Hl.out.tree
     case q5=>exact Nat.le_trans HW1o.out Hz.out.size
     intro oa2 cp2 w9 hO2 hg2
     replace HT:=hd_ (HT.out.keep (hg2.out.block _ HT.out.lt (fun e=>NHT.out e.symm)))
     replace H7:=hd_ (H7.out.keep (hg2.out.block _ H7.out.lt (fun e=>NH7.out e.symm)))
     replace H8:=hd_ (H8.out.keep (hg2.out.block _ H8.out.lt (fun e=>NH8.out e.symm)))
     have HGw:=hd_ (z2a (z2a HG.out (z0d Hz.out) (.inr fun q e=>by cases e)) hg2.out (.inr fun q e=>(HO.out.own q e).1))
     have y3:_ = some ((.slice ol xs.length cl):Value):=HT.out.cell 3
     have yf:=HT.out.frozen 3
     clear hg2 HBk HNv HO
     refine hK.out (Act.put _ (some 64) _) w9 (fun _=>⟨HT.out,H7.out,H8.out⟩) (fun hHeld0=>?_)
     clear hK K
     have hHeld:=hHeld0 (by rfl)
     clear hHeld0
     try simp only [Act.put,aS,aZ,aU]
     refine tkL (some 65) 14 ?_
     refine rdL 15 fun K hK=>?_
     go_simp
     refine hK.out _ _ (fun h=>absurd h (by decide)) (fun hHeld0=>?_)
     clear hK K
     try simp only [Act.put,aS,aZ,aU]
     refine z6b (by kernel_rfl) ?_ _
     go_wp2_with fail
     skip
     go_roundw
     case rel=>exact x0t Ht.out Hxs.out HT.out (by have h:=hO2.out;rw [HVt.out] at h;exact h) HGw.out K5.out.lt
     case measure=>(simp [intOf];have:=Hxlt.out;omega)
  case neg =>
   have hk:xs.length = x.tree.length:=by omega
   have tj:decide ((xs.length:Int) < (x.tree.length:Int)) = false:=decide_eq_false (by omega)
   have HX:Hid (xs = x.tree.map z8j):=hd_ (by have h:=Hxs.out;rw [hk,List.take_length] at h;exact h)
   obtain ⟨ow,cw,hsw,-⟩:=HXR.out.ways.shape
   obtain ⟨om,cm,hsm,-⟩:=HXR.out.modes.shape
   obtain ⟨ov,cv,hsv,-⟩:=HXR.out.vols.shape
   have Hsw:=hd_ hsw;have Hsm:=hd_ hsm;have Hsv:=hd_ hsv
   have HWs:Hid (∀ W,Below w.heap.size w W→z9f nuK W.heap.size W x.flt.ways (.slice ow x.flt.ways.length cw)):=fun W hb=>by rw [← Hsw.out];exact HXR.out.ways.ext hb
   have HMs:Hid (∀ W,Below w.heap.size w W→z9f nuK W.heap.size W x.chg.modes (.slice om x.chg.modes.length cm)):=fun W hb=>by rw [← Hsm.out];exact HXR.out.modes.ext hb
   have HVs:Hid (∀ W,Below w.heap.size w W→z9f nuK W.heap.size W x.stn.vols (.slice ov x.stn.vols.length cv)):=fun W hb=>by rw [← Hsv.out];exact HXR.out.vols.ext hb
   have n35:g3 ≠ g5:=fun e=>by subst e;have:=y5e K3.out K5.out;revert this;decide
   have n45:g4 ≠ g5:=fun e=>by subst e;have:=y5e K4.out K5.out;revert this;decide
   have hI:=HI.out.keep (HG.out.block _ HI.out.lt (fun e=>by injection e with e;have:=L5.out;omega))
   have h3:=K3.out.keep (HG.out.block _ K3.out.lt (fun e=>by injection e with e;exact n35 e))
   have h4:=K4.out.keep (HG.out.block _ K4.out.lt (fun e=>by injection e with e;exact n45 e))
   have h2:=H2.out.keep (HG.out.block _ H2.out.lt (fun e=>by injection e with e;have:=L52.out;omega))
   have hOf:=z7n HO.out H2.out.lt (fun j h=>h.elim)
   have HS13:Hid ((fun w'=>CB w' w.heap.size 41 (x.cells s)∧CB w' g3 28 (x.flt.cells s.ways)∧CB w' g4 33 x.rep.cells∧CB w' g5 80 (lvC (.slice ol xs.length cl))∧z3j (fun _=>False) (w.heap.size + 2) w' (.slice ol xs.length cl) xs∧Below w.heap.size w w'∧CB w' (w.heap.size + 1) 80 Z4c) wr):=⟨hI,h3,h4,HT.out,hOf,HBw.out,h2⟩
   clear n35 n45 hI h3 h4 h2 hOf hsw hsm hsv hk HI H2 K3 K4 K5 HT HO HBw HB1 HG L3 L4 L5 L52 HTr l1 ltr hle
   go_upto_region 13 with fail
   refine z9a (S:=fun w'=>CB w' w.heap.size 41 (x.cells s)∧CB w' g3 28 (x.flt.cells s.ways)∧CB w' g4 33 x.rep.cells∧CB w' g5 80 (lvC (.slice ol xs.length cl))∧z3j (fun _=>False) (w.heap.size + 2) w' (.slice ol xs.length cl) xs∧Below w.heap.size w w'∧CB w' (w.heap.size + 1) 80 Z4c) (late:=fun j=>j == 118) (by kernel_rfl) ?hs0 (fun hHeld=>?_)
   case hs0=>(obtain ⟨q1,q2,q3,q4,q5,q6,q7⟩:=HS13.out;have hdr:=(Below.refl wr.heap.size wr).drew;exact ⟨q1.ext hdr,q2.ext hdr,q3.ext hdr,q4.ext hdr,q5.ext hdr,z0a q6 hdr,q7.ext hdr⟩)
   clear HS13
   generalize wr.drew = wd at *
   refine z9y [(0,67),(1,68),(2,69),(3,70),(4,71),(5,72),(6,73),(7,74),(8,75),(9,76),(10,77),(11,78),(12,79),(13,80),(14,81),(15,82),(16,83),(17,84),(18,85),(19,86),(20,87),(21,88),(22,89),(23,90),(24,91),(25,92),(26,93),(27,94),(28,95),(29,96),(30,97),(31,98),(32,99),(33,100),(34,101),(35,102),(36,103),(37,104),(38,105),(39,106),(40,107),(41,108),(42,109),(43,110),(44,111),(45,112),(46,113),(47,114),(48,115),(49,116),(50,117),(51,118),(52,119),(53,120),(54,121),(55,122),(56,123),(57,124),(58,125),(59,126),(60,127),(61,128),(62,129),(63,130),(64,131),(65,132),(66,133),(67,134),(68,135),(69,136),(70,137),(71,138),(72,139),(73,140),(74,141),(75,142),(76,143),(77,144),(78,145),(79,146),(80,147),(81,148),(82,149),(83,150),(84,151),(85,152),(86,153),(87,154),(88,155),(89,156),(90,157),(91,158),(92,159),(93,160),(94,161),(95,162),(96,163),(97,164),(98,165),(99,166),(100,167),(101,168),(102,169),(103,170),(104,171),(105,172),(106,173),(107,174),(108,175),(109,176),(110,177),(111,178),(112,179),(113,180),(114,181),(115,182),(116,183),(117,184)] (((List.replicate 118 true) ++ [false]).toArray) 1 (w.heap.size + 2) (k9s x w.heap.size g3 g4 g5 ow om ov cw cm cv) (by kernel_rfl) (by decide) (by decide) (by kernel_rfl) (by kernel_rfl) (by kernel_rfl) (by kernel_rfl) (fun _ _ h hb=>⟨h.1.ext hb,h.2.1.ext hb,h.2.2.1.ext hb,h.2.2.2.1.ext hb,h.2.2.2.2.1.ext hb,z0a h.2.2.2.2.2.1 hb,h.2.2.2.2.2.2.ext hb⟩) hHeld ?_ ?_
   · skip
     refine oc0 1 ?_
     refine oc1 0 67 ?_
     refine z8g 1 68 (fun wa hs=>(hs.1.cell 0:wa.cell? ⟨w.heap.size,0,none⟩ = some (.int .i64 x.mi))) ?_
     refine oc1 2 69 ?_
     refine oc0 1 ?_
     refine oc1 4 71 ?_
     refine z8g 5 72 (fun wa hs=>(hs.1.cell 1:wa.cell? ⟨w.heap.size,1,none⟩ = some (.int .i64 x.ce))) ?_
     refine oc1 6 73 ?_
     refine oc0 1 ?_
     refine oc1 8 75 ?_
     refine z8g 9 76 (fun wa hs=>(hs.1.cell 2:wa.cell? ⟨w.heap.size,2,none⟩ = some (.int .i64 x.no))) ?_
     refine oc1 10 77 ?_
     refine ocO (fun a wa ha hs hd K hK=>?_) ?_
     · have e0:=dpO hd 3 70
       have e1:=dpO hd 7 74
       have e2:=dpO hd 11 78
       go_simp
       exact hK.out _ _ (GT.mk (g:=(.its [.num x.mi,.num x.ce,.num x.no])) rfl (z5l (fun _=>False) wa [.num x.mi,.num x.ce,.num x.no] (fun t ht=>by simp only [mC,nM,or_false] at ht;rcases ht with rfl | rfl | rfl <;> first | exact Hi.out.mi | exact Hi.out.ce | exact Hi.out.no))) (z5b (w:=wa) (.cells (([.num x.mi,.num x.ce,.num x.no]:List It).map It.v).toArray 20))
     refine ocO (fun a wa ha hs hd K hK=>?_) ?_
     · obtain ⟨v0,e0,q0⟩:=hd 12 79 (by kernel_rfl) (by kernel_rfl)
       have q0:=GT.out (g:=(.its [.num x.mi,.num x.ce,.num x.no])) rfl q0
       go_simp
       go_at_call 36
       refine (z4j [.num x.mi,.num x.ce,.num x.no] _ (fun _=>False) wa (by simp) q0 (fun j h=>h.elim)).mono ?_
       rintro e W7 ⟨lv7,rfl,hO7,hb7⟩
       exact hK.out _ _ (GT.mk (g:=(.val (lV [iV x.mi,iV x.ce,iV x.no]))) rfl ⟨lv7,rfl,x7s hO7 hs.2.2.2.2.2.2.lt (fun j h=>h.elim)⟩) hb7
     refine ocO (fun a wa ha hs hd K hK=>?_) ?_
     · obtain ⟨v0,e0,q0⟩:=hd 13 80 (by kernel_rfl) (by kernel_rfl)
       have q0:=GT.out (g:=(.val (lV [iV x.mi,iV x.ce,iV x.no]))) rfl q0
       obtain ⟨lx,rfl,hn⟩:=q0
       go_simp
       exact hK.out _ _ (GT.mk (g:=(.ifv (lV [iV x.mi,iV x.ce,iV x.no]))) rfl ⟨lx,rfl,hn⟩) (Below.refl _ _)
     refine oc0 1 ?_
     refine z8g 15 82 (fun wa hs=>(hs.1.cell 3:wa.cell? ⟨w.heap.size,3,none⟩ = some (.int .i64 x.kind))) ?_
     refine oc1 16 83 ?_
     refine oc0 1 ?_
     refine z8g 18 85 (fun wa hs=>(hs.1.cell 4:wa.cell? ⟨w.heap.size,4,none⟩ = some (.string x.text))) ?_
     refine oc1 19 86 ?_
     refine oc0 3 ?_
     refine z8g 21 88 (fun wa hs=>(hs.2.1.cell 0:wa.cell? ⟨g3,0,none⟩ = some (.int .i64 x.flt.id))) ?_
     refine oc1 22 89 ?_
     refine oc0 3 ?_
     refine z8g 24 91 (fun wa hs=>(hs.2.1.cell 1:wa.cell? ⟨g3,1,none⟩ = some (.int .i64 x.flt.air))) ?_
     refine oc1 25 92 ?_
     refine oc0 3 ?_
     refine z8g 27 94 (fun wa hs=>(hs.2.1.cell 2:wa.cell? ⟨g3,2,none⟩ = some (.int .i64 x.flt.cls))) ?_
     refine oc1 28 95 ?_
     refine oc0 3 ?_
     refine z8g 30 97 (fun wa hs=>(hs.2.1.cell 3:wa.cell? ⟨g3,3,none⟩ = some (.string x.flt.call))) ?_
     refine oc1 31 98 ?_
     refine oc0 3 ?_
     refine z8g 33 100 (fun wa hs=>((by rw [← Hsw.out];exact hs.2.1.cell 4):wa.cell? ⟨g3,4,none⟩ = some ((.slice ow x.flt.ways.length cw)))) ?_
     refine oc1 34 101 ?_
     refine oc0 3 ?_
     refine ocO (fun a wa ha hs hd K hK=>?_) ?_
     · have e0:=dpO hd 36 103
       have c0:wa.cell? ⟨g3,5,none⟩ = some (.int .i64 x.flt.wf):=hs.2.1.cell 5
       have c1:wa.cell? ⟨g3,6,none⟩ = some (.int .i64 x.flt.wt):=hs.2.1.cell 6
       go_simp
       exact gqO hK
     refine oc1 37 104 ?_
     refine oc0 3 ?_
     refine z8g 39 106 (fun wa hs=>(hs.2.1.cell 7:wa.cell? ⟨g3,7,none⟩ = some (.bool x.flt.can))) ?_
     refine oc1 40 107 ?_
     refine ocO (fun a wa ha hs hd K hK=>?_) ?_
     · have e0:=dpO hd 23 90
       have e1:=dpO hd 26 93
       have e2:=dpO hd 29 96
       have e3:=dpO hd 32 99
       have e4:=dpO hd 35 102
       have e5:=dpO hd 38 105
       have e6:=dpO hd 41 108
       go_simp
       exact hK.out _ _ (GT.mk (g:=(.its [.num x.flt.id,.num x.flt.air,.num x.flt.cls,.txt x.flt.call,.nums x.flt.ways (.slice ow x.flt.ways.length cw),.span x.flt.wf x.flt.wt,.flag x.flt.can])) rfl (z5l (fun _=>False) wa [.num x.flt.id,.num x.flt.air,.num x.flt.cls,.txt x.flt.call,.nums x.flt.ways (.slice ow x.flt.ways.length cw),.span x.flt.wf x.flt.wt,.flag x.flt.can] (fun t ht=>by simp only [mC,nM,or_false] at ht;rcases ht with rfl | rfl | rfl | rfl | rfl | rfl | rfl <;> first | trivial | exact Hi.out.flt.id | exact Hi.out.flt.air | exact Hi.out.flt.cls | exact Hi.out.flt.call | exact ⟨Hi.out.flt.wf,Hi.out.flt.wt⟩ | exact ⟨Hi.out.flt.ways,Hl.out.ways,HWs.out wa hs.2.2.2.2.2.1⟩))) (z5b (w:=wa) (.cells (([.num x.flt.id,.num x.flt.air,.num x.flt.cls,.txt x.flt.call,.nums x.flt.ways (.slice ow x.flt.ways.length cw),.span x.flt.wf x.flt.wt,.flag x.flt.can]:List It).map It.v).toArray 20))
     refine ocO (fun a wa ha hs hd K hK=>?_) ?_
     · obtain ⟨v0,e0,q0⟩:=hd 42 109 (by kernel_rfl) (by kernel_rfl)
       have q0:=GT.out (g:=(.its [.num x.flt.id,.num x.flt.air,.num x.flt.cls,.txt x.flt.call,.nums x.flt.ways (.slice ow x.flt.ways.length cw),.span x.flt.wf x.flt.wt,.flag x.flt.can])) rfl q0
       go_simp
       go_at_call 36
       refine (z4j [.num x.flt.id,.num x.flt.air,.num x.flt.cls,.txt x.flt.call,.nums x.flt.ways (.slice ow x.flt.ways.length cw),.span x.flt.wf x.flt.wt,.flag x.flt.can] _ (fun _=>False) wa (by simp) q0 (fun j h=>h.elim)).mono ?_
       rintro e W7 ⟨lv7,rfl,hO7,hb7⟩
       exact hK.out _ _ (GT.mk (g:=(.val (lV (z7z x.flt)))) rfl ⟨lv7,rfl,x7s hO7 hs.2.2.2.2.2.2.lt (fun j h=>h.elim)⟩) hb7
     refine ocO (fun a wa ha hs hd K hK=>?_) ?_
     · obtain ⟨v0,e0,q0⟩:=hd 43 110 (by kernel_rfl) (by kernel_rfl)
       have q0:=GT.out (g:=(.val (lV (z7z x.flt)))) rfl q0
       obtain ⟨lx,rfl,hn⟩:=q0
       go_simp
       exact hK.out _ _ (GT.mk (g:=(.ifv (lV (z7z x.flt)))) rfl ⟨lx,rfl,hn⟩) (Below.refl _ _)
     refine ocO (fun a wa ha hs hd K hK=>?_) ?_
     · have e0:=daO ha 5
       have c0:wa.cell? ⟨g5,0,none⟩ = some (.int .i64 3):=hs.2.2.2.1.cell 0
       have c1:wa.cell? ⟨g5,1,none⟩ = some (.int .i64 0):=hs.2.2.2.1.cell 1
       have c2:wa.cell? ⟨g5,2,none⟩ = some (.string ⟨#[]⟩):=hs.2.2.2.1.cell 2
       have c3:wa.cell? ⟨g5,3,none⟩ = some (.slice ol xs.length cl):=hs.2.2.2.1.cell 3
       go_simp
       exact hK.out _ _ (GT.mk (g:=(.val (lV (x.tree.map z8j)))) rfl ⟨.slice ol xs.length cl,rfl,by rw [← HX.out];exact j9j hs.2.2.2.2.1⟩) (Below.refl _ _)
     refine ocO (fun a wa ha hs hd K hK=>?_) ?_
     · obtain ⟨v0,e0,q0⟩:=hd 45 112 (by kernel_rfl) (by kernel_rfl)
       have q0:=GT.out (g:=(.val (lV (x.tree.map z8j)))) rfl q0
       obtain ⟨lx,rfl,hn⟩:=q0
       go_simp
       exact hK.out _ _ (GT.mk (g:=(.ifv (lV (x.tree.map z8j)))) rfl ⟨lx,rfl,hn⟩) (Below.refl _ _)
     refine oc0 1 ?_
     refine oc1 47 114 ?_
     refine z8g 48 115 (fun wa hs=>(hs.1.cell 14:wa.cell? ⟨w.heap.size,14,none⟩ = some (.int .i64 x.chg.frm))) ?_
     refine oc1 49 116 ?_
     refine oc0 1 ?_
     refine oc1 51 118 ?_
     refine z8g 52 119 (fun wa hs=>(hs.1.cell 15:wa.cell? ⟨w.heap.size,15,none⟩ = some (.int .i64 x.chg.cfg))) ?_
     refine oc1 53 120 ?_
     refine oc0 1 ?_
     refine oc1 55 122 ?_
     refine z8g 56 123 (fun wa hs=>((by rw [← Hsm.out];exact hs.1.cell 16):wa.cell? ⟨w.heap.size,16,none⟩ = some ((.slice om x.chg.modes.length cm)))) ?_
     refine oc1 57 124 ?_
     refine ocO (fun a wa ha hs hd K hK=>?_) ?_
     · have e0:=dpO hd 50 117
       have e1:=dpO hd 54 121
       have e2:=dpO hd 58 125
       go_simp
       exact hK.out _ _ (GT.mk (g:=(.its [.num x.chg.frm,.num x.chg.cfg,.nums x.chg.modes (.slice om x.chg.modes.length cm)])) rfl (z5l (fun _=>False) wa [.num x.chg.frm,.num x.chg.cfg,.nums x.chg.modes (.slice om x.chg.modes.length cm)] (fun t ht=>by simp only [mC,nM,or_false] at ht;rcases ht with rfl | rfl | rfl <;> first | exact Hi.out.cfrm | exact Hi.out.cfg | exact ⟨Hi.out.modes,Hl.out.modes,HMs.out wa hs.2.2.2.2.2.1⟩))) (z5b (w:=wa) (.cells (([.num x.chg.frm,.num x.chg.cfg,.nums x.chg.modes (.slice om x.chg.modes.length cm)]:List It).map It.v).toArray 20))
     refine ocO (fun a wa ha hs hd K hK=>?_) ?_
     · obtain ⟨v0,e0,q0⟩:=hd 59 126 (by kernel_rfl) (by kernel_rfl)
       have q0:=GT.out (g:=(.its [.num x.chg.frm,.num x.chg.cfg,.nums x.chg.modes (.slice om x.chg.modes.length cm)])) rfl q0
       go_simp
       go_at_call 36
       refine (z4j [.num x.chg.frm,.num x.chg.cfg,.nums x.chg.modes (.slice om x.chg.modes.length cm)] _ (fun _=>False) wa (by simp) q0 (fun j h=>h.elim)).mono ?_
       rintro e W7 ⟨lv7,rfl,hO7,hb7⟩
       exact hK.out _ _ (GT.mk (g:=(.val (lV [iV x.chg.frm,iV x.chg.cfg,nsV x.chg.modes]))) rfl ⟨lv7,rfl,x7s hO7 hs.2.2.2.2.2.2.lt (fun j h=>h.elim)⟩) hb7
     refine ocO (fun a wa ha hs hd K hK=>?_) ?_
     · obtain ⟨v0,e0,q0⟩:=hd 60 127 (by kernel_rfl) (by kernel_rfl)
       have q0:=GT.out (g:=(.val (lV [iV x.chg.frm,iV x.chg.cfg,nsV x.chg.modes]))) rfl q0
       obtain ⟨lx,rfl,hn⟩:=q0
       go_simp
       exact hK.out _ _ (GT.mk (g:=(.ifv (lV [iV x.chg.frm,iV x.chg.cfg,nsV x.chg.modes]))) rfl ⟨lx,rfl,hn⟩) (Below.refl _ _)
     refine oc0 4 ?_
     refine z8g 62 129 (fun wa hs=>(hs.2.2.1.cell 0:wa.cell? ⟨g4,0,none⟩ = some (.int .i64 x.rep.st))) ?_
     refine oc1 63 130 ?_
     refine oc0 4 ?_
     refine z8g 65 132 (fun wa hs=>(hs.2.2.1.cell 1:wa.cell? ⟨g4,1,none⟩ = some (.int .i64 x.rep.no))) ?_
     refine oc1 66 133 ?_
     refine oc0 4 ?_
     refine z8g 68 135 (fun wa hs=>(hs.2.2.1.cell 2:wa.cell? ⟨g4,2,none⟩ = some (.int .i64 x.rep.mi))) ?_
     refine oc1 69 136 ?_
     refine oc0 4 ?_
     refine z8g 71 138 (fun wa hs=>(hs.2.2.1.cell 3:wa.cell? ⟨g4,3,none⟩ = some (.int .i64 x.rep.ar))) ?_
     refine oc1 72 139 ?_
     refine oc0 4 ?_
     refine z8g 74 141 (fun wa hs=>(hs.2.2.1.cell 4:wa.cell? ⟨g4,4,none⟩ = some (.string x.rep.cl))) ?_
     refine oc1 75 142 ?_
     refine oc0 4 ?_
     refine z8g 77 144 (fun wa hs=>(hs.2.2.1.cell 5:wa.cell? ⟨g4,5,none⟩ = some (.int .i64 x.rep.vo))) ?_
     refine oc1 78 145 ?_
     refine ocO (fun a wa ha hs hd K hK=>?_) ?_
     · have e0:=dpO hd 64 131
       have e1:=dpO hd 67 134
       have e2:=dpO hd 70 137
       have e3:=dpO hd 73 140
       have e4:=dpO hd 76 143
       have e5:=dpO hd 79 146
       go_simp
       exact hK.out _ _ (GT.mk (g:=(.its [.num x.rep.st,.num x.rep.no,.num x.rep.mi,.num x.rep.ar,.txt x.rep.cl,.num x.rep.vo])) rfl (z5l (fun _=>False) wa [.num x.rep.st,.num x.rep.no,.num x.rep.mi,.num x.rep.ar,.txt x.rep.cl,.num x.rep.vo] (fun t ht=>by simp only [mC,nM,or_false] at ht;rcases ht with rfl | rfl | rfl | rfl | rfl | rfl <;> first | exact Hi.out.rst | exact Hi.out.rno | exact Hi.out.rmi | exact Hi.out.rar | exact Hi.out.rcl | exact Hi.out.rvo))) (z5b (w:=wa) (.cells (([.num x.rep.st,.num x.rep.no,.num x.rep.mi,.num x.rep.ar,.txt x.rep.cl,.num x.rep.vo]:List It).map It.v).toArray 20))
     refine ocO (fun a wa ha hs hd K hK=>?_) ?_
     · obtain ⟨v0,e0,q0⟩:=hd 80 147 (by kernel_rfl) (by kernel_rfl)
       have q0:=GT.out (g:=(.its [.num x.rep.st,.num x.rep.no,.num x.rep.mi,.num x.rep.ar,.txt x.rep.cl,.num x.rep.vo])) rfl q0
       go_simp
       go_at_call 36
       refine (z4j [.num x.rep.st,.num x.rep.no,.num x.rep.mi,.num x.rep.ar,.txt x.rep.cl,.num x.rep.vo] _ (fun _=>False) wa (by simp) q0 (fun j h=>h.elim)).mono ?_
       rintro e W7 ⟨lv7,rfl,hO7,hb7⟩
       exact hK.out _ _ (GT.mk (g:=(.val (lV (z9j x.rep)))) rfl ⟨lv7,rfl,x7s hO7 hs.2.2.2.2.2.2.lt (fun j h=>h.elim)⟩) hb7
     refine ocO (fun a wa ha hs hd K hK=>?_) ?_
     · obtain ⟨v0,e0,q0⟩:=hd 81 148 (by kernel_rfl) (by kernel_rfl)
       have q0:=GT.out (g:=(.val (lV (z9j x.rep)))) rfl q0
       obtain ⟨lx,rfl,hn⟩:=q0
       go_simp
       exact hK.out _ _ (GT.mk (g:=(.ifv (lV (z9j x.rep)))) rfl ⟨lx,rfl,hn⟩) (Below.refl _ _)
     refine oc0 1 ?_
     refine oc1 83 150 ?_
     refine z8g 84 151 (fun wa hs=>(hs.1.cell 23:wa.cell? ⟨w.heap.size,23,none⟩ = some (.int .i64 x.sts.st))) ?_
     refine oc1 85 152 ?_
     refine oc0 1 ?_
     refine oc1 87 154 ?_
     refine z8g 88 155 (fun wa hs=>(hs.1.cell 24:wa.cell? ⟨w.heap.size,24,none⟩ = some (.int .i64 x.sts.frm))) ?_
     refine oc1 89 156 ?_
     refine oc0 1 ?_
     refine oc1 91 158 ?_
     refine z8g 92 159 (fun wa hs=>(hs.1.cell 25:wa.cell? ⟨w.heap.size,25,none⟩ = some (.bool x.sts.wk))) ?_
     refine oc1 93 160 ?_
     refine ocO (fun a wa ha hs hd K hK=>?_) ?_
     · have e0:=dpO hd 86 153
       have e1:=dpO hd 90 157
       have e2:=dpO hd 94 161
       go_simp
       exact hK.out _ _ (GT.mk (g:=(.its [.num x.sts.st,.num x.sts.frm,.flag x.sts.wk])) rfl (z5l (fun _=>False) wa [.num x.sts.st,.num x.sts.frm,.flag x.sts.wk] (fun t ht=>by simp only [mC,nM,or_false] at ht;rcases ht with rfl | rfl | rfl <;> first | trivial | exact Hi.out.sst | exact Hi.out.sfr))) (z5b (w:=wa) (.cells (([.num x.sts.st,.num x.sts.frm,.flag x.sts.wk]:List It).map It.v).toArray 20))
     refine ocO (fun a wa ha hs hd K hK=>?_) ?_
     · obtain ⟨v0,e0,q0⟩:=hd 95 162 (by kernel_rfl) (by kernel_rfl)
       have q0:=GT.out (g:=(.its [.num x.sts.st,.num x.sts.frm,.flag x.sts.wk])) rfl q0
       go_simp
       go_at_call 36
       refine (z4j [.num x.sts.st,.num x.sts.frm,.flag x.sts.wk] _ (fun _=>False) wa (by simp) q0 (fun j h=>h.elim)).mono ?_
       rintro e W7 ⟨lv7,rfl,hO7,hb7⟩
       exact hK.out _ _ (GT.mk (g:=(.val (lV [iV x.sts.st,iV x.sts.frm,bV x.sts.wk]))) rfl ⟨lv7,rfl,x7s hO7 hs.2.2.2.2.2.2.lt (fun j h=>h.elim)⟩) hb7
     refine ocO (fun a wa ha hs hd K hK=>?_) ?_
     · obtain ⟨v0,e0,q0⟩:=hd 96 163 (by kernel_rfl) (by kernel_rfl)
       have q0:=GT.out (g:=(.val (lV [iV x.sts.st,iV x.sts.frm,bV x.sts.wk]))) rfl q0
       obtain ⟨lx,rfl,hn⟩:=q0
       go_simp
       exact hK.out _ _ (GT.mk (g:=(.ifv (lV [iV x.sts.st,iV x.sts.frm,bV x.sts.wk]))) rfl ⟨lx,rfl,hn⟩) (Below.refl _ _)
     refine oc0 1 ?_
     refine z8g 98 165 (fun wa hs=>(hs.1.cell 26:wa.cell? ⟨w.heap.size,26,none⟩ = some (.int .i64 x.n))) ?_
     refine oc1 99 166 ?_
     refine oc0 1 ?_
     refine oc1 101 168 ?_
     refine z8g 102 169 (fun wa hs=>((by rw [← Hsv.out];exact hs.1.cell 27):wa.cell? ⟨w.heap.size,27,none⟩ = some ((.slice ov x.stn.vols.length cv)))) ?_
     refine oc1 103 170 ?_
     refine oc0 1 ?_
     refine oc1 105 172 ?_
     refine z8g 106 173 (fun wa hs=>(hs.1.cell 28:wa.cell? ⟨w.heap.size,28,none⟩ = some (.int .i64 x.stn.sh))) ?_
     refine oc1 107 174 ?_
     refine oc0 1 ?_
     refine oc1 109 176 ?_
     refine z8g 110 177 (fun wa hs=>(hs.1.cell 29:wa.cell? ⟨w.heap.size,29,none⟩ = some (.int .i64 x.stn.fa))) ?_
     refine oc1 111 178 ?_
     refine ocO (fun a wa ha hs hd K hK=>?_) ?_
     · have e0:=dpO hd 104 171
       have e1:=dpO hd 108 175
       have e2:=dpO hd 112 179
       go_simp
       exact hK.out _ _ (GT.mk (g:=(.its [.nums x.stn.vols (.slice ov x.stn.vols.length cv),.num x.stn.sh,.num x.stn.fa])) rfl (z5l (fun _=>False) wa [.nums x.stn.vols (.slice ov x.stn.vols.length cv),.num x.stn.sh,.num x.stn.fa] (fun t ht=>by simp only [mC,nM,or_false] at ht;rcases ht with rfl | rfl | rfl <;> first | exact ⟨Hi.out.vols,Hl.out.vols,HVs.out wa hs.2.2.2.2.2.1⟩ | exact Hi.out.sh | exact Hi.out.fa))) (z5b (w:=wa) (.cells (([.nums x.stn.vols (.slice ov x.stn.vols.length cv),.num x.stn.sh,.num x.stn.fa]:List It).map It.v).toArray 20))
     refine ocO (fun a wa ha hs hd K hK=>?_) ?_
     · obtain ⟨v0,e0,q0⟩:=hd 113 180 (by kernel_rfl) (by kernel_rfl)
       have q0:=GT.out (g:=(.its [.nums x.stn.vols (.slice ov x.stn.vols.length cv),.num x.stn.sh,.num x.stn.fa])) rfl q0
       go_simp
       go_at_call 36
       refine (z4j [.nums x.stn.vols (.slice ov x.stn.vols.length cv),.num x.stn.sh,.num x.stn.fa] _ (fun _=>False) wa (by simp) q0 (fun j h=>h.elim)).mono ?_
       rintro e W7 ⟨lv7,rfl,hO7,hb7⟩
       exact hK.out _ _ (GT.mk (g:=(.val (lV [nsV x.stn.vols,iV x.stn.sh,iV x.stn.fa]))) rfl ⟨lv7,rfl,x7s hO7 hs.2.2.2.2.2.2.lt (fun j h=>h.elim)⟩) hb7
     refine ocO (fun a wa ha hs hd K hK=>?_) ?_
     · obtain ⟨v0,e0,q0⟩:=hd 114 181 (by kernel_rfl) (by kernel_rfl)
       have q0:=GT.out (g:=(.val (lV [nsV x.stn.vols,iV x.stn.sh,iV x.stn.fa]))) rfl q0
       obtain ⟨lx,rfl,hn⟩:=q0
       go_simp
       exact hK.out _ _ (GT.mk (g:=(.ifv (lV [nsV x.stn.vols,iV x.stn.sh,iV x.stn.fa]))) rfl ⟨lx,rfl,hn⟩) (Below.refl _ _)
     refine ocO (fun a wa ha hs hd K hK=>?_) ?_
     · obtain ⟨v0,e0,q0⟩:=hd 14 81 (by kernel_rfl) (by kernel_rfl)
       have q0:=GT.out (g:=(.ifv (lV [iV x.mi,iV x.ce,iV x.no]))) rfl q0
       obtain ⟨lx0,rfl,hn0⟩:=q0
       have e1:=dpO hd 17 84
       have e2:=dpO hd 20 87
       obtain ⟨v3,e3,q3⟩:=hd 44 111 (by kernel_rfl) (by kernel_rfl)
       have q3:=GT.out (g:=(.ifv (lV (z7z x.flt)))) rfl q3
       obtain ⟨lx3,rfl,hn3⟩:=q3
       obtain ⟨v4,e4,q4⟩:=hd 46 113 (by kernel_rfl) (by kernel_rfl)
       have q4:=GT.out (g:=(.ifv (lV (x.tree.map z8j)))) rfl q4
       obtain ⟨lx4,rfl,hn4⟩:=q4
       obtain ⟨v5,e5,q5⟩:=hd 61 128 (by kernel_rfl) (by kernel_rfl)
       have q5:=GT.out (g:=(.ifv (lV [iV x.chg.frm,iV x.chg.cfg,nsV x.chg.modes]))) rfl q5
       obtain ⟨lx5,rfl,hn5⟩:=q5
       obtain ⟨v6,e6,q6⟩:=hd 82 149 (by kernel_rfl) (by kernel_rfl)
       have q6:=GT.out (g:=(.ifv (lV (z9j x.rep)))) rfl q6
       obtain ⟨lx6,rfl,hn6⟩:=q6
       obtain ⟨v7,e7,q7⟩:=hd 97 164 (by kernel_rfl) (by kernel_rfl)
       have q7:=GT.out (g:=(.ifv (lV [iV x.sts.st,iV x.sts.frm,bV x.sts.wk]))) rfl q7
       obtain ⟨lx7,rfl,hn7⟩:=q7
       have e8:=dpO hd 100 167
       obtain ⟨v9,e9,q9⟩:=hd 115 182 (by kernel_rfl) (by kernel_rfl)
       have q9:=GT.out (g:=(.ifv (lV [nsV x.stn.vols,iV x.stn.sh,iV x.stn.fa]))) rfl q9
       obtain ⟨lx9,rfl,hn9⟩:=q9
       go_simp
       exact hK.out _ _ (GT.mk (g:=(.itx (z5e x))) rfl ⟨[.val (lV [iV x.mi,iV x.ce,iV x.no]) lx0,.num x.kind,.txt x.text,.val (lV (z7z x.flt)) lx3,.val (lV (x.tree.map z8j)) lx4,.val (lV [iV x.chg.frm,iV x.chg.cfg,nsV x.chg.modes]) lx5,.val (lV (z9j x.rep)) lx6,.val (lV [iV x.sts.st,iV x.sts.frm,bV x.sts.wk]) lx7,.num x.n,.val (lV [nsV x.stn.vols,iV x.stn.sh,iV x.stn.fa]) lx9],rfl,z6p.up (z5l (DB (w.heap.size + 2) wa) wa [.val (lV [iV x.mi,iV x.ce,iV x.no]) lx0,.num x.kind,.txt x.text,.val (lV (z7z x.flt)) lx3,.val (lV (x.tree.map z8j)) lx4,.val (lV [iV x.chg.frm,iV x.chg.cfg,nsV x.chg.modes]) lx5,.val (lV (z9j x.rep)) lx6,.val (lV [iV x.sts.st,iV x.sts.frm,bV x.sts.wk]) lx7,.num x.n,.val (lV [nsV x.stn.vols,iV x.stn.sh,iV x.stn.fa]) lx9] (fun t ht=>by simp only [mC,nM,or_false] at ht;rcases ht with rfl | rfl | rfl | rfl | rfl | rfl | rfl | rfl | rfl | rfl <;> first | exact Hi.out.kind | exact Hi.out.text | exact Hi.out.n | exact hn0 | exact hn3 | exact hn4 | exact hn5 | exact hn6 | exact hn7 | exact hn9) (fun k h=>h.2)) (DB.mono (z5b (w:=wa) (.cells (([.val (lV [iV x.mi,iV x.ce,iV x.no]) lx0,.num x.kind,.txt x.text,.val (lV (z7z x.flt)) lx3,.val (lV (x.tree.map z8j)) lx4,.val (lV [iV x.chg.frm,iV x.chg.cfg,nsV x.chg.modes]) lx5,.val (lV (z9j x.rep)) lx6,.val (lV [iV x.sts.st,iV x.sts.frm,bV x.sts.wk]) lx7,.num x.n,.val (lV [nsV x.stn.vols,iV x.stn.sh,iV x.stn.fa]) lx9]:List It).map It.v).toArray 20)))⟩) (z5b (w:=wa) (.cells (([.val (lV [iV x.mi,iV x.ce,iV x.no]) lx0,.num x.kind,.txt x.text,.val (lV (z7z x.flt)) lx3,.val (lV (x.tree.map z8j)) lx4,.val (lV [iV x.chg.frm,iV x.chg.cfg,nsV x.chg.modes]) lx5,.val (lV (z9j x.rep)) lx6,.val (lV [iV x.sts.st,iV x.sts.frm,bV x.sts.wk]) lx7,.num x.n,.val (lV [nsV x.stn.vols,iV x.stn.sh,iV x.stn.fa]) lx9]:List It).map It.v).toArray 20))
     refine ocO (fun a wa ha hs hd K hK=>?_) ?_
     · obtain ⟨v0,e0,q0⟩:=hd 116 183 (by kernel_rfl) (by kernel_rfl)
       have q0:=GT.out (g:=(.itx (z5e x))) rfl q0
       obtain ⟨its,hx10,hit⟩:=q0
       have hil:its.length = 10:=(by have:=congrArg List.length hx10;rw [List.length_map] at this;exact this)
       go_simp
       go_at_call 36
       refine (z4j its _ (DB (w.heap.size + 2) wa) wa (by omega) hit (fun j h=>h.2)).mono ?_
       rintro e W7 ⟨lv7,rfl,hO7,hb7⟩
       exact hK.out _ _ (GT.mk (g:=(.own (z5e x))) rfl ⟨lv7,rfl,by rw [← hx10];exact z7n hO7 hs.2.2.2.2.2.2.lt (fun j h=>h.1.resolve_left id)⟩) hb7
     exact trivial
   · intro a w1 ha hdf hsz hs1 hg
     obtain ⟨v,e184,q⟩:=hg 117 184 (by kernel_rfl)
     obtain ⟨lvF,rfl,hOF⟩:=GT.out (g:=(.own (z5e x))) rfl q
     have e2:=daO ha 2
     obtain ⟨oF,cF,rfl⟩:=hOF.shape
     have HOF:=hd_ hOF;have HB9:=hd_ hs1.2.2.2.2.2.1;have HC2:=hd_ hs1.2.2.2.2.2.2
     clear hg hOF q hs1 ha
     refine rdL 118 fun K hK=>?_
     refine z8c (by rfl) 80 (.tmp 2) (.tmp 184) rfl (w.heap.size + 1) (lvC (.slice oF (z5e x).length cF)) (by simp [Act.eval,e2]) (by simp [Act.eval,e184]) 80 Z4c HC2.out rfl (by kernel_rfl) (z0p _ rfl) ?_
     intro w9 hc9 hg9 hz9
     refine hK.out (Act.put _ none undef) w9 (fun h=>absurd h (by decide)) (fun _=>?_)
     clear hK K
     refine z6b (by kernel_rfl) ?_ _
     go_wp2_with fail
     refine bodyPost_ret (v:=.agg (lvC (.slice oF (z5e x).length cF)).toArray) (results_cell_row rfl _ _ (w.heap.size + 1) 80 _ (0,0) _ (by simp [e2]) hc9.out Tryz.underlying80 rfl (by kernel_rfl)) hdf ?_
     exact ⟨_,rfl,z7n (HOF.out.keep hg9.out (fun q e=>by injection e with e;subst e;exact ⟨by omega,fun h=>h⟩)) (by omega) (fun j h=>h.elim),HB9.out.grown hg9.out HB9.out.size (fun q e=>by injection e with e;omega)⟩
end Go.Proofs.YtdblnbnofjggnaaGreatDoor
