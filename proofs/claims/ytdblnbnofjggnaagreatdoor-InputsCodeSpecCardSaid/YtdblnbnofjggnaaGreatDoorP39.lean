/- Parts of the proofs of chapter 49's laws. -/
import Derived.Test.YtdblnbnofjggnaaGreatDoorP37
import Derived.Test.YtdblnbnofjggnaaGreatDoorP38
set_option maxHeartbeats 16000000
set_option maxRecDepth 100000
open Go.Lib renaming hid → hd_
open List renaming setIfInBounds_toArray → aS, set_cons_zero → aZ, set_cons_succ → aU
open Nat renaming lt_of_lt_of_le → lL, le_trans → lT
open Go.Value renaming int → Z, slice → I, string → R, bool → H, pointer → T, agg → C
open Go.IntKind renaming i64 → X
open Go.Obj renaming cells → U
open Option renaming none → J, some → Q
open Bool renaming true → E, false → G
open Decidable renaming decide → F
open Go renaming World → Y, Value → D, Calls → L
open Go.RowKit renaming Below → M, Hid → O
set_option linter.all false
namespace Go.Proofs.YtdblnbnofjggnaaGreatDoor
open Go.Proofs.Tryz
open Go.RowKit
def k3s (x:Inp) (w:Y) (e:Ending) (w':Y):Prop:=∃ lv,e=.returned lv∧z1j (fun _=>False) w.heap.size w' lv (z8e x)∧M w.heap.size w w'
def v0a (g9:Nat) (c:Cut) (o2:Option Addr) (c2:Nat) (ms:List V):List GK :=
 [(.eq ((I o2 ms.length c2))),.p g9 0,(.eq (H c.ap)),(.eq (C #[Z X 1,Z X (if c.ap then 1 else 0),R ⟨#[]⟩,I J 0 0])),.p g9 1,.i c.ix,(.eq (C #[Z X 1,Z X c.ix,R ⟨#[]⟩,I J 0 0])),.p g9 2,.p g9 2,.i c.mf,.p g9 2,.p g9 3,.i c.mt,(.ints [c.mf,c.mt]),(.val (lV [iV c.mf,iV c.mt])),.p g9 4,.i c.less,(.eq (C #[Z X 1,Z X c.less,R ⟨#[]⟩,I J 0 0])),(.owns [bV c.ap,iV c.ix,spV c.mf c.mt,iV c.less]),(.val (lV [bV c.ap,iV c.ix,spV c.mf c.mt,iV c.less])),(.one (lV [bV c.ap,iV c.ix,spV c.mf c.mt,iV c.less]))]
def v1a (g6:Nat) (rp rf:Int) (ol:Option Addr) (cl:Nat) (xs:List V) (o2:Option Addr) (c2:Nat) (ms:List V):List GK :=
 [(.eq ((I ol xs.length cl))),.p g6 0,.i rp,(.eq (C #[Z X 1,Z X rp,R ⟨#[]⟩,I J 0 0])),.p g6 1,.i rf,(.eq (C #[Z X 1,Z X rf,R ⟨#[]⟩,I J 0 0])),(.eq ((I o2 ms.length c2))),(.val (lV ms)),(.owns [iV rp,iV rf,lV ms]),(.val (lV [iV rp,iV rf,lV ms])),(.one (lV [iV rp,iV rf,lV ms]))]
def v2a (x:Inp) (B g3 gN:Nat) (ol:Option Addr) (cl:Nat) (xs:List V) (ow om ov:Option Addr) (cw cm cv:Nat):List GK :=
 [.p B 0,.p B 0,.i x.mi,.p B 0,.p B 1,.i x.ce,.p B 0,.p B 2,.i x.no,(.ints [x.mi,x.ce,x.no]),(.val (lV [iV x.mi,iV x.ce,iV x.no])),.p B 3,.i x.kind,(.eq (.agg #[.int X 1,.int X x.kind,.string ⟨#[]⟩,I J 0 0])),.p B 4,(.eq (.string x.text)),(.eq (.agg #[.int X 2,.int X 0,.string x.text,I J 0 0])),.p g3 0,.i x.flt.id,(.eq (.agg #[.int X 1,.int X x.flt.id,.string ⟨#[]⟩,I J 0 0])),.p g3 1,.i x.flt.air,(.eq (.agg #[.int X 1,.int X x.flt.air,.string ⟨#[]⟩,I J 0 0])),.p g3 2,.i x.flt.cls,(.eq (.agg #[.int X 1,.int X x.flt.cls,.string ⟨#[]⟩,I J 0 0])),.p g3 3,(.eq (.string x.flt.call)),(.eq (.agg #[.int X 2,.int X 0,.string x.flt.call,I J 0 0])),.p g3 4,(.eq ((I ow x.flt.ways.length cw))),(.val (nsV x.flt.ways)),.p g3 5,.p g3 5,.i x.flt.wf,.p g3 5,.p g3 6,.i x.flt.wt,(.ints [x.flt.wf,x.flt.wt]),(.val (lV [iV x.flt.wf,iV x.flt.wt])),.p g3 7,(.eq (.bool x.flt.can)),(.eq (.agg #[.int X 1,.int X (if x.flt.can then 1 else 0),.string ⟨#[]⟩,I J 0 0])),(.owns (y0n x.flt)),(.val (lV (y0n x.flt))),(.eq ((I ol xs.length cl))),(.val (lV (x.tree.map z5j))),.p B 14,.p B 14,.i x.chg.frm,(.eq (.agg #[.int X 1,.int X x.chg.frm,.string ⟨#[]⟩,I J 0 0])),.p B 14,.p B 15,.i x.chg.cfg,(.eq (.agg #[.int X 1,.int X x.chg.cfg,.string ⟨#[]⟩,I J 0 0])),.p B 14,.p B 16,(.eq ((I om x.chg.modes.length cm))),(.val (nsV x.chg.modes)),(.owns [iV x.chg.frm,iV x.chg.cfg,nsV x.chg.modes]),(.val (lV [iV x.chg.frm,iV x.chg.cfg,nsV x.chg.modes])),.p gN 0,.i x.rep.st,(.eq (.agg #[.int X 1,.int X x.rep.st,.string ⟨#[]⟩,I J 0 0])),.p gN 1,.i x.rep.no,(.eq (.agg #[.int X 1,.int X x.rep.no,.string ⟨#[]⟩,I J 0 0])),.p gN 2,.i x.rep.mi,(.eq (.agg #[.int X 1,.int X x.rep.mi,.string ⟨#[]⟩,I J 0 0])),.p gN 3,.i x.rep.ar,(.eq (.agg #[.int X 1,.int X x.rep.ar,.string ⟨#[]⟩,I J 0 0])),.p gN 4,(.eq (.string x.rep.cl)),(.eq (.agg #[.int X 2,.int X 0,.string x.rep.cl,I J 0 0])),.p gN 5,.i x.rep.vo,(.eq (.agg #[.int X 1,.int X x.rep.vo,.string ⟨#[]⟩,I J 0 0])),(.owns (z1p x.rep)),(.val (lV (z1p x.rep))),.p B 23,.p B 23,.i x.sts.st,(.eq (.agg #[.int X 1,.int X x.sts.st,.string ⟨#[]⟩,I J 0 0])),.p B 23,.p B 24,.i x.sts.frm,(.eq (.agg #[.int X 1,.int X x.sts.frm,.string ⟨#[]⟩,I J 0 0])),.p B 23,.p B 25,(.eq (.bool x.sts.wk)),(.eq (.agg #[.int X 1,.int X (if x.sts.wk then 1 else 0),.string ⟨#[]⟩,I J 0 0])),(.owns [iV x.sts.st,iV x.sts.frm,bV x.sts.wk]),(.val (lV [iV x.sts.st,iV x.sts.frm,bV x.sts.wk])),.p B 26,.i x.n,(.eq (.agg #[.int X 1,.int X x.n,.string ⟨#[]⟩,I J 0 0])),.p B 27,.p B 27,(.eq ((I ov x.stn.vols.length cv))),(.val (nsV x.stn.vols)),.p B 27,.p B 28,.i x.stn.sh,(.eq (.agg #[.int X 1,.int X x.stn.sh,.string ⟨#[]⟩,I J 0 0])),.p B 27,.p B 29,.i x.stn.fa,(.eq (.agg #[.int X 1,.int X x.stn.fa,.string ⟨#[]⟩,I J 0 0])),(.owns [nsV x.stn.vols,iV x.stn.sh,iV x.stn.fa]),(.val (lV [nsV x.stn.vols,iV x.stn.sh,iV x.stn.fa])),(.owns (z8e x))]
def k4s (x:Inp) (_w W1:Y) (v4 v5:D) (wr:Y):Prop :=
 ∃ (xs:List V),xs=(x.tree.take xs.length).map z5j∧xs.length≤x.tree.length∧v5=Z X (xs.length:Int)∧z1j (fun _=>False) W1.heap.size wr v4 xs∧M W1.heap.size W1 wr
theorem x1w {x:Inp} {w W1 w9:Y} {xs:List V} {t:Nod} {oa:Option Addr} {cp:Nat} (hc:x.tree[xs.length]? = Q t) (hx:xs=(x.tree.take xs.length).map z5j) (hO:z1j (fun _=>False) W1.heap.size w9 (I oa (xs.length+1) cp) (xs++[z5j t])) (hb:M W1.heap.size W1 w9) :
 k4s x w W1 (I oa (xs.length+1) cp) (Z X ((xs.length:Int)+1)) w9:=by
 have hl:(xs++[z5j t]).length=xs.length+1:=by simp
 have hlt:=(List.getElem?_eq_some_iff.1 hc).1
 exact ⟨xs++[z5j t],x5k hc hx,by omega,by rw [hl];simp,hO,hb⟩
def k5s (t:Nod) (wo:Y) (cs:List D) (v7 v8:D) (wr:Y):Prop :=
 ∃ (xs:List V),xs=(t.cuts.take xs.length).map z0p∧xs.length≤t.cuts.length∧v8=Z X (xs.length:Int)∧z1j (fun _=>False) (wo.heap.size+1) wr v7 xs∧CB wr wo.heap.size 48 cs∧M wo.heap.size wo wr
theorem x2w {t:Nod} {wo w9:Y} {cs:List Value} {xs:List V} {c:Cut} {oa:Option Addr} {cp:Nat} (hc:t.cuts[xs.length]? = Q c) (hx:xs=(t.cuts.take xs.length).map z0p) (hO:z1j (fun _=>False) (wo.heap.size+1) w9 (I oa (xs.length+1) cp) (xs++[z0p c])) (h7:CB w9 wo.heap.size 48 cs) (hb:M wo.heap.size wo w9) :
 k5s t wo cs (I oa (xs.length+1) cp) (Z X ((xs.length:Int)+1)) w9:=by
 have hl:(xs++[z0p c]).length=xs.length+1:=by simp
 have hlt:=(List.getElem?_eq_some_iff.1 hc).1
 exact ⟨xs++[z0p c],x5k hc hx,by omega,by rw [hl];simp,hO,h7,hb⟩
theorem z4y (x:Inp) (s:Slc) (w:Y) (hx:InpR w x s) (hi:InpI x) (hl:InpL x):L prog 53 #[x.v s] w (k3s x w):=by
 have hcx:CB (w.alloc (bI x s)) w.heap.size 41 (x.cells s):=z3a w (bI x s) _ _ rfl
 have HI:=hd_ hcx;have az:=hd_ (z4b (w:=w) (bI x s));have aY:=hd_ hx;have Hi:=hd_ hi;have Hl:=hd_ hl
 have HFo:O (∀ u∈x.flt.cells s.ways,u.oneCell'=E):=y0q x.flt s.ways (by obtain ⟨oa,cap,e,_⟩:=hx.ways.shape;rw [e];rfl)
 clear hcx hx hi hl
 change L prog 53 #[C (x.cells s).toArray] w _
 go_enter func53,ntmps53
 go_upto_region 1 with fail
 change Code.wp _ _ _ _ (w.alloc (bI x s))
 have HZ0:O (w.heap.size<(w.alloc (bI x s)).heap.size):=HI.out.lt
 generalize w.alloc (bI x s)=w0 at *
 have HRf:O (w0.rangeAt w.heap.size 5 (x.flt.cells s.ways)):=y9p HI.out
 have H3z:O (CB (w0.alloc (U ZFc.toArray 28)) w0.heap.size 28 ZFc):=z3a w0 _ _ _ rfl
 go_upto_region 2 with (first|(have _g:=HRf.out;refine lmg 28 (.tmp 11) rfl w.heap.size 5 rfl (x.flt.cells s.ways) HRf.out underlying28 ?_;clear HRf)|(have _g:=HFo.out;refine scs 28 (.tmp 3) (.tmp 12) rfl w0.heap.size (x.flt.cells s.ways) rfl rfl H3z.out HFo.out (fun w1 H3 HW1 ku=>?_);clear HFo))
 have gV:M w0.heap.size w0 w1:=(z4b (w:=w0) (U ZFc.toArray 28)).grown HW1.out (by simp) (fun q e=>by injection e with e;omega)
 replace HI:=hd_ (HI.out.ext gV);have aG:=hd_ (z0a az.out gV)
 clear HW1 ku H3z gV az HZ0
 generalize w0.heap.size=g3 at *
 have eO:=z1i (B:=w1.heap.size) (w:=w1) [] [] (Nat.le_refl _) trivial (by simp)
 have jO:=hd_ eO
 have HbZ:O (M w1.heap.size w1 (w1.alloc (U (z8f [] []).toArray 80))):=z4b _
 clear eO
 go_upto_region 3 with fail
 change Code.wp _ _ _ _ (w1.alloc (U (z8f [] []).toArray 80))
 generalize w1.alloc (U (z8f [] []).toArray 80)=w2 at *
 obtain ⟨ot,ct,htw,ltr⟩:=aY.out.tree.shape
 have HTr:O (z9j w x.tree (I ot x.tree.length ct)):=hd_ (by rw [← htw];exact aY.out.tree)
 have Htw:=hd_ htw
 have l1:(x.tree.length:Int)≤9223372036854775807:=by omega
 clear htw
 go_wp2_with fail
 go_loopw [4,5] (fun v4 v5 wr=>k4s x w w1 v4 v5 wr) (fun _ v5 _=>x.tree.length - (intOf v5).toNat)
 case atStart=>exact ⟨[],rfl,by simp,rfl,jO.out,HbZ.out⟩
 case round =>
  obtain ⟨xs,hxs,hle,rfl,hO,hb⟩:=hrel
  obtain ⟨ol,cl,rfl⟩:=hO.shape
  have gJ:=hd_ hxs;have HO:=hd_ hO;have Hbr:=hd_ hb;have jc:=hd_ (z0a aG.out hb);have HIr:=hd_ (HI.out.ext hb)
  clear hO hb hxs jO HbZ
  have kj:wr.cell? ⟨w.heap.size,13,J⟩=Q (I ot x.tree.length ct):=by rw [← Htw.out];exact HIr.out.cell 13
  by_cases hlt:xs.length<x.tree.length
  case pos =>
   obtain ⟨t,ht⟩:∃ t,x.tree[xs.length]? = Q t:=⟨_,List.getElem?_eq_getElem hlt⟩
   have tj:F ((xs.length:Int)<(x.tree.length:Int))=E:=decide_eq_true (by omega)
   have eu:F (xs.length<x.tree.length)=E:=decide_eq_true hlt
   obtain ⟨ab,ao,nb,hon,hab,aC,hr⟩:=(HTr.out.ext jc.out).el ht
   subst hon
   obtain ⟨rp,rf,ro,rn,rc⟩:=nb
   have Hpar:O (rp=t.par):=hr.par;have Hfrm:O (rf=t.frm):=hr.frm;have kr:=hd_ hr.cuts
   obtain ⟨oc2,cc2,he2,lq⟩:=(show z4g cuK wr.heap.size wr t.cuts (I ro rn rc) from hr.cuts).shape
   injection he2 with q1 q2 q3
   have gI:=hd_ q2
   have l2:(rn:Int)≤9223372036854775807:=by omega
   have htm:=List.mem_of_getElem? ht
   have oE:=hd_ (Hi.out.tree t htm);have mR:=hd_ (Hl.out.cuts t htm)
   have Ht:=hd_ ht;have Hxlt:=hd_ hlt
   have mc:O (I64 rp∧I64 rf):=⟨by rw [Hpar.out];exact oE.out.par,by rw [Hfrm.out];exact oE.out.frm⟩
   have oH:O (wr.rangeAt ab (ao+xs.length * 3) [Z X rp,Z X rf,I ro rn rc]):=fun j u hj=>aC j u hj
   have HW1o:O (w1.heap.size≤wr.heap.size):=Hbr.out.size
   have HOlo:=hd_ (fun g e=>(HO.out.own g e).2)
   clear ht aC hr q1 q2 q3 lq htm hab hlt
   generalize wr=wo at *
   have kz:O (CB (wo.alloc (U [Z X 0,Z X 0,I J 0 0].toArray 48)) wo.heap.size 48 [Z X 0,Z X 0,I J 0 0]):=z3a wo _ _ _ rfl
   have oI:O (∀ u∈([Z X rp,Z X rf,I ro rn rc]:List D),u.oneCell'=E):=hd_ (z8y rfl)
   go_upto_region 7 with (first|(have _g:=oH.out;refine lmg 48 (.tmp 24) rfl ab (ao+xs.length * 3) rfl [Z X rp,Z X rf,I ro rn rc] oH.out underlying48 ?_;clear oH)|(have _g:=oI.out;refine scs 48 (.tmp 6) (.tmp 25) rfl wo.heap.size [Z X rp,Z X rf,I ro rn rc] rfl rfl kz.out oI.out (fun w3 H7 ex dM=>?_);clear oI))
   have me:O (M wo.heap.size wo w3):=(z4b (w:=wo) (U [Z X 0,Z X 0,I J 0 0].toArray 48)).grown ex.out (by simp) (fun q e=>by injection e with e;omega)
   clear ex dM kz kj
   have eO:=z1i (B:=wo.heap.size+1) (w:=w3) [] [] H7.out.lt trivial (by simp)
   have jO:=hd_ eO
   have hbz:M w3.heap.size w3 (w3.alloc (U (z8f [] []).toArray 80)):=z4b _
   replace H7:=hd_ (H7.out.ext hbz);have Hz:=hd_ (z0a me.out hbz)
   clear eO hbz me
   go_upto_region 8 with fail
   change Code.wp _ _ _ _ (w3.alloc (U (z8f [] []).toArray 80))
   generalize w3.alloc (U (z8f [] []).toArray 80)=w4 at *
   go_wp2_with fail
   go_loopw [7,8] (fun v7 v8 wr=>k5s t wo [Z X rp,Z X rf,I ro rn rc] v7 v8 wr) (fun _ v8 _=>t.cuts.length - (intOf v8).toNat)
   case atStart=>exact ⟨[],rfl,by simp,rfl,jO.out,H7.out,Hz.out⟩
   case round =>
    obtain ⟨ms,hms,hmle,rfl,dr,h7,hz⟩:=hrel
    obtain ⟨o2,c2,rfl⟩:=dr.shape
    clear H7 Hz jO
    have mQ:=hd_ hms;have dh:=hd_ dr;have H7:=hd_ h7;have Hz:=hd_ hz
    have d7:=h7.cv 2 (I ro rn rc)
    clear dr h7 hz hms
    have hrn:rn=t.cuts.length:=gI.out
    by_cases hml:ms.length<t.cuts.length
    case pos =>
     obtain ⟨c,hc⟩:∃ c,t.cuts[ms.length]? = Q c:=⟨_,List.getElem?_eq_getElem hml⟩
     have Hc:=hd_ hc;have gL:=hd_ (oE.out.cuts c (List.mem_of_getElem? hc));have Hmlt:=hd_ hml
     have tm:F ((ms.length:Int)<(rn:Int))=E:=decide_eq_true (by omega)
     have tm':F (ms.length<rn)=E:=decide_eq_true (by omega)
     have nv:ms.length<rn:=by omega
     clear hrn
     have Ho9:=hd_ (fun g e=>(dh.out.own g e).2)
     have Hw9:O (wo.heap.size+1≤wr.heap.size):=H7.out.lt
     have HEx:O (∀ W,M wr.heap.size wr W→z1j (fun _=>False) (wo.heap.size+1) W (I o2 ms.length c2) ms∧CB W wo.heap.size 48 [Z X rp,Z X rf,I ro rn rc]∧M wo.heap.size wo W):=fun W hb=>⟨dh.out.ext hb,H7.out.ext hb,z0a Hz.out hb⟩
     have hcu:z4g cuK wr.heap.size wr t.cuts (I ro t.cuts.length rc):=(by have h:z4g cuK wr.heap.size wr t.cuts (I ro rn rc):=kr.out.ext Hz.out;rw [show rn=t.cuts.length from gI.out] at h;exact h)
     obtain ⟨cb,co,hco,_,hat⟩:=hcu.at (k:=ms.length) hml
     subst hco
     clear hcu
     have oL:O (wr.rangeAt cb (co+ms.length * 5) c.cells):=fun j u hj=>hat ms.length c hc j u hj
     have gM:O (CB (wr.alloc (U [H G,Z X 0,Z X 0,Z X 0,Z X 0].toArray 88)) wr.heap.size 88 [H G,Z X 0,Z X 0,Z X 0,Z X 0]):=z3a wr _ _ _ rfl
     have eZ:O (∀ u∈c.cells,u.oneCell'=E):=hd_ (by intro u hu;simp only [Cut.cells,List.mem_cons,List.not_mem_nil,or_false] at hu;rcases hu with rfl|rfl|rfl|rfl|rfl <;> rfl)
     clear hat hc hml
     go_upto_region 12 with (first|(have _g:=oL.out;refine lmg 88 (.tmp 37) rfl cb (co+ms.length * 5) rfl c.cells oL.out underlying88 ?_;clear oL)|(have _g:=eZ.out;refine scs 88 (.tmp 9) (.tmp 38) rfl wr.heap.size c.cells rfl rfl gM.out eZ.out (fun w7 dN mT mU=>?_);clear eZ))
     have oV:O (M wr.heap.size wr w7):=(z4b (w:=wr) (U [H G,Z X 0,Z X 0,Z X 0,Z X 0].toArray 88)).grown mT.out (by simp) (fun q e=>by injection e with e;omega)
     clear mT mU gM d7
     refine z7a (S:=fun w'=>CB w' wr.heap.size 88 c.cells∧M wr.heap.size wr w') (late:=fun j=>j == 21 || j == 22) (by kernel_rfl) ⟨dN.out.ext (Below.refl w7.heap.size w7).drew,oV.out.drew⟩ (fun hHeld=>?_)
     generalize w7.drew=wd at *
     refine z3y [(0,39),(1,40),(2,41),(3,42),(4,43),(5,44),(6,45),(7,46),(8,47),(9,48),(10,49),(11,50),(12,51),(13,52),(14,53),(15,54),(16,55),(17,56),(18,57),(19,58),(20,59)] (((List.replicate 21 E)++[G,G]).toArray) 2 wr.heap.size (v0a wr.heap.size c o2 c2 ms) (by kernel_rfl) (by decide) (by decide) (by kernel_rfl) (by kernel_rfl) (by kernel_rfl) (by kernel_rfl) (fun _ _ h hb=>⟨h.1.ext hb,z0a h.2 hb⟩) hHeld ?_ ?_
     ·skip
      refine oc0 7 ?_
      refine oc0 9 ?_
      refine z2i 1 40 (fun wa hs=>(hs.1.cell 0:wa.cell? ⟨wr.heap.size,0,J⟩=Q (H c.ap))) ?_
      refine ocO (fun a wa ha hs hd K hK=>?_) ?_
      ·have e0:=dpO hd 2 41
       go_simp
       go_at_call 113
       refine (y3h c.ap wa).mono ?_
       rintro e W7 ⟨rfl,ag⟩
       exact hK.out _ _ (GT.mk rfl rfl) ag
      refine oc0 9 ?_
      refine z2i 4 43 (fun wa hs=>(hs.1.cell 1:wa.cell? ⟨wr.heap.size,1,J⟩=Q (Z X c.ix))) ?_
      refine ocO (fun a wa ha hs hd K hK=>?_) ?_
      ·have e0:=dpO hd 5 44
       go_simp
       go_at_call 114
       refine (z5b c.ix wa).mono ?_
       rintro e W7 ⟨rfl,ag⟩
       exact hK.out _ _ (GT.mk rfl rfl) ag
      refine oc0 9 ?_
      refine oc1 7 46 ?_
      refine z2i 8 47 (fun wa hs=>(hs.1.cell 2:wa.cell? ⟨wr.heap.size,2,J⟩=Q (Z X c.mf))) ?_
      refine oc0 9 ?_
      refine oc1 10 49 ?_
      refine z2i 11 50 (fun wa hs=>(hs.1.cell 3:wa.cell? ⟨wr.heap.size,3,J⟩=Q (Z X c.mt))) ?_
      refine ocO (fun a wa ha hs hd K hK=>?_) ?_
      ·have e0:=dpO hd 9 48
       have e1:=dpO hd 12 51
       go_simp
       exact hK.out _ _ (GT.mk rfl (z2y wa [c.mf,c.mt] (by simp;decide))) (z4b _)
      refine ocO (fun a wa ha hs hd K hK=>?_) ?_
      ·obtain ⟨v0,e0,q0⟩:=dgO hd 13 52
       go_simp
       go_at_call 54
       refine (z3f [c.mf,c.mt] _ wa q0 (fun n hn=>by simp only [List.mem_cons,List.not_mem_nil,or_false] at hn;rcases hn with rfl|rfl <;> first|exact gL.out.ix|exact gL.out.mf|exact gL.out.mt|exact gL.out.less) (by simp)).mono ?_
       rintro e W7 ⟨dY,rfl,cI,ag⟩
       exact hK.out _ _ (GT.mk rfl ⟨dY,rfl,x7v cI hs.2.size (fun j h=>h.elim)⟩) ag
      refine oc0 9 ?_
      refine z2i 15 54 (fun wa hs=>(hs.1.cell 4:wa.cell? ⟨wr.heap.size,4,J⟩=Q (Z X c.less))) ?_
      refine ocO (fun a wa ha hs hd K hK=>?_) ?_
      ·have e0:=dpO hd 16 55
       go_simp
       go_at_call 114
       refine (z5b c.less wa).mono ?_
       rintro e W7 ⟨rfl,ag⟩
       exact hK.out _ _ (GT.mk rfl rfl) ag
      refine ocO (fun a wa ha hs hd K hK=>?_) ?_
      ·have e0:=dpO hd 3 42
       have e1:=dpO hd 6 45
       obtain ⟨v2,e2,q2⟩:=dgO hd 14 53
       obtain ⟨lx2,rfl,bv⟩:=q2
       have e3:=dpO hd 17 56
       go_simp
       exact hK.out _ _ (GT.mk rfl (z1i (w:=wa) [bV c.ap,iV c.ix,lV [iV c.mf,iV c.mt],iV c.less] [I J 0 0,I J 0 0,lx2,I J 0 0] hs.2.size ⟨z0z.int _ _ (if c.ap then 1 else 0) (by unfold I64;split <;> omega),z0z.int _ _ c.ix (by first|exact gL.out.ix|exact gL.out.mf|exact gL.out.mt|exact gL.out.less),bv,z0z.int _ _ c.less (by first|exact gL.out.ix|exact gL.out.mf|exact gL.out.mt|exact gL.out.less),trivial⟩ (by simp;decide))) (z4b _)
      refine ocO (fun a wa ha hs hd K hK=>?_) ?_
      ·obtain ⟨v0,e0,q0⟩:=dgO hd 18 57
       obtain ⟨oq,cq,rfl⟩:=z1j.shape q0
       go_simp
       go_at_call 52
       refine (z0g _ _ _ wa).mono ?_
       rintro e W7 ⟨rfl,ag⟩
       exact hK.out _ _ (GT.mk rfl ⟨_,rfl,x1z (z1j.ext q0 ag)⟩) ag
      refine ocO (fun a wa ha hs hd K hK=>?_) ?_
      ·obtain ⟨v0,e0,q0⟩:=dgO hd 19 58
       obtain ⟨kA,rfl,ig⟩:=q0
       go_simp
       exact hK.out _ _ (GT.mk rfl (j4h (lV [bV c.ap,iV c.ix,spV c.mf c.mt,iV c.less]) kA ig)) (z4b _)
      exact trivial
     ·intro vals w8 hs8 hg
      have g0:=GT.out (g:=(.eq (I o2 ms.length c2))) rfl (hg 0 39 (by kernel_rfl))
      replace g0:vals 0=_:=g0
      obtain ⟨Bk,lx,oW,hBk,hcl,hnv⟩:=GT.out (g:=(.one (z0p c))) rfl (hg 20 59 (by kernel_rfl))
      simp only [y1v,Act.put,aS,aZ,aU]
      try simp only at g0 oW
      rw [g0,oW]
      obtain ⟨oX,h78,mg⟩:=HEx.out w8 hs8.2
      have jG:=hnv.dl (lv:=(I o2 ms.length c2)) Hw9.out (fun g e=>Ho9.out g e)
      have kU:=hd_ oX;have H78:=hd_ h78;have kB:=hd_ mg
      have dk:=hd_ hs8
      clear hg oX h78 mg hs8 hnv g0 oW hBk
      refine rdL 21 fun K hK=>?_
      refine z2f underlying78 z8j rfl (.tmp 39) (.tmp 59) rfl (fun _=>False) (wo.heap.size+1) (I o2 ms.length c2) ms rfl ?q1 Bk (z0p c) lx rfl ?q2 ?q3 ?q4 ?q5 ?_
      case q1=>exact kU.out
      case q2=>exact jG
      case q3=>exact hcl
      case q4=>exact lT (Nat.le_of_lt Hmlt.out) mR.out
      case q5=>exact H78.out.lt
      intro dg dq w9 dr al
      have H79:=hd_ (H78.out.keep (al.out.block _ H78.out.lt (fun e=>by have:=(kU.out.own _ e.symm).1;omega)))
      have Hz9:=hd_ (kB.out.grown al.out kB.out.size (fun q e=>by have:=(kU.out.own q e).1;omega))
      refine hK.out (Act.put _ (Q 60) _) w9 (fun h=>absurd h (by decide)) (fun _=>?_)
      clear hK K al hcl jG kU H78 kB dk
      try simp only [Act.put,aS,aZ,aU]
      refine rdL 22 fun K hK=>?_
      go_simp
      refine hK.out _ _ (fun h=>absurd h (by decide)) (fun _=>?_)
      clear hK K
      try simp only [aS]
      refine z3b (by kernel_rfl) ?_ _
      go_wp2_with fail
      go_roundw
      case rel=>exact x2w Hc.out mQ.out dr.out H79.out Hz9.out
      case measure=>(simp [intOf];have:=Hmlt.out;omega)
    case neg =>
     have tm:F ((ms.length:Int)<(rn:Int))=G:=decide_eq_false (by omega)
     have nv:¬ ms.length<rn:=by omega
     clear hrn
     have hmx:ms=t.cuts.map z0p:=(by have h:=mQ.out;have hk:ms.length=t.cuts.length:=(by omega);rw [hk,List.take_length] at h;exact h)
     have HVt:O (lV [iV rp,iV rf,lV ms]=z5j t):=hd_ (by rw [Hpar.out,Hfrm.out,hmx];rfl)
     clear hmx
     have hMs:=z2p dh.out (Nat.le_succ _) (fun j h=>h.elim)
     have HMs:=hd_ hMs
     have HEx:O (∀ W,M wo.heap.size wo W→z1j (fun _=>False) w1.heap.size W (I ol xs.length cl) xs∧M w1.heap.size w1 W):=fun W hb=>⟨HO.out.ext hb,z0a Hbr.out hb⟩
     clear hMs
     go_upto_region 13 with fail
     clear d7 dh
     refine z7a (S:=fun w'=>CB w' wo.heap.size 48 [Z X rp,Z X rf,I ro rn rc]∧z1j (fun _=>False) wo.heap.size w' (I o2 ms.length c2) ms∧M wo.heap.size wo w') (late:=fun j=>j == 12 || j == 13) (by kernel_rfl) ⟨H7.out.ext (Below.refl wr.heap.size wr).drew,HMs.out.ext (Below.refl wr.heap.size wr).drew,Hz.out.drew⟩ (fun hHeld=>?_)
     generalize wr.drew=wd at *
     refine z3y [(0,61),(1,62),(2,63),(3,64),(4,65),(5,66),(6,67),(7,68),(8,69),(9,70),(10,71),(11,72)] (((List.replicate 12 E)++[G,G]).toArray) 2 wo.heap.size (v1a wo.heap.size rp rf ol cl xs o2 c2 ms) (by kernel_rfl) (by decide) (by decide) (by kernel_rfl) (by kernel_rfl) (by kernel_rfl) (by kernel_rfl) (fun _ _ h hb=>⟨h.1.ext hb,h.2.1.ext hb,z0a h.2.2 hb⟩) hHeld ?_ ?_
     ·skip
      refine oc0 4 ?_
      refine oc0 6 ?_
      refine z2i 1 62 (fun wa hs=>(hs.1.cell 0:wa.cell? ⟨wo.heap.size,0,J⟩=Q (Z X rp))) ?_
      refine ocO (fun a wa ha hs hd K hK=>?_) ?_
      ·have e0:=dpO hd 2 63
       go_simp
       go_at_call 114
       refine (z5b rp wa).mono ?_
       rintro e W7 ⟨rfl,ag⟩
       exact hK.out _ _ (GT.mk rfl rfl) ag
      refine oc0 6 ?_
      refine z2i 4 65 (fun wa hs=>(hs.1.cell 1:wa.cell? ⟨wo.heap.size,1,J⟩=Q (Z X rf))) ?_
      refine ocO (fun a wa ha hs hd K hK=>?_) ?_
      ·have e0:=dpO hd 5 66
       go_simp
       go_at_call 114
       refine (z5b rf wa).mono ?_
       rintro e W7 ⟨rfl,ag⟩
       exact hK.out _ _ (GT.mk rfl rfl) ag
      refine oc0 7 ?_
      refine ocO (fun a wa ha hs hd K hK=>?_) ?_
      ·have e0:=dpO hd 7 68
       go_simp
       go_at_call 52
       refine (z0g _ _ _ wa).mono ?_
       rintro e W7 ⟨rfl,ag⟩
       exact hK.out _ _ (GT.mk rfl ⟨_,rfl,x1z (z1j.ext hs.2.1 ag)⟩) ag
      refine ocO (fun a wa ha hs hd K hK=>?_) ?_
      ·have e0:=dpO hd 3 64
       have e1:=dpO hd 6 67
       obtain ⟨v2,e2,q2⟩:=dgO hd 8 69
       obtain ⟨lx2,rfl,bv⟩:=q2
       go_simp
       exact hK.out _ _ (GT.mk rfl (z1i (w:=wa) [iV rp,iV rf,lV ms] [I J 0 0,I J 0 0,lx2] hs.2.2.size ⟨z0z.int _ _ rp (by first|exact mc.out.1|exact mc.out.2),z0z.int _ _ rf (by first|exact mc.out.1|exact mc.out.2),bv,trivial⟩ (by simp;decide))) (z4b _)
      refine ocO (fun a wa ha hs hd K hK=>?_) ?_
      ·obtain ⟨v0,e0,q0⟩:=dgO hd 9 70
       obtain ⟨oq,cq,rfl⟩:=z1j.shape q0
       go_simp
       go_at_call 52
       refine (z0g _ _ _ wa).mono ?_
       rintro e W7 ⟨rfl,ag⟩
       exact hK.out _ _ (GT.mk rfl ⟨_,rfl,x1z (z1j.ext q0 ag)⟩) ag
      refine ocO (fun a wa ha hs hd K hK=>?_) ?_
      ·obtain ⟨v0,e0,q0⟩:=dgO hd 10 71
       obtain ⟨kA,rfl,ig⟩:=q0
       go_simp
       exact hK.out _ _ (GT.mk rfl (j4h (lV [iV rp,iV rf,lV ms]) kA ig)) (z4b _)
      exact trivial
     ·intro vals w8 hs8 hg
      have g0:=GT.out (g:=(.eq (I ol xs.length cl))) rfl (hg 0 61 (by kernel_rfl))
      replace g0:vals 0=_:=g0
      obtain ⟨Bk,lx,oW,hBk,hcl,hnv⟩:=GT.out (g:=(.one (lV [iV rp,iV rf,lV ms]))) rfl (hg 11 72 (by kernel_rfl))
      simp only [y1v,Act.put,aS,aZ,aU]
      try simp only at g0 oW
      rw [g0,oW]
      obtain ⟨oX,mg⟩:=HEx.out w8 hs8.2.2
      have jG:=hnv.dl (lv:=(I ol xs.length cl)) HW1o.out (fun g e=>HOlo.out g e)
      have kU:=hd_ oX;have kB:=hd_ mg
      clear hg oX mg hs8 hnv g0 oW hBk
      refine rdL 12 fun K hK=>?_
      refine z2f underlying78 z8j rfl (.tmp 61) (.tmp 72) rfl (fun _=>False) w1.heap.size (I ol xs.length cl) xs rfl ?q1 Bk (lV [iV rp,iV rf,lV ms]) lx rfl ?q2 ?q3 ?q4 ?q5 ?_
      case q1=>exact kU.out
      case q2=>exact jG
      case q3=>exact hcl
      case q4=>exact lT (Nat.le_of_lt Hxlt.out) Hl.out.tree
      case q5=>exact kB.out.size
      intro dg dq w9 dr al
      have Hz9:=hd_ (kB.out.grown al.out kB.out.size (fun q e=>(kU.out.own q e).1))
      refine hK.out (Act.put _ (Q 73) _) w9 (fun h=>absurd h (by decide)) (fun _=>?_)
      clear hK K al hcl jG kU kB
      try simp only [Act.put,aS,aZ,aU]
      refine rdL 13 fun K hK=>?_
      go_simp
      refine hK.out _ _ (fun h=>absurd h (by decide)) (fun _=>?_)
      clear hK K
      try simp only [aS]
      refine z3b (by kernel_rfl) ?_ _
      go_wp2_with fail
      go_roundw
      case rel=>exact x1w Ht.out gJ.out (by have h:=dr.out;rw [HVt.out] at h;exact h) Hz9.out
      case measure=>(simp [intOf];have:=Hxlt.out;omega)
  case neg =>
   have hk:xs.length=x.tree.length:=by omega
   have tj:F ((xs.length:Int)<(x.tree.length:Int))=G:=decide_eq_false (by omega)
   have HX:O (xs=x.tree.map z5j):=hd_ (by have h:=gJ.out;rw [hk,List.take_length] at h;exact h)
   clear hk
   obtain ⟨ow,cw,hsw,-⟩:=aY.out.ways.shape
   obtain ⟨om,cm,hsm,-⟩:=aY.out.modes.shape
   obtain ⟨ov,cv,hsv,-⟩:=aY.out.vols.shape
   have Hsw:=hd_ hsw;have Hsm:=hd_ hsm;have Hsv:=hd_ hsv
   have HWs:O (∀ W,M w.heap.size w W→z4g nuK W.heap.size W x.flt.ways (I ow x.flt.ways.length cw)):=fun W hb=>by rw [← Hsw.out];exact aY.out.ways.ext hb
   have HMs:O (∀ W,M w.heap.size w W→z4g nuK W.heap.size W x.chg.modes (I om x.chg.modes.length cm)):=fun W hb=>by rw [← Hsm.out];exact aY.out.modes.ext hb
   have HVs:O (∀ W,M w.heap.size w W→z4g nuK W.heap.size W x.stn.vols (I ov x.stn.vols.length cv)):=fun W hb=>by rw [← Hsv.out];exact aY.out.vols.ext hb
   have H3r:=hd_ (H3.out.ext Hbr.out)
   have hOf:=z2p HO.out aG.out.size (fun j h=>h.elim)
   have HOf:=hd_ hOf
   clear hOf HO hsw hsm hsv
   have HRr:O (wr.rangeAt w.heap.size 17 x.rep.cells):=j0z HIr.out
   have gM:O (CB (wr.alloc (U ZRc.toArray 33)) wr.heap.size 33 ZRc):=z3a wr _ _ _ rfl
   have eZ:=hd_ (j1z x.rep)
   go_upto_region 15 with (first|(have _g:=HRr.out;refine lmg 33 (.tmp 74) rfl w.heap.size 17 rfl x.rep.cells HRr.out underlying33 ?_;clear HRr)|(have _g:=eZ.out;refine scs 33 (.tmp 10) (.tmp 75) rfl wr.heap.size x.rep.cells rfl rfl gM.out eZ.out (fun w7 dN mT mU=>?_);clear eZ))
   have oV:O (M wr.heap.size wr w7):=(z4b (w:=wr) (U ZRc.toArray 33)).grown mT.out (by simp) (fun q e=>by injection e with e;omega)
   have fE:O (M wr.heap.size wr w7.drew):=oV.out.drew
   clear mT mU gM kj
   generalize hg10:wr.heap.size=gN at *
   refine z7a (S:=fun w'=>CB w' w.heap.size 41 (x.cells s)∧CB w' g3 28 (x.flt.cells s.ways)∧CB w' gN 33 x.rep.cells∧z1j (fun _=>False) w.heap.size w' (I ol xs.length cl) (x.tree.map z5j)∧M w.heap.size w w') (late:=fun j=>j == 113) (by kernel_rfl) ?hs0 (fun hHeld=>?_)
   case hs0=>(subst hg10;exact ⟨HIr.out.ext fE.out,H3r.out.ext fE.out,dN.out.ext (Below.refl w7.heap.size w7).drew,by rw [← HX.out];exact HOf.out.ext fE.out,z0a jc.out fE.out⟩)
   clear hg10 HIr H3r dN HOf oV fE Hbr jc aG HI H3 HTr Htw l1 ltr hlt hle
   generalize w7.drew=wd at *
   refine y9b [(0,76),(1,77),(2,78),(3,79),(4,80),(5,81),(6,82),(7,83),(8,84),(9,85),(10,86),(11,87),(12,88),(13,89),(14,90),(15,91),(16,92),(17,93),(18,94),(19,95),(20,96),(21,97),(22,98),(23,99),(24,100),(25,101),(26,102),(27,103),(28,104),(29,105),(30,106),(31,107),(32,108),(33,109),(34,110),(35,111),(36,112),(37,113),(38,114),(39,115),(40,116),(41,117),(42,118),(43,119),(44,120),(45,121),(46,122),(47,123),(48,124),(49,125),(50,126),(51,127),(52,128),(53,129),(54,130),(55,131),(56,132),(57,133),(58,134),(59,135),(60,136),(61,137),(62,138),(63,139),(64,140),(65,141),(66,142),(67,143),(68,144),(69,145),(70,146),(71,147),(72,148),(73,149),(74,150),(75,151),(76,152),(77,153),(78,154),(79,155),(80,156),(81,157),(82,158),(83,159),(84,160),(85,161),(86,162),(87,163),(88,164),(89,165),(90,166),(91,167),(92,168),(93,169),(94,170),(95,171),(96,172),(97,173),(98,174),(99,175),(100,176),(101,177),(102,178),(103,179),(104,180),(105,181),(106,182),(107,183),(108,184),(109,185),(110,186),(111,187),(112,188)] (((List.replicate 113 E)++[G]).toArray) 1 w.heap.size (v2a x w.heap.size g3 gN ol cl xs ow om ov cw cm cv) (by kernel_rfl) (by decide) (by decide) (by kernel_rfl) (by kernel_rfl) (by kernel_rfl) (by kernel_rfl) (fun _ _ h hb=>⟨h.1.ext hb,h.2.1.ext hb,h.2.2.1.ext hb,h.2.2.2.1.ext hb,z0a h.2.2.2.2 hb⟩) hHeld ?_ ?_
   ·skip
    refine oc0 1 ?_
    refine oc1 0 76 ?_
    refine z2i 1 77 (fun wa hs=>(hs.1.cell 0:wa.cell? ⟨w.heap.size,0,J⟩=Q (Z X x.mi))) ?_
    refine oc0 1 ?_
    refine oc1 3 79 ?_
    refine z2i 4 80 (fun wa hs=>(hs.1.cell 1:wa.cell? ⟨w.heap.size,1,J⟩=Q (Z X x.ce))) ?_
    refine oc0 1 ?_
    refine oc1 6 82 ?_
    refine z2i 7 83 (fun wa hs=>(hs.1.cell 2:wa.cell? ⟨w.heap.size,2,J⟩=Q (Z X x.no))) ?_
    refine ocO (fun a wa ha hs hd K hK=>?_) ?_
    ·have e0:=dpO hd 2 78
     have e1:=dpO hd 5 81
     have e2:=dpO hd 8 84
     go_simp
     exact hK.out _ _ (GT.mk rfl (z2y wa [x.mi,x.ce,x.no] (by simp;decide))) (z4b _)
    refine ocO (fun a wa ha hs hd K hK=>?_) ?_
    ·obtain ⟨v0,e0,q0⟩:=dgO hd 9 85
     go_simp
     go_at_call 54
     refine (z3f [x.mi,x.ce,x.no] _ wa q0 (fun n hn=>by simp only [List.mem_cons,List.not_mem_nil,or_false] at hn;rcases hn with rfl|rfl|rfl <;> first|exact Hi.out.mi|exact Hi.out.ce|exact Hi.out.no|exact Hi.out.kind|exact Hi.out.text|exact Hi.out.flt.id|exact Hi.out.flt.air|exact Hi.out.flt.cls|exact Hi.out.flt.call|exact Hi.out.flt.wf|exact Hi.out.flt.wt|exact Hi.out.cfrm|exact Hi.out.cfg|exact Hi.out.rst|exact Hi.out.rno|exact Hi.out.rmi|exact Hi.out.rar|exact Hi.out.rcl|exact Hi.out.rvo|exact Hi.out.sst|exact Hi.out.sfr|exact Hi.out.n|exact Hi.out.sh|exact Hi.out.fa) (by simp)).mono ?_
     rintro e W7 ⟨dY,rfl,cI,ag⟩
     exact hK.out _ _ (GT.mk rfl ⟨dY,rfl,x7v cI hs.2.2.2.2.size (fun j h=>h.elim)⟩) ag
    refine oc0 1 ?_
    refine z2i 11 87 (fun wa hs=>(hs.1.cell 3:wa.cell? ⟨w.heap.size,3,J⟩=Q (Z X x.kind))) ?_
    refine ocO (fun a wa ha hs hd K hK=>?_) ?_
    ·have e0:=dpO hd 12 88
     go_simp
     go_at_call 114
     refine (z5b x.kind wa).mono ?_
     rintro e W7 ⟨rfl,ag⟩
     exact hK.out _ _ (GT.mk rfl rfl) ag
    refine oc0 1 ?_
    refine z2i 14 90 (fun wa hs=>(hs.1.cell 4:wa.cell? ⟨w.heap.size,4,J⟩=Q (R x.text))) ?_
    refine ocO (fun a wa ha hs hd K hK=>?_) ?_
    ·have e0:=dpO hd 15 91
     go_simp
     go_at_call 115
     refine (y2h x.text wa).mono ?_
     rintro e W7 ⟨rfl,ag⟩
     exact hK.out _ _ (GT.mk rfl rfl) ag
    refine oc0 3 ?_
    refine z2i 17 93 (fun wa hs=>(hs.2.1.cell 0:wa.cell? ⟨g3,0,J⟩=Q (Z X x.flt.id))) ?_
    refine ocO (fun a wa ha hs hd K hK=>?_) ?_
    ·have e0:=dpO hd 18 94
     go_simp
     go_at_call 114
     refine (z5b x.flt.id wa).mono ?_
     rintro e W7 ⟨rfl,ag⟩
     exact hK.out _ _ (GT.mk rfl rfl) ag
    refine oc0 3 ?_
    refine z2i 20 96 (fun wa hs=>(hs.2.1.cell 1:wa.cell? ⟨g3,1,J⟩=Q (Z X x.flt.air))) ?_
    refine ocO (fun a wa ha hs hd K hK=>?_) ?_
    ·have e0:=dpO hd 21 97
     go_simp
     go_at_call 114
     refine (z5b x.flt.air wa).mono ?_
     rintro e W7 ⟨rfl,ag⟩
     exact hK.out _ _ (GT.mk rfl rfl) ag
    refine oc0 3 ?_
    refine z2i 23 99 (fun wa hs=>(hs.2.1.cell 2:wa.cell? ⟨g3,2,J⟩=Q (Z X x.flt.cls))) ?_
    refine ocO (fun a wa ha hs hd K hK=>?_) ?_
    ·have e0:=dpO hd 24 100
     go_simp
     go_at_call 114
     refine (z5b x.flt.cls wa).mono ?_
     rintro e W7 ⟨rfl,ag⟩
     exact hK.out _ _ (GT.mk rfl rfl) ag
    refine oc0 3 ?_
    refine z2i 26 102 (fun wa hs=>(hs.2.1.cell 3:wa.cell? ⟨g3,3,J⟩=Q (R x.flt.call))) ?_
    refine ocO (fun a wa ha hs hd K hK=>?_) ?_
    ·have e0:=dpO hd 27 103
     go_simp
     go_at_call 115
     refine (y2h x.flt.call wa).mono ?_
     rintro e W7 ⟨rfl,ag⟩
     exact hK.out _ _ (GT.mk rfl rfl) ag
    refine oc0 3 ?_
    refine z2i 29 105 (fun wa hs=>((by rw [← Hsw.out];exact hs.2.1.cell 4):wa.cell? ⟨g3,4,J⟩=Q ((I ow x.flt.ways.length cw)))) ?_
    refine ocO (fun a wa ha hs hd K hK=>?_) ?_
    ·have e0:=dpO hd 30 106
     go_simp
     go_at_call 54
     refine (z3f x.flt.ways _ wa (HWs.out wa hs.2.2.2.2) Hi.out.flt.ways Hl.out.ways).mono ?_
     rintro e W7 ⟨dY,rfl,cI,ag⟩
     exact hK.out _ _ (GT.mk rfl ⟨dY,rfl,x7v cI hs.2.2.2.2.size (fun j h=>h.elim)⟩) ag
    refine oc0 3 ?_
    refine oc1 32 108 ?_
    refine z2i 33 109 (fun wa hs=>(hs.2.1.cell 5:wa.cell? ⟨g3,5,J⟩=Q (.int X x.flt.wf))) ?_
    refine oc0 3 ?_
    refine oc1 35 111 ?_
    refine z2i 36 112 (fun wa hs=>(hs.2.1.cell 6:wa.cell? ⟨g3,6,J⟩=Q (Z X x.flt.wt))) ?_
    refine ocO (fun a wa ha hs hd K hK=>?_) ?_
    ·have e0:=dpO hd 34 110
     have e1:=dpO hd 37 113
     go_simp
     exact hK.out _ _ (GT.mk rfl (z2y wa [x.flt.wf,x.flt.wt] (by simp;decide))) (z4b _)
    refine ocO (fun a wa ha hs hd K hK=>?_) ?_
    ·obtain ⟨v0,e0,q0⟩:=dgO hd 38 114
     go_simp
     go_at_call 54
     refine (z3f [x.flt.wf,x.flt.wt] _ wa q0 (fun n hn=>by simp only [List.mem_cons,List.not_mem_nil,or_false] at hn;rcases hn with rfl|rfl <;> first|exact Hi.out.mi|exact Hi.out.ce|exact Hi.out.no|exact Hi.out.kind|exact Hi.out.text|exact Hi.out.flt.id|exact Hi.out.flt.air|exact Hi.out.flt.cls|exact Hi.out.flt.call|exact Hi.out.flt.wf|exact Hi.out.flt.wt|exact Hi.out.cfrm|exact Hi.out.cfg|exact Hi.out.rst|exact Hi.out.rno|exact Hi.out.rmi|exact Hi.out.rar|exact Hi.out.rcl|exact Hi.out.rvo|exact Hi.out.sst|exact Hi.out.sfr|exact Hi.out.n|exact Hi.out.sh|exact Hi.out.fa) (by simp)).mono ?_
     rintro e W7 ⟨dY,rfl,cI,ag⟩
     exact hK.out _ _ (GT.mk rfl ⟨dY,rfl,x7v cI hs.2.2.2.2.size (fun j h=>h.elim)⟩) ag
    refine oc0 3 ?_
    refine z2i 40 116 (fun wa hs=>(hs.2.1.cell 7:wa.cell? ⟨g3,7,J⟩=Q (H x.flt.can))) ?_
    refine ocO (fun a wa ha hs hd K hK=>?_) ?_
    ·have e0:=dpO hd 41 117
     go_simp
     go_at_call 113
     refine (y3h x.flt.can wa).mono ?_
     rintro e W7 ⟨rfl,ag⟩
     exact hK.out _ _ (GT.mk rfl rfl) ag
    refine ocO (fun a wa ha hs hd K hK=>?_) ?_
    ·have e0:=dpO hd 19 95
     have e1:=dpO hd 22 98
     have e2:=dpO hd 25 101
     have e3:=dpO hd 28 104
     obtain ⟨v4,e4,q4⟩:=dgO hd 31 107
     obtain ⟨oN,rfl,lP⟩:=q4
     obtain ⟨v5,e5,q5⟩:=dgO hd 39 115
     obtain ⟨oO,rfl,ir⟩:=q5
     have e6:=dpO hd 42 118
     go_simp
     exact hK.out _ _ (GT.mk rfl (z1i (w:=wa) [iV x.flt.id,iV x.flt.air,iV x.flt.cls,tV x.flt.call,nsV x.flt.ways,lV [iV x.flt.wf,iV x.flt.wt],bV x.flt.can] [I J 0 0,I J 0 0,I J 0 0,I J 0 0,oN,oO,I J 0 0] hs.2.2.2.2.size ⟨z0z.int _ _ x.flt.id Hi.out.flt.id,z0z.int _ _ x.flt.air Hi.out.flt.air,z0z.int _ _ x.flt.cls Hi.out.flt.cls,z0z.txt _ _ x.flt.call Hi.out.flt.call,lP,ir,z0z.int _ _ (if x.flt.can then 1 else 0) (by unfold I64;split <;> omega),trivial⟩ (by simp;decide))) (z4b _)
    refine ocO (fun a wa ha hs hd K hK=>?_) ?_
    ·obtain ⟨v0,e0,q0⟩:=dgO hd 43 119
     obtain ⟨oq,cq,rfl⟩:=z1j.shape q0
     go_simp
     go_at_call 52
     refine (z0g _ _ _ wa).mono ?_
     rintro e W7 ⟨rfl,ag⟩
     exact hK.out _ _ (GT.mk rfl ⟨_,rfl,x1z (z1j.ext q0 ag)⟩) ag
    refine oc0 4 ?_
    refine ocO (fun a wa ha hs hd K hK=>?_) ?_
    ·have e0:=dpO hd 45 121
     go_simp
     go_at_call 52
     refine (z0g _ _ _ wa).mono ?_
     rintro e W7 ⟨rfl,ag⟩
     exact hK.out _ _ (GT.mk rfl ⟨_,rfl,x1z (z1j.ext hs.2.2.2.1 ag)⟩) ag
    refine oc0 1 ?_
    refine oc1 47 123 ?_
    refine z2i 48 124 (fun wa hs=>(hs.1.cell 14:wa.cell? ⟨w.heap.size,14,J⟩=Q (Z X x.chg.frm))) ?_
    refine ocO (fun a wa ha hs hd K hK=>?_) ?_
    ·have e0:=dpO hd 49 125
     go_simp
     go_at_call 114
     refine (z5b x.chg.frm wa).mono ?_
     rintro e W7 ⟨rfl,ag⟩
     exact hK.out _ _ (GT.mk rfl rfl) ag
    refine oc0 1 ?_
    refine oc1 51 127 ?_
    refine z2i 52 128 (fun wa hs=>(hs.1.cell 15:wa.cell? ⟨w.heap.size,15,J⟩=Q (Z X x.chg.cfg))) ?_
    refine ocO (fun a wa ha hs hd K hK=>?_) ?_
    ·have e0:=dpO hd 53 129
     go_simp
     go_at_call 114
     refine (z5b x.chg.cfg wa).mono ?_
     rintro e W7 ⟨rfl,ag⟩
     exact hK.out _ _ (GT.mk rfl rfl) ag
    refine oc0 1 ?_
    refine oc1 55 131 ?_
    refine z2i 56 132 (fun wa hs=>((by rw [← Hsm.out];exact hs.1.cell 16):wa.cell? ⟨w.heap.size,16,J⟩=Q ((I om x.chg.modes.length cm)))) ?_
    refine ocO (fun a wa ha hs hd K hK=>?_) ?_
    ·have e0:=dpO hd 57 133
     go_simp
     go_at_call 54
     refine (z3f x.chg.modes _ wa (HMs.out wa hs.2.2.2.2) Hi.out.modes Hl.out.modes).mono ?_
     rintro e W7 ⟨dY,rfl,cI,ag⟩
     exact hK.out _ _ (GT.mk rfl ⟨dY,rfl,x7v cI hs.2.2.2.2.size (fun j h=>h.elim)⟩) ag
    refine ocO (fun a wa ha hs hd K hK=>?_) ?_
    ·have e0:=dpO hd 50 126
     have e1:=dpO hd 54 130
     obtain ⟨v2,e2,q2⟩:=dgO hd 58 134
     obtain ⟨lx2,rfl,bv⟩:=q2
     go_simp
     exact hK.out _ _ (GT.mk rfl (z1i (w:=wa) [iV x.chg.frm,iV x.chg.cfg,nsV x.chg.modes] [I J 0 0,I J 0 0,lx2] hs.2.2.2.2.size ⟨z0z.int _ _ x.chg.frm Hi.out.cfrm,z0z.int _ _ x.chg.cfg Hi.out.cfg,bv,trivial⟩ (by simp;decide))) (z4b _)
    refine ocO (fun a wa ha hs hd K hK=>?_) ?_
    ·obtain ⟨v0,e0,q0⟩:=dgO hd 59 135
     obtain ⟨oq,cq,rfl⟩:=z1j.shape q0
     go_simp
     go_at_call 52
     refine (z0g _ _ _ wa).mono ?_
     rintro e W7 ⟨rfl,ag⟩
     exact hK.out _ _ (GT.mk rfl ⟨_,rfl,x1z (z1j.ext q0 ag)⟩) ag
    refine oc0 10 ?_
    refine z2i 61 137 (fun wa hs=>(hs.2.2.1.cell 0:wa.cell? ⟨gN,0,J⟩=Q (Z X x.rep.st))) ?_
    refine ocO (fun a wa ha hs hd K hK=>?_) ?_
    ·have e0:=dpO hd 62 138
     go_simp
     go_at_call 114
     refine (z5b x.rep.st wa).mono ?_
     rintro e W7 ⟨rfl,ag⟩
     exact hK.out _ _ (GT.mk rfl rfl) ag
    refine oc0 10 ?_
    refine z2i 64 140 (fun wa hs=>(hs.2.2.1.cell 1:wa.cell? ⟨gN,1,J⟩=Q (Z X x.rep.no))) ?_
    refine ocO (fun a wa ha hs hd K hK=>?_) ?_
    ·have e0:=dpO hd 65 141
     go_simp
     go_at_call 114
     refine (z5b x.rep.no wa).mono ?_
     rintro e W7 ⟨rfl,ag⟩
     exact hK.out _ _ (GT.mk rfl rfl) ag
    refine oc0 10 ?_
    refine z2i 67 143 (fun wa hs=>(hs.2.2.1.cell 2:wa.cell? ⟨gN,2,J⟩=Q (Z X x.rep.mi))) ?_
    refine ocO (fun a wa ha hs hd K hK=>?_) ?_
    ·have e0:=dpO hd 68 144
     go_simp
     go_at_call 114
     refine (z5b x.rep.mi wa).mono ?_
     rintro e W7 ⟨rfl,ag⟩
     exact hK.out _ _ (GT.mk rfl rfl) ag
    refine oc0 10 ?_
    refine z2i 70 146 (fun wa hs=>(hs.2.2.1.cell 3:wa.cell? ⟨gN,3,J⟩=Q (Z X x.rep.ar))) ?_
    refine ocO (fun a wa ha hs hd K hK=>?_) ?_
    ·have e0:=dpO hd 71 147
     go_simp
     go_at_call 114
     refine (z5b x.rep.ar wa).mono ?_
     rintro e W7 ⟨rfl,ag⟩
     exact hK.out _ _ (GT.mk rfl rfl) ag
    refine oc0 10 ?_
    refine z2i 73 149 (fun wa hs=>(hs.2.2.1.cell 4:wa.cell? ⟨gN,4,J⟩=Q (R x.rep.cl))) ?_
    refine ocO (fun a wa ha hs hd K hK=>?_) ?_
    ·have e0:=dpO hd 74 150
     go_simp
     go_at_call 115
     refine (y2h x.rep.cl wa).mono ?_
     rintro e W7 ⟨rfl,ag⟩
     exact hK.out _ _ (GT.mk rfl rfl) ag
    refine oc0 10 ?_
    refine z2i 76 152 (fun wa hs=>(hs.2.2.1.cell 5:wa.cell? ⟨gN,5,J⟩=Q (Z X x.rep.vo))) ?_
    refine ocO (fun a wa ha hs hd K hK=>?_) ?_
    ·have e0:=dpO hd 77 153
     go_simp
     go_at_call 114
     refine (z5b x.rep.vo wa).mono ?_
     rintro e W7 ⟨rfl,ag⟩
     exact hK.out _ _ (GT.mk rfl rfl) ag
    refine ocO (fun a wa ha hs hd K hK=>?_) ?_
    ·have e0:=dpO hd 63 139
     have e1:=dpO hd 66 142
     have e2:=dpO hd 69 145
     have e3:=dpO hd 72 148
     have e4:=dpO hd 75 151
     have e5:=dpO hd 78 154
     go_simp
     exact hK.out _ _ (GT.mk rfl (z1i (w:=wa) [iV x.rep.st,iV x.rep.no,iV x.rep.mi,iV x.rep.ar,tV x.rep.cl,iV x.rep.vo] [I J 0 0,I J 0 0,I J 0 0,I J 0 0,I J 0 0,I J 0 0] hs.2.2.2.2.size ⟨z0z.int _ _ x.rep.st Hi.out.rst,z0z.int _ _ x.rep.no Hi.out.rno,z0z.int _ _ x.rep.mi Hi.out.rmi,z0z.int _ _ x.rep.ar Hi.out.rar,z0z.txt _ _ x.rep.cl Hi.out.rcl,z0z.int _ _ x.rep.vo Hi.out.rvo,trivial⟩ (by simp;decide))) (z4b _)
    refine ocO (fun a wa ha hs hd K hK=>?_) ?_
    ·obtain ⟨v0,e0,q0⟩:=dgO hd 79 155
     obtain ⟨oq,cq,rfl⟩:=z1j.shape q0
     go_simp
     go_at_call 52
     refine (z0g _ _ _ wa).mono ?_
     rintro e W7 ⟨rfl,ag⟩
     exact hK.out _ _ (GT.mk rfl ⟨_,rfl,x1z (z1j.ext q0 ag)⟩) ag
    refine oc0 1 ?_
    refine oc1 81 157 ?_
    refine z2i 82 158 (fun wa hs=>(hs.1.cell 23:wa.cell? ⟨w.heap.size,23,J⟩=Q (Z X x.sts.st))) ?_
    refine ocO (fun a wa ha hs hd K hK=>?_) ?_
    ·have e0:=dpO hd 83 159
     go_simp
     go_at_call 114
     refine (z5b x.sts.st wa).mono ?_
     rintro e W7 ⟨rfl,ag⟩
     exact hK.out _ _ (GT.mk rfl rfl) ag
    refine oc0 1 ?_
    refine oc1 85 161 ?_
    refine z2i 86 162 (fun wa hs=>(hs.1.cell 24:wa.cell? ⟨w.heap.size,24,J⟩=Q (Z X x.sts.frm))) ?_
    refine ocO (fun a wa ha hs hd K hK=>?_) ?_
    ·have e0:=dpO hd 87 163
     go_simp
     go_at_call 114
     refine (z5b x.sts.frm wa).mono ?_
     rintro e W7 ⟨rfl,ag⟩
     exact hK.out _ _ (GT.mk rfl rfl) ag
    refine oc0 1 ?_
    refine oc1 89 165 ?_
    refine z2i 90 166 (fun wa hs=>(hs.1.cell 25:wa.cell? ⟨w.heap.size,25,J⟩=Q (H x.sts.wk))) ?_
    refine ocO (fun a wa ha hs hd K hK=>?_) ?_
    ·have e0:=dpO hd 91 167
     go_simp
     go_at_call 113
     refine (y3h x.sts.wk wa).mono ?_
     rintro e W7 ⟨rfl,ag⟩
     exact hK.out _ _ (GT.mk rfl rfl) ag
    refine ocO (fun a wa ha hs hd K hK=>?_) ?_
    ·have e0:=dpO hd 84 160
     have e1:=dpO hd 88 164
     have e2:=dpO hd 92 168
     go_simp
     exact hK.out _ _ (GT.mk rfl (z1i (w:=wa) [iV x.sts.st,iV x.sts.frm,bV x.sts.wk] [I J 0 0,I J 0 0,I J 0 0] hs.2.2.2.2.size ⟨z0z.int _ _ x.sts.st Hi.out.sst,z0z.int _ _ x.sts.frm Hi.out.sfr,z0z.int _ _ (if x.sts.wk then 1 else 0) (by unfold I64;split <;> omega),trivial⟩ (by simp;decide))) (z4b _)
    refine ocO (fun a wa ha hs hd K hK=>?_) ?_
    ·obtain ⟨v0,e0,q0⟩:=dgO hd 93 169
     obtain ⟨oq,cq,rfl⟩:=z1j.shape q0
     go_simp
     go_at_call 52
     refine (z0g _ _ _ wa).mono ?_
     rintro e W7 ⟨rfl,ag⟩
     exact hK.out _ _ (GT.mk rfl ⟨_,rfl,x1z (z1j.ext q0 ag)⟩) ag
    refine oc0 1 ?_
    refine z2i 95 171 (fun wa hs=>(hs.1.cell 26:wa.cell? ⟨w.heap.size,26,J⟩=Q (Z X x.n))) ?_
    refine ocO (fun a wa ha hs hd K hK=>?_) ?_
    ·have e0:=dpO hd 96 172
     go_simp
     go_at_call 114
     refine (z5b x.n wa).mono ?_
     rintro e W7 ⟨rfl,ag⟩
     exact hK.out _ _ (GT.mk rfl rfl) ag
    refine oc0 1 ?_
    refine oc1 98 174 ?_
    refine z2i 99 175 (fun wa hs=>((by rw [← Hsv.out];exact hs.1.cell 27):wa.cell? ⟨w.heap.size,27,J⟩=Q ((I ov x.stn.vols.length cv)))) ?_
    refine ocO (fun a wa ha hs hd K hK=>?_) ?_
    ·have e0:=dpO hd 100 176
     go_simp
     go_at_call 54
     refine (z3f x.stn.vols _ wa (HVs.out wa hs.2.2.2.2) Hi.out.vols Hl.out.vols).mono ?_
     rintro e W7 ⟨dY,rfl,cI,ag⟩
     exact hK.out _ _ (GT.mk rfl ⟨dY,rfl,x7v cI hs.2.2.2.2.size (fun j h=>h.elim)⟩) ag
    refine oc0 1 ?_
    refine oc1 102 178 ?_
    refine z2i 103 179 (fun wa hs=>(hs.1.cell 28:wa.cell? ⟨w.heap.size,28,J⟩=Q (Z X x.stn.sh))) ?_
    refine ocO (fun a wa ha hs hd K hK=>?_) ?_
    ·have e0:=dpO hd 104 180
     go_simp
     go_at_call 114
     refine (z5b x.stn.sh wa).mono ?_
     rintro e W7 ⟨rfl,ag⟩
     exact hK.out _ _ (GT.mk rfl rfl) ag
    refine oc0 1 ?_
    refine oc1 106 182 ?_
    refine z2i 107 183 (fun wa hs=>(hs.1.cell 29:wa.cell? ⟨w.heap.size,29,J⟩=Q (Z X x.stn.fa))) ?_
    refine ocO (fun a wa ha hs hd K hK=>?_) ?_
    ·have e0:=dpO hd 108 184
     go_simp
     go_at_call 114
     refine (z5b x.stn.fa wa).mono ?_
     rintro e W7 ⟨rfl,ag⟩
     exact hK.out _ _ (GT.mk rfl rfl) ag
    refine ocO (fun a wa ha hs hd K hK=>?_) ?_
    ·obtain ⟨v0,e0,q0⟩:=dgO hd 101 177
     obtain ⟨kA,rfl,ig⟩:=q0
     have e1:=dpO hd 105 181
     have e2:=dpO hd 109 185
     go_simp
     exact hK.out _ _ (GT.mk rfl (z1i (w:=wa) [nsV x.stn.vols,iV x.stn.sh,iV x.stn.fa] [kA,I J 0 0,I J 0 0] hs.2.2.2.2.size ⟨ig,z0z.int _ _ x.stn.sh Hi.out.sh,z0z.int _ _ x.stn.fa Hi.out.fa,trivial⟩ (by simp;decide))) (z4b _)
    refine ocO (fun a wa ha hs hd K hK=>?_) ?_
    ·obtain ⟨v0,e0,q0⟩:=dgO hd 110 186
     obtain ⟨oq,cq,rfl⟩:=z1j.shape q0
     go_simp
     go_at_call 52
     refine (z0g _ _ _ wa).mono ?_
     rintro e W7 ⟨rfl,ag⟩
     exact hK.out _ _ (GT.mk rfl ⟨_,rfl,x1z (z1j.ext q0 ag)⟩) ag
    refine ocO (fun a wa ha hs hd K hK=>?_) ?_
    ·obtain ⟨v0,e0,q0⟩:=dgO hd 10 86
     obtain ⟨kA,rfl,ig⟩:=q0
     have e1:=dpO hd 13 89
     have e2:=dpO hd 16 92
     obtain ⟨v3,e3,q3⟩:=dgO hd 44 120
     obtain ⟨lx3,rfl,eJ⟩:=q3
     obtain ⟨v4,e4,q4⟩:=dgO hd 46 122
     obtain ⟨oN,rfl,lP⟩:=q4
     obtain ⟨v5,e5,q5⟩:=dgO hd 60 136
     obtain ⟨oO,rfl,ir⟩:=q5
     obtain ⟨v6,e6,q6⟩:=dgO hd 80 156
     obtain ⟨lx6,rfl,hn6⟩:=q6
     obtain ⟨v7,e7,q7⟩:=dgO hd 94 170
     obtain ⟨lx7,rfl,hn7⟩:=q7
     have e8:=dpO hd 97 173
     obtain ⟨v9,e9,q9⟩:=dgO hd 111 187
     obtain ⟨lx9,rfl,eM⟩:=q9
     go_simp
     exact hK.out _ _ (GT.mk rfl (z1i (w:=wa) [lV [iV x.mi,iV x.ce,iV x.no],iV x.kind,tV x.text,lV (y0n x.flt),lV (x.tree.map z5j),lV [iV x.chg.frm,iV x.chg.cfg,nsV x.chg.modes],lV (z1p x.rep),lV [iV x.sts.st,iV x.sts.frm,bV x.sts.wk],iV x.n,lV [nsV x.stn.vols,iV x.stn.sh,iV x.stn.fa]] [kA,I J 0 0,I J 0 0,lx3,oN,oO,lx6,lx7,I J 0 0,lx9] hs.2.2.2.2.size ⟨ig,z0z.int _ _ x.kind Hi.out.kind,z0z.txt _ _ x.text Hi.out.text,eJ,lP,ir,hn6,hn7,z0z.int _ _ x.n Hi.out.n,eM,trivial⟩ (by simp;decide))) (z4b _)
    exact trivial
   ·intro a w1' ha hdf hsz bJ hg
    obtain ⟨v,e188,q⟩:=hg 112 188 (by kernel_rfl)
    have hOF:=GT.out (g:=(.owns (z8e x))) rfl q
    have dx:=hd_ bJ.2.2.2.2;have HOF:=hd_ hOF
    have jX:2<a.tmps.size:=by rw [hsz,← Nat.blt_eq];kernel_rfl
    obtain ⟨h188,e9⟩:=Array.getElem?_eq_some_iff.1 e188
    clear hg q bJ ha hOF
    refine rdL 113 fun K hK=>?_
    go_simp
    refine hK.out _ _ (fun h=>absurd h (by decide)) (fun _=>?_)
    clear hK K
    refine z3b (by kernel_rfl) ?_ _
    go_wp2_with fail
    refine bodyPost_ret (v:=v) ((results_tmp rfl _ _ _).trans (by simp [jX])) rfl ?_
    exact ⟨v,rfl,HOF.out,dx.out⟩
theorem x1b (x:Inp) (s:Slc) (w:Y) (hx:InpR w x s) (z1:x.text.size≤9223372036854775807) (z2:x.flt.call.size≤9223372036854775807) (z3:x.rep.cl.size≤9223372036854775807):L prog 17 #[x.v s] w (k1m x w):=by
 obtain ⟨b1,h1⟩:∃ b,inB x.mi 0 1439=b:=⟨_,rfl⟩
 obtain ⟨b2,h2⟩:∃ b,inB x.ce 0 3=b:=⟨_,rfl⟩
 obtain ⟨b3,h3⟩:∃ b,inB x.no 1 1048576=b:=⟨_,rfl⟩
 obtain ⟨db,hd⟩:∃ b,F (x=z3j x)=b:=⟨_,rfl⟩
 obtain ⟨fb,hf⟩:∃ b,(inB x.kind 1 10&&z3s x)=b:=⟨_,rfl⟩
 have kw:O (okI x=(b1&&b2&&b3&&db&&fb)):=hd_ (by
  unfold okI y1h
  rw [h1,h2,h3,← hf,← hd,show F (z3j x=x)=F (x=z3j x) from decide_eq_decide.2 ⟨Eq.symm,Eq.symm⟩]
  cases b1 <;> cases b2 <;> cases b3 <;> cases inB x.kind 1 10 <;> cases F (x=z3j x) <;> rfl)
 have H1:=hd_ (fun W=>z5e x.mi 0 1439 W);have H2:=hd_ (fun W=>z5e x.ce 0 3 W);have ja:=hd_ (fun W=>z5e x.no 1 1048576 W)
 rw [h1] at H1;rw [h2] at H2;rw [h3] at ja
 have HDb:=hd_ hd;have HFb:=hd_ hf
 have hcx:=z3a w (bI x s) 41 (x.cells s) rfl
 have jN:=hd_ hcx;have az:=hd_ (z4b (w:=w) (bI x s));have aY:=hd_ hx
 have gY:=hd_ (x2j x)
 clear h1 h2 h3 hd hf hcx hx
 change L prog 17 #[C (x.cells s).toArray] w _
 go_enter func17,ntmps17
 go_upto_region 1 with fail
 change Code.wp _ _ _ _ (w.alloc (bI x s))
 generalize w.alloc (bI x s)=w1 at *
 have gx:O (w1.rangeAt w.heap.size 0 (stC x)):=j0g jN.out
 have hsz:=jN.out.lt
 have HSZ:=hd_ hsz
 have dM:O (CB (w1.alloc (U [Z X 0,Z X 0,Z X 0].toArray 23)) w1.heap.size 23 [Z X 0,Z X 0,Z X 0]):=z3a w1 _ _ _ rfl
 clear hsz
 go_upto_region 2 with (first
  | (have _g:=gx.out;refine lmg 23 (.tmp 4) rfl w.heap.size 0 rfl (stC x) gx.out underlying23 ?_;clear gx)
  | (have _g:=gY.out;refine scs 23 (.tmp 3) (.tmp 5) rfl w1.heap.size (stC x) rfl rfl dM.out gY.out (fun w2 H3 dW fg=>?_);clear gY))
 have hz:M w1.heap.size w1 w2:=(z4b (w:=w1) (U [Z X 0,Z X 0,Z X 0].toArray 23)).grown dW.out (by simp) (fun q e=>by injection e with e;omega)
 have HI:=hd_ (jN.out.ext hz);have HB:=hd_ (z0a az.out hz)
 clear jN az hz dW fg dM
 generalize w1.heap.size=g3 at *
 refine z7a (S:=fun w'=>CB w' w.heap.size 41 (x.cells s)∧CB w' g3 23 (stC x)) (late:=fun _=>G) (by kernel_rfl) ⟨HI.out.ext (Below.refl w2.heap.size w2).drew,H3.out.ext (Below.refl w2.heap.size w2).drew⟩ (fun hHeld=>?_)
 have aQ:=(Below.refl w2.heap.size w2).drew
 replace HI:=hd_ (HI.out.ext aQ);replace H3:=hd_ (H3.out.ext aQ);replace HB:=hd_ (z0a HB.out aQ);replace aY:=hd_ (aY.out)
 clear aQ
 generalize w2.drew=W at *
 refine tkL 6 0 ?_
 refine tkL 7 1 ?_ (hy:=fun wS aa=>by have e0:=aa.2.cv 0 (Z X x.mi);go_simp;first|done|with_reducible rfl)
 refine rdL 2 fun K hK=>?_
 go_simp
 go_at_call 44
 refine (H1.out W).mono ?_
 rintro e w' ⟨rfl,rfl⟩
 refine z4n hK ⟨HI.out,H3.out⟩ fun hHeld=>?_
 clear hK K
 refine tkL 9 3 ?_
 refine tkL 10 4 ?_
 cases b1
 case false =>
  have mh:O (okI x=G):=kw.out
  refine z0q 11 5 ?_
  refine z0q 12 6 ?_
  refine z0q 13 7 ?_
  refine z0q 14 8 ?_
  refine tkL 15 9 ?_
  refine tkL 16 10 ?_
  refine z0q 17 11 ?_
  refine z0q 18 12 ?_
  refine z0q 19 13 ?_
  refine z0q 20 14 ?_
  refine tkL 21 15 ?_
  refine tkL 22 16 ?_
  refine z0q 23 17 ?_
  refine z0q 24 18 ?_
  refine z0q 25 19 ?_
  refine z0q 26 20 ?_
  refine z0q 27 21 ?_
  refine tkL 28 22 ?_
  refine tkL 29 23 ?_
  refine z0q 30 24 ?_
  refine z0q 31 25 ?_
  refine z0q 32 26 ?_
  refine tkL 33 27 ?_
  refine z3b (by kernel_rfl) ?_ _
  go_wp2_with fail
  go_ret
  exact z4m mh.out HB.out
 refine tkL 11 5 ?_
 refine tkL 12 6 ?_ (hy:=fun wS aa=>by have e0:=aa.2.cv 1 (Z X x.ce);go_simp;first|done|with_reducible rfl)
 refine rdL 7 fun K hK=>?_
 go_simp
 go_at_call 44
 refine (H2.out W).mono ?_
 rintro e w' ⟨rfl,rfl⟩
 refine z4n hK ⟨HI.out,H3.out⟩ fun hHeld=>?_
 clear hK K
 refine tkL 14 8 ?_
 refine tkL 15 9 ?_
 refine tkL 16 10 ?_
 cases b2
 case false =>
  have mh:O (okI x=G):=kw.out
  refine z0q 17 11 ?_
  refine z0q 18 12 ?_
  refine z0q 19 13 ?_
  refine z0q 20 14 ?_
  refine tkL 21 15 ?_
  refine tkL 22 16 ?_
  refine z0q 23 17 ?_
  refine z0q 24 18 ?_
  refine z0q 25 19 ?_
  refine z0q 26 20 ?_
  refine z0q 27 21 ?_
  refine tkL 28 22 ?_
  refine tkL 29 23 ?_
  refine z0q 30 24 ?_
  refine z0q 31 25 ?_
  refine z0q 32 26 ?_
  refine tkL 33 27 ?_
  refine z3b (by kernel_rfl) ?_ _
  go_wp2_with fail
  go_ret
  exact z4m mh.out HB.out
 refine tkL 17 11 ?_
 refine tkL 18 12 ?_ (hy:=fun wS aa=>by have e0:=aa.2.cv 2 (Z X x.no);go_simp;first|done|with_reducible rfl)
 refine rdL 13 fun K hK=>?_
 go_simp
 go_at_call 44
 refine (ja.out W).mono ?_
 rintro e w' ⟨rfl,rfl⟩
 refine z4n hK ⟨HI.out,H3.out⟩ fun hHeld=>?_
 clear hK K
 refine tkL 20 14 ?_
 refine tkL 21 15 ?_
 refine tkL 22 16 ?_
 cases b3
 case false =>
  have mh:O (okI x=G):=kw.out
  refine z0q 23 17 ?_
  refine z0q 24 18 ?_
  refine z0q 25 19 ?_
  refine z0q 26 20 ?_
  refine z0q 27 21 ?_
  refine tkL 28 22 ?_
  refine tkL 29 23 ?_
  refine z0q 30 24 ?_
  refine z0q 31 25 ?_
  refine z0q 32 26 ?_
  refine tkL 33 27 ?_
  refine z3b (by kernel_rfl) ?_ _
  go_wp2_with fail
  go_ret
  exact z4m mh.out HB.out
 refine z2x 23 17 rfl (C (x.cells s).toArray) (yieldsIf_load_mid (by rfl) 41 _ rfl w.heap.size 0 rfl (x.cells s) _ (fun wS aa=>z3h aa.1) underlying41 rfl (by kernel_rfl)) ?_
 refine z2x 24 18 rfl (C (x.cells s).toArray) (yieldsIf_load_mid (by rfl) 41 _ rfl w.heap.size 0 rfl (x.cells s) _ (fun wS aa=>z3h aa.1) underlying41 rfl (by kernel_rfl)) ?_
 refine rdL 19 fun K hK=>?_
 go_simp
 go_at_call 45
 refine (j6s x s W (aY.out.ext HB.out)).mono ?_
 rintro e w4 ⟨s',rfl,gO,cO⟩
 have cZ:=hd_ gO
 replace HI:=hd_ (HI.out.ext cO);replace H3:=hd_ (H3.out.ext cO);replace HB:=hd_ (z0a HB.out cO)
 clear gO cO
 refine z4n hK ⟨HI.out,H3.out⟩ fun hHeld=>?_
 clear hK K
 refine rdL 20 fun K hK=>?_
 go_simp
 go_at_call 18
 refine (y6y x (z3j x) s s' w4 (aY.out.ext HB.out) cZ.out).mono ?_
 rintro e w5 ⟨rfl,bp⟩
 rw [HDb.out]
 replace HI:=hd_ (HI.out.ext bp);replace H3:=hd_ (H3.out.ext bp);replace HB:=hd_ (z0a HB.out bp)
 clear cZ bp
 refine z4n hK ⟨HI.out,H3.out⟩ fun hHeld=>?_
 clear hK K
 refine tkL 27 21 ?_
 refine tkL 28 22 ?_
 refine tkL 29 23 ?_
 cases db
 case false =>
  have mh:O (okI x=G):=kw.out
  refine z0q 30 24 ?_
  refine z0q 31 25 ?_
  refine z0q 32 26 ?_
  refine tkL 33 27 ?_
  refine z3b (by kernel_rfl) ?_ _
  go_wp2_with fail
  go_ret
  exact z4m mh.out HB.out
 refine z2x 30 24 rfl (C (x.cells s).toArray) (yieldsIf_load_mid (by rfl) 41 _ rfl w.heap.size 0 rfl (x.cells s) _ (fun wS aa=>z3h aa.1) underlying41 rfl (by kernel_rfl)) ?_
 refine rdL 25 fun K hK=>?_
 go_simp
 go_at_call 46
 refine (x4v x s w5 (aY.out.ext HB.out) z1 z2 z3).mono ?_
 rintro e w6 ⟨rfl,dC⟩
 rw [HFb.out]
 replace HI:=hd_ (HI.out.ext dC);replace H3:=hd_ (H3.out.ext dC);replace HB:=hd_ (z0a HB.out dC)
 clear dC
 refine z4n hK ⟨HI.out,H3.out⟩ fun hHeld=>?_
 clear hK K
 refine tkL 32 26 ?_
 refine tkL 33 27 ?_
 refine z3b (by kernel_rfl) ?_ _
 cases fb
 case false =>
  have mh:O (okI x=G):=kw.out
  go_wp2_with fail
  go_ret
  exact z4m mh.out HB.out
 case true =>
  have HYes:O (okI x=E):=kw.out
  go_wp2_with fail
  go_ret
  exact j2g HYes.out HB.out
theorem x2b (l:List V):fm (lV l)=fms l:=by unfold lV;simp [fm,ByteArray.toList_eq]
theorem x3b (l:List V):dp (lV l)=dps l+1:=by unfold lV;simp [dp]
theorem v3a (s:ByteArray):fm (tV s)=E:=by unfold tV;simp [fm]
theorem v4a (s:ByteArray):dp (tV s)=0:=by unfold tV;simp [dp]
theorem j5h (n:Int):fm (iV n)=E:=by unfold iV;simp [fm,ByteArray.toList_eq]
theorem j6h (n:Int):dp (iV n)=0:=by unfold iV;simp [dp]
theorem k6s (b:Bool):fm (bV b)=E:=j5h _
theorem k7s (b:Bool):dp (bV b)=0:=j6h _
theorem j2z (l:List Int):fm (nsV l)=E:=by unfold nsV;rw [x2b];exact (k3d l).1
theorem j3z (l:List Int):dp (nsV l)=1:=by unfold nsV;rw [x3b,(k3d l).2]
theorem j4z (a b:Int):fm (spV a b)=E:=j2z [a,b]
theorem j5z (a b:Int):dp (spV a b)=1:=j3z [a,b]
theorem k7e (c:Cut):fm (z0p c)=E:=by unfold z0p;rw [x2b];simp [fms,k6s,j5h,j4z]
theorem k8e (c:Cut):dp (z0p c)=2:=by unfold z0p;rw [x3b];simp [dps,k7s,j6h,j5z]
theorem j7h:∀ l:List Cut,fms (l.map z0p)=E∧dps (l.map z0p)≤2
 | []=>by simp [fms,dps]
 | c::r=>by
  obtain ⟨h1,h2⟩:=j7h r
  simp only [List.map_cons,fms,dps,k7e,k8e,h1]
  exact ⟨rfl,by omega⟩
theorem k8s (n:Nod):fm (z5j n)=E∧dp (z5j n)≤4:=by
 obtain ⟨h1,h2⟩:=j7h n.cuts
 unfold z5j
 rw [x2b,x3b]
 simp only [fms,dps,j5h,j6h,x2b,x3b,h1]
 exact ⟨rfl,by omega⟩
theorem j8h:∀ l:List Nod,fms (l.map z5j)=E∧dps (l.map z5j)≤4
 | []=>by simp [fms,dps]
 | n::r=>by
  obtain ⟨h1,h2⟩:=j8h r
  obtain ⟨h3,h4⟩:=k8s n
  simp only [List.map_cons,fms,dps,h3,h1]
  exact ⟨rfl,by omega⟩
theorem j9h (x:Inp):fms (z8e x)=E∧dps (z8e x)≤5:=by
 obtain ⟨h1,h2⟩:=j8h x.tree
 unfold z8e y0n z1p
 simp only [fms,dps,j5h,j6h,x2b,x3b,v3a,v4a,k6s,k7s,j2z,j3z,j4z,j5z,h1]
 exact ⟨rfl,by omega⟩
theorem k9e (x:Inp):ck (lV (z8e x))=0:=by
 obtain ⟨h1,h2⟩:=j9h x
 exact k2d (by rw [x2b];exact h1) (by rw [x3b];omega)
theorem y5a (x:Inp):ck (lV (z6e x))=0:=by
 obtain ⟨h1,h2⟩:=j9h x
 refine k2d ?_ ?_
 ·rw [x2b];unfold z6e;rw [y4m,h1,x2b];simp [fms,j5h]
 ·rw [x3b];unfold z6e;rw [y3m,x3b];simp only [dps,j6h];omega
theorem z9l:∀ (a b:List V),szs (a++b)=szs a+szs b
 | [],b=>by simp [szs]
 | x::r,b=>by simp only [List.cons_append,szs,z9l r b];omega
theorem z2j (l:List V):sz (lV l)=24+szs l:=by
 unfold lV
 simp only [sz,show (⟨#[]⟩:ByteArray).size=0 from rfl]
theorem j0i (x:Inp):sz (lV (z8e x))≤sz (lV (z6e x)):=by
 rw [z2j,z2j];unfold z6e;rw [z9l];omega
def v5a:List UInt8:=(⟨#[105,110,112,117,116]⟩:ByteArray).data.toList
def y1n (x:Inp):List UInt8:=enc (lV (z8e x))
def z4o (x:Inp):List UInt8:=enc (lV (z6e x))
theorem x3w (x:Inp) (h:sz (lV (z6e x))≤60000):(y1n x).length≤60000:=by
 have h1:=y4l (lV (z8e x))
 have:=j0i x
 unfold y1n
 omega
def y3j:List PanicEntry:=[{ v:=.iface 44 (Z X 490),recovered:=false }]
def z5h (B:Nat) (w:Y) (c:Nat) (l:List V):Prop:=B≤c∧∃ lv,CB w c 144 [lv]∧y5j (fun j=>j<B) w l lv
theorem z5h.keep {B c:Nat} {w w':Y} {l:List V} {row:Option Nat} (h:z5h B w c l) (hg:w.grownBy w' row) (hB:B≤w.heap.size) (hr:∀ q,row=Q q→q≠c∧B≤q):z5h B w' c l:=by
 obtain ⟨h1,lv,h2,h3⟩:=h
 exact ⟨h1,lv,h2.keep (hg.block _ h2.lt (fun e=>(hr c e.symm).1 rfl)),h3.keep (fun _ h=>h) (fun k hk=>hg.block k (lL hk hB) (fun e=>by have:=(hr k e.symm).2;omega))⟩
def j6z (B:Nat) (x:V) (w:Y) (e:Ending) (w':Y):Prop :=
 if x.kind=3 then ∃ g,e=.returned (T (Q ⟨g,0,J⟩))∧w.heap.size≤g∧z5h B w' g x.l∧M w.heap.size w w' else e=.panicked y3j∧M w.heap.size w w'
theorem j6z.bad {B:Nat} {x:V} {w w':Y} (h:¬ x.kind=3) (hb:M w.heap.size w w'):j6z B x w (.panicked y3j) w':=by unfold j6z;rw [if_neg h];exact ⟨rfl,hb⟩
theorem j6z.good {B g:Nat} {x:V} {w w':Y} (h:x.kind=3) (h1:w.heap.size≤g) (h2:z5h B w' g x.l) (hb:M w.heap.size w w'):j6z B x w (.returned (T (Q ⟨g,0,J⟩))) w':=by unfold j6z;rw [if_pos h];exact ⟨g,rfl,h1,h2,hb⟩
def v4o (x:V) (lv:D):Obj:=.cells (v4 x lv).toArray 80
theorem x0q (B:Nat) (x:V) (v:D) (w:Y) (hv:x2f (fun j=>j<B) w x v) (hB:B≤w.heap.size):L prog 57 #[v] w (j6z B x w):=by
 obtain ⟨-,-,-,lv,rfl,hs⟩:=hv
 obtain ⟨oa,cap,rfl⟩:=z1k hs
 obtain ⟨k,n,st,l⟩:=x
 have HS:=hd_ hs;have HBs:=hd_ hB
 have Hb:=hd_ (z4b (w:=w) (v4o (.mk k n st l) (I oa l.length cap)))
 have hc:=z3a w (v4o (.mk k n st l) (I oa l.length cap)) 80 _ rfl
 have c0:=hc.cv 0 (Z X k)
 have c3:=hc.cv 3 (I oa l.length cap)
 clear hs hB hc
 by_cases hk:k=3
 ·subst hk
  go_enter func57,ntmps57
  go_upto_region 1 with fail
  change Code.wp _ _ _ _ (w.alloc (v4o (.mk 3 n st l) (I oa l.length cap)))
  generalize w.alloc (v4o (.mk 3 n st l) (I oa l.length cap))=w0 at *
  go_wp2_with fail
  go_ret
  have hz:=z4b (w:=w0) (U [I oa l.length cap].toArray 144)
  exact j6z.good (g:=w0.heap.size) rfl Hb.out.size ⟨lT HBs.out Hb.out.size,_,z3a w0 _ _ _ rfl,HS.out.keep (fun _ h=>h) (fun j hj=>(Below.heap_alloc w0 _ j (lL (lL hj HBs.out) Hb.out.size)).trans (Hb.out.block j (lL hj HBs.out)))⟩ (z0a Hb.out hz)
 ·have u1:F (k=3)=G:=decide_eq_false hk
  have u2:(k == 3)=G:=beq_false_of_ne hk
  have Hk:=hd_ hk
  clear hk
  go_enter func57,ntmps57
  go_upto_region 1 with fail
  change Code.wp _ _ _ _ (w.alloc (v4o (.mk k n st l) (I oa l.length cap)))
  generalize w.alloc (v4o (.mk k n st l) (I oa l.length cap))=w0 at *
  go_wp2_with fail
  have hk3:¬ (V.mk k n st l).kind=3:=Hk.out
  exact ⟨rfl,j6z.bad hk3 Hb.out⟩
def k2m (B c:Nat) (k:Int) (l:List V) (w:Y) (e:Ending) (w':Y):Prop :=
 match nxt k l with
 | some (x,r)=>∃ v,e=.returned v∧x2f (fun j=>j<B) w' x v∧z5h B w' c r∧w.grownBy w' (Q c)
 | none=>e=.panicked y3j∧w.grownBy w' (Q c)
theorem x1q (B c:Nat) (k:Int) (l:List V) (w:Y) (hc:z5h B w c l):L prog 119 #[T (Q ⟨c,0,J⟩),Z X k] w (k2m B c k l w):=by
 obtain ⟨hBc,lv,aO,hs⟩:=hc
 have hcw:=aO.lt
 have HB:=hd_ hBc;have jC:=hd_ hcw
 have Hg:O (w.grownBy (w.alloc Z4) (Q c)):=World.grownBy_alloc w _ _
 have jH:=aO.alloc Z4
 have HC:=hd_ jH
 have H4:O (CB (w.alloc Z4) w.heap.size 80 Z4c):=z3a w Z4 _ _ rfl
 rcases hs with ⟨rfl,oa,cap,rfl⟩|⟨hne,b,o,cap,rfl,⟨hl1,iD⟩,hat⟩
 ·have c0:=jH.cv 0 (I oa 0 cap)
  clear hBc aO hcw jH
  go_enter func119,ntmps119
  go_upto_region 1 with fail
  change Code.wp _ _ _ _ (w.alloc Z4)
  generalize w.alloc Z4=w0 at *
  go_wp2_with fail
  exact ⟨rfl,rfl,Hg.out⟩
 ·cases l with
  | nil=>exact absurd rfl hne
  | cons x r =>
  obtain ⟨hx,hr⟩:=(show V.atD (fun j=>j<B) w x b o∧V.atsD (fun j=>j<B) w r b (o+4) from hat)
  obtain ⟨lx,hd0,kJ,nE,hd3,mJ,hi1,hi2,hi3,hsx⟩:∃ lx,w.cell? ⟨b,o,J⟩=Q (Z X x.kind)∧w.cell? ⟨b,o+1,J⟩=Q (Z X x.n)∧w.cell? ⟨b,o+2,J⟩=Q (R x.s)∧w.cell? ⟨b,o+3,J⟩=Q lx∧b<B∧I64 x.kind∧I64 x.n∧x.s.size≤maxLen∧y5j (fun j=>j<B) w x.l lx:=by
   obtain ⟨k',n',s',l'⟩:=x
   obtain ⟨h0,h1,h2,h3,h4,h5,h6,lx,h7,h8⟩:=hx
   exact ⟨lx,h4,h5,h6,h7,h0,h1,h2,h3,h8⟩
  obtain ⟨ox,cx,rfl⟩:=z1k hsx
  have hbw:b<w.heap.size:=by omega
  have Hx:O (∀ W:Y,(∀ j,j<B→W.heap[j]? = w.heap[j]?)→x2f (fun j=>j<B) W x (C #[Z X x.kind,Z X x.n,R x.s,I ox x.l.length cx])):=fun W hW=>⟨hi1,hi2,hi3,_,rfl,y5j.keep hsx (fun _ h=>h) (fun j hj=>hW j hj)⟩
  have Hr:O (∀ W:Y,(∀ j,j<B→W.heap[j]? = w.heap[j]?)→y5j (fun j=>j<B) W r (I (if cap=1 then Q ⟨b,o,J⟩ else Q ⟨b,o+4,J⟩) r.length (cap - 1))):=fun W hW=>by
   by_cases hrn:r=[]
   ·subst hrn;exact .inl ⟨rfl,_,_,rfl⟩
   ·have hcap:¬ cap=1:=by
     have:r.length≠0:=fun e=>hrn (List.length_eq_zero_iff.1 e)
     simp at iD;omega
    rw [if_neg hcap]
    simp at hl1 iD
    exact .inr ⟨hrn,b,o+4,cap - 1,rfl,⟨by omega,by omega⟩,V.atsD_keep (fun _ h=>h) (fun j hj=>hW j hj) r b (o+4) hr⟩
  have hs0:∀ p:Nat,(w.alloc Z4).cell? ⟨b,p,J⟩=w.cell? ⟨b,p,J⟩:=fun p=>World.cell?_of_block (w:=w) (Below.heap_alloc w Z4 b hbw)
  have d0:=(hs0 _).trans hd0
  obtain ⟨nn,hnn⟩:∃ nn,r.length+1=nn:=⟨_,rfl⟩
  have Hnn:=hd_ hnn
  have c0:(w.alloc Z4).cell? ⟨c,0,J⟩=Q (I (Q ⟨b,o,J⟩) nn cap):=by rw [← hnn];exact jH.cell 0
  have l1:(nn:Int)≤9223372036854775807:=by simp at hl1;unfold maxLen at hl1;omega
  have z0:((nn:Int) == 0)=G:=beq_false_of_ne (by omega)
  have z0':(nn == 0)=G:=beq_false_of_ne (by omega)
  have z1:F ((nn:Int)=0)=G:=decide_eq_false (by omega)
  have z1':F (nn=0)=G:=decide_eq_false (by omega)
  have z3:¬ nn=0:=by omega
  have z4:0<nn:=by omega
  have z2:(0:Int)<(nn:Int):=by omega
  have HC':O (CB (w.alloc Z4) c 144 [I (Q ⟨b,o,J⟩) nn cap]):=hd_ (by rw [← hnn];exact jH)
  clear HC hnn
  have hBcap:O (r.length+1≤cap):=hd_ (by simpa using iD)
  have HD:O ((w.alloc Z4).rangeAt b o (v4 x (I ox x.l.length cx))):=fun j u hu=>by
   match j,hu with
   | 0,hu=>simp at hu;subst hu;rw [Nat.add_zero];exact d0
   | 1,hu=>simp at hu;subst hu;exact (hs0 _).trans kJ
   | 2,hu=>simp at hu;subst hu;exact (hs0 _).trans nE
   | 3,hu=>simp at hu;subst hu;exact (hs0 _).trans hd3
  by_cases hk:x.kind=k
  case neg =>
   have u1:F (x.kind=k)=G:=decide_eq_false hk
   have u2:(x.kind == k)=G:=beq_false_of_ne hk
   have Hk:=hd_ hk
   clear hk hd0 kJ nE hd3 hat hx hr hs0 aO jH hl1 iD hne
   go_enter func119,ntmps119
   go_upto_region 1 with fail
   change Code.wp _ _ _ _ (w.alloc Z4)
   generalize w.alloc Z4=w0 at *
   go_wp2_with fail
   have hn:nxt k (x::r)=J:=by show (if x.kind=k then Q (x,r) else J)=J;rw [if_neg Hk.out]
   exact ⟨rfl,by unfold k2m;rw [hn];exact ⟨rfl,Hg.out⟩⟩
  case pos =>
   have u1:F (x.kind=k)=E:=decide_eq_true hk
   have u2:(x.kind == k)=E:=by rw [hk];exact beq_self_eq_true k
   have Hk:=hd_ hk
   have hcapP:1≤cap:=by simp at iD;omega
   clear hd0 kJ nE hd3 hat hx hr hs0 aO jH hl1 iD hne
   go_enter func119,ntmps119
   go_upto_region 1 with fail
   change Code.wp _ _ _ _ (w.alloc Z4)
   have HZ:O ((w.alloc Z4).heap.size=w.heap.size+1):=World.size_alloc _ _
   have HW0:O (∀ j,j<w.heap.size→(w.alloc Z4).heap[j]? = w.heap[j]?):=fun j hj=>Below.heap_alloc w Z4 j hj
   generalize w.alloc Z4=w0 at *
   go_upto_region 3 with fail
   have H5z:O (CB (w0.alloc Z4) w0.heap.size 80 Z4c):=z3a w0 Z4 _ _ rfl
   have HDo:=hd_ (z0y x.kind x.n x.s (I ox x.l.length cx) rfl)
   clear d0 u1 u2 z0 z1 z0' z1' hk
   go_upto_region 4 with (first
    | (have _g:=HD.out;refine lmg 80 (.tmp 28) rfl b o rfl (v4 x (I ox x.l.length cx)) HD.out underlying80 ?_;clear HD)
    | (have _g:=HDo.out;refine scs 80 (.tmp 5) (.tmp 29) rfl w0.heap.size (v4 x (I ox x.l.length cx)) rfl rfl H5z.out HDo.out (fun w3 H5 ex dM=>?_);clear _g))
   have iZ:=hd_ ((HC'.out.alloc Z4).keep (ex.out.block _ (HC'.out.alloc Z4).lt (fun e=>by injection e with e;have:=HZ.out;have:=jC.out;omega)))
   have kC:=hd_ ((H4.out.alloc Z4).keep (ex.out.block _ (H4.out.alloc Z4).lt (fun e=>by injection e with e;have:=HZ.out;omega)))
   have mV:=hd_ (z2a (z2a Hg.out (World.grownBy_alloc w0 Z4 (Q c)) (.inl rfl)) ex.out (.inr fun q e=>by injection e with e;have:=HZ.out;omega))
   have HW3':O (∀ j,j<w.heap.size→w3.heap[j]? = w.heap[j]?):=fun j hj=>(ex.out.block j (by rw [World.size_alloc];have:=HZ.out;omega) (fun e=>by injection e with e;have:=HZ.out;omega)).trans ((Below.heap_alloc w0 Z4 j (by have:=HZ.out;omega)).trans (HW0.out j hj))
   clear ex dM H5z H4 HC' Hg c0
   have c1:=iZ.out.cv 0 (I (Q ⟨b,o,J⟩) nn cap)
   have cf:w3.frozen? ⟨c,0,J⟩=G:=iZ.out.frozen 0
   by_cases hcap:cap=1
   ·subst hcap
    go_upto_region 5 with fail
    have H54:=hd_ (H5.out.far (p:=⟨c,0,J⟩) (by show w0.heap.size≠c;have:=HZ.out;have:=jC.out;omega) (I (Q ⟨b,o,J⟩) (nn - 1) 0))
    have H44:=hd_ (kC.out.far (p:=⟨c,0,J⟩) (by show w.heap.size≠c;have:=jC.out;omega) (I (Q ⟨b,o,J⟩) (nn - 1) 0))
    have dX:O (CB (w3.setCell ⟨c,0,J⟩ (I (Q ⟨b,o,J⟩) (nn - 1) 0)) c 144 [I (Q ⟨b,o,J⟩) (nn - 1) 0]):=iZ.out.set 0 _
    have Hg4:=hd_ (z2a mV.out (z6b w3 c 0 (I (Q ⟨b,o,J⟩) (nn - 1) 0)) (.inl rfl))
    have jP:O (∀ j,j<B→(w3.setCell ⟨c,0,J⟩ (I (Q ⟨b,o,J⟩) (nn - 1) 0)).heap[j]? = w.heap[j]?):=fun j hj=>(Below.heap_setCell w3 ⟨c,0,J⟩ _ j (by show j≠c;have:=HB.out;omega)).trans (HW3'.out j (by have:=HB.out;have:=jC.out;omega))
    have hv:(I (Q ⟨b,o,J⟩) (nn - 1) 0:D)=I (if 1=1 then Q ⟨b,o,J⟩ else Q ⟨b,o+4,J⟩) r.length 0:=by rw [if_pos rfl,show nn - 1=r.length from by have:=Hnn.out;omega]
    have Hv:=hd_ hv
    clear H5 kC iZ mV HW3' c1 cf hv
    generalize w3.setCell ⟨c,0,J⟩ (I (Q ⟨b,o,J⟩) (nn - 1) 0)=w4 at *
    have mj:=hd_ (z0y x.kind x.n x.s (I ox x.l.length cx) rfl)
    go_wp2_with (first
     | (have _g:=H54.out;refine lcs 80 (.tmp 5) rfl w0.heap.size (v4 x (I ox x.l.length cx)) rfl H54.out underlying80 ?_;clear _g)
     | (have _g:=mj.out;refine scs 80 (.tmp 4) (.tmp 38) rfl w.heap.size (v4 x (I ox x.l.length cx)) rfl rfl H44.out mj.out (fun w6 cD dw iz=>?_);clear _g))
    refine bodyPost_ret (v:=C ((v4 x (I ox x.l.length cx)):List D).toArray) (results_cell_row rfl _ _ w.heap.size 80 _ (0,0) _ rfl cD.out underlying80 rfl (by kernel_rfl)) rfl ?_
    have hn:nxt k (x::r)=Q (x,r):=by show (if x.kind=k then Q (x,r) else J)=Q (x,r);rw [if_pos Hk.out]
    have hW6:∀ j,j<B→w6.heap[j]? = w.heap[j]?:=fun j hj=>(dw.out.block j (by have:=Hg4.out.size;have:=HB.out;have:=jC.out;omega) (fun e=>by injection e with e;have:=HB.out;have:=jC.out;omega)).trans (jP.out j hj)
    unfold k2m
    rw [hn]
    exact ⟨_,rfl,Hx.out w6 hW6,⟨HB.out,_,dX.out.keep (dw.out.block _ dX.out.lt (fun e=>by injection e with e;have:=jC.out;omega)),by rw [Hv.out];exact Hr.out w6 hW6⟩,z2a Hg4.out dw.out (.inr fun q e=>by injection e with e;omega)⟩
   ·go_upto_region 5 with fail
    have H54:=hd_ (H5.out.far (p:=⟨c,0,J⟩) (by show w0.heap.size≠c;have:=HZ.out;have:=jC.out;omega) (I (Q ⟨b,o+4,J⟩) (nn - 1) (cap - 1)))
    have H44:=hd_ (kC.out.far (p:=⟨c,0,J⟩) (by show w.heap.size≠c;have:=jC.out;omega) (I (Q ⟨b,o+4,J⟩) (nn - 1) (cap - 1)))
    have dX:O (CB (w3.setCell ⟨c,0,J⟩ (I (Q ⟨b,o+4,J⟩) (nn - 1) (cap - 1))) c 144 [I (Q ⟨b,o+4,J⟩) (nn - 1) (cap - 1)]):=iZ.out.set 0 _
    have Hg4:=hd_ (z2a mV.out (z6b w3 c 0 (I (Q ⟨b,o+4,J⟩) (nn - 1) (cap - 1))) (.inl rfl))
    have jP:O (∀ j,j<B→(w3.setCell ⟨c,0,J⟩ (I (Q ⟨b,o+4,J⟩) (nn - 1) (cap - 1))).heap[j]? = w.heap[j]?):=fun j hj=>(Below.heap_setCell w3 ⟨c,0,J⟩ _ j (by show j≠c;have:=HB.out;omega)).trans (HW3'.out j (by have:=HB.out;have:=jC.out;omega))
    have hv:(I (Q ⟨b,o+4,J⟩) (nn - 1) (cap - 1):D)=I (if cap=1 then Q ⟨b,o,J⟩ else Q ⟨b,o+4,J⟩) r.length (cap - 1):=by rw [if_neg hcap,show nn - 1=r.length from by have:=Hnn.out;omega]
    have Hv:=hd_ hv
    clear H5 kC iZ mV HW3' c1 cf hv
    generalize w3.setCell ⟨c,0,J⟩ (I (Q ⟨b,o+4,J⟩) (nn - 1) (cap - 1))=w4 at *
    have mj:=hd_ (z0y x.kind x.n x.s (I ox x.l.length cx) rfl)
    go_wp2_with (first
     | (have _g:=H54.out;refine lcs 80 (.tmp 5) rfl w0.heap.size (v4 x (I ox x.l.length cx)) rfl H54.out underlying80 ?_;clear _g)
     | (have _g:=mj.out;refine scs 80 (.tmp 4) (.tmp 38) rfl w.heap.size (v4 x (I ox x.l.length cx)) rfl rfl H44.out mj.out (fun w6 cD dw iz=>?_);clear _g))
    refine bodyPost_ret (v:=C ((v4 x (I ox x.l.length cx)):List D).toArray) (results_cell_row rfl _ _ w.heap.size 80 _ (0,0) _ rfl cD.out underlying80 rfl (by kernel_rfl)) rfl ?_
    have hn:nxt k (x::r)=Q (x,r):=by show (if x.kind=k then Q (x,r) else J)=Q (x,r);rw [if_pos Hk.out]
    have hW6:∀ j,j<B→w6.heap[j]? = w.heap[j]?:=fun j hj=>(dw.out.block j (by have:=Hg4.out.size;have:=HB.out;have:=jC.out;omega) (fun e=>by injection e with e;have:=HB.out;have:=jC.out;omega)).trans (jP.out j hj)
    unfold k2m
    rw [hn]
    exact ⟨_,rfl,Hx.out w6 hW6,⟨HB.out,_,dX.out.keep (dw.out.block _ dX.out.lt (fun e=>by injection e with e;have:=jC.out;omega)),by rw [Hv.out];exact Hr.out w6 hW6⟩,z2a Hg4.out dw.out (.inr fun q e=>by injection e with e;omega)⟩
def RdP {α:Type} (B c:Nat) (w:Y) (o:Option (α × List V)) (f:α→D) (e:Ending) (w':Y):Prop :=
 match o with
 | some (a,r)=>e=.returned (f a)∧z5h B w' c r∧w.grownBy w' (Q c)
 | none=>e=.panicked y3j∧w.grownBy w' (Q c)
theorem j9s {k:Int} {l:List V} {x:V} {r:List V} (h:nxt k l=Q (x,r)):x.kind=k:=by
 cases l with
 | nil=>cases h
 | cons y s =>
  have h:(if y.kind=k then Q (y,s) else J)=Q (x,r):=h
  by_cases hk:y.kind=k
  ·rw [if_pos hk] at h;injection h with h;injection h with h1 h2;rw [← h1];exact hk
  ·rw [if_neg hk] at h;cases h
theorem y4h {B c:Nat} {k:Int} {l:List V} {x:V} {r:List V} {w:Y} (hc:z5h B w c l) (h:nxt k l=Q (x,r)):L prog 119 #[T (Q ⟨c,0,J⟩),Z X k] w fun e w'=>∃ oa cap,e=.returned (C #[Z X x.kind,Z X x.n,R x.s,I oa x.l.length cap])∧x2f (fun j=>j<B) w' x (C #[Z X x.kind,Z X x.n,R x.s,I oa x.l.length cap])∧z5h B w' c r∧w.grownBy w' (Q c):=by
 refine (x1q B c k l w hc).mono ?_
 unfold k2m
 rw [h]
 rintro e w' ⟨v,rfl,hv,h1,h2⟩
 obtain ⟨a1,a2,a3,lv,rfl,hs⟩:=hv
 obtain ⟨oa,cap,rfl⟩:=z1k hs
 exact ⟨oa,cap,rfl,⟨a1,a2,a3,_,rfl,hs⟩,h1,h2⟩
theorem y5h {B c:Nat} {k:Int} {l:List V} {w:Y} (hc:z5h B w c l) (h:nxt k l=J):L prog 119 #[T (Q ⟨c,0,J⟩),Z X k] w fun e w'=>e=.panicked y3j∧w.grownBy w' (Q c):=by
 refine (x1q B c k l w hc).mono ?_
 unfold k2m
 rw [h]
 exact fun e w' h=>h
theorem z5n (B c:Nat) (l:List V) (w:Y) (hc:z5h B w c l):L prog 59 #[T (Q ⟨c,0,J⟩)] w (RdP B c w (z7g l) (fun n=>Z X n)):=by
 have HC:=hd_ hc
 clear hc
 cases hN:nxt 1 l with
 | none =>
  have hs:z7g l=J:=by unfold z7g;rw [hN];rfl
  rw [hs]
  have HN:=hd_ hN
  clear hN hs
  go_enter func59,ntmps59
  go_wp2_with (go_at_call 119;refine (y5h HC.out HN.out).mono ?_;(rintro e w3 ⟨rfl,hg⟩))
  exact ⟨rfl,rfl,hg⟩
 | some p =>
  obtain ⟨x,r⟩:=p
  have hs:z7g l=Q (x.n,r):=by unfold z7g;rw [hN];rfl
  rw [hs]
  have HN:=hd_ hN
  clear hN hs
  go_enter func59,ntmps59
  have hf:∀ (a b:Int) (t:ByteArray) (u:D) (W:Y),(Instr.field 80 (C #[Z X a,Z X b,R t,u]) 1).run prog W=.ok (Z X b) W:=fun a b t u W=>by kernel_rfl
  go_wp2_with (go_at_call 119;refine (y4h HC.out HN.out).mono ?_;(rintro e w3 ⟨oa,cap,rfl,hv,h1,hg⟩;have H1:=hd_ h1;have Hg:=hd_ hg;clear hv h1 hg))
  go_ret
  exact ⟨rfl,H1.out,Hg.out⟩
theorem x4w (B c:Nat) (l:List V) (w:Y) (hc:z5h B w c l):L prog 60 #[T (Q ⟨c,0,J⟩)] w (RdP B c w (x5v l) (fun s=>R s)):=by
 have HC:=hd_ hc
 clear hc
 cases hN:nxt 2 l with
 | none =>
  have hs:x5v l=J:=by unfold x5v;rw [hN];rfl
  rw [hs]
  have HN:=hd_ hN
  clear hN hs
  go_enter func60,ntmps60
  go_wp2_with (go_at_call 119;refine (y5h HC.out HN.out).mono ?_;(rintro e w3 ⟨rfl,hg⟩))
  exact ⟨rfl,rfl,hg⟩
 | some p =>
  obtain ⟨x,r⟩:=p
  have hs:x5v l=Q (x.s,r):=by unfold x5v;rw [hN];rfl
  rw [hs]
  have HN:=hd_ hN
  clear hN hs
  go_enter func60,ntmps60
  have hf:∀ (a b:Int) (t:ByteArray) (u:D) (W:Y),(Instr.field 80 (C #[Z X a,Z X b,R t,u]) 2).run prog W=.ok (R t) W:=fun a b t u W=>by kernel_rfl
  go_wp2_with (go_at_call 119;refine (y4h HC.out HN.out).mono ?_;(rintro e w3 ⟨oa,cap,rfl,hv,h1,hg⟩;have H1:=hd_ h1;have Hg:=hd_ hg;clear hv h1 hg))
  go_ret
  exact ⟨rfl,H1.out,Hg.out⟩
theorem x5w (B c:Nat) (l:List V) (w:Y) (hc:z5h B w c l):L prog 63 #[T (Q ⟨c,0,J⟩)] w (RdP B c w (y4r l) (fun b=>H b)):=by
 have HN:=hd_ (z5n B c l w hc)
 clear hc
 cases hN:z7g l with
 | none =>
  have hs:y4r l=J:=by unfold y4r;rw [hN];rfl
  rw [hs]
  rw [hN] at HN
  clear hN hs
  go_enter func63,ntmps63
  go_wp2_with (go_at_call 59;refine HN.out.mono ?_;(rintro e w3 ⟨rfl,hg⟩))
  exact ⟨rfl,rfl,hg⟩
 | some p =>
  obtain ⟨n,r⟩:=p
  have hs:y4r l=Q (F (n=1),r):=by unfold y4r;rw [hN];rfl
  rw [hs]
  rw [hN] at HN
  clear hN hs
  by_cases h1:n=1
  ·subst h1
   go_enter func63,ntmps63
   go_wp2_with (go_at_call 59;refine HN.out.mono ?_;(rintro e w3 ⟨rfl,h1,hg⟩;have H1:=hd_ h1;have Hg:=hd_ hg;clear h1 hg))
   go_ret
   exact ⟨rfl,H1.out,Hg.out⟩
  ·have u1:F (n=1)=G:=decide_eq_false h1
   have u2:(n == 1)=G:=beq_false_of_ne h1
   rw [u1]
   go_enter func63,ntmps63
   go_wp2_with (go_at_call 59;refine HN.out.mono ?_;(rintro e w3 ⟨rfl,h1,hg⟩;have H1:=hd_ h1;have Hg:=hd_ hg;clear h1 hg))
   go_ret
   exact ⟨by first|rfl|simp [u2],H1.out,Hg.out⟩
def v9f (B c:Nat) (w:Y) (o:Option (List V × List V)) (e:Ending) (w':Y):Prop :=
 match o with
 | some (l,r)=>∃ g,e=.returned (T (Q ⟨g,0,J⟩))∧w.heap.size≤g∧z5h B w' g l∧z5h B w' c r∧w.grownBy w' (Q c)
 | none=>e=.panicked y3j∧w.grownBy w' (Q c)
theorem y2n (B c:Nat) (l:List V) (w:Y) (hc:z5h B w c l) (hB:B≤w.heap.size):L prog 58 #[T (Q ⟨c,0,J⟩)] w (v9f B c w (z6l l)):=by
 have HC:=hd_ hc;have HB:=hd_ hB
 clear hc hB
 cases hN:nxt 3 l with
 | none =>
  have hs:z6l l=J:=by unfold z6l;rw [hN];rfl
  rw [hs]
  have HN:=hd_ hN
  clear hN hs
  go_enter func58,ntmps58
  go_wp2_with (go_at_call 119;refine (y5h HC.out HN.out).mono ?_;(rintro e w3 ⟨rfl,hg⟩))
  exact ⟨rfl,rfl,hg⟩
 | some p =>
  obtain ⟨x,r⟩:=p
  have hs:z6l l=Q (x.l,r):=by unfold z6l;rw [hN];rfl
  rw [hs]
  have HN:=hd_ hN;have HK:=hd_ (j9s hN)
  clear hN hs
  go_enter func58,ntmps58
  go_wp2_with (first
   | (go_at_call 119;refine (y4h HC.out HN.out).mono ?_;(rintro e w3 ⟨oa,cap,rfl,hv,h1,hg⟩;have H1:=hd_ h1;have Hg:=hd_ hg;have Hv:=hd_ hv;clear hv h1 hg))
   | (go_at_call 57;refine (x0q B x _ _ Hv.out (lT HB.out Hg.out.size)).mono ?_;(intro e w4 ho;unfold j6z at ho;rw [if_pos HK.out] at ho;obtain ⟨g,rfl,aK,al,bj⟩:=ho;have nz:=hd_ (lT Hg.out.size aK);have ml:=hd_ al;have fC:=hd_ bj;clear aK al bj)))
  go_ret
  exact ⟨g,rfl,nz.out,ml.out,H1.out.keep (z9a fC.out) (lT HB.out Hg.out.size) (fun q e=>by cases e),z2a Hg.out (z9a fC.out) (.inr fun q e=>by cases e)⟩
end Go.Proofs.YtdblnbnofjggnaaGreatDoor
