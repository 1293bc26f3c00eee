/- Parts of the proofs of chapter 49's laws: Jrn. -/
import Derived.Test.YtdblnbnofjggnaaGreatDoorM40
import Derived.Test.YtdblnbnofjggnaaGreatDoorM41
set_option maxHeartbeats 16000000
set_option maxRecDepth 100000
open Go
open Lib renaming hid → hd_
open List renaming not_mem_nil → nM
open List renaming setIfInBounds_toArray → aS
open List renaming set_cons_zero → aZ
open List renaming set_cons_succ → aU
namespace Go.Proofs.YtdblnbnofjggnaaGreatDoor
open Go.RowKit
def k3l (x:Inp) (w:World) (e:Ending) (w':World):Prop:=∃ lv,e = .returned lv∧z3j (fun _=>False) w.heap.size w' lv (z5e x)∧Below w.heap.size w w'
def k0t (g9:Nat) (c:Cut) (o2:Option Addr) (c2:Nat) (ms:List V):List GK :=
 [(.eq ((.slice o2 ms.length c2))),(.eq (.pointer (some ⟨g9,0,none⟩))),(.eq (.bool c.ap)),(.eq (.agg #[.int .i64 1,.int .i64 (if c.ap then 1 else 0),.string ⟨#[]⟩,.slice none 0 0])),(.eq (.pointer (some ⟨g9,1,none⟩))),(.eq (.int .i64 c.ix)),(.eq (.agg #[.int .i64 1,.int .i64 c.ix,.string ⟨#[]⟩,.slice none 0 0])),(.eq (.pointer (some ⟨g9,2,none⟩))),(.eq (.pointer (some ⟨g9,2,none⟩))),(.eq (.int .i64 c.mf)),(.eq (.pointer (some ⟨g9,2,none⟩))),(.eq (.pointer (some ⟨g9,3,none⟩))),(.eq (.int .i64 c.mt)),(.ints [c.mf,c.mt]),(.val (lV [iV c.mf,iV c.mt])),(.eq (.pointer (some ⟨g9,4,none⟩))),(.eq (.int .i64 c.less)),(.eq (.agg #[.int .i64 1,.int .i64 c.less,.string ⟨#[]⟩,.slice none 0 0])),(.owns [bV c.ap,iV c.ix,spV c.mf c.mt,iV c.less]),(.val (lV [bV c.ap,iV c.ix,spV c.mf c.mt,iV c.less])),(.one (lV [bV c.ap,iV c.ix,spV c.mf c.mt,iV c.less]))]
def k1t (g6:Nat) (rp rf:Int) (ol:Option Addr) (cl:Nat) (xs:List V) (o2:Option Addr) (c2:Nat) (ms:List V):List GK :=
 [(.eq ((.slice ol xs.length cl))),(.eq (.pointer (some ⟨g6,0,none⟩))),(.eq (.int .i64 rp)),(.eq (.agg #[.int .i64 1,.int .i64 rp,.string ⟨#[]⟩,.slice none 0 0])),(.eq (.pointer (some ⟨g6,1,none⟩))),(.eq (.int .i64 rf)),(.eq (.agg #[.int .i64 1,.int .i64 rf,.string ⟨#[]⟩,.slice none 0 0])),(.eq ((.slice o2 ms.length c2))),(.val (lV ms)),(.owns [iV rp,iV rf,lV ms]),(.val (lV [iV rp,iV rf,lV ms])),(.one (lV [iV rp,iV rf,lV ms]))]
def k2t (x:Inp) (B g3 g10:Nat) (ol:Option Addr) (cl:Nat) (xs:List V) (ow om ov:Option Addr) (cw cm cv:Nat):List GK :=
 [(.eq (.pointer (some ⟨B,0,none⟩))),(.eq (.pointer (some ⟨B,0,none⟩))),(.eq (.int .i64 x.mi)),(.eq (.pointer (some ⟨B,0,none⟩))),(.eq (.pointer (some ⟨B,1,none⟩))),(.eq (.int .i64 x.ce)),(.eq (.pointer (some ⟨B,0,none⟩))),(.eq (.pointer (some ⟨B,2,none⟩))),(.eq (.int .i64 x.no)),(.ints [x.mi,x.ce,x.no]),(.val (lV [iV x.mi,iV x.ce,iV x.no])),(.eq (.pointer (some ⟨B,3,none⟩))),(.eq (.int .i64 x.kind)),(.eq (.agg #[.int .i64 1,.int .i64 x.kind,.string ⟨#[]⟩,.slice none 0 0])),(.eq (.pointer (some ⟨B,4,none⟩))),(.eq (.string x.text)),(.eq (.agg #[.int .i64 2,.int .i64 0,.string x.text,.slice none 0 0])),(.eq (.pointer (some ⟨g3,0,none⟩))),(.eq (.int .i64 x.flt.id)),(.eq (.agg #[.int .i64 1,.int .i64 x.flt.id,.string ⟨#[]⟩,.slice none 0 0])),(.eq (.pointer (some ⟨g3,1,none⟩))),(.eq (.int .i64 x.flt.air)),(.eq (.agg #[.int .i64 1,.int .i64 x.flt.air,.string ⟨#[]⟩,.slice none 0 0])),(.eq (.pointer (some ⟨g3,2,none⟩))),(.eq (.int .i64 x.flt.cls)),(.eq (.agg #[.int .i64 1,.int .i64 x.flt.cls,.string ⟨#[]⟩,.slice none 0 0])),(.eq (.pointer (some ⟨g3,3,none⟩))),(.eq (.string x.flt.call)),(.eq (.agg #[.int .i64 2,.int .i64 0,.string x.flt.call,.slice none 0 0])),(.eq (.pointer (some ⟨g3,4,none⟩))),(.eq ((.slice ow x.flt.ways.length cw))),(.val (nsV x.flt.ways)),(.eq (.pointer (some ⟨g3,5,none⟩))),(.eq (.pointer (some ⟨g3,5,none⟩))),(.eq (.int .i64 x.flt.wf)),(.eq (.pointer (some ⟨g3,5,none⟩))),(.eq (.pointer (some ⟨g3,6,none⟩))),(.eq (.int .i64 x.flt.wt)),(.ints [x.flt.wf,x.flt.wt]),(.val (lV [iV x.flt.wf,iV x.flt.wt])),(.eq (.pointer (some ⟨g3,7,none⟩))),(.eq (.bool x.flt.can)),(.eq (.agg #[.int .i64 1,.int .i64 (if x.flt.can then 1 else 0),.string ⟨#[]⟩,.slice none 0 0])),(.owns (z7z x.flt)),(.val (lV (z7z x.flt))),(.eq ((.slice ol xs.length cl))),(.val (lV (x.tree.map z8j))),(.eq (.pointer (some ⟨B,14,none⟩))),(.eq (.pointer (some ⟨B,14,none⟩))),(.eq (.int .i64 x.chg.frm)),(.eq (.agg #[.int .i64 1,.int .i64 x.chg.frm,.string ⟨#[]⟩,.slice none 0 0])),(.eq (.pointer (some ⟨B,14,none⟩))),(.eq (.pointer (some ⟨B,15,none⟩))),(.eq (.int .i64 x.chg.cfg)),(.eq (.agg #[.int .i64 1,.int .i64 x.chg.cfg,.string ⟨#[]⟩,.slice none 0 0])),(.eq (.pointer (some ⟨B,14,none⟩))),(.eq (.pointer (some ⟨B,16,none⟩))),(.eq ((.slice om x.chg.modes.length cm))),(.val (nsV x.chg.modes)),(.owns [iV x.chg.frm,iV x.chg.cfg,nsV x.chg.modes]),(.val (lV [iV x.chg.frm,iV x.chg.cfg,nsV x.chg.modes])),(.eq (.pointer (some ⟨g10,0,none⟩))),(.eq (.int .i64 x.rep.st)),(.eq (.agg #[.int .i64 1,.int .i64 x.rep.st,.string ⟨#[]⟩,.slice none 0 0])),(.eq (.pointer (some ⟨g10,1,none⟩))),(.eq (.int .i64 x.rep.no)),(.eq (.agg #[.int .i64 1,.int .i64 x.rep.no,.string ⟨#[]⟩,.slice none 0 0])),(.eq (.pointer (some ⟨g10,2,none⟩))),(.eq (.int .i64 x.rep.mi)),(.eq (.agg #[.int .i64 1,.int .i64 x.rep.mi,.string ⟨#[]⟩,.slice none 0 0])),(.eq (.pointer (some ⟨g10,3,none⟩))),(.eq (.int .i64 x.rep.ar)),(.eq (.agg #[.int .i64 1,.int .i64 x.rep.ar,.string ⟨#[]⟩,.slice none 0 0])),(.eq (.pointer (some ⟨g10,4,none⟩))),(.eq (.string x.rep.cl)),(.eq (.agg #[.int .i64 2,.int .i64 0,.string x.rep.cl,.slice none 0 0])),(.eq (.pointer (some ⟨g10,5,none⟩))),(.eq (.int .i64 x.rep.vo)),(.eq (.agg #[.int .i64 1,.int .i64 x.rep.vo,.string ⟨#[]⟩,.slice none 0 0])),(.owns (z9j x.rep)),(.val (lV (z9j x.rep))),(.eq (.pointer (some ⟨B,23,none⟩))),(.eq (.pointer (some ⟨B,23,none⟩))),(.eq (.int .i64 x.sts.st)),(.eq (.agg #[.int .i64 1,.int .i64 x.sts.st,.string ⟨#[]⟩,.slice none 0 0])),(.eq (.pointer (some ⟨B,23,none⟩))),(.eq (.pointer (some ⟨B,24,none⟩))),(.eq (.int .i64 x.sts.frm)),(.eq (.agg #[.int .i64 1,.int .i64 x.sts.frm,.string ⟨#[]⟩,.slice none 0 0])),(.eq (.pointer (some ⟨B,23,none⟩))),(.eq (.pointer (some ⟨B,25,none⟩))),(.eq (.bool x.sts.wk)),(.eq (.agg #[.int .i64 1,.int .i64 (if x.sts.wk then 1 else 0),.string ⟨#[]⟩,.slice none 0 0])),(.owns [iV x.sts.st,iV x.sts.frm,bV x.sts.wk]),(.val (lV [iV x.sts.st,iV x.sts.frm,bV x.sts.wk])),(.eq (.pointer (some ⟨B,26,none⟩))),(.eq (.int .i64 x.n)),(.eq (.agg #[.int .i64 1,.int .i64 x.n,.string ⟨#[]⟩,.slice none 0 0])),(.eq (.pointer (some ⟨B,27,none⟩))),(.eq (.pointer (some ⟨B,27,none⟩))),(.eq ((.slice ov x.stn.vols.length cv))),(.val (nsV x.stn.vols)),(.eq (.pointer (some ⟨B,27,none⟩))),(.eq (.pointer (some ⟨B,28,none⟩))),(.eq (.int .i64 x.stn.sh)),(.eq (.agg #[.int .i64 1,.int .i64 x.stn.sh,.string ⟨#[]⟩,.slice none 0 0])),(.eq (.pointer (some ⟨B,27,none⟩))),(.eq (.pointer (some ⟨B,29,none⟩))),(.eq (.int .i64 x.stn.fa)),(.eq (.agg #[.int .i64 1,.int .i64 x.stn.fa,.string ⟨#[]⟩,.slice none 0 0])),(.owns [nsV x.stn.vols,iV x.stn.sh,iV x.stn.fa]),(.val (lV [nsV x.stn.vols,iV x.stn.sh,iV x.stn.fa])),(.owns (z5e x))]
def k4l (x:Inp) (_w W1:World) (v4 v5:Value) (wr:World):Prop :=
 ∃ (xs:List V),xs = (x.tree.take xs.length).map z8j∧xs.length ≤ x.tree.length∧v5 = .int .i64 (xs.length:Int)∧z3j (fun _=>False) W1.heap.size wr v4 xs∧Below W1.heap.size W1 wr
theorem x1t {x:Inp} {w W1 w9:World} {xs:List V} {t:Nod} {oa:Option Addr} {cp:Nat} (hc:x.tree[xs.length]? = some t) (hx:xs = (x.tree.take xs.length).map z8j) (hO:z3j (fun _=>False) W1.heap.size w9 (.slice oa (xs.length + 1) cp) (xs ++ [z8j t])) (hb:Below W1.heap.size W1 w9) :
 k4l x w W1 (.slice oa (xs.length + 1) cp) (.int .i64 ((xs.length:Int) + 1)) w9:=by
 have hl:(xs ++ [z8j t]).length = xs.length + 1:=by simp
 have hlt:=(List.getElem?_eq_some_iff.1 hc).1
 exact ⟨xs ++ [z8j t],x8g hc hx,by omega,by rw [hl];simp,hO,hb⟩
def k5l (t:Nod) (wo:World) (cs:List Value) (v7 v8:Value) (wr:World):Prop :=
 ∃ (xs:List V),xs = (t.cuts.take xs.length).map z2s∧xs.length ≤ t.cuts.length∧v8 = .int .i64 (xs.length:Int)∧z3j (fun _=>False) (wo.heap.size + 1) wr v7 xs∧CB wr wo.heap.size 48 cs∧Below wo.heap.size wo wr
theorem x2t {t:Nod} {wo w9:World} {cs:List Value} {xs:List V} {c:Cut} {oa:Option Addr} {cp:Nat} (hc:t.cuts[xs.length]? = some c) (hx:xs = (t.cuts.take xs.length).map z2s) (hO:z3j (fun _=>False) (wo.heap.size + 1) w9 (.slice oa (xs.length + 1) cp) (xs ++ [z2s c])) (h7:CB w9 wo.heap.size 48 cs) (hb:Below wo.heap.size wo w9) :
 k5l t wo cs (.slice oa (xs.length + 1) cp) (.int .i64 ((xs.length:Int) + 1)) w9:=by
 have hl:(xs ++ [z2s c]).length = xs.length + 1:=by simp
 have hlt:=(List.getElem?_eq_some_iff.1 hc).1
 exact ⟨xs ++ [z2s c],x8g hc hx,by omega,by rw [hl];simp,hO,h7,hb⟩
theorem y7o (x:Inp) (s:Slc) (w:World) (hx:InpR w x s) (hi:InpI x) (hl:InpL x):Calls Tryz.prog 53 #[x.v s] w (k3l x w):=by
 have hcx:CB (w.alloc (bI x s)) w.heap.size 41 (x.cells s):=z6a w (bI x s) _ _ rfl
 have HI:=hd_ hcx;have HB0:=hd_ (z5b (w:=w) (bI x s));have HXR:=hd_ hx;have Hi:=hd_ hi;have Hl:=hd_ hl
 have HFo:Hid (∀ u ∈ x.flt.cells s.ways,u.oneCell' = true):=y5n x.flt s.ways (by obtain ⟨oa,cap,e,_⟩:=hx.ways.shape;rw [e];rfl)
 clear hcx hx hi hl
 change Calls Tryz.prog 53 #[.agg (x.cells s).toArray] w _
 go_enter Tryz.func53,Tryz.ntmps53
 go_upto_region 1 with fail
 change Code.wp _ _ _ _ (w.alloc (bI x s))
 have HZ0:Hid (w.heap.size < (w.alloc (bI x s)).heap.size):=HI.out.lt
 generalize w.alloc (bI x s) = w0 at *
 have HRf:Hid (w0.rangeAt w.heap.size 5 (x.flt.cells s.ways)):=y4n HI.out
 have H3z:Hid (CB (w0.alloc (.cells ZFc.toArray 28)) w0.heap.size 28 ZFc):=z6a w0 _ _ _ rfl
 go_upto_region 2 with (first | (have _g:=HRf.out;refine z7a (by rfl) 28 (.tmp 11) rfl w.heap.size 5 rfl (x.flt.cells s.ways) _ HRf.out Tryz.underlying28 rfl (by kernel_rfl) ?_;clear HRf) | (have _g:=HFo.out;refine z4a rfl 28 (.tmp 3) (.tmp 12) rfl w0.heap.size (x.flt.cells s.ways) rfl rfl 28 ZFc H3z.out rfl (by kernel_rfl) HFo.out (fun w1 H3 HW1 HZ1=>?_);clear HFo))
 have hz1:Below w0.heap.size w0 w1:=(z5b (w:=w0) (.cells ZFc.toArray 28)).grown HW1.out (by simp) (fun q e=>by injection e with e;omega)
 replace HI:=hd_ (HI.out.ext hz1);have HB1:=hd_ (z0a HB0.out hz1)
 clear HW1 HZ1 H3z hz1 HB0 HZ0
 generalize w0.heap.size = g3 at *
 have hO0:=z9h (B:=w1.heap.size) (w:=w1) [] [] (Nat.le_refl _) trivial (by simp)
 have HO0:=hd_ hO0
 have HbZ:Hid (Below w1.heap.size w1 (w1.alloc (.cells (z7d [] []).toArray 80))):=z5b _
 clear hO0
 go_upto_region 3 with fail
 change Code.wp _ _ _ _ (w1.alloc (.cells (z7d [] []).toArray 80))
 generalize w1.alloc (.cells (z7d [] []).toArray 80) = w2 at *
 obtain ⟨ot,ct,htw,ltr⟩:=HXR.out.tree.shape
 have HTr:Hid (z6j w x.tree (.slice ot x.tree.length ct)):=hd_ (by rw [← htw];exact HXR.out.tree)
 have Htw:=hd_ htw
 have l1:(x.tree.length:Int) ≤ 9223372036854775807:=by omega
 clear htw
 go_wp2_with fail
 go_loopw [4,5] (fun v4 v5 wr=>k4l x w w1 v4 v5 wr) (fun _ v5 _=>x.tree.length - (intOf v5).toNat)
 case atStart=>exact ⟨[],rfl,by simp,rfl,HO0.out,HbZ.out⟩
 case round =>
  obtain ⟨xs,hxs,hle,rfl,hO,hb⟩:=hrel
  obtain ⟨ol,cl,rfl⟩:=hO.shape
  have Hxs:=hd_ hxs;have HO:=hd_ hO;have Hbr:=hd_ hb;have HBw:=hd_ (z0a HB1.out hb);have HIr:=hd_ (HI.out.ext hb)
  clear hO hb hxs HO0 HbZ
  have c13:wr.cell? ⟨w.heap.size,13,none⟩ = some (.slice ot x.tree.length ct):=by rw [← Htw.out];exact HIr.out.cell 13
  by_cases hlt:xs.length < x.tree.length
  case pos =>
   obtain ⟨t,ht⟩:∃ t,x.tree[xs.length]? = some t:=⟨_,List.getElem?_eq_getElem hlt⟩
   have tj:decide ((xs.length:Int) < (x.tree.length:Int)) = true:=decide_eq_true (by omega)
   have tj':decide (xs.length < x.tree.length) = true:=decide_eq_true hlt
   obtain ⟨ab,ao,nb,hon,hab,hel,hr⟩:=(HTr.out.ext HBw.out).el ht
   subst hon
   obtain ⟨rp,rf,ro,rn,rc⟩:=nb
   have Hpar:Hid (rp = t.par):=hr.par;have Hfrm:Hid (rf = t.frm):=hr.frm;have HCU:=hd_ hr.cuts
   obtain ⟨oc2,cc2,he2,lq⟩:=(show z9f cuK wr.heap.size wr t.cuts (.slice ro rn rc) from hr.cuts).shape
   injection he2 with q1 q2 q3
   have HRn:=hd_ q2
   have l2:(rn:Int) ≤ 9223372036854775807:=by omega
   have htm:=List.mem_of_getElem? ht
   have HNI:=hd_ (Hi.out.tree t htm);have Hcl:=hd_ (Hl.out.cuts t htm)
   have Ht:=hd_ ht;have Hxlt:=hd_ hlt
   have Hni:Hid (I64 rp∧I64 rf):=⟨by rw [Hpar.out];exact HNI.out.par,by rw [Hfrm.out];exact HNI.out.frm⟩
   have HRg:Hid (wr.rangeAt ab (ao + xs.length * 3) [.int .i64 rp,.int .i64 rf,.slice ro rn rc]):=fun j u hj=>hel j u hj
   have HW1o:Hid (w1.heap.size ≤ wr.heap.size):=Hbr.out.size
   have HOlo:=hd_ (fun g e=>(HO.out.own g e).2)
   clear ht hel hr q1 q2 q3 lq htm hab hlt
   generalize wr = wo at *
   have H7z:Hid (CB (wo.alloc (.cells [Value.int .i64 0,.int .i64 0,.slice none 0 0].toArray 48)) wo.heap.size 48 [Value.int .i64 0,.int .i64 0,.slice none 0 0]):=z6a wo _ _ _ rfl
   have H7o:Hid (∀ u ∈ ([.int .i64 rp,.int .i64 rf,.slice ro rn rc]:List Value),u.oneCell' = true):=hd_ (by intro u hu;simp only [List.mem_cons,nM,or_false] at hu;rcases hu with rfl | rfl | rfl <;> rfl)
   go_upto_region 7 with (first | (have _g:=HRg.out;refine z7a (by rfl) 48 (.tmp 24) rfl ab (ao + xs.length * 3) rfl [.int .i64 rp,.int .i64 rf,.slice ro rn rc] _ HRg.out Tryz.underlying48 rfl (by kernel_rfl) ?_;clear HRg) | (have _g:=H7o.out;refine z4a rfl 48 (.tmp 6) (.tmp 25) rfl wo.heap.size [.int .i64 rp,.int .i64 rf,.slice ro rn rc] rfl rfl 48 [Value.int .i64 0,.int .i64 0,.slice none 0 0] H7z.out rfl (by kernel_rfl) H7o.out (fun w3 H7 HW3 HZ3=>?_);clear H7o))
   have Hz3:Hid (Below wo.heap.size wo w3):=(z5b (w:=wo) (.cells [Value.int .i64 0,.int .i64 0,.slice none 0 0].toArray 48)).grown HW3.out (by simp) (fun q e=>by injection e with e;omega)
   clear HW3 HZ3 H7z c13
   have hO0:=z9h (B:=wo.heap.size + 1) (w:=w3) [] [] H7.out.lt trivial (by simp)
   have HO0:=hd_ hO0
   have hbz:Below w3.heap.size w3 (w3.alloc (.cells (z7d [] []).toArray 80)):=z5b _
   replace H7:=hd_ (H7.out.ext hbz);have Hz:=hd_ (z0a Hz3.out hbz)
   clear hO0 hbz Hz3
   go_upto_region 8 with fail
   change Code.wp _ _ _ _ (w3.alloc (.cells (z7d [] []).toArray 80))
   generalize w3.alloc (.cells (z7d [] []).toArray 80) = w4 at *
   go_wp2_with fail
   go_loopw [7,8] (fun v7 v8 wr=>k5l t wo [.int .i64 rp,.int .i64 rf,.slice ro rn rc] v7 v8 wr) (fun _ v8 _=>t.cuts.length - (intOf v8).toNat)
   case atStart=>exact ⟨[],rfl,by simp,rfl,HO0.out,H7.out,Hz.out⟩
   case round =>
    obtain ⟨ms,hms,hmle,rfl,hO2,h7,hz⟩:=hrel
    obtain ⟨o2,c2,rfl⟩:=hO2.shape
    clear H7 Hz HO0
    have Hms:=hd_ hms;have HO2:=hd_ hO2;have H7:=hd_ h7;have Hz:=hd_ hz
    have d7:_ = some (Value.slice ro rn rc):=h7.cell 2
    clear hO2 h7 hz hms
    have hrn:rn = t.cuts.length:=HRn.out
    by_cases hml:ms.length < t.cuts.length
    case pos =>
     obtain ⟨c,hc⟩:∃ c,t.cuts[ms.length]? = some c:=⟨_,List.getElem?_eq_getElem hml⟩
     have Hc:=hd_ hc;have Hci:=hd_ (HNI.out.cuts c (List.mem_of_getElem? hc));have Hmlt:=hd_ hml
     have tm:decide ((ms.length:Int) < (rn:Int)) = true:=decide_eq_true (by omega)
     have tm':decide (ms.length < rn) = true:=decide_eq_true (by omega)
     have hm2:ms.length < rn:=by omega
     clear hrn
     have Ho9:=hd_ (fun g e=>(HO2.out.own g e).2)
     have Hw9:Hid (wo.heap.size + 1 ≤ wr.heap.size):=H7.out.lt
     have HEx:Hid (∀ W,Below wr.heap.size wr W→z3j (fun _=>False) (wo.heap.size + 1) W (.slice o2 ms.length c2) ms∧CB W wo.heap.size 48 [.int .i64 rp,.int .i64 rf,.slice ro rn rc]∧Below wo.heap.size wo W):=fun W hb=>⟨HO2.out.ext hb,H7.out.ext hb,z0a Hz.out hb⟩
     have hcu:z9f cuK wr.heap.size wr t.cuts (.slice ro t.cuts.length rc):=(by have h:z9f cuK wr.heap.size wr t.cuts (.slice ro rn rc):=HCU.out.ext Hz.out;rw [show rn = t.cuts.length from HRn.out] at h;exact h)
     obtain ⟨cb,co,hco,_,hat⟩:=hcu.at (k:=ms.length) hml
     subst hco
     clear hcu
     have HRc:Hid (wr.rangeAt cb (co + ms.length * 5) c.cells):=fun j u hj=>hat ms.length c hc j u hj
     have H10z:Hid (CB (wr.alloc (.cells [Value.bool false,.int .i64 0,.int .i64 0,.int .i64 0,.int .i64 0].toArray 88)) wr.heap.size 88 [Value.bool false,.int .i64 0,.int .i64 0,.int .i64 0,.int .i64 0]):=z6a wr _ _ _ rfl
     have H10o:Hid (∀ u ∈ c.cells,u.oneCell' = true):=hd_ (by intro u hu;simp only [Cut.cells,List.mem_cons,nM,or_false] at hu;rcases hu with rfl | rfl | rfl | rfl | rfl <;> rfl)
     clear hat hc hml
     go_upto_region 12 with (first | (have _g:=HRc.out;refine z7a (by rfl) 88 (.tmp 37) rfl cb (co + ms.length * 5) rfl c.cells _ HRc.out Tryz.underlying88 rfl (by kernel_rfl) ?_;clear HRc) | (have _g:=H10o.out;refine z4a rfl 88 (.tmp 9) (.tmp 38) rfl wr.heap.size c.cells rfl rfl 88 [Value.bool false,.int .i64 0,.int .i64 0,.int .i64 0,.int .i64 0] H10z.out rfl (by kernel_rfl) H10o.out (fun w7 H10 HW7 HZ7=>?_);clear H10o))
     have Hz7:Hid (Below wr.heap.size wr w7):=(z5b (w:=wr) (.cells [Value.bool false,.int .i64 0,.int .i64 0,.int .i64 0,.int .i64 0].toArray 88)).grown HW7.out (by simp) (fun q e=>by injection e with e;omega)
     clear HW7 HZ7 H10z d7
     refine z9a (S:=fun w'=>CB w' wr.heap.size 88 c.cells∧Below wr.heap.size wr w') (late:=fun j=>j == 21 || j == 22) (by kernel_rfl) ⟨H10.out.ext (Below.refl w7.heap.size w7).drew,Hz7.out.drew⟩ (fun hHeld=>?_)
     generalize w7.drew = wd at *
     refine z4w [(0,39),(1,40),(2,41),(3,42),(4,43),(5,44),(6,45),(7,46),(8,47),(9,48),(10,49),(11,50),(12,51),(13,52),(14,53),(15,54),(16,55),(17,56),(18,57),(19,58),(20,59)] (((List.replicate 21 true) ++ [false,false]).toArray) 2 wr.heap.size (k0t wr.heap.size c o2 c2 ms) (by kernel_rfl) (by decide) (by decide) (by kernel_rfl) (by kernel_rfl) (by kernel_rfl) (by kernel_rfl) (fun _ _ h hb=>⟨h.1.ext hb,z0a h.2 hb⟩) hHeld ?_ ?_
     · skip
       refine oc0 7 ?_
       refine oc0 9 ?_
       refine z8g 1 40 (fun wa hs=>(hs.1.cell 0:wa.cell? ⟨wr.heap.size,0,none⟩ = some (.bool c.ap))) ?_
       refine ocO (fun a wa ha hs hd K hK=>?_) ?_
       · have e0:=dpO hd 2 41
         go_simp
         go_at_call 113
         refine (y4e c.ap wa).mono ?_
         rintro e W7 ⟨rfl,hb7⟩
         exact hK.out _ _ (GT.mk (g:=(.eq (.agg #[.int .i64 1,.int .i64 (if c.ap then 1 else 0),.string ⟨#[]⟩,.slice none 0 0]))) rfl rfl) hb7
       refine oc0 9 ?_
       refine z8g 4 43 (fun wa hs=>(hs.1.cell 1:wa.cell? ⟨wr.heap.size,1,none⟩ = some (.int .i64 c.ix))) ?_
       refine ocO (fun a wa ha hs hd K hK=>?_) ?_
       · have e0:=dpO hd 5 44
         go_simp
         go_at_call 114
         refine (z4b c.ix wa).mono ?_
         rintro e W7 ⟨rfl,hb7⟩
         exact hK.out _ _ (GT.mk (g:=(.eq (.agg #[.int .i64 1,.int .i64 c.ix,.string ⟨#[]⟩,.slice none 0 0]))) rfl rfl) hb7
       refine oc0 9 ?_
       refine oc1 7 46 ?_
       refine z8g 8 47 (fun wa hs=>(hs.1.cell 2:wa.cell? ⟨wr.heap.size,2,none⟩ = some (.int .i64 c.mf))) ?_
       refine oc0 9 ?_
       refine oc1 10 49 ?_
       refine z8g 11 50 (fun wa hs=>(hs.1.cell 3:wa.cell? ⟨wr.heap.size,3,none⟩ = some (.int .i64 c.mt))) ?_
       refine ocO (fun a wa ha hs hd K hK=>?_) ?_
       · have e0:=dpO hd 9 48
         have e1:=dpO hd 12 51
         go_simp
         exact hK.out _ _ (GT.mk (g:=(.ints [c.mf,c.mt])) rfl (y6o wa [c.mf,c.mt] (by simp;decide))) (z5b (w:=wa) (.cells (([c.mf,c.mt]:List Int).map (Value.int .i64)).toArray 3))
       refine ocO (fun a wa ha hs hd K hK=>?_) ?_
       · obtain ⟨v0,e0,q0⟩:=hd 13 52 (by kernel_rfl) (by kernel_rfl)
         have q0:=GT.out (g:=(.ints [c.mf,c.mt])) rfl q0
         go_simp
         go_at_call 54
         refine (z0g [c.mf,c.mt] _ wa q0 (fun n hn=>by simp only [List.mem_cons,nM,or_false] at hn;rcases hn with rfl | rfl <;> first | exact Hci.out.ix | exact Hci.out.mf | exact Hci.out.mt | exact Hci.out.less) (by simp)).mono ?_
         rintro e W7 ⟨lv7,rfl,hO7,hb7⟩
         exact hK.out _ _ (GT.mk (g:=(.val (lV [iV c.mf,iV c.mt]))) rfl ⟨lv7,rfl,x7s hO7 hs.2.size (fun j h=>h.elim)⟩) hb7
       refine oc0 9 ?_
       refine z8g 15 54 (fun wa hs=>(hs.1.cell 4:wa.cell? ⟨wr.heap.size,4,none⟩ = some (.int .i64 c.less))) ?_
       refine ocO (fun a wa ha hs hd K hK=>?_) ?_
       · have e0:=dpO hd 16 55
         go_simp
         go_at_call 114
         refine (z4b c.less wa).mono ?_
         rintro e W7 ⟨rfl,hb7⟩
         exact hK.out _ _ (GT.mk (g:=(.eq (.agg #[.int .i64 1,.int .i64 c.less,.string ⟨#[]⟩,.slice none 0 0]))) rfl rfl) hb7
       refine ocO (fun a wa ha hs hd K hK=>?_) ?_
       · have e0:=dpO hd 3 42
         have e1:=dpO hd 6 45
         obtain ⟨v2,e2,q2⟩:=hd 14 53 (by kernel_rfl) (by kernel_rfl)
         have q2:=GT.out (g:=(.val (lV [iV c.mf,iV c.mt]))) rfl q2
         obtain ⟨lx2,rfl,hn2⟩:=q2
         have e3:=dpO hd 17 56
         go_simp
         exact hK.out _ _ (GT.mk (g:=(.owns [bV c.ap,iV c.ix,spV c.mf c.mt,iV c.less])) rfl (z9h (w:=wa) [bV c.ap,iV c.ix,lV [iV c.mf,iV c.mt],iV c.less] [.slice none 0 0,.slice none 0 0,lx2,.slice none 0 0] hs.2.size ⟨y2e.int _ _ (if c.ap then 1 else 0) (by unfold I64;split <;> omega),y2e.int _ _ c.ix (by first | exact Hci.out.ix | exact Hci.out.mf | exact Hci.out.mt | exact Hci.out.less),hn2,y2e.int _ _ c.less (by first | exact Hci.out.ix | exact Hci.out.mf | exact Hci.out.mt | exact Hci.out.less),trivial⟩ (by simp;decide))) (z5b (w:=wa) (.cells (z7d [bV c.ap,iV c.ix,lV [iV c.mf,iV c.mt],iV c.less] [.slice none 0 0,.slice none 0 0,lx2,.slice none 0 0]).toArray 80))
       refine ocO (fun a wa ha hs hd K hK=>?_) ?_
       · obtain ⟨v0,e0,q0⟩:=hd 18 57 (by kernel_rfl) (by kernel_rfl)
         have q0:=GT.out (g:=(.owns [bV c.ap,iV c.ix,spV c.mf c.mt,iV c.less])) rfl q0
         obtain ⟨oq,cq,rfl⟩:=z3j.shape q0
         go_simp
         go_at_call 52
         refine (z8f _ _ _ wa).mono ?_
         rintro e W7 ⟨rfl,hb7⟩
         exact hK.out _ _ (GT.mk (g:=(.val (lV [bV c.ap,iV c.ix,spV c.mf c.mt,iV c.less]))) rfl ⟨_,rfl,j9j (z3j.ext q0 hb7)⟩) hb7
       refine ocO (fun a wa ha hs hd K hK=>?_) ?_
       · obtain ⟨v0,e0,q0⟩:=hd 19 58 (by kernel_rfl) (by kernel_rfl)
         have q0:=GT.out (g:=(.val (lV [bV c.ap,iV c.ix,spV c.mf c.mt,iV c.less]))) rfl q0
         obtain ⟨lx0,rfl,hn0⟩:=q0
         go_simp
         exact hK.out _ _ (GT.mk (g:=(.one (lV [bV c.ap,iV c.ix,spV c.mf c.mt,iV c.less]))) rfl (j7d (lV [bV c.ap,iV c.ix,spV c.mf c.mt,iV c.less]) lx0 hn0)) (z5b (w:=wa) (.cells (vC (lV [bV c.ap,iV c.ix,spV c.mf c.mt,iV c.less]) lx0).toArray 80))
       exact trivial
     · intro vals w8 hs8 hg
       have g0:=GT.out (g:=(.eq (.slice o2 ms.length c2))) rfl (hg 0 39 (by kernel_rfl))
       replace g0:vals 0 = _:=g0
       obtain ⟨Bk,lx,e20,hBk,hcl,hnv⟩:=GT.out (g:=(.one (z2s c))) rfl (hg 20 59 (by kernel_rfl))
       simp only [y6s,Act.put,aS,aZ,aU]
       try simp only at g0 e20
       rw [g0,e20]
       obtain ⟨hO8,h78,hz8⟩:=HEx.out w8 hs8.2
       have hq2:=hnv.dl (lv:=(.slice o2 ms.length c2)) Hw9.out (fun g e=>Ho9.out g e)
       have HO8:=hd_ hO8;have H78:=hd_ h78;have Hz8:=hd_ hz8
       have HS8:=hd_ hs8
       clear hg hO8 h78 hz8 hs8 hnv g0 e20 hBk
       refine rdL 21 fun K hK=>?_
       refine z8h Tryz.underlying78 z1m rfl (.tmp 39) (.tmp 59) rfl (fun _=>False) (wo.heap.size + 1) (.slice o2 ms.length c2) ms rfl ?q1 Bk (z2s c) lx rfl ?q2 ?q3 ?q4 ?q5 ?_
       case q1=>exact HO8.out
       case q2=>exact hq2
       case q3=>exact hcl
       case q4=>exact Nat.le_trans (Nat.le_of_lt Hmlt.out) Hcl.out
       case q5=>exact H78.out.lt
       intro oa2 cp2 w9 hO2 hg2
       have H79:=hd_ (H78.out.keep (hg2.out.block _ H78.out.lt (fun e=>by have:=(HO8.out.own _ e.symm).1;omega)))
       have Hz9:=hd_ (Hz8.out.grown hg2.out Hz8.out.size (fun q e=>by have:=(HO8.out.own q e).1;omega))
       refine hK.out (Act.put _ (some 60) _) w9 (fun h=>absurd h (by decide)) (fun _=>?_)
       clear hK K hg2 hcl hq2 HO8 H78 Hz8 HS8
       try simp only [Act.put,aS,aZ,aU]
       refine rdL 22 fun K hK=>?_
       go_simp
       refine hK.out _ _ (fun h=>absurd h (by decide)) (fun _=>?_)
       clear hK K
       try simp only [aS]
       refine z6b (by kernel_rfl) ?_ _
       go_wp2_with fail
       go_roundw
       case rel=>exact x2t Hc.out Hms.out hO2.out H79.out Hz9.out
       case measure=>(simp [intOf];have:=Hmlt.out;omega)
    case neg =>
     have tm:decide ((ms.length:Int) < (rn:Int)) = false:=decide_eq_false (by omega)
     have hm2:¬ ms.length < rn:=by omega
     clear hrn
     have hmx:ms = t.cuts.map z2s:=(by have h:=Hms.out;have hk:ms.length = t.cuts.length:=(by omega);rw [hk,List.take_length] at h;exact h)
     have HVt:Hid (lV [iV rp,iV rf,lV ms] = z8j t):=hd_ (by rw [Hpar.out,Hfrm.out,hmx];rfl)
     clear hmx
     have hMs:=z7n HO2.out (Nat.le_succ _) (fun j h=>h.elim)
     have HMs:=hd_ hMs
     have HEx:Hid (∀ W,Below wo.heap.size wo W→z3j (fun _=>False) w1.heap.size W (.slice ol xs.length cl) xs∧Below w1.heap.size w1 W):=fun W hb=>⟨HO.out.ext hb,z0a Hbr.out hb⟩
     clear hMs
     go_upto_region 13 with fail
     clear d7 HO2
     refine z9a (S:=fun w'=>CB w' wo.heap.size 48 [.int .i64 rp,.int .i64 rf,.slice ro rn rc]∧z3j (fun _=>False) wo.heap.size w' (.slice o2 ms.length c2) ms∧Below wo.heap.size wo w') (late:=fun j=>j == 12 || j == 13) (by kernel_rfl) ⟨H7.out.ext (Below.refl wr.heap.size wr).drew,HMs.out.ext (Below.refl wr.heap.size wr).drew,Hz.out.drew⟩ (fun hHeld=>?_)
     generalize wr.drew = wd at *
     refine z4w [(0,61),(1,62),(2,63),(3,64),(4,65),(5,66),(6,67),(7,68),(8,69),(9,70),(10,71),(11,72)] (((List.replicate 12 true) ++ [false,false]).toArray) 2 wo.heap.size (k1t wo.heap.size rp rf ol cl xs o2 c2 ms) (by kernel_rfl) (by decide) (by decide) (by kernel_rfl) (by kernel_rfl) (by kernel_rfl) (by kernel_rfl) (fun _ _ h hb=>⟨h.1.ext hb,h.2.1.ext hb,z0a h.2.2 hb⟩) hHeld ?_ ?_
     · skip
       refine oc0 4 ?_
       refine oc0 6 ?_
       refine z8g 1 62 (fun wa hs=>(hs.1.cell 0:wa.cell? ⟨wo.heap.size,0,none⟩ = some (.int .i64 rp))) ?_
       refine ocO (fun a wa ha hs hd K hK=>?_) ?_
       · have e0:=dpO hd 2 63
         go_simp
         go_at_call 114
         refine (z4b rp wa).mono ?_
         rintro e W7 ⟨rfl,hb7⟩
         exact hK.out _ _ (GT.mk (g:=(.eq (.agg #[.int .i64 1,.int .i64 rp,.string ⟨#[]⟩,.slice none 0 0]))) rfl rfl) hb7
       refine oc0 6 ?_
       refine z8g 4 65 (fun wa hs=>(hs.1.cell 1:wa.cell? ⟨wo.heap.size,1,none⟩ = some (.int .i64 rf))) ?_
       refine ocO (fun a wa ha hs hd K hK=>?_) ?_
       · have e0:=dpO hd 5 66
         go_simp
         go_at_call 114
         refine (z4b rf wa).mono ?_
         rintro e W7 ⟨rfl,hb7⟩
         exact hK.out _ _ (GT.mk (g:=(.eq (.agg #[.int .i64 1,.int .i64 rf,.string ⟨#[]⟩,.slice none 0 0]))) rfl rfl) hb7
       refine oc0 7 ?_
       refine ocO (fun a wa ha hs hd K hK=>?_) ?_
       · have e0:=dpO hd 7 68
         go_simp
         go_at_call 52
         refine (z8f _ _ _ wa).mono ?_
         rintro e W7 ⟨rfl,hb7⟩
         exact hK.out _ _ (GT.mk (g:=(.val (lV ms))) rfl ⟨_,rfl,j9j (z3j.ext hs.2.1 hb7)⟩) hb7
       refine ocO (fun a wa ha hs hd K hK=>?_) ?_
       · have e0:=dpO hd 3 64
         have e1:=dpO hd 6 67
         obtain ⟨v2,e2,q2⟩:=hd 8 69 (by kernel_rfl) (by kernel_rfl)
         have q2:=GT.out (g:=(.val (lV ms))) rfl q2
         obtain ⟨lx2,rfl,hn2⟩:=q2
         go_simp
         exact hK.out _ _ (GT.mk (g:=(.owns [iV rp,iV rf,lV ms])) rfl (z9h (w:=wa) [iV rp,iV rf,lV ms] [.slice none 0 0,.slice none 0 0,lx2] hs.2.2.size ⟨y2e.int _ _ rp (by first | exact Hni.out.1 | exact Hni.out.2),y2e.int _ _ rf (by first | exact Hni.out.1 | exact Hni.out.2),hn2,trivial⟩ (by simp;decide))) (z5b (w:=wa) (.cells (z7d [iV rp,iV rf,lV ms] [.slice none 0 0,.slice none 0 0,lx2]).toArray 80))
       refine ocO (fun a wa ha hs hd K hK=>?_) ?_
       · obtain ⟨v0,e0,q0⟩:=hd 9 70 (by kernel_rfl) (by kernel_rfl)
         have q0:=GT.out (g:=(.owns [iV rp,iV rf,lV ms])) rfl q0
         obtain ⟨oq,cq,rfl⟩:=z3j.shape q0
         go_simp
         go_at_call 52
         refine (z8f _ _ _ wa).mono ?_
         rintro e W7 ⟨rfl,hb7⟩
         exact hK.out _ _ (GT.mk (g:=(.val (lV [iV rp,iV rf,lV ms]))) rfl ⟨_,rfl,j9j (z3j.ext q0 hb7)⟩) hb7
       refine ocO (fun a wa ha hs hd K hK=>?_) ?_
       · obtain ⟨v0,e0,q0⟩:=hd 10 71 (by kernel_rfl) (by kernel_rfl)
         have q0:=GT.out (g:=(.val (lV [iV rp,iV rf,lV ms]))) rfl q0
         obtain ⟨lx0,rfl,hn0⟩:=q0
         go_simp
         exact hK.out _ _ (GT.mk (g:=(.one (lV [iV rp,iV rf,lV ms]))) rfl (j7d (lV [iV rp,iV rf,lV ms]) lx0 hn0)) (z5b (w:=wa) (.cells (vC (lV [iV rp,iV rf,lV ms]) lx0).toArray 80))
       exact trivial
     · intro vals w8 hs8 hg
       have g0:=GT.out (g:=(.eq (.slice ol xs.length cl))) rfl (hg 0 61 (by kernel_rfl))
       replace g0:vals 0 = _:=g0
       obtain ⟨Bk,lx,e20,hBk,hcl,hnv⟩:=GT.out (g:=(.one (lV [iV rp,iV rf,lV ms]))) rfl (hg 11 72 (by kernel_rfl))
       simp only [y6s,Act.put,aS,aZ,aU]
       try simp only at g0 e20
       rw [g0,e20]
       obtain ⟨hO8,hz8⟩:=HEx.out w8 hs8.2.2
       have hq2:=hnv.dl (lv:=(.slice ol xs.length cl)) HW1o.out (fun g e=>HOlo.out g e)
       have HO8:=hd_ hO8;have Hz8:=hd_ hz8
       clear hg hO8 hz8 hs8 hnv g0 e20 hBk
       refine rdL 12 fun K hK=>?_
       refine z8h Tryz.underlying78 z1m rfl (.tmp 61) (.tmp 72) rfl (fun _=>False) w1.heap.size (.slice ol xs.length cl) xs rfl ?q1 Bk (lV [iV rp,iV rf,lV ms]) lx rfl ?q2 ?q3 ?q4 ?q5 ?_
       case q1=>exact HO8.out
       case q2=>exact hq2
       case q3=>exact hcl
       case q4=>exact Nat.le_trans (Nat.le_of_lt Hxlt.out) Hl.out.tree
       case q5=>exact Hz8.out.size
       intro oa2 cp2 w9 hO2 hg2
       have Hz9:=hd_ (Hz8.out.grown hg2.out Hz8.out.size (fun q e=>(HO8.out.own q e).1))
       refine hK.out (Act.put _ (some 73) _) w9 (fun h=>absurd h (by decide)) (fun _=>?_)
       clear hK K hg2 hcl hq2 HO8 Hz8
       try simp only [Act.put,aS,aZ,aU]
       refine rdL 13 fun K hK=>?_
       go_simp
       refine hK.out _ _ (fun h=>absurd h (by decide)) (fun _=>?_)
       clear hK K
       try simp only [aS]
       refine z6b (by kernel_rfl) ?_ _
       go_wp2_with fail
       go_roundw
       case rel=>exact x1t Ht.out Hxs.out (by have h:=hO2.out;rw [HVt.out] at h;exact h) Hz9.out
       case measure=>(simp [intOf];have:=Hxlt.out;omega)
  case neg =>
   have hk:xs.length = x.tree.length:=by omega
   have tj:decide ((xs.length:Int) < (x.tree.length:Int)) = false:=decide_eq_false (by omega)
   have HX:Hid (xs = x.tree.map z8j):=hd_ (by have h:=Hxs.out;rw [hk,List.take_length] at h;exact h)
   clear hk
   obtain ⟨ow,cw,hsw,-⟩:=HXR.out.ways.shape
   obtain ⟨om,cm,hsm,-⟩:=HXR.out.modes.shape
   obtain ⟨ov,cv,hsv,-⟩:=HXR.out.vols.shape
   have Hsw:=hd_ hsw;have Hsm:=hd_ hsm;have Hsv:=hd_ hsv
   have HWs:Hid (∀ W,Below w.heap.size w W→z9f nuK W.heap.size W x.flt.ways (.slice ow x.flt.ways.length cw)):=fun W hb=>by rw [← Hsw.out];exact HXR.out.ways.ext hb
   have HMs:Hid (∀ W,Below w.heap.size w W→z9f nuK W.heap.size W x.chg.modes (.slice om x.chg.modes.length cm)):=fun W hb=>by rw [← Hsm.out];exact HXR.out.modes.ext hb
   have HVs:Hid (∀ W,Below w.heap.size w W→z9f nuK W.heap.size W x.stn.vols (.slice ov x.stn.vols.length cv)):=fun W hb=>by rw [← Hsv.out];exact HXR.out.vols.ext hb
   have H3r:=hd_ (H3.out.ext Hbr.out)
   have hOf:=z7n HO.out HB1.out.size (fun j h=>h.elim)
   have HOf:=hd_ hOf
   clear hOf HO hsw hsm hsv
   have HRr:Hid (wr.rangeAt w.heap.size 17 x.rep.cells):=j4t HIr.out
   have H10z:Hid (CB (wr.alloc (.cells ZRc.toArray 33)) wr.heap.size 33 ZRc):=z6a wr _ _ _ rfl
   have H10o:=hd_ (j5t x.rep)
   go_upto_region 15 with (first | (have _g:=HRr.out;refine z7a (by rfl) 33 (.tmp 74) rfl w.heap.size 17 rfl x.rep.cells _ HRr.out Tryz.underlying33 rfl (by kernel_rfl) ?_;clear HRr) | (have _g:=H10o.out;refine z4a rfl 33 (.tmp 10) (.tmp 75) rfl wr.heap.size x.rep.cells rfl rfl 33 ZRc H10z.out rfl (by kernel_rfl) H10o.out (fun w7 H10 HW7 HZ7=>?_);clear H10o))
   have Hz7:Hid (Below wr.heap.size wr w7):=(z5b (w:=wr) (.cells ZRc.toArray 33)).grown HW7.out (by simp) (fun q e=>by injection e with e;omega)
   have Hzd:Hid (Below wr.heap.size wr w7.drew):=Hz7.out.drew
   clear HW7 HZ7 H10z c13
   generalize hg10:wr.heap.size = g10 at *
   refine z9a (S:=fun w'=>CB w' w.heap.size 41 (x.cells s)∧CB w' g3 28 (x.flt.cells s.ways)∧CB w' g10 33 x.rep.cells∧z3j (fun _=>False) w.heap.size w' (.slice ol xs.length cl) (x.tree.map z8j)∧Below w.heap.size w w') (late:=fun j=>j == 113) (by kernel_rfl) ?hs0 (fun hHeld=>?_)
   case hs0=>(subst hg10;exact ⟨HIr.out.ext Hzd.out,H3r.out.ext Hzd.out,H10.out.ext (Below.refl w7.heap.size w7).drew,by rw [← HX.out];exact HOf.out.ext Hzd.out,z0a HBw.out Hzd.out⟩)
   clear hg10 HIr H3r H10 HOf Hz7 Hzd Hbr HBw HB1 HI H3 HTr Htw l1 ltr hlt hle
   generalize w7.drew = wd at *
   refine z9y [(0,76),(1,77),(2,78),(3,79),(4,80),(5,81),(6,82),(7,83),(8,84),(9,85),(10,86),(11,87),(12,88),(13,89),(14,90),(15,91),(16,92),(17,93),(18,94),(19,95),(20,96),(21,97),(22,98),(23,99),(24,100),(25,101),(26,102),(27,103),(28,104),(29,105),(30,106),(31,107),(32,108),(33,109),(34,110),(35,111),(36,112),(37,113),(38,114),(39,115),(40,116),(41,117),(42,118),(43,119),(44,120),(45,121),(46,122),(47,123),(48,124),(49,125),(50,126),(51,127),(52,128),(53,129),(54,130),(55,131),(56,132),(57,133),(58,134),(59,135),(60,136),(61,137),(62,138),(63,139),(64,140),(65,141),(66,142),(67,143),(68,144),(69,145),(70,146),(71,147),(72,148),(73,149),(74,150),(75,151),(76,152),(77,153),(78,154),(79,155),(80,156),(81,157),(82,158),(83,159),(84,160),(85,161),(86,162),(87,163),(88,164),(89,165),(90,166),(91,167),(92,168),(93,169),(94,170),(95,171),(96,172),(97,173),(98,174),(99,175),(100,176),(101,177),(102,178),(103,179),(104,180),(105,181),(106,182),(107,183),(108,184),(109,185),(110,186),(111,187),(112,188)] (((List.replicate 113 true) ++ [false]).toArray) 1 w.heap.size (k2t x w.heap.size g3 g10 ol cl xs ow om ov cw cm cv) (by kernel_rfl) (by decide) (by decide) (by kernel_rfl) (by kernel_rfl) (by kernel_rfl) (by kernel_rfl) (fun _ _ h hb=>⟨h.1.ext hb,h.2.1.ext hb,h.2.2.1.ext hb,h.2.2.2.1.ext hb,z0a h.2.2.2.2 hb⟩) hHeld ?_ ?_
   · skip
     refine oc0 1 ?_
     refine oc1 0 76 ?_
     refine z8g 1 77 (fun wa hs=>(hs.1.cell 0:wa.cell? ⟨w.heap.size,0,none⟩ = some (.int .i64 x.mi))) ?_
     refine oc0 1 ?_
     refine oc1 3 79 ?_
     refine z8g 4 80 (fun wa hs=>(hs.1.cell 1:wa.cell? ⟨w.heap.size,1,none⟩ = some (.int .i64 x.ce))) ?_
     refine oc0 1 ?_
     refine oc1 6 82 ?_
     refine z8g 7 83 (fun wa hs=>(hs.1.cell 2:wa.cell? ⟨w.heap.size,2,none⟩ = some (.int .i64 x.no))) ?_
     refine ocO (fun a wa ha hs hd K hK=>?_) ?_
     · have e0:=dpO hd 2 78
       have e1:=dpO hd 5 81
       have e2:=dpO hd 8 84
       go_simp
       exact hK.out _ _ (GT.mk (g:=(.ints [x.mi,x.ce,x.no])) rfl (y6o wa [x.mi,x.ce,x.no] (by simp;decide))) (z5b (w:=wa) (.cells (([x.mi,x.ce,x.no]:List Int).map (Value.int .i64)).toArray 3))
     refine ocO (fun a wa ha hs hd K hK=>?_) ?_
     · obtain ⟨v0,e0,q0⟩:=hd 9 85 (by kernel_rfl) (by kernel_rfl)
       have q0:=GT.out (g:=(.ints [x.mi,x.ce,x.no])) rfl q0
       go_simp
       go_at_call 54
       refine (z0g [x.mi,x.ce,x.no] _ wa q0 (fun n hn=>by simp only [List.mem_cons,nM,or_false] at hn;rcases hn with rfl | rfl | rfl <;> first | exact Hi.out.mi | exact Hi.out.ce | exact Hi.out.no | exact Hi.out.kind | exact Hi.out.text | exact Hi.out.flt.id | exact Hi.out.flt.air | exact Hi.out.flt.cls | exact Hi.out.flt.call | exact Hi.out.flt.wf | exact Hi.out.flt.wt | exact Hi.out.cfrm | exact Hi.out.cfg | exact Hi.out.rst | exact Hi.out.rno | exact Hi.out.rmi | exact Hi.out.rar | exact Hi.out.rcl | exact Hi.out.rvo | exact Hi.out.sst | exact Hi.out.sfr | exact Hi.out.n | exact Hi.out.sh | exact Hi.out.fa) (by simp)).mono ?_
       rintro e W7 ⟨lv7,rfl,hO7,hb7⟩
       exact hK.out _ _ (GT.mk (g:=(.val (lV [iV x.mi,iV x.ce,iV x.no]))) rfl ⟨lv7,rfl,x7s hO7 hs.2.2.2.2.size (fun j h=>h.elim)⟩) hb7
     refine oc0 1 ?_
     refine z8g 11 87 (fun wa hs=>(hs.1.cell 3:wa.cell? ⟨w.heap.size,3,none⟩ = some (.int .i64 x.kind))) ?_
     refine ocO (fun a wa ha hs hd K hK=>?_) ?_
     · have e0:=dpO hd 12 88
       go_simp
       go_at_call 114
       refine (z4b x.kind wa).mono ?_
       rintro e W7 ⟨rfl,hb7⟩
       exact hK.out _ _ (GT.mk (g:=(.eq (.agg #[.int .i64 1,.int .i64 x.kind,.string ⟨#[]⟩,.slice none 0 0]))) rfl rfl) hb7
     refine oc0 1 ?_
     refine z8g 14 90 (fun wa hs=>(hs.1.cell 4:wa.cell? ⟨w.heap.size,4,none⟩ = some (.string x.text))) ?_
     refine ocO (fun a wa ha hs hd K hK=>?_) ?_
     · have e0:=dpO hd 15 91
       go_simp
       go_at_call 115
       refine (y3e x.text wa).mono ?_
       rintro e W7 ⟨rfl,hb7⟩
       exact hK.out _ _ (GT.mk (g:=(.eq (.agg #[.int .i64 2,.int .i64 0,.string x.text,.slice none 0 0]))) rfl rfl) hb7
     refine oc0 3 ?_
     refine z8g 17 93 (fun wa hs=>(hs.2.1.cell 0:wa.cell? ⟨g3,0,none⟩ = some (.int .i64 x.flt.id))) ?_
     refine ocO (fun a wa ha hs hd K hK=>?_) ?_
     · have e0:=dpO hd 18 94
       go_simp
       go_at_call 114
       refine (z4b x.flt.id wa).mono ?_
       rintro e W7 ⟨rfl,hb7⟩
       exact hK.out _ _ (GT.mk (g:=(.eq (.agg #[.int .i64 1,.int .i64 x.flt.id,.string ⟨#[]⟩,.slice none 0 0]))) rfl rfl) hb7
     refine oc0 3 ?_
     refine z8g 20 96 (fun wa hs=>(hs.2.1.cell 1:wa.cell? ⟨g3,1,none⟩ = some (.int .i64 x.flt.air))) ?_
     refine ocO (fun a wa ha hs hd K hK=>?_) ?_
     · have e0:=dpO hd 21 97
       go_simp
       go_at_call 114
       refine (z4b x.flt.air wa).mono ?_
       rintro e W7 ⟨rfl,hb7⟩
       exact hK.out _ _ (GT.mk (g:=(.eq (.agg #[.int .i64 1,.int .i64 x.flt.air,.string ⟨#[]⟩,.slice none 0 0]))) rfl rfl) hb7
     refine oc0 3 ?_
     refine z8g 23 99 (fun wa hs=>(hs.2.1.cell 2:wa.cell? ⟨g3,2,none⟩ = some (.int .i64 x.flt.cls))) ?_
     refine ocO (fun a wa ha hs hd K hK=>?_) ?_
     · have e0:=dpO hd 24 100
       go_simp
       go_at_call 114
       refine (z4b x.flt.cls wa).mono ?_
       rintro e W7 ⟨rfl,hb7⟩
       exact hK.out _ _ (GT.mk (g:=(.eq (.agg #[.int .i64 1,.int .i64 x.flt.cls,.string ⟨#[]⟩,.slice none 0 0]))) rfl rfl) hb7
     refine oc0 3 ?_
     refine z8g 26 102 (fun wa hs=>(hs.2.1.cell 3:wa.cell? ⟨g3,3,none⟩ = some (.string x.flt.call))) ?_
     refine ocO (fun a wa ha hs hd K hK=>?_) ?_
     · have e0:=dpO hd 27 103
       go_simp
       go_at_call 115
       refine (y3e x.flt.call wa).mono ?_
       rintro e W7 ⟨rfl,hb7⟩
       exact hK.out _ _ (GT.mk (g:=(.eq (.agg #[.int .i64 2,.int .i64 0,.string x.flt.call,.slice none 0 0]))) rfl rfl) hb7
     refine oc0 3 ?_
     refine z8g 29 105 (fun wa hs=>((by rw [← Hsw.out];exact hs.2.1.cell 4):wa.cell? ⟨g3,4,none⟩ = some ((.slice ow x.flt.ways.length cw)))) ?_
     refine ocO (fun a wa ha hs hd K hK=>?_) ?_
     · have e0:=dpO hd 30 106
       go_simp
       go_at_call 54
       refine (z0g x.flt.ways _ wa (HWs.out wa hs.2.2.2.2) Hi.out.flt.ways Hl.out.ways).mono ?_
       rintro e W7 ⟨lv7,rfl,hO7,hb7⟩
       exact hK.out _ _ (GT.mk (g:=(.val (nsV x.flt.ways))) rfl ⟨lv7,rfl,x7s hO7 hs.2.2.2.2.size (fun j h=>h.elim)⟩) hb7
     refine oc0 3 ?_
     refine oc1 32 108 ?_
     refine z8g 33 109 (fun wa hs=>(hs.2.1.cell 5:wa.cell? ⟨g3,5,none⟩ = some (.int .i64 x.flt.wf))) ?_
     refine oc0 3 ?_
     refine oc1 35 111 ?_
     refine z8g 36 112 (fun wa hs=>(hs.2.1.cell 6:wa.cell? ⟨g3,6,none⟩ = some (.int .i64 x.flt.wt))) ?_
     refine ocO (fun a wa ha hs hd K hK=>?_) ?_
     · have e0:=dpO hd 34 110
       have e1:=dpO hd 37 113
       go_simp
       exact hK.out _ _ (GT.mk (g:=(.ints [x.flt.wf,x.flt.wt])) rfl (y6o wa [x.flt.wf,x.flt.wt] (by simp;decide))) (z5b (w:=wa) (.cells (([x.flt.wf,x.flt.wt]:List Int).map (Value.int .i64)).toArray 3))
     refine ocO (fun a wa ha hs hd K hK=>?_) ?_
     · obtain ⟨v0,e0,q0⟩:=hd 38 114 (by kernel_rfl) (by kernel_rfl)
       have q0:=GT.out (g:=(.ints [x.flt.wf,x.flt.wt])) rfl q0
       go_simp
       go_at_call 54
       refine (z0g [x.flt.wf,x.flt.wt] _ wa q0 (fun n hn=>by simp only [List.mem_cons,nM,or_false] at hn;rcases hn with rfl | rfl <;> first | exact Hi.out.mi | exact Hi.out.ce | exact Hi.out.no | exact Hi.out.kind | exact Hi.out.text | exact Hi.out.flt.id | exact Hi.out.flt.air | exact Hi.out.flt.cls | exact Hi.out.flt.call | exact Hi.out.flt.wf | exact Hi.out.flt.wt | exact Hi.out.cfrm | exact Hi.out.cfg | exact Hi.out.rst | exact Hi.out.rno | exact Hi.out.rmi | exact Hi.out.rar | exact Hi.out.rcl | exact Hi.out.rvo | exact Hi.out.sst | exact Hi.out.sfr | exact Hi.out.n | exact Hi.out.sh | exact Hi.out.fa) (by simp)).mono ?_
       rintro e W7 ⟨lv7,rfl,hO7,hb7⟩
       exact hK.out _ _ (GT.mk (g:=(.val (lV [iV x.flt.wf,iV x.flt.wt]))) rfl ⟨lv7,rfl,x7s hO7 hs.2.2.2.2.size (fun j h=>h.elim)⟩) hb7
     refine oc0 3 ?_
     refine z8g 40 116 (fun wa hs=>(hs.2.1.cell 7:wa.cell? ⟨g3,7,none⟩ = some (.bool x.flt.can))) ?_
     refine ocO (fun a wa ha hs hd K hK=>?_) ?_
     · have e0:=dpO hd 41 117
       go_simp
       go_at_call 113
       refine (y4e x.flt.can wa).mono ?_
       rintro e W7 ⟨rfl,hb7⟩
       exact hK.out _ _ (GT.mk (g:=(.eq (.agg #[.int .i64 1,.int .i64 (if x.flt.can then 1 else 0),.string ⟨#[]⟩,.slice none 0 0]))) rfl rfl) hb7
     refine ocO (fun a wa ha hs hd K hK=>?_) ?_
     · have e0:=dpO hd 19 95
       have e1:=dpO hd 22 98
       have e2:=dpO hd 25 101
       have e3:=dpO hd 28 104
       obtain ⟨v4,e4,q4⟩:=hd 31 107 (by kernel_rfl) (by kernel_rfl)
       have q4:=GT.out (g:=(.val (nsV x.flt.ways))) rfl q4
       obtain ⟨lx4,rfl,hn4⟩:=q4
       obtain ⟨v5,e5,q5⟩:=hd 39 115 (by kernel_rfl) (by kernel_rfl)
       have q5:=GT.out (g:=(.val (lV [iV x.flt.wf,iV x.flt.wt]))) rfl q5
       obtain ⟨lx5,rfl,hn5⟩:=q5
       have e6:=dpO hd 42 118
       go_simp
       exact hK.out _ _ (GT.mk (g:=(.owns (z7z x.flt))) rfl (z9h (w:=wa) [iV x.flt.id,iV x.flt.air,iV x.flt.cls,tV x.flt.call,nsV x.flt.ways,lV [iV x.flt.wf,iV x.flt.wt],bV x.flt.can] [.slice none 0 0,.slice none 0 0,.slice none 0 0,.slice none 0 0,lx4,lx5,.slice none 0 0] hs.2.2.2.2.size ⟨y2e.int _ _ x.flt.id Hi.out.flt.id,y2e.int _ _ x.flt.air Hi.out.flt.air,y2e.int _ _ x.flt.cls Hi.out.flt.cls,y2e.txt _ _ x.flt.call Hi.out.flt.call,hn4,hn5,y2e.int _ _ (if x.flt.can then 1 else 0) (by unfold I64;split <;> omega),trivial⟩ (by simp;decide))) (z5b (w:=wa) (.cells (z7d [iV x.flt.id,iV x.flt.air,iV x.flt.cls,tV x.flt.call,nsV x.flt.ways,lV [iV x.flt.wf,iV x.flt.wt],bV x.flt.can] [.slice none 0 0,.slice none 0 0,.slice none 0 0,.slice none 0 0,lx4,lx5,.slice none 0 0]).toArray 80))
     refine ocO (fun a wa ha hs hd K hK=>?_) ?_
     · obtain ⟨v0,e0,q0⟩:=hd 43 119 (by kernel_rfl) (by kernel_rfl)
       have q0:=GT.out (g:=(.owns (z7z x.flt))) rfl q0
       obtain ⟨oq,cq,rfl⟩:=z3j.shape q0
       go_simp
       go_at_call 52
       refine (z8f _ _ _ wa).mono ?_
       rintro e W7 ⟨rfl,hb7⟩
       exact hK.out _ _ (GT.mk (g:=(.val (lV (z7z x.flt)))) rfl ⟨_,rfl,j9j (z3j.ext q0 hb7)⟩) hb7
     refine oc0 4 ?_
     refine ocO (fun a wa ha hs hd K hK=>?_) ?_
     · have e0:=dpO hd 45 121
       go_simp
       go_at_call 52
       refine (z8f _ _ _ wa).mono ?_
       rintro e W7 ⟨rfl,hb7⟩
       exact hK.out _ _ (GT.mk (g:=(.val (lV (x.tree.map z8j)))) rfl ⟨_,rfl,j9j (z3j.ext hs.2.2.2.1 hb7)⟩) hb7
     refine oc0 1 ?_
     refine oc1 47 123 ?_
     refine z8g 48 124 (fun wa hs=>(hs.1.cell 14:wa.cell? ⟨w.heap.size,14,none⟩ = some (.int .i64 x.chg.frm))) ?_
     refine ocO (fun a wa ha hs hd K hK=>?_) ?_
     · have e0:=dpO hd 49 125
       go_simp
       go_at_call 114
       refine (z4b x.chg.frm wa).mono ?_
       rintro e W7 ⟨rfl,hb7⟩
       exact hK.out _ _ (GT.mk (g:=(.eq (.agg #[.int .i64 1,.int .i64 x.chg.frm,.string ⟨#[]⟩,.slice none 0 0]))) rfl rfl) hb7
     refine oc0 1 ?_
     refine oc1 51 127 ?_
     refine z8g 52 128 (fun wa hs=>(hs.1.cell 15:wa.cell? ⟨w.heap.size,15,none⟩ = some (.int .i64 x.chg.cfg))) ?_
     refine ocO (fun a wa ha hs hd K hK=>?_) ?_
     · have e0:=dpO hd 53 129
       go_simp
       go_at_call 114
       refine (z4b x.chg.cfg wa).mono ?_
       rintro e W7 ⟨rfl,hb7⟩
       exact hK.out _ _ (GT.mk (g:=(.eq (.agg #[.int .i64 1,.int .i64 x.chg.cfg,.string ⟨#[]⟩,.slice none 0 0]))) rfl rfl) hb7
     refine oc0 1 ?_
     refine oc1 55 131 ?_
     refine z8g 56 132 (fun wa hs=>((by rw [← Hsm.out];exact hs.1.cell 16):wa.cell? ⟨w.heap.size,16,none⟩ = some ((.slice om x.chg.modes.length cm)))) ?_
     refine ocO (fun a wa ha hs hd K hK=>?_) ?_
     · have e0:=dpO hd 57 133
       go_simp
       go_at_call 54
       refine (z0g x.chg.modes _ wa (HMs.out wa hs.2.2.2.2) Hi.out.modes Hl.out.modes).mono ?_
       rintro e W7 ⟨lv7,rfl,hO7,hb7⟩
       exact hK.out _ _ (GT.mk (g:=(.val (nsV x.chg.modes))) rfl ⟨lv7,rfl,x7s hO7 hs.2.2.2.2.size (fun j h=>h.elim)⟩) hb7
     refine ocO (fun a wa ha hs hd K hK=>?_) ?_
     · have e0:=dpO hd 50 126
       have e1:=dpO hd 54 130
       obtain ⟨v2,e2,q2⟩:=hd 58 134 (by kernel_rfl) (by kernel_rfl)
       have q2:=GT.out (g:=(.val (nsV x.chg.modes))) rfl q2
       obtain ⟨lx2,rfl,hn2⟩:=q2
       go_simp
       exact hK.out _ _ (GT.mk (g:=(.owns [iV x.chg.frm,iV x.chg.cfg,nsV x.chg.modes])) rfl (z9h (w:=wa) [iV x.chg.frm,iV x.chg.cfg,nsV x.chg.modes] [.slice none 0 0,.slice none 0 0,lx2] hs.2.2.2.2.size ⟨y2e.int _ _ x.chg.frm Hi.out.cfrm,y2e.int _ _ x.chg.cfg Hi.out.cfg,hn2,trivial⟩ (by simp;decide))) (z5b (w:=wa) (.cells (z7d [iV x.chg.frm,iV x.chg.cfg,nsV x.chg.modes] [.slice none 0 0,.slice none 0 0,lx2]).toArray 80))
     refine ocO (fun a wa ha hs hd K hK=>?_) ?_
     · obtain ⟨v0,e0,q0⟩:=hd 59 135 (by kernel_rfl) (by kernel_rfl)
       have q0:=GT.out (g:=(.owns [iV x.chg.frm,iV x.chg.cfg,nsV x.chg.modes])) rfl q0
       obtain ⟨oq,cq,rfl⟩:=z3j.shape q0
       go_simp
       go_at_call 52
       refine (z8f _ _ _ wa).mono ?_
       rintro e W7 ⟨rfl,hb7⟩
       exact hK.out _ _ (GT.mk (g:=(.val (lV [iV x.chg.frm,iV x.chg.cfg,nsV x.chg.modes]))) rfl ⟨_,rfl,j9j (z3j.ext q0 hb7)⟩) hb7
     refine oc0 10 ?_
     refine z8g 61 137 (fun wa hs=>(hs.2.2.1.cell 0:wa.cell? ⟨g10,0,none⟩ = some (.int .i64 x.rep.st))) ?_
     refine ocO (fun a wa ha hs hd K hK=>?_) ?_
     · have e0:=dpO hd 62 138
       go_simp
       go_at_call 114
       refine (z4b x.rep.st wa).mono ?_
       rintro e W7 ⟨rfl,hb7⟩
       exact hK.out _ _ (GT.mk (g:=(.eq (.agg #[.int .i64 1,.int .i64 x.rep.st,.string ⟨#[]⟩,.slice none 0 0]))) rfl rfl) hb7
     refine oc0 10 ?_
     refine z8g 64 140 (fun wa hs=>(hs.2.2.1.cell 1:wa.cell? ⟨g10,1,none⟩ = some (.int .i64 x.rep.no))) ?_
     refine ocO (fun a wa ha hs hd K hK=>?_) ?_
     · have e0:=dpO hd 65 141
       go_simp
       go_at_call 114
       refine (z4b x.rep.no wa).mono ?_
       rintro e W7 ⟨rfl,hb7⟩
       exact hK.out _ _ (GT.mk (g:=(.eq (.agg #[.int .i64 1,.int .i64 x.rep.no,.string ⟨#[]⟩,.slice none 0 0]))) rfl rfl) hb7
     refine oc0 10 ?_
     refine z8g 67 143 (fun wa hs=>(hs.2.2.1.cell 2:wa.cell? ⟨g10,2,none⟩ = some (.int .i64 x.rep.mi))) ?_
     refine ocO (fun a wa ha hs hd K hK=>?_) ?_
     · have e0:=dpO hd 68 144
       go_simp
       go_at_call 114
       refine (z4b x.rep.mi wa).mono ?_
       rintro e W7 ⟨rfl,hb7⟩
       exact hK.out _ _ (GT.mk (g:=(.eq (.agg #[.int .i64 1,.int .i64 x.rep.mi,.string ⟨#[]⟩,.slice none 0 0]))) rfl rfl) hb7
     refine oc0 10 ?_
     refine z8g 70 146 (fun wa hs=>(hs.2.2.1.cell 3:wa.cell? ⟨g10,3,none⟩ = some (.int .i64 x.rep.ar))) ?_
     refine ocO (fun a wa ha hs hd K hK=>?_) ?_
     · have e0:=dpO hd 71 147
       go_simp
       go_at_call 114
       refine (z4b x.rep.ar wa).mono ?_
       rintro e W7 ⟨rfl,hb7⟩
       exact hK.out _ _ (GT.mk (g:=(.eq (.agg #[.int .i64 1,.int .i64 x.rep.ar,.string ⟨#[]⟩,.slice none 0 0]))) rfl rfl) hb7
     refine oc0 10 ?_
     refine z8g 73 149 (fun wa hs=>(hs.2.2.1.cell 4:wa.cell? ⟨g10,4,none⟩ = some (.string x.rep.cl))) ?_
     refine ocO (fun a wa ha hs hd K hK=>?_) ?_
     · have e0:=dpO hd 74 150
       go_simp
       go_at_call 115
       refine (y3e x.rep.cl wa).mono ?_
       rintro e W7 ⟨rfl,hb7⟩
       exact hK.out _ _ (GT.mk (g:=(.eq (.agg #[.int .i64 2,.int .i64 0,.string x.rep.cl,.slice none 0 0]))) rfl rfl) hb7
     refine oc0 10 ?_
     refine z8g 76 152 (fun wa hs=>(hs.2.2.1.cell 5:wa.cell? ⟨g10,5,none⟩ = some (.int .i64 x.rep.vo))) ?_
     refine ocO (fun a wa ha hs hd K hK=>?_) ?_
     · have e0:=dpO hd 77 153
       go_simp
       go_at_call 114
       refine (z4b x.rep.vo wa).mono ?_
       rintro e W7 ⟨rfl,hb7⟩
       exact hK.out _ _ (GT.mk (g:=(.eq (.agg #[.int .i64 1,.int .i64 x.rep.vo,.string ⟨#[]⟩,.slice none 0 0]))) rfl rfl) hb7
     refine ocO (fun a wa ha hs hd K hK=>?_) ?_
     · have e0:=dpO hd 63 139
       have e1:=dpO hd 66 142
       have e2:=dpO hd 69 145
       have e3:=dpO hd 72 148
       have e4:=dpO hd 75 151
       have e5:=dpO hd 78 154
       go_simp
       exact hK.out _ _ (GT.mk (g:=(.owns (z9j x.rep))) rfl (z9h (w:=wa) [iV x.rep.st,iV x.rep.no,iV x.rep.mi,iV x.rep.ar,tV x.rep.cl,iV x.rep.vo] [.slice none 0 0,.slice none 0 0,.slice none 0 0,.slice none 0 0,.slice none 0 0,.slice none 0 0] hs.2.2.2.2.size ⟨y2e.int _ _ x.rep.st Hi.out.rst,y2e.int _ _ x.rep.no Hi.out.rno,y2e.int _ _ x.rep.mi Hi.out.rmi,y2e.int _ _ x.rep.ar Hi.out.rar,y2e.txt _ _ x.rep.cl Hi.out.rcl,y2e.int _ _ x.rep.vo Hi.out.rvo,trivial⟩ (by simp;decide))) (z5b (w:=wa) (.cells (z7d [iV x.rep.st,iV x.rep.no,iV x.rep.mi,iV x.rep.ar,tV x.rep.cl,iV x.rep.vo] [.slice none 0 0,.slice none 0 0,.slice none 0 0,.slice none 0 0,.slice none 0 0,.slice none 0 0]).toArray 80))
     refine ocO (fun a wa ha hs hd K hK=>?_) ?_
     · obtain ⟨v0,e0,q0⟩:=hd 79 155 (by kernel_rfl) (by kernel_rfl)
       have q0:=GT.out (g:=(.owns (z9j x.rep))) rfl q0
       obtain ⟨oq,cq,rfl⟩:=z3j.shape q0
       go_simp
       go_at_call 52
       refine (z8f _ _ _ wa).mono ?_
       rintro e W7 ⟨rfl,hb7⟩
       exact hK.out _ _ (GT.mk (g:=(.val (lV (z9j x.rep)))) rfl ⟨_,rfl,j9j (z3j.ext q0 hb7)⟩) hb7
     refine oc0 1 ?_
     refine oc1 81 157 ?_
     refine z8g 82 158 (fun wa hs=>(hs.1.cell 23:wa.cell? ⟨w.heap.size,23,none⟩ = some (.int .i64 x.sts.st))) ?_
     refine ocO (fun a wa ha hs hd K hK=>?_) ?_
     · have e0:=dpO hd 83 159
       go_simp
       go_at_call 114
       refine (z4b x.sts.st wa).mono ?_
       rintro e W7 ⟨rfl,hb7⟩
       exact hK.out _ _ (GT.mk (g:=(.eq (.agg #[.int .i64 1,.int .i64 x.sts.st,.string ⟨#[]⟩,.slice none 0 0]))) rfl rfl) hb7
     refine oc0 1 ?_
     refine oc1 85 161 ?_
     refine z8g 86 162 (fun wa hs=>(hs.1.cell 24:wa.cell? ⟨w.heap.size,24,none⟩ = some (.int .i64 x.sts.frm))) ?_
     refine ocO (fun a wa ha hs hd K hK=>?_) ?_
     · have e0:=dpO hd 87 163
       go_simp
       go_at_call 114
       refine (z4b x.sts.frm wa).mono ?_
       rintro e W7 ⟨rfl,hb7⟩
       exact hK.out _ _ (GT.mk (g:=(.eq (.agg #[.int .i64 1,.int .i64 x.sts.frm,.string ⟨#[]⟩,.slice none 0 0]))) rfl rfl) hb7
     refine oc0 1 ?_
     refine oc1 89 165 ?_
     refine z8g 90 166 (fun wa hs=>(hs.1.cell 25:wa.cell? ⟨w.heap.size,25,none⟩ = some (.bool x.sts.wk))) ?_
     refine ocO (fun a wa ha hs hd K hK=>?_) ?_
     · have e0:=dpO hd 91 167
       go_simp
       go_at_call 113
       refine (y4e x.sts.wk wa).mono ?_
       rintro e W7 ⟨rfl,hb7⟩
       exact hK.out _ _ (GT.mk (g:=(.eq (.agg #[.int .i64 1,.int .i64 (if x.sts.wk then 1 else 0),.string ⟨#[]⟩,.slice none 0 0]))) rfl rfl) hb7
     refine ocO (fun a wa ha hs hd K hK=>?_) ?_
     · have e0:=dpO hd 84 160
       have e1:=dpO hd 88 164
       have e2:=dpO hd 92 168
       go_simp
       exact hK.out _ _ (GT.mk (g:=(.owns [iV x.sts.st,iV x.sts.frm,bV x.sts.wk])) rfl (z9h (w:=wa) [iV x.sts.st,iV x.sts.frm,bV x.sts.wk] [.slice none 0 0,.slice none 0 0,.slice none 0 0] hs.2.2.2.2.size ⟨y2e.int _ _ x.sts.st Hi.out.sst,y2e.int _ _ x.sts.frm Hi.out.sfr,y2e.int _ _ (if x.sts.wk then 1 else 0) (by unfold I64;split <;> omega),trivial⟩ (by simp;decide))) (z5b (w:=wa) (.cells (z7d [iV x.sts.st,iV x.sts.frm,bV x.sts.wk] [.slice none 0 0,.slice none 0 0,.slice none 0 0]).toArray 80))
     refine ocO (fun a wa ha hs hd K hK=>?_) ?_
     · obtain ⟨v0,e0,q0⟩:=hd 93 169 (by kernel_rfl) (by kernel_rfl)
       have q0:=GT.out (g:=(.owns [iV x.sts.st,iV x.sts.frm,bV x.sts.wk])) rfl q0
       obtain ⟨oq,cq,rfl⟩:=z3j.shape q0
       go_simp
       go_at_call 52
       refine (z8f _ _ _ wa).mono ?_
       rintro e W7 ⟨rfl,hb7⟩
       exact hK.out _ _ (GT.mk (g:=(.val (lV [iV x.sts.st,iV x.sts.frm,bV x.sts.wk]))) rfl ⟨_,rfl,j9j (z3j.ext q0 hb7)⟩) hb7
     refine oc0 1 ?_
     refine z8g 95 171 (fun wa hs=>(hs.1.cell 26:wa.cell? ⟨w.heap.size,26,none⟩ = some (.int .i64 x.n))) ?_
     refine ocO (fun a wa ha hs hd K hK=>?_) ?_
     · have e0:=dpO hd 96 172
       go_simp
       go_at_call 114
       refine (z4b x.n wa).mono ?_
       rintro e W7 ⟨rfl,hb7⟩
       exact hK.out _ _ (GT.mk (g:=(.eq (.agg #[.int .i64 1,.int .i64 x.n,.string ⟨#[]⟩,.slice none 0 0]))) rfl rfl) hb7
     refine oc0 1 ?_
     refine oc1 98 174 ?_
     refine z8g 99 175 (fun wa hs=>((by rw [← Hsv.out];exact hs.1.cell 27):wa.cell? ⟨w.heap.size,27,none⟩ = some ((.slice ov x.stn.vols.length cv)))) ?_
     refine ocO (fun a wa ha hs hd K hK=>?_) ?_
     · have e0:=dpO hd 100 176
       go_simp
       go_at_call 54
       refine (z0g x.stn.vols _ wa (HVs.out wa hs.2.2.2.2) Hi.out.vols Hl.out.vols).mono ?_
       rintro e W7 ⟨lv7,rfl,hO7,hb7⟩
       exact hK.out _ _ (GT.mk (g:=(.val (nsV x.stn.vols))) rfl ⟨lv7,rfl,x7s hO7 hs.2.2.2.2.size (fun j h=>h.elim)⟩) hb7
     refine oc0 1 ?_
     refine oc1 102 178 ?_
     refine z8g 103 179 (fun wa hs=>(hs.1.cell 28:wa.cell? ⟨w.heap.size,28,none⟩ = some (.int .i64 x.stn.sh))) ?_
     refine ocO (fun a wa ha hs hd K hK=>?_) ?_
     · have e0:=dpO hd 104 180
       go_simp
       go_at_call 114
       refine (z4b x.stn.sh wa).mono ?_
       rintro e W7 ⟨rfl,hb7⟩
       exact hK.out _ _ (GT.mk (g:=(.eq (.agg #[.int .i64 1,.int .i64 x.stn.sh,.string ⟨#[]⟩,.slice none 0 0]))) rfl rfl) hb7
     refine oc0 1 ?_
     refine oc1 106 182 ?_
     refine z8g 107 183 (fun wa hs=>(hs.1.cell 29:wa.cell? ⟨w.heap.size,29,none⟩ = some (.int .i64 x.stn.fa))) ?_
     refine ocO (fun a wa ha hs hd K hK=>?_) ?_
     · have e0:=dpO hd 108 184
       go_simp
       go_at_call 114
       refine (z4b x.stn.fa wa).mono ?_
       rintro e W7 ⟨rfl,hb7⟩
       exact hK.out _ _ (GT.mk (g:=(.eq (.agg #[.int .i64 1,.int .i64 x.stn.fa,.string ⟨#[]⟩,.slice none 0 0]))) rfl rfl) hb7
     refine ocO (fun a wa ha hs hd K hK=>?_) ?_
     · obtain ⟨v0,e0,q0⟩:=hd 101 177 (by kernel_rfl) (by kernel_rfl)
       have q0:=GT.out (g:=(.val (nsV x.stn.vols))) rfl q0
       obtain ⟨lx0,rfl,hn0⟩:=q0
       have e1:=dpO hd 105 181
       have e2:=dpO hd 109 185
       go_simp
       exact hK.out _ _ (GT.mk (g:=(.owns [nsV x.stn.vols,iV x.stn.sh,iV x.stn.fa])) rfl (z9h (w:=wa) [nsV x.stn.vols,iV x.stn.sh,iV x.stn.fa] [lx0,.slice none 0 0,.slice none 0 0] hs.2.2.2.2.size ⟨hn0,y2e.int _ _ x.stn.sh Hi.out.sh,y2e.int _ _ x.stn.fa Hi.out.fa,trivial⟩ (by simp;decide))) (z5b (w:=wa) (.cells (z7d [nsV x.stn.vols,iV x.stn.sh,iV x.stn.fa] [lx0,.slice none 0 0,.slice none 0 0]).toArray 80))
     refine ocO (fun a wa ha hs hd K hK=>?_) ?_
     · obtain ⟨v0,e0,q0⟩:=hd 110 186 (by kernel_rfl) (by kernel_rfl)
       have q0:=GT.out (g:=(.owns [nsV x.stn.vols,iV x.stn.sh,iV x.stn.fa])) rfl q0
       obtain ⟨oq,cq,rfl⟩:=z3j.shape q0
       go_simp
       go_at_call 52
       refine (z8f _ _ _ wa).mono ?_
       rintro e W7 ⟨rfl,hb7⟩
       exact hK.out _ _ (GT.mk (g:=(.val (lV [nsV x.stn.vols,iV x.stn.sh,iV x.stn.fa]))) rfl ⟨_,rfl,j9j (z3j.ext q0 hb7)⟩) hb7
     refine ocO (fun a wa ha hs hd K hK=>?_) ?_
     · obtain ⟨v0,e0,q0⟩:=hd 10 86 (by kernel_rfl) (by kernel_rfl)
       have q0:=GT.out (g:=(.val (lV [iV x.mi,iV x.ce,iV x.no]))) rfl q0
       obtain ⟨lx0,rfl,hn0⟩:=q0
       have e1:=dpO hd 13 89
       have e2:=dpO hd 16 92
       obtain ⟨v3,e3,q3⟩:=hd 44 120 (by kernel_rfl) (by kernel_rfl)
       have q3:=GT.out (g:=(.val (lV (z7z x.flt)))) rfl q3
       obtain ⟨lx3,rfl,hn3⟩:=q3
       obtain ⟨v4,e4,q4⟩:=hd 46 122 (by kernel_rfl) (by kernel_rfl)
       have q4:=GT.out (g:=(.val (lV (x.tree.map z8j)))) rfl q4
       obtain ⟨lx4,rfl,hn4⟩:=q4
       obtain ⟨v5,e5,q5⟩:=hd 60 136 (by kernel_rfl) (by kernel_rfl)
       have q5:=GT.out (g:=(.val (lV [iV x.chg.frm,iV x.chg.cfg,nsV x.chg.modes]))) rfl q5
       obtain ⟨lx5,rfl,hn5⟩:=q5
       obtain ⟨v6,e6,q6⟩:=hd 80 156 (by kernel_rfl) (by kernel_rfl)
       have q6:=GT.out (g:=(.val (lV (z9j x.rep)))) rfl q6
       obtain ⟨lx6,rfl,hn6⟩:=q6
       obtain ⟨v7,e7,q7⟩:=hd 94 170 (by kernel_rfl) (by kernel_rfl)
       have q7:=GT.out (g:=(.val (lV [iV x.sts.st,iV x.sts.frm,bV x.sts.wk]))) rfl q7
       obtain ⟨lx7,rfl,hn7⟩:=q7
       have e8:=dpO hd 97 173
       obtain ⟨v9,e9,q9⟩:=hd 111 187 (by kernel_rfl) (by kernel_rfl)
       have q9:=GT.out (g:=(.val (lV [nsV x.stn.vols,iV x.stn.sh,iV x.stn.fa]))) rfl q9
       obtain ⟨lx9,rfl,hn9⟩:=q9
       go_simp
       exact hK.out _ _ (GT.mk (g:=(.owns (z5e x))) rfl (z9h (w:=wa) [lV [iV x.mi,iV x.ce,iV x.no],iV x.kind,tV x.text,lV (z7z x.flt),lV (x.tree.map z8j),lV [iV x.chg.frm,iV x.chg.cfg,nsV x.chg.modes],lV (z9j x.rep),lV [iV x.sts.st,iV x.sts.frm,bV x.sts.wk],iV x.n,lV [nsV x.stn.vols,iV x.stn.sh,iV x.stn.fa]] [lx0,.slice none 0 0,.slice none 0 0,lx3,lx4,lx5,lx6,lx7,.slice none 0 0,lx9] hs.2.2.2.2.size ⟨hn0,y2e.int _ _ x.kind Hi.out.kind,y2e.txt _ _ x.text Hi.out.text,hn3,hn4,hn5,hn6,hn7,y2e.int _ _ x.n Hi.out.n,hn9,trivial⟩ (by simp;decide))) (z5b (w:=wa) (.cells (z7d [lV [iV x.mi,iV x.ce,iV x.no],iV x.kind,tV x.text,lV (z7z x.flt),lV (x.tree.map z8j),lV [iV x.chg.frm,iV x.chg.cfg,nsV x.chg.modes],lV (z9j x.rep),lV [iV x.sts.st,iV x.sts.frm,bV x.sts.wk],iV x.n,lV [nsV x.stn.vols,iV x.stn.sh,iV x.stn.fa]] [lx0,.slice none 0 0,.slice none 0 0,lx3,lx4,lx5,lx6,lx7,.slice none 0 0,lx9]).toArray 80))
     exact trivial
   · intro a w1' ha hdf hsz hs1 hg
     obtain ⟨v,e188,q⟩:=hg 112 188 (by kernel_rfl)
     have hOF:=GT.out (g:=(.owns (z5e x))) rfl q
     have HB9:=hd_ hs1.2.2.2.2;have HOF:=hd_ hOF
     have hs2:2 < a.tmps.size:=by rw [hsz,← Nat.blt_eq];kernel_rfl
     obtain ⟨h188,e9⟩:=Array.getElem?_eq_some_iff.1 e188
     clear hg q hs1 ha hOF
     refine rdL 113 fun K hK=>?_
     go_simp
     refine hK.out _ _ (fun h=>absurd h (by decide)) (fun _=>?_)
     clear hK K
     refine z6b (by kernel_rfl) ?_ _
     go_wp2_with fail
     refine bodyPost_ret (v:=v) ((results_tmp rfl _ _ _).trans (by simp [hs2])) rfl ?_
     exact ⟨v,rfl,HOF.out,HB9.out⟩
end Go.Proofs.YtdblnbnofjggnaaGreatDoor
