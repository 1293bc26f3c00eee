/- Parts of the proofs of chapter 49's laws. -/
import Derived.Test.YtdblnbnofjggnaaGreatDoorP38
import Derived.Test.YtdblnbnofjggnaaGreatDoorP39
import Derived.Test.YtdblnbnofjggnaaGreatDoorP18
import Derived.Test.YtdblnbnofjggnaaGreatDoorP33
import Derived.Test.YtdblnbnofjggnaaGreatDoorP23
set_option maxHeartbeats 8000000
set_option maxRecDepth 100000
open Go.Lib renaming hid → hd_
open List renaming setIfInBounds_toArray → aS, set_cons_zero → aZ, set_cons_succ → aU
open Go.Value renaming int → X, slice → I, string → R, agg → U
open Go.IntKind renaming i64 → Z
open Go.Obj renaming cells → J
open Go.Ending renaming returned → Y
open Go renaming World → M, Value → F, Calls → O
open Go.RowKit renaming Below → Q, Hid → G
set_option linter.all false
namespace Go.Proofs.YtdblnbnofjggnaaGreatDoor
open Go.Proofs.Tryz
open Go.RowKit
theorem y2s {B:Nat} {w:M} {lv:Value} {xs:List V} (h:z1j (fun _=>False) B w lv xs):RdV w.heap.size w (lV xs) (U (lvC lv).toArray):=(z1j.rd h).rd (fun _ hk=>hk.2)
theorem k0a (y:V) (hck:ck y=0) (hz:sz y≤60000) (v:F) (w:M) (hr:RdV w.heap.size w y v):O prog 37 #[v] w fun e w'=>∃ u,e=Y (.tuple #[u,X Z 0])∧z6c w'.heap.size w' (enc y) u∧Q w.heap.size w w':=by
 refine (x4s y hz v w hr).mono ?_
 rintro e w' ⟨u,rfl,h,hb⟩
 rw [hck] at h ⊢
 exact ⟨u,rfl,RdB.bts h,hb⟩
def ZDg:Obj:=.cells (z8a (List.replicate 32 0)).toArray 165
def v9g (x:Inp) (w:M) (e:Ending) (w':M):Prop:=∃ v,e=Y v∧z6c w'.heap.size w' (y7b v5a (y1n x)) v∧Q w.heap.size w w'
theorem z2w (x:Inp) (s:Slc) (w:M) (hx:InpR w x s) (hi:InpI x) (hl:InpL x) (hz:sz (lV (z6e x))≤60000) (hL:Laid w):O prog 68 #[x.v s] w (v9g x w):=by
 have HL:=hd_ hL
 clear hL
 have HI:G (CB (w.alloc (bI x s)) w.heap.size 41 (x.cells s)):=z3a w (bI x s) _ _ rfl
 have HB:=hd_ (z4b (w:=w) (bI x s));have aY:=hd_ hx;have Hi:=hd_ hi;have Hl:=hd_ hl;have Hz:=hd_ hz
 clear hx hi hl hz
 change O prog 68 #[U (x.cells s).toArray] w _
 go_enter func68,ntmps68
 go_upto_region 1 with fail
 change Code.wp _ _ _ _ (w.alloc (bI x s))
 generalize w.alloc (bI x s)=w0 at *
 go_wp2_with (first
  | (have _g:=HI.out;refine lcs 41 (.tmp 1) rfl w.heap.size (x.cells s) rfl HI.out underlying41 ?_;clear _g)
  | (go_at_call 35;refine (y0c x s _ (aY.out.ext HB.out) Hi.out Hl.out).mono ?_;(rintro e w2 ⟨lv,rfl,hO,aj⟩;obtain ⟨ol,cl,rfl⟩:=hO.shape;have dm:=hd_ (y2s hO);have au:=hd_ (z0a HB.out aj);clear hO aj))
  | (go_at_call 37;refine (k0a (lV (z8e x)) (k9e x) (Nat.le_trans (j0i x) Hz.out) _ _ dm.out).mono ?_;(rintro e w3 ⟨u,rfl,hu,aB⟩;obtain ⟨ou,cu,rfl⟩:=hu.shape;have HU3:=hd_ hu;have aA:=hd_ (z0a au.out aB);clear hu aB))
  | (go_at_call 133;refine (y1m ⟨#[105,110,112,117,116]⟩ _ (y1n x) _ (by decide) (by have:=x3w x Hz.out;omega) HU3.out (HL.out.ext aA.out)).mono ?_;(rintro e w4 ⟨rfl,cO⟩;have cH:=hd_ (z0a aA.out cO);have kX:G ((w4.alloc ZDg).heap[w4.heap.size]? = some (J (z8a (List.replicate 32 0)).toArray 165 (0,0))):=z3a w4 ZDg _ _ rfl;clear cO))
  | (refine z9n (hgd:=rfl) 165 (.tmp 5) (.tmp 13) rfl w4.heap.size (y7b v5a (y1n x)) (z4t _ _) rfl rfl 165 _ kX.out rfl y1w ?_;intro w5 jJ eh mD))
 go_ret
 exact ⟨_,rfl,j6b jJ.out (z4t _ _),(z0a cH.out (z4b (w:=w4) ZDg)).grown eh.out (z0a cH.out (z4b (w:=w4) ZDg)).size (fun q e=>by injection e with e;have:=cH.out.size;omega)⟩
def k3m (x:Inp) (w:M) (e:Ending) (w':M):Prop:=∃ u,e=Y (.tuple #[u,X Z (if okI x then 0 else 490)])∧z6c w'.heap.size w' (if okI x then z4o x else []) u∧Q w.heap.size w w'
theorem v5e (w:M):z6c w.heap.size w [] (I none 0 0):=.inl ⟨rfl,none,0,rfl,Nat.zero_le _⟩
structure Skip (B g:Nat) (w:M) (lv:F) (xs:List V):Prop where
 own:x0e 80 (fun k=>B≤k∧k≠g∧k<w.heap.size∧some k≠lv.ownBlock) w B lv xs
theorem Skip.ext {B g:Nat} {w w':M} {lv:Value} {xs:List V} (h:Skip B g w lv xs) (hb:Q w.heap.size w w'):Skip B g w' lv xs :=
 ⟨(x0e.kept h.own (z9a hb) (by cases ho:lv.ownBlock <;> simp) (fun k _ e=>by cases e) (fun k hk=>hk.2.2.1)).mono (fun k hk=>⟨hk.1,hk.2.1,Nat.lt_of_lt_of_le hk.2.2.1 hb.size,hk.2.2.2⟩) (fun k hk=>hk.2.2.2)⟩
theorem Skip.of {B:Nat} {w w':M} {lv:Value} {xs:List V} (h:z1j (fun _=>False) B w lv xs) (hb:Q w.heap.size w w'):Skip B w.heap.size w' lv xs :=
 ⟨(x0e.kept h.1 (z9a hb) (by cases ho:lv.ownBlock <;> simp) (fun k _ e=>by cases e) (fun k hk=>hk.2.1)).mono (fun k hk=>⟨hk.1.resolve_left id,by have:=hk.2.1;omega,Nat.lt_of_lt_of_le hk.2.1 hb.size,hk.2.2⟩) (fun k hk=>hk.2.2.2)⟩
theorem z6n (x:Inp) (s:Slc) (w:M) (hx:InpR w x s) (hi:InpI x) (hl:InpL x) (hz:sz (lV (z6e x))≤60000):O prog 14 #[x.v s] w (k3m x w):=by
 obtain ⟨b,aW⟩:∃ b,okI x=b:=⟨_,rfl⟩
 have dc:=hd_ aW
 clear aW
 have HI:G (CB (w.alloc (bI x s)) w.heap.size 41 (x.cells s)):=z3a w (bI x s) _ _ rfl
 have HB:=hd_ (z4b (w:=w) (bI x s));have aY:=hd_ hx;have Hi:=hd_ hi;have Hl:=hd_ hl;have Hz:=hd_ hz
 clear hx hi hl hz
 change O prog 14 #[U (x.cells s).toArray] w _
 go_enter func14,ntmps14
 go_upto_region 1 with fail
 change Code.wp _ _ _ _ (w.alloc (bI x s))
 generalize w.alloc (bI x s)=w0 at *
 have gc:G (∀ w1,Q w.heap.size w w1→O prog 13 #[U (x.cells s).toArray] w1 fun e w2=>e=Y (X Z (if b then 0 else 490))∧Q w1.heap.size w1 w2):=fun w1 hb=>(z5m x s w1 (aY.out.ext hb) Hi.out.text Hi.out.flt.call Hi.out.rcl).mono fun e w2 h=>⟨by rw [← dc.out];exact h.1,h.2⟩
 cases b
 case false =>
  have gj:G (∀ w1,Q w.heap.size w w1→O prog 13 #[U (x.cells s).toArray] w1 fun e w2=>e=Y (X Z 490)∧Q w1.heap.size w1 w2):=gc.out
  clear gc
  go_wp2_with (first
   | (have _g:=HI.out;refine lcs 41 (.tmp 1) rfl w.heap.size (x.cells s) rfl HI.out underlying41 ?_;clear _g)
   | (go_at_call 13;refine (gj.out _ HB.out).mono ?_;(rintro e w1 ⟨rfl,af⟩;have aG:=hd_ (z0a HB.out af);clear af)))
  go_ret2
  exact ⟨_,by rw [dc.out];rfl,by rw [dc.out];exact v5e _,aG.out⟩
 case true =>
  have gj:G (∀ w1,Q w.heap.size w w1→O prog 13 #[U (x.cells s).toArray] w1 fun e w2=>e=Y (X Z 0)∧Q w1.heap.size w1 w2):=gc.out
  clear gc
  go_upto_region 4 with (first
   | (have _g:=HI.out;refine lcs 41 (.tmp 1) rfl w.heap.size (x.cells s) rfl HI.out underlying41 ?_;clear _g)
   | (go_at_call 13;refine (gj.out _ HB.out).mono ?_;(rintro e w1 ⟨rfl,af⟩;have aG:=hd_ (z0a HB.out af);have dJ:=hd_ (HI.out.ext af);clear af)))
  clear HB HI
  have HI:=dJ
  go_upto_region 5 with (first
   | (have _g:=HI.out;refine lcs 41 (.tmp 1) rfl w.heap.size (x.cells s) rfl HI.out underlying41 ?_;clear _g)
   | (go_at_call 35;refine (y0c x s _ (aY.out.ext aG.out) Hi.out Hl.out).mono ?_;(rintro e w2 ⟨lv,rfl,hO,aj⟩;obtain ⟨ol,cl,rfl⟩:=hO.shape;have HO:=hd_ hO;have au:=hd_ (z0a aG.out aj);have mY:=hd_ (dJ.out.ext aj);have HW12:G (w1.heap.size≤w2.heap.size):=aj.size;have H5z:G (CB (w2.alloc Z4) w2.heap.size 80 Z4c):=z3a w2 Z4 _ _ rfl;have HLv:=hd_ (z4q (.slice ol (z8e x).length cl) rfl);clear hO aj))
   | (have _g:=HLv.out;refine scs 80 (.tmp 5) (.tmp 12) rfl w2.heap.size (lvC (.slice ol (z8e x).length cl)) rfl rfl H5z.out HLv.out (fun w4 H5 jP kX=>?_);clear HLv))
  have gP:Q w2.heap.size w2 w4:=(z4b (w:=w2) Z4).grown jP.out (by simp) (fun q e=>by injection e with e;omega)
  have HV:=hd_ (Skip.of HO.out gP);have HB:=hd_ (z0a au.out gP);replace HI:=hd_ (mY.out.ext gP)
  have mO:G (∀ g,((.slice ol (z8e x).length cl):F).ownBlock=some g→g<w2.heap.size):=fun g e=>(HO.out.own g e).2
  have mZ:G (∀ g,((.slice ol (z8e x).length cl):F).ownBlock=some g→w1.heap.size≤g):=fun g e=>(HO.out.own g e).1
  have HwB:G (w.heap.size<w1.heap.size):=dJ.out.lt
  clear dJ mY aG au H5z jP kX gP HO
  have HBg:G (w1.heap.size≤w2.heap.size):=HW12
  clear HW12
  generalize w1.heap.size=B5 at *
  generalize w2.heap.size=g5 at *
  refine z7a (S:=fun w'=>CB w' g5 80 (lvC (.slice ol (z8e x).length cl))∧CB w' w.heap.size 41 (x.cells s)) (late:=fun j=>j == 15) (by kernel_rfl) ⟨H5.out.ext (Below.refl w4.heap.size w4).drew,HI.out.ext (Below.refl w4.heap.size w4).drew⟩ (fun hHeld=>?_)
  have aQ:=(Below.refl w4.heap.size w4).drew
  replace H5:=hd_ (H5.out.ext aQ);replace HI:=hd_ (HI.out.ext aQ);replace HB:=hd_ (z0a HB.out aQ);replace HV:=hd_ (HV.out.ext aQ)
  clear aQ
  generalize w4.drew=W4 at *
  refine tkL 13 0 ?_
  refine tkL 14 1 ?_ (hy:=fun wS aa=>by have e1:=aa.1.cv 3 (.slice ol (z8e x).length cl);go_simp;first|done|with_reducible rfl)
  refine tkL 15 2 ?_
  refine tkL 16 3 ?_
  refine tkL 17 4 ?_ (hy:=fun wS aa=>by have e1:=aa.2.cv 30 (X Z x.sr);go_simp;first|done|with_reducible rfl)
  refine tkL 18 5 ?_
  refine tkL 19 6 ?_
  refine tkL 20 7 ?_
  refine tkL 21 8 ?_ (hy:=fun wS aa=>by have e1:=aa.2.cv 31 (X Z x.ss);go_simp;first|done|with_reducible rfl)
  refine tkL 22 9 ?_
  refine rdL 10 fun K hK=>?_
  go_simp
  have hz:Q W4.heap.size W4 (W4.alloc (J (([.num x.sr,.num x.ss]:List It).map It.v).toArray 20)):=z4b _
  have oh:G (z3r (fun _=>False) (W4.alloc (J (([.num x.sr,.num x.ss]:List It).map It.v).toArray 20)) [.num x.sr,.num x.ss] (I (some ⟨W4.heap.size,0,none⟩) 2 2)):=hd_ (z8m (fun _=>False) W4 [.num x.sr,.num x.ss] (fun t ht=>by simp only [List.mem_cons,List.not_mem_nil,or_false] at ht;rcases ht with rfl|rfl <;> first|exact Hi.out.sr|exact Hi.out.ss))
  change K _ (W4.alloc (J (([.num x.sr,.num x.ss]:List It).map It.v).toArray 20))
  replace H5:=hd_ (H5.out.ext hz);replace HI:=hd_ (HI.out.ext hz);replace HB:=hd_ (z0a HB.out hz);replace HV:=hd_ (HV.out.ext hz)
  clear hz
  generalize W4.alloc (J (([.num x.sr,.num x.ss]:List It).map It.v).toArray 20)=W5 at *
  refine z4n hK ⟨H5.out,HI.out⟩ fun hHeld=>?_
  clear hK K
  refine rdL 11 fun K hK=>?_
  go_simp
  go_at_call 36
  refine (z6j [.num x.sr,.num x.ss] _ (fun _=>False) W5 (by simp) oh.out (fun j h=>h.elim)).mono ?_
  rintro e W7 ⟨dY,rfl,cI,ag⟩
  obtain ⟨o7,c7,rfl⟩:=cI.shape
  have iA:=hd_ cI
  have HG5:G (g5<W5.heap.size):=H5.out.lt
  have H57:G (W5.heap.size≤W7.heap.size):=ag.size
  replace H5:=hd_ (H5.out.ext ag);replace HI:=hd_ (HI.out.ext ag);replace HB:=hd_ (z0a HB.out ag);replace HV:=hd_ (HV.out.ext ag)
  clear cI ag
  refine z4n hK ⟨H5.out,HI.out⟩ fun hHeld=>?_
  clear hK K
  refine rdL 12 fun K hK=>?_
  go_simp
  have aF:G (CB (W7.alloc (J [X Z 3,X Z 0,R ⟨#[]⟩,I o7 2 c7].toArray 80)) W7.heap.size 80 [X Z 3,X Z 0,R ⟨#[]⟩,I o7 2 c7]):=z3a W7 _ _ _ rfl
  have hz:Q W7.heap.size W7 (W7.alloc (J [X Z 3,X Z 0,R ⟨#[]⟩,I o7 2 c7].toArray 80)):=z4b _
  have fO:G (z0z (fun k=>B5≤k∧k≠g5∧k<(W7.alloc (J [X Z 3,X Z 0,R ⟨#[]⟩,I o7 2 c7].toArray 80)).heap.size∧some k≠((.slice ol (z8e x).length cl):F).ownBlock) (W7.alloc (J [X Z 3,X Z 0,R ⟨#[]⟩,I o7 2 c7].toArray 80)) (lV [iV x.sr,iV x.ss]) (I o7 2 c7)):=z0z.keep (D:=fun j=>(False∨W5.heap.size≤j)∧j<W7.heap.size) (w:=W7) ⟨by show I64 3;unfold I64;omega,by show I64 0;unfold I64;omega,by show (0:Nat)≤_;unfold maxLen;decide,iA.out.sl⟩ (fun k hk=>⟨by have:=HG5.out;have:=HBg.out;have:=hk.1.resolve_left id;omega,by have:=HG5.out;have:=hk.1.resolve_left id;omega,by have:=hk.2;rw [World.size_alloc];omega,fun e=>by have:=mO.out k e.symm;have:=HG5.out;have:=hk.1.resolve_left id;omega⟩) (fun k hk=>Below.heap_alloc W7 _ k hk.2)
  change K _ (W7.alloc (J [X Z 3,X Z 0,R ⟨#[]⟩,I o7 2 c7].toArray 80))
  replace H5:=hd_ (H5.out.ext hz);replace HI:=hd_ (HI.out.ext hz);replace HB:=hd_ (z0a HB.out hz);replace HV:=hd_ (HV.out.ext hz)
  clear hz iA
  generalize W7.alloc (J [X Z 3,X Z 0,R ⟨#[]⟩,I o7 2 c7].toArray 80)=W8 at *
  generalize W7.heap.size=gk at *
  refine z4n hK ⟨H5.out,HI.out⟩ fun hHeld=>?_
  clear hK K
  refine rdL 13 fun K hK=>?_
  refine z8p (e:=80) (z:=U #[X Z 0,X Z 0,R ⟨#[]⟩,I none 0 0]) (bytes:=56) underlying78 z8j rfl (by decide) rfl (.tmp 14) (.tmp 25) rfl (fun k=>B5≤k∧k≠g5∧k<W8.heap.size∧some k≠((.slice ol (z8e x).length cl):F).ownBlock) B5 (.slice ol (z8e x).length cl) (z8e x) rfl ?q1 gk (lV [iV x.sr,iV x.ss]) (I o7 2 c7) rfl fO.out rfl ?q3 ?q4 ?q5 ?q6 ?_
  case q1=>exact HV.out.own
  case q3=>(refine ⟨?_,?_,?_,?_⟩ <;> first|exact aF.out.cell 0|exact aF.out.cell 1|exact aF.out.cell 2|exact aF.out.cell 3)
  case q4=>(show (10:Nat)≤1000000;decide)
  case q5=>exact Nat.le_trans HBg.out (Nat.le_of_lt H5.out.lt)
  case q6=>exact fun k hk=>hk.2.2.1
  intro lv9 w9 jh ay eM
  obtain ⟨o9,c9,rfl⟩:=jh.shape
  generalize hxl:(z8e x++[lV [iV x.sr,iV x.ss]]).length=n9 at *
  clear hxl
  have H59:=hd_ (H5.out.keep (ay.block _ H5.out.lt (fun e=>by have:=mO.out _ e.symm;omega)))
  have eQ:=hd_ (HI.out.keep (ay.block _ HI.out.lt (fun e=>by have:=mZ.out _ e.symm;have:=HwB.out;omega)))
  have dx:=hd_ (HB.out.grown ay HB.out.size (fun q e=>by have:=mZ.out q e;have:=HwB.out;omega))
  have Hn9:G ((I o9 n9 c9).ownBlock≠some g5):=fun e=>by
   rcases eM with hn|hn
   ·have:=mO.out _ (hn ▸ e);omega
   ·have:=hn _ e;have:=H5.out.lt;omega
  have fF:=hd_ jh
  have HW89:G (W8.heap.size≤w9.heap.size):=ay.size
  have y3:=H59.out.cv 3 ((.slice ol (z8e x).length cl):F)
  have yf:=H59.out.frozen 3
  clear jh ay eM aF fO HV H5 HI HB
  refine hK.out (Act.put _ (some 26) _) w9 (fun _=>⟨H59.out,eQ.out⟩) (fun ae=>?_)
  clear hK K
  have hHeld:=ae (by rfl)
  clear ae
  try simp only [Act.put,aS,aZ,aU]
  refine tkL 27 14 ?_
  refine rdL 15 fun K hK=>?_
  go_simp
  refine hK.out _ _ (fun h=>absurd h (by decide)) (fun ae=>?_)
  clear hK K
  try simp only [Act.put,aS,aZ,aU]
  refine z3b (by kernel_rfl) ?_ _
  have eD:G (RdV (w9.setCell ⟨g5,3,none⟩ (I o9 n9 c9)).heap.size (w9.setCell ⟨g5,3,none⟩ (I o9 n9 c9)) (lV (z6e x)) (U (lvC (I o9 n9 c9)).toArray)):=by
   have hs:y5j (fun k=>k≠g5∧k<w9.heap.size) w9 (z8e x++[lV [iV x.sr,iV x.ss]]) (I o9 n9 c9):=x0e.sl fF.out (fun k hk=>⟨hk.2.1,Nat.lt_of_lt_of_le hk.2.2.1 HW89.out⟩) (fun g hg=>⟨fun e=>Hn9.out (e ▸ hg),(x0e.own_lt fF.out g hg).2⟩)
   have jX:=hs.keep (w':=w9.setCell ⟨g5,3,none⟩ (I o9 n9 c9)) (D':=fun k=>k<w9.heap.size) (fun k hk=>hk.2) (fun k hk=>Below.heap_setCell w9 _ _ k hk.1)
   exact ⟨by show I64 3;unfold I64;omega,by show I64 0;unfold I64;omega,by show (0:Nat)≤_;unfold maxLen;decide,_,rfl,jX.sl (fun k hk=>by simpa [World.setCell] using hk)⟩
  have dF:G (CB (w9.setCell ⟨g5,3,none⟩ (I o9 n9 c9)) g5 80 (lvC (I o9 n9 c9))):=H59.out.set 3 _
  have HB10:G (Q w.heap.size w (w9.setCell ⟨g5,3,none⟩ (I o9 n9 c9))):=dx.out.grown (z6b w9 g5 3 _) dx.out.size (fun q e=>by injection e with e;have:=HBg.out;have:=HwB.out;omega)
  clear fF H59 eQ dx y3 yf Hn9
  generalize w9.setCell ⟨g5,3,none⟩ (I o9 n9 c9)=w10 at *
  go_wp2_with (first
   | (have _g:=dF.out;refine lcs 80 (.tmp 5) rfl g5 _ rfl dF.out underlying80 ?_;clear dF)
   | (go_at_call 37;refine (k0a (lV (z6e x)) (y5a x) Hz.out _ _ eD.out).mono ?_;(rintro e w11 ⟨u,rfl,hu,dz⟩;have HU:=hd_ hu;have HB11:=hd_ (z0a HB10.out dz);clear hu dz)))
  go_ret2
  exact ⟨u,by rw [dc.out];rfl,by rw [dc.out];exact HU.out,HB11.out⟩
theorem j3l (y:V) (hck:ck y=0) (hz:sz y≤60000) (v:F) (w:M) (hr:RdV w.heap.size w y v):O prog 51 #[v] w fun e w'=>∃ u,e=Y (.tuple #[u,X Z 0])∧z6c w'.heap.size w' (enc y) u∧Q w.heap.size w w':=by
 refine (x5g y hz v w hr).mono ?_
 rintro e w' ⟨u,rfl,h,hb⟩
 rw [hck] at h ⊢
 exact ⟨u,rfl,RdB.bts h,hb⟩
theorem z9q (x:Inp) (s:Slc) (w:M) (hx:InpR w x s) (hi:InpI x) (hl:InpL x) (hz:sz (lV (z6e x))≤60000):O prog 20 #[x.v s] w (k3m x w):=by
 obtain ⟨b,aW⟩:∃ b,okI x=b:=⟨_,rfl⟩
 have dc:=hd_ aW
 clear aW
 have HI:G (CB (w.alloc (bI x s)) w.heap.size 41 (x.cells s)):=z3a w (bI x s) _ _ rfl
 have HB:=hd_ (z4b (w:=w) (bI x s));have aY:=hd_ hx;have Hi:=hd_ hi;have Hl:=hd_ hl;have Hz:=hd_ hz
 clear hx hi hl hz
 change O prog 20 #[U (x.cells s).toArray] w _
 go_enter func20,ntmps20
 go_upto_region 1 with fail
 change Code.wp _ _ _ _ (w.alloc (bI x s))
 generalize w.alloc (bI x s)=w0 at *
 have gc:G (∀ w1,Q w.heap.size w w1→O prog 17 #[U (x.cells s).toArray] w1 fun e w2=>e=Y (X Z (if b then 0 else 490))∧Q w1.heap.size w1 w2):=fun w1 hb=>(x1b x s w1 (aY.out.ext hb) Hi.out.text Hi.out.flt.call Hi.out.rcl).mono fun e w2 h=>⟨by rw [← dc.out];exact h.1,h.2⟩
 cases b
 case false =>
  have gj:G (∀ w1,Q w.heap.size w w1→O prog 17 #[U (x.cells s).toArray] w1 fun e w2=>e=Y (X Z 490)∧Q w1.heap.size w1 w2):=gc.out
  clear gc
  go_wp2_with (first
   | (have _g:=HI.out;refine lcs 41 (.tmp 1) rfl w.heap.size (x.cells s) rfl HI.out underlying41 ?_;clear _g)
   | (go_at_call 17;refine (gj.out _ HB.out).mono ?_;(rintro e w1 ⟨rfl,af⟩;have aG:=hd_ (z0a HB.out af);clear af)))
  go_ret2
  exact ⟨_,by rw [dc.out];rfl,by rw [dc.out];exact v5e _,aG.out⟩
 case true =>
  have gj:G (∀ w1,Q w.heap.size w w1→O prog 17 #[U (x.cells s).toArray] w1 fun e w2=>e=Y (X Z 0)∧Q w1.heap.size w1 w2):=gc.out
  clear gc
  go_upto_region 4 with (first
   | (have _g:=HI.out;refine lcs 41 (.tmp 1) rfl w.heap.size (x.cells s) rfl HI.out underlying41 ?_;clear _g)
   | (go_at_call 17;refine (gj.out _ HB.out).mono ?_;(rintro e w1 ⟨rfl,af⟩;have aG:=hd_ (z0a HB.out af);have dJ:=hd_ (HI.out.ext af);clear af)))
  clear HB HI
  have HB:=aG;have HI:=dJ
  clear aG dJ
  refine z7a (S:=fun w'=>CB w' w.heap.size 41 (x.cells s)) (late:=fun _=>false) (by kernel_rfl) (HI.out.ext (Below.refl w1.heap.size w1).drew) (fun hHeld=>?_)
  have aQ:=(Below.refl w1.heap.size w1).drew
  replace HI:=hd_ (HI.out.ext aQ);replace HB:=hd_ (z0a HB.out aQ)
  clear aQ
  generalize w1.drew=W1 at *
  refine z2x 10 0 rfl (U (x.cells s).toArray) (yieldsIf_load_mid (by rfl) 41 _ rfl w.heap.size 0 rfl (x.cells s) _ (fun wS aa=>z3h aa) underlying41 rfl (by kernel_rfl)) ?_
  refine tkL 12 2 ?_
  refine tkL 13 3 ?_
  refine tkL 14 4 ?_ (hy:=fun wS aa=>by have e1:=aa.cv 30 (X Z x.sr);go_simp;first|done|with_reducible rfl)
  refine tkL 15 5 ?_
  refine tkL 16 6 ?_
  refine tkL 17 7 ?_ (hy:=fun wS aa=>by have e1:=aa.cv 31 (X Z x.ss);go_simp;first|done|with_reducible rfl)
  refine y5b (rs:=[1,8]) (by kernel_rfl) (by simp) ?_
  refine z3x.cons rfl (fun K hK=>?_) (z3x.cons rfl (fun K hK=>?_) z3x.nil)
  ·have HwD:G (w.heap.size<W1.heap.size):=HI.out.lt
   go_simp
   go_at_call 53
   refine (z4y x s W1 (aY.out.ext HB.out) Hi.out Hl.out).mono ?_
   rintro e W2 ⟨lv,rfl,hO,aj⟩
   obtain ⟨ol,cl,rfl⟩:=hO.shape
   have HWa:=hd_ aj.size
   have HO:=hd_ hO;replace HI:=hd_ (HI.out.ext aj);replace HB:=hd_ (z0a HB.out aj)
   clear hO aj
   refine z4n hK HI.out fun hHeld=>?_
   clear hK K
   refine rdL 8 fun K hK=>?_
   go_simp
   have hz:Q W2.heap.size W2 (W2.alloc (J (([x.sr,x.ss]:List Int).map (X Z)).toArray 3)):=z4b _
   have pf:=hd_ (z2y W2 [x.sr,x.ss] (by simp;decide))
   change K _ (W2.alloc (J (([x.sr,x.ss]:List Int).map (X Z)).toArray 3))
   replace HI:=hd_ (HI.out.ext hz);replace HB:=hd_ (z0a HB.out hz);replace HO:=hd_ (HO.out.ext hz)
   clear hz
   have HBC:G (W1.heap.size≤(W2.alloc (J (([x.sr,x.ss]:List Int).map (X Z)).toArray 3)).heap.size):=by show _≤_;rw [World.size_alloc];have:=HWa.out;omega
   generalize W2.alloc (J (([x.sr,x.ss]:List Int).map (X Z)).toArray 3)=W3 at *
   refine z4n hK HI.out fun hHeld=>?_
   clear hK K
   generalize hbc:W1.heap.size=BC at *
   clear hbc HWa
   refine rdL 9 fun K hK=>?_
   go_simp
   go_at_call 54
   refine (z3f [x.sr,x.ss] _ W3 pf.out (fun n hn=>by simp only [List.mem_cons,List.not_mem_nil,or_false] at hn;rcases hn with rfl|rfl <;> first|exact Hi.out.sr|exact Hi.out.ss) (by simp)).mono ?_
   rintro e W5 ⟨lv5,rfl,pg,bp⟩
   obtain ⟨o5,c5,rfl⟩:=pg.shape
   have HW5s:G (W3.heap.size≤W5.heap.size):=bp.size
   have iq:=hd_ pg;have mO:=hd_ (fun g e=>(HO.out.own g e).2);have mZ:=hd_ (fun g e=>(HO.out.own g e).1)
   replace HI:=hd_ (HI.out.ext bp);replace HB:=hd_ (z0a HB.out bp);replace HO:=hd_ (HO.out.ext bp)
   clear pg bp pf
   refine z4n hK HI.out fun hHeld=>?_
   clear hK K
   refine rdL 10 fun K hK=>?_
   go_simp
   have aF:G (CB (W5.alloc (J (w4 3 0 (I o5 2 c5)).toArray 80)) W5.heap.size 80 (w4 3 0 (I o5 2 c5))):=z3a W5 _ _ _ rfl
   have hz:Q W5.heap.size W5 (W5.alloc (J (w4 3 0 (I o5 2 c5)).toArray 80)):=z4b _
   have fO:G (z0z (DL (fun _=>False) BC (W5.alloc (J (w4 3 0 (I o5 2 c5)).toArray 80)) (.slice ol (z8e x).length cl)) (W5.alloc (J (w4 3 0 (I o5 2 c5)).toArray 80)) (lV [iV x.sr,iV x.ss]) (I o5 2 c5)):=z0z.dl (B:=W3.heap.size) (z0z.keep (D:=DB W3.heap.size W5) (w:=W5) (x1z iq.out) (DB.mono hz) (fun k hk=>Below.heap_alloc W5 _ k hk.2)) HBC.out (fun g e=>mO.out g e)
   change K _ (W5.alloc (J (w4 3 0 (I o5 2 c5)).toArray 80))
   replace HI:=hd_ (HI.out.ext hz);replace HB:=hd_ (z0a HB.out hz);replace HO:=hd_ (HO.out.ext hz)
   clear hz iq
   have HW6s:G (W3.heap.size≤(W5.alloc (J (w4 3 0 (I o5 2 c5)).toArray 80)).heap.size):=by show _≤_;rw [World.size_alloc];have:=HW5s.out;omega
   generalize W5.alloc (J (w4 3 0 (I o5 2 c5)).toArray 80)=W6 at *
   generalize W5.heap.size=gk at *
   refine z4n hK HI.out fun hHeld=>?_
   clear hK K
   refine rdL 11 fun K hK=>?_
   refine z2f underlying78 z8j rfl (.tmp 11) (.tmp 20) rfl (fun _=>False) BC (.slice ol (z8e x).length cl) (z8e x) rfl ?q1 gk (lV [iV x.sr,iV x.ss]) (I o5 2 c5) rfl ?q2 ?q3 ?q4 ?q5 ?_
   case q1=>exact HO.out
   case q2=>exact fO.out
   case q3=>(refine ⟨?_,?_,?_,?_⟩ <;> first|exact aF.out.cell 0|exact aF.out.cell 1|exact aF.out.cell 2|exact aF.out.cell 3)
   case q4=>(show (10:Nat)≤1000000;decide)
   case q5=>exact Nat.le_trans HBC.out HW6s.out
   intro dg dq w9 jh ay
   have eQ:=hd_ (HI.out.keep (ay.out.block _ HI.out.lt (fun e=>by have:=mZ.out _ e.symm;have:=HwD.out;omega)))
   have dx:=hd_ (HB.out.grown ay.out HB.out.size (fun q e=>by have:=mZ.out q e;have:=HwD.out;omega))
   generalize hxl:(z8e x).length+1=n9 at *
   clear hxl ay aF fO HO HI HB
   refine hK.out (Act.put _ (some 21) _) w9 (fun _=>eQ.out) (fun ae=>?_)
   clear hK K
   have hHeld:=ae (by rfl)
   clear ae
   try simp only [Act.put,aS,aZ,aU]
   refine rdL 12 fun K hK=>?_
   go_simp
   go_at_call 52
   refine (z0g _ _ _ w9).mono ?_
   rintro e w10 ⟨rfl,bL⟩
   have eD:=hd_ (y2s (jh.out.ext bL));replace eQ:=hd_ (eQ.out.ext bL);replace dx:=hd_ (z0a dx.out bL)
   clear bL jh
   refine z4n hK eQ.out fun hHeld=>?_
   clear hK K
   refine rdL 13 fun K hK=>?_
   go_simp
   go_at_call 51
   refine (j3l (lV (z6e x)) (y5a x) Hz.out _ w10 eD.out).mono ?_
   rintro e w11 ⟨u,rfl,hu,dz⟩
   have HU:=hd_ hu;replace eQ:=hd_ (eQ.out.ext dz);replace dx:=hd_ (z0a dx.out dz)
   clear hu dz eD
   refine z4n hK eQ.out fun hHeld=>?_
   clear hK K
   refine tkL 24 14 ?_
   refine tkL 25 15 ?_
   refine tkL 2 16 ?_
   refine tkL 3 17 ?_
   refine z3b (by kernel_rfl) ?_ _
   go_wp2_with fail
   go_ret2
   exact ⟨u,by rw [dc.out];rfl,by rw [dc.out];exact HU.out,dx.out⟩
  ·go_simp
   have hz:Q W1.heap.size W1 (W1.alloc (J (([x.sr,x.ss]:List Int).map (X Z)).toArray 3)):=z4b _
   have pf:=hd_ (z2y W1 [x.sr,x.ss] (by simp;decide))
   change K _ (W1.alloc (J (([x.sr,x.ss]:List Int).map (X Z)).toArray 3))
   replace HI:=hd_ (HI.out.ext hz);replace HB:=hd_ (z0a HB.out hz)
   clear hz
   generalize W1.alloc (J (([x.sr,x.ss]:List Int).map (X Z)).toArray 3)=W2 at *
   refine z4n hK HI.out fun hHeld=>?_
   clear hK K
   have HwD:G (w.heap.size<W2.heap.size):=HI.out.lt
   refine rdL 1 fun K hK=>?_
   go_simp
   go_at_call 53
   refine (z4y x s W2 (aY.out.ext HB.out) Hi.out Hl.out).mono ?_
   rintro e W3 ⟨lv,rfl,hO,aj⟩
   obtain ⟨ol,cl,rfl⟩:=hO.shape
   have HWa:=hd_ aj.size
   have HO:=hd_ hO;replace HI:=hd_ (HI.out.ext aj);replace HB:=hd_ (z0a HB.out aj);replace pf:=hd_ (pf.out.ext aj)
   clear hO aj
   refine z4n hK HI.out fun hHeld=>?_
   clear hK K
   have HBC:G (W2.heap.size≤W3.heap.size):=HWa.out
   generalize hbc:W2.heap.size=BC at *
   clear hbc HWa
   refine rdL 9 fun K hK=>?_
   go_simp
   go_at_call 54
   refine (z3f [x.sr,x.ss] _ W3 pf.out (fun n hn=>by simp only [List.mem_cons,List.not_mem_nil,or_false] at hn;rcases hn with rfl|rfl <;> first|exact Hi.out.sr|exact Hi.out.ss) (by simp)).mono ?_
   rintro e W5 ⟨lv5,rfl,pg,bp⟩
   obtain ⟨o5,c5,rfl⟩:=pg.shape
   have HW5s:G (W3.heap.size≤W5.heap.size):=bp.size
   have iq:=hd_ pg;have mO:=hd_ (fun g e=>(HO.out.own g e).2);have mZ:=hd_ (fun g e=>(HO.out.own g e).1)
   replace HI:=hd_ (HI.out.ext bp);replace HB:=hd_ (z0a HB.out bp);replace HO:=hd_ (HO.out.ext bp)
   clear pg bp pf
   refine z4n hK HI.out fun hHeld=>?_
   clear hK K
   refine rdL 10 fun K hK=>?_
   go_simp
   have aF:G (CB (W5.alloc (J (w4 3 0 (I o5 2 c5)).toArray 80)) W5.heap.size 80 (w4 3 0 (I o5 2 c5))):=z3a W5 _ _ _ rfl
   have hz:Q W5.heap.size W5 (W5.alloc (J (w4 3 0 (I o5 2 c5)).toArray 80)):=z4b _
   have fO:G (z0z (DL (fun _=>False) BC (W5.alloc (J (w4 3 0 (I o5 2 c5)).toArray 80)) (.slice ol (z8e x).length cl)) (W5.alloc (J (w4 3 0 (I o5 2 c5)).toArray 80)) (lV [iV x.sr,iV x.ss]) (I o5 2 c5)):=z0z.dl (B:=W3.heap.size) (z0z.keep (D:=DB W3.heap.size W5) (w:=W5) (x1z iq.out) (DB.mono hz) (fun k hk=>Below.heap_alloc W5 _ k hk.2)) HBC.out (fun g e=>mO.out g e)
   change K _ (W5.alloc (J (w4 3 0 (I o5 2 c5)).toArray 80))
   replace HI:=hd_ (HI.out.ext hz);replace HB:=hd_ (z0a HB.out hz);replace HO:=hd_ (HO.out.ext hz)
   clear hz iq
   have HW6s:G (W3.heap.size≤(W5.alloc (J (w4 3 0 (I o5 2 c5)).toArray 80)).heap.size):=by show _≤_;rw [World.size_alloc];have:=HW5s.out;omega
   generalize W5.alloc (J (w4 3 0 (I o5 2 c5)).toArray 80)=W6 at *
   generalize W5.heap.size=gk at *
   refine z4n hK HI.out fun hHeld=>?_
   clear hK K
   refine rdL 11 fun K hK=>?_
   refine z2f underlying78 z8j rfl (.tmp 11) (.tmp 20) rfl (fun _=>False) BC (.slice ol (z8e x).length cl) (z8e x) rfl ?q1 gk (lV [iV x.sr,iV x.ss]) (I o5 2 c5) rfl ?q2 ?q3 ?q4 ?q5 ?_
   case q1=>exact HO.out
   case q2=>exact fO.out
   case q3=>(refine ⟨?_,?_,?_,?_⟩ <;> first|exact aF.out.cell 0|exact aF.out.cell 1|exact aF.out.cell 2|exact aF.out.cell 3)
   case q4=>(show (10:Nat)≤1000000;decide)
   case q5=>exact Nat.le_trans HBC.out HW6s.out
   intro dg dq w9 jh ay
   have eQ:=hd_ (HI.out.keep (ay.out.block _ HI.out.lt (fun e=>by have:=mZ.out _ e.symm;have:=HwD.out;omega)))
   have dx:=hd_ (HB.out.grown ay.out HB.out.size (fun q e=>by have:=mZ.out q e;have:=HwD.out;omega))
   generalize hxl:(z8e x).length+1=n9 at *
   clear hxl ay aF fO HO HI HB
   refine hK.out (Act.put _ (some 21) _) w9 (fun _=>eQ.out) (fun ae=>?_)
   clear hK K
   have hHeld:=ae (by rfl)
   clear ae
   try simp only [Act.put,aS,aZ,aU]
   refine rdL 12 fun K hK=>?_
   go_simp
   go_at_call 52
   refine (z0g _ _ _ w9).mono ?_
   rintro e w10 ⟨rfl,bL⟩
   have eD:=hd_ (y2s (jh.out.ext bL));replace eQ:=hd_ (eQ.out.ext bL);replace dx:=hd_ (z0a dx.out bL)
   clear bL jh
   refine z4n hK eQ.out fun hHeld=>?_
   clear hK K
   refine rdL 13 fun K hK=>?_
   go_simp
   go_at_call 51
   refine (j3l (lV (z6e x)) (y5a x) Hz.out _ w10 eD.out).mono ?_
   rintro e w11 ⟨u,rfl,hu,dz⟩
   have HU:=hd_ hu;replace eQ:=hd_ (eQ.out.ext dz);replace dx:=hd_ (z0a dx.out dz)
   clear hu dz eD
   refine z4n hK eQ.out fun hHeld=>?_
   clear hK K
   refine tkL 24 14 ?_
   refine tkL 25 15 ?_
   refine tkL 2 16 ?_
   refine tkL 3 17 ?_
   refine z3b (by kernel_rfl) ?_ _
   go_wp2_with fail
   go_ret2
   exact ⟨u,by rw [dc.out];rfl,by rw [dc.out];exact HU.out,dx.out⟩
end Go.Proofs.YtdblnbnofjggnaaGreatDoor
