/- Parts of the proofs of chapter 49's laws. -/
import Derived.Test.YtdblnbnofjggnaaGreatDoorP42
import Derived.Test.YtdblnbnofjggnaaGreatDoorP46
import Derived.Test.YtdblnbnofjggnaaGreatDoorP40
import Derived.Test.YtdblnbnofjggnaaGreatDoorP41
set_option maxHeartbeats 16000000
set_option maxRecDepth 100000
open Go.Lib renaming hid → hd_
open List renaming mem_cons_self → mS, mem_cons → mC, not_mem_nil → nM, mem_of_getElem? → mG
open Option renaming bind_eq_some_iff → bE
open Array renaming all_eq_true_iff_forall_mem → aM
open Nat renaming le_refl → lR
open Go.Value renaming int → I, slice → Z, string → Y, bool → D, pointer → M, agg → QZ
open Go.IntKind renaming i64 → J
open Go.Obj renaming cells → T
open Go.Ending renaming returned → L
open Option renaming none → Q, some → U
open Bool renaming true → QY, false → QQ
open Go renaming World → O, Value → QJ, TypeId → QG, Calls → QX
open Go.RowKit renaming Below → A, Hid → C
set_option linter.all false
namespace Go.Proofs.YtdblnbnofjggnaaGreatDoor
open Go.Proofs.Tryz
open Go.RowKit
def x1l (x:Inp):List UInt8:=y7b v5a (y1n x)
theorem y0t (x:Inp):(x1l x).length≤50000:=by unfold x1l;rw [z4t];decide
def k4v (x:Inp) (t:Bool):Int:=if okI x then (if t then 0 else 491) else 490
def v8e (x:Inp) (t:Bool) (w:O) (e:Ending) (w':O):Prop:=e=L (I J (k4v x t))∧A w.heap.size w w'
theorem x6d (p:Int) (e1 e2 e3:Int) (t:Bool) (x:Inp) (s:Slc) (w:O) (hx:InpR w x s) (hi:InpI x) (hl:InpL x) (hz:sz (lV (z6e x))≤60000) (hL:Laid w) (h1:C (ElE p e1)) (h2:C (ElE x.sr e2)) (h3:C (ScE x.ss e3)) (hv:C (z3w p x.sr x.ss e1 e2 e3 (x1l x) t)) :
 QX prog 26 #[I J p,x.v s] w (v8e x t w):=by
 obtain ⟨b,aW⟩:∃ b,okI x=b:=⟨_,rfl⟩
 have dc:=hd_ aW
 have HI:C (CB (w.alloc (bI x s)) w.heap.size 41 (x.cells s)):=z3a w (bI x s) _ _ rfl
 have HB:=hd_ (z4b (w:=w) (bI x s));have aY:=hd_ hx;have Hi:=hd_ hi;have Hl:=hd_ hl;have Hz:=hd_ hz
 have HL:=hd_ hL
 have H1:=hd_ h1;have H2:=hd_ h2;have H3:=hd_ h3;have HV:=hd_ hv
 clear aW hx hi hl hz hL h1 h2 h3 hv
 change QX prog 26 #[_,QZ (x.cells s).toArray] w _
 go_enter func26,ntmps26
 go_upto_region 1 with fail
 change Code.wp _ _ _ _ (w.alloc (bI x s))
 generalize w.alloc (bI x s)=w0 at *
 have gc:C (∀ w1,A w.heap.size w w1→QX prog 13 #[QZ (x.cells s).toArray] w1 fun e w2=>e=L (I J (if b then 0 else 490))∧A w1.heap.size w1 w2):=fun w1 hb=>(z5m x s w1 (aY.out.ext hb) Hi.out.text Hi.out.flt.call Hi.out.rcl).mono fun e w2 h=>⟨by rw [← dc.out];exact h.1,h.2⟩
 cases b
 case false =>
  have gj:C (∀ w1,A w.heap.size w w1→QX prog 13 #[QZ (x.cells s).toArray] w1 fun e w2=>e=L (I J 490)∧A w1.heap.size w1 w2):=gc.out
  clear gc
  go_wp2_with (first
   | (have _g:=HI.out;refine lcs 41 (.tmp 3) rfl w.heap.size (x.cells s) rfl HI.out underlying41 ?_;clear _g)
   | (go_at_call 13;refine (gj.out _ HB.out).mono ?_;(rintro e w1 ⟨rfl,af⟩;have aG:=hd_ (z0a HB.out af);clear af)))
  go_ret
  exact ⟨by unfold k4v;rw [dc.out];rfl,aG.out⟩
 case true =>
  have gj:C (∀ w1,A w.heap.size w w1→QX prog 13 #[QZ (x.cells s).toArray] w1 fun e w2=>e=L (I J 0)∧A w1.heap.size w1 w2):=gc.out
  clear gc
  go_upto_region 4 with (first
   | (have _g:=HI.out;refine lcs 41 (.tmp 3) rfl w.heap.size (x.cells s) rfl HI.out underlying41 ?_;clear _g)
   | (go_at_call 13;refine (gj.out _ HB.out).mono ?_;(rintro e w1 ⟨rfl,af⟩;have aG:=hd_ (z0a HB.out af);have dJ:=hd_ (HI.out.ext af);clear af)))
  clear HB HI
  have HB:=aG;have HI:=dJ
  clear aG dJ
  refine z7a (S:=fun w'=>CB w' w.heap.size 41 (x.cells s)) (late:=fun _=>QQ) (by kernel_rfl) (HI.out.ext (Below.refl w1.heap.size w1).drew) (fun hHeld=>?_)
  have aQ:=(Below.refl w1.heap.size w1).drew
  replace HI:=hd_ (HI.out.ext aQ);replace HB:=hd_ (z0a HB.out aQ)
  clear aQ
  generalize w1.drew=W1 at *
  refine tkL 11 0 ?_
  refine z2x 12 1 rfl (QZ (x.cells s).toArray) (yieldsIf_load_mid (by rfl) 41 _ rfl w.heap.size 0 rfl (x.cells s) _ (fun wS aa=>z3h aa) underlying41 rfl (by kernel_rfl)) ?_
  refine tkL 14 3 ?_
  refine z2x 15 4 rfl (QZ ([I J x.sr,I J x.ss]).toArray) (yieldsIf_load_mid (by rfl) 39 _ rfl w.heap.size 30 rfl ([I J x.sr,I J x.ss]) _ (fun wS aa=>j1g aa) underlying39 rfl (by kernel_rfl)) ?_
  refine rdL 2 fun K hK=>?_
  go_simp
  go_at_call 68
  refine (z2w x s W1 (aY.out.ext HB.out) Hi.out Hl.out Hz.out (HL.out.ext HB.out)).mono ?_
  rintro e W2 ⟨m,rfl,hm,aj⟩
  obtain ⟨om,cm,rfl⟩:=hm.shape
  have HM:=hd_ hm
  replace HI:=hd_ (HI.out.ext aj);replace HB:=hd_ (z0a HB.out aj)
  clear hm aj
  refine z4n hK HI.out fun hHeld=>?_
  clear hK K
  refine rdL 5 fun K hK=>?_
  go_simp
  go_at_call 73
  refine (x2y p x.sr x.ss e1 e2 e3 _ (x1l x) t W2 (y0t x) HM.out (HL.out.ext HB.out) H1.out H2.out H3.out HV.out).mono ?_
  rintro e W3 ⟨rfl,aB⟩
  replace HI:=hd_ (HI.out.ext aB);replace HB:=hd_ (z0a HB.out aB)
  clear aB HM
  refine z4n hK HI.out fun hHeld=>?_
  clear hK K
  cases t
  case false =>
   refine tkL 17 6 ?_
   refine z3b (by kernel_rfl) ?_ _
   go_wp2_with fail
   go_ret
   exact ⟨by unfold k4v;rw [dc.out];rfl,HB.out⟩
  case true =>
   refine tkL 17 6 ?_
   refine z3b (by kernel_rfl) ?_ _
   go_wp2_with fail
   go_ret
   exact ⟨by unfold k4v;rw [dc.out];rfl,HB.out⟩
section
variable {P:Program}
theorem z6a {fn:Func} {p t2:Tmp} {ty:QG} (h:fn.results = #[.cell p ty,.tmp t2]) (tmps:Array QJ) (w:O) (g:Nat) (t:QG) (cs:Array QJ) (fr:Nat × Nat) (d:TypeDesc)
 (hp:tmps.getD p undef=M (U ⟨g,0,Q⟩)) (hg:w.heap[g]? = U (T cs t fr))
 (hu:P.underlying ty=U d) (hd:(match d with | .struct _ | .array _ _=>QY|_=>QQ)=QY) (hi:(P.info? ty).map (·.size)=U cs.size) :
 (results fn tmps).run P w=.ok (.tuple #[QZ cs,tmps.getD t2 undef]) w:=by
 have pj:tmps[p]?.getD undef=M (U ⟨g,0,Q⟩):=by simpa using hp
 simp [results,h,pj,asAddr,run_loadVar_row w g t ty cs fr d hg hu hd hi]
end
def zI:Inp:=⟨0,0,0,0,ByteArray.empty,j5s,[],⟨0,0,[]⟩,rpZ,⟨0,0,QQ⟩,0,⟨[],0,0⟩,0,0⟩
theorem k2i (w:O):InpR w zI z1h:=⟨z4g.nil _ _ _ _,z9j.nil _ _ _,z4g.nil _ _ _ _,z4g.nil _ _ _ _⟩
theorem z7s:∀ u∈ZIc,u.oneCell'=QY:=by
 have h:=z9v zI z1h Q Q Q Q 0 0 0 0 0 0 0 0 rfl rfl rfl rfl
 exact fun u hu=>aM.1 h u (List.mem_toArray.2 hu)
def x2z (x:Inp) (r s e:Int):Inp:=if okI x then (if e=0 then { x with sr:=r,ss:=s } else zI) else zI
def k4m (x:Inp) (e:Int):Int:=if okI x then e else 490
def v1h (x:Inp) (r s e:Int) (w:O) (q:Ending) (w':O):Prop:=∃ sl,q=L (.tuple #[QZ ((x2z x r s e).cells sl).toArray,I J (k4m x e)])∧InpR w' (x2z x r s e) sl∧A w.heap.size w w'
theorem y1o (k Rr Ss ee:Int) (x:Inp) (s:Slc) (w:O) (hx:InpR w x s) (hi:InpI x) (hl:InpL x) (hz:sz (lV (z6e x))≤60000) (hL:Laid w) (hs:C (k4a k (x1l x) Rr Ss ee)) :
 QX prog 23 #[x.v s,I J k] w (v1h x Rr Ss ee w):=by
 obtain ⟨b,aW⟩:∃ b,okI x=b:=⟨_,rfl⟩
 have dc:=hd_ aW
 have ax:A w.heap.size w ((w.alloc (bI x s)).alloc ZI):=(z4b (w:=w) (bI x s)).alloc (z4b (w:=w) (bI x s)).size _
 have HI:C (CB ((w.alloc (bI x s)).alloc ZI) w.heap.size 41 (x.cells s)):=(z3a w (bI x s) _ _ rfl).alloc _
 have H4:C (CB ((w.alloc (bI x s)).alloc ZI) (w.heap.size+1) 41 ZIc):=hd_ (by
  have:=z3a (w.alloc (bI x s)) ZI 41 ZIc rfl
  rwa [World.size_alloc] at this)
 have HB:=hd_ ax;have aY:=hd_ hx;have Hi:=hd_ hi;have Hl:=hd_ hl;have Hz:=hd_ hz;have HS:=hs
 have HL:=hd_ hL
 have aD:=hd_ z7s
 have fQ:C (prog.built 41 []=U ZIc.toArray):=hd_ (by kernel_rfl)
 have HRS:C (∀ u∈([I J Rr,I J Ss]:List QJ),u.oneCell'=QY):=hd_ (z8y rfl)
 have hee:ee=0∨ee=40:=by
  rcases hs.out with ⟨_,_,_,_,_,_,_,_,_,_,_,_,_,_,_,_,_,h⟩|⟨_,_,_,h⟩
  ·exact .inl h
  ·exact .inr h
 clear aW ax hx hi hl hz hs hL
 change QX prog 23 #[QZ (x.cells s).toArray,_] w _
 go_enter func23,ntmps23
 go_upto_region 1 with fail
 change Code.wp _ _ _ _ ((w.alloc (bI x s)).alloc ZI)
 generalize (w.alloc (bI x s)).alloc ZI=w0 at *
 have gc:C (∀ w1,A w.heap.size w w1→QX prog 13 #[QZ (x.cells s).toArray] w1 fun e w2=>e=L (I J (if b then 0 else 490))∧A w1.heap.size w1 w2):=fun w1 hb=>(z5m x s w1 (aY.out.ext hb) Hi.out.text Hi.out.flt.call Hi.out.rcl).mono fun e w2 h=>⟨by rw [← dc.out];exact h.1,h.2⟩
 cases b
 case false =>
  have gj:C (∀ w1,A w.heap.size w w1→QX prog 13 #[QZ (x.cells s).toArray] w1 fun e w2=>e=L (I J 490)∧A w1.heap.size w1 w2):=gc.out
  clear gc
  go_upto_region 2 with (first
   | (have _g:=HI.out;refine lcs 41 (.tmp 2) rfl w.heap.size (x.cells s) rfl HI.out underlying41 ?_;clear _g)
   | (go_at_call 13;refine (gj.out _ HB.out).mono ?_;(rintro e w1 ⟨rfl,af⟩;have aG:=hd_ (z0a HB.out af);have H41:=hd_ (H4.out.ext af);clear af)))
  clear HB H4 HI
  have HB:=aG;have H4:=H41
  clear aG H41
  go_wp2_with (first|(have _g:=H4.out;refine lcs 41 (.tmp 4) rfl (w.heap.size+1) ZIc rfl H4.out underlying41 ?_;clear _g)|(have _g:=aD.out;refine scs 41 (.tmp 4) (.tmp 12) rfl (w.heap.size+1) ZIc rfl rfl H4.out aD.out (fun w8 aI mm HZ8=>?_);clear aD))
  refine bodyPost_ret (v:=.tuple #[QZ ((zI:Inp).cells (z1h:Slc)).toArray,_]) (z6a rfl _ _ (w.heap.size+1) 41 _ (0,0) _ rfl aI.out underlying41 rfl (by kernel_rfl)) rfl ?_
  exact ⟨z1h,by unfold x2z k4m;rw [dc.out];rfl,by unfold x2z;rw [dc.out];exact k2i _,HB.out.grown mm.out HB.out.size (fun q e=>by injection e with e;omega)⟩
 case true =>
  have gj:C (∀ w1,A w.heap.size w w1→QX prog 13 #[QZ (x.cells s).toArray] w1 fun e w2=>e=L (I J 0)∧A w1.heap.size w1 w2):=gc.out
  clear gc
  go_upto_region 4 with (first
   | (have _g:=HI.out;refine lcs 41 (.tmp 2) rfl w.heap.size (x.cells s) rfl HI.out underlying41 ?_;clear _g)
   | (go_at_call 13;refine (gj.out _ HB.out).mono ?_;(rintro e w1 ⟨rfl,af⟩;have aG:=hd_ (z0a HB.out af);have dJ:=hd_ (HI.out.ext af);have H41:=hd_ (H4.out.ext af);clear af)))
  clear HB HI H4
  have HB:=aG;have HI:=dJ;have H4:=H41
  clear aG dJ H41
  rcases hee with rfl|rfl
  ·go_upto_region 7 with (first
    | (have _g:=HI.out;refine lcs 41 (.tmp 2) rfl w.heap.size (x.cells s) rfl HI.out underlying41 ?_;clear _g)
    | (go_at_call 68;refine (z2w x s _ (aY.out.ext HB.out) Hi.out Hl.out Hz.out (HL.out.ext HB.out)).mono ?_;(rintro e9 w2 ⟨m,rfl,hm,aj⟩;obtain ⟨om,cm,rfl⟩:=hm.shape;have HM:=hd_ hm;have au:=hd_ (z0a HB.out aj);have mY:=hd_ (HI.out.ext aj);have H42:=hd_ (H4.out.ext aj);clear hm aj))
    | (go_at_call 67;refine (x7q k Rr Ss _ _ (x1l x) _ HS (y0t x) HM.out (HL.out.ext au.out)).mono ?_;(rintro e9 w3 ⟨rfl,aB⟩;have aA:=hd_ (z0a au.out aB);have bH:=hd_ (mY.out.ext aB);have kC:=hd_ (H42.out.ext aB);have kz:C (CB (w3.alloc (T [I J 0,I J 0].toArray 39)) w3.heap.size 39 [I J 0,I J 0]):=z3a w3 _ _ _ rfl;clear aB HM))
    | (have _g:=HRS.out;refine scs 39 (.tmp 7) (.tmp 19) rfl w3.heap.size [I J Rr,I J Ss] rfl rfl kz.out HRS.out (fun w4 H7 jP kX=>?_);clear _g))
   have gP:A w3.heap.size w3 w4:=(z4b (w:=w3) (T [I J 0,I J 0].toArray 39)).grown jP.out (by simp) (fun q e=>by injection e with e;omega)
   clear HB HI H4
   have HB:=hd_ (z0a aA.out gP);have HI:=hd_ (bH.out.ext gP);have H4:=hd_ (kC.out.ext gP)
   have kI:C (w.heap.size+1<w3.heap.size):=kC.out.lt
   clear au aA mY bH H42 kC gP jP kX kz
   go_upto_region 8 with (first
    | (have _g:=H7.out;refine lcs 39 (.tmp 7) rfl w3.heap.size [I J Rr,I J Ss] rfl H7.out underlying39 ?_;clear _g)
    | (have _g:=HRS.out;refine z0b rfl 39 (.tmp 26) (.tmp 25) rfl w.heap.size 30 [I J Rr,I J Ss] rfl rfl _ _ HI.out (show 30+2≤32 by decide) (by kernel_rfl) HRS.out (fun w5 dF gy=>?_);clear _g))
   have HC5':C (CB w5 w.heap.size 41 (({ x with sr:=Rr,ss:=Ss }:Inp).cells s)):=dF.out
   have H45:=hd_ (H4.out.keep (gy.out.block _ H4.out.lt (fun e=>by injection e with e;omega)))
   have bZ:=hd_ (HB.out.grown gy.out HB.out.size (fun q e=>by injection e with e;omega))
   have gY:C (∀ u∈({ x with sr:=Rr,ss:=Ss }:Inp).cells s,u.oneCell'=QY):=by
    obtain ⟨⟨oa,na,ca,ea⟩,⟨ob,nb,cb,eb⟩,⟨oc,nc,cc,ec⟩,⟨od,nd,cd,ed⟩⟩:=x3j aY.out
    have h:=z9v ({ x with sr:=Rr,ss:=Ss }:Inp) s _ _ _ _ _ _ _ _ _ _ _ _ ea eb ec ed
    exact fun u hu=>aM.1 h u (by simpa using hu)
   clear HI H4 HB dF gy H7
   go_wp2_with (first
    | (have _g:=HC5'.out;refine lcs 41 (.tmp 2) rfl w.heap.size _ rfl HC5'.out underlying41 ?_;clear _g)
    | (have _g:=gY.out;refine scs 41 (.tmp 4) (.tmp 27) rfl (w.heap.size+1) _ rfl rfl H45.out gY.out (fun w8 aI mm HZ8=>?_);clear gY))
   refine bodyPost_ret (v:=.tuple #[QZ (({ x with sr:=Rr,ss:=Ss }:Inp).cells (s:Slc)).toArray,_]) (z6a rfl _ _ (w.heap.size+1) 41 _ (0,0) _ rfl aI.out underlying41 rfl (by kernel_rfl)) rfl ?_
   have hbe:A w.heap.size w w8:=bZ.out.grown mm.out bZ.out.size (fun q e=>by injection e with e;omega)
   exact ⟨s,by unfold x2z k4m;rw [dc.out];rfl,by unfold x2z;rw [dc.out];exact ⟨(aY.out.ext hbe).ways,(aY.out.ext hbe).tree,(aY.out.ext hbe).modes,(aY.out.ext hbe).vols⟩,hbe⟩
  ·go_upto_region 6 with (first
    | (have _g:=HI.out;refine lcs 41 (.tmp 2) rfl w.heap.size (x.cells s) rfl HI.out underlying41 ?_;clear _g)
    | (go_at_call 68;refine (z2w x s _ (aY.out.ext HB.out) Hi.out Hl.out Hz.out (HL.out.ext HB.out)).mono ?_;(rintro e9 w2 ⟨m,rfl,hm,aj⟩;obtain ⟨om,cm,rfl⟩:=hm.shape;have HM:=hd_ hm;have au:=hd_ (z0a HB.out aj);have mY:=hd_ (HI.out.ext aj);have H42:=hd_ (H4.out.ext aj);clear hm aj))
    | (go_at_call 67;refine (x7q k Rr Ss _ _ (x1l x) _ HS (y0t x) HM.out (HL.out.ext au.out)).mono ?_;(rintro e9 w3 ⟨rfl,aB⟩;have aA:=hd_ (z0a au.out aB);have bH:=hd_ (mY.out.ext aB);have kC:=hd_ (H42.out.ext aB);have kz:C (CB (w3.alloc (T [I J 0,I J 0].toArray 39)) w3.heap.size 39 [I J 0,I J 0]):=z3a w3 _ _ _ rfl;clear aB HM))
    | (have _g:=HRS.out;refine scs 39 (.tmp 7) (.tmp 19) rfl w3.heap.size [I J Rr,I J Ss] rfl rfl kz.out HRS.out (fun w4 H7 jP kX=>?_);clear _g))
   have gP:A w3.heap.size w3 w4:=(z4b (w:=w3) (T [I J 0,I J 0].toArray 39)).grown jP.out (by simp) (fun q e=>by injection e with e;omega)
   clear HB HI H4
   have HB:=hd_ (z0a aA.out gP);have H4:=hd_ (kC.out.ext gP)
   clear au aA mY bH H42 kC gP jP kX kz H7
   go_wp2_with (first|(have _g:=H4.out;refine lcs 41 (.tmp 4) rfl (w.heap.size+1) ZIc rfl H4.out underlying41 ?_;clear _g)|(have _g:=aD.out;refine scs 41 (.tmp 4) (.tmp 23) rfl (w.heap.size+1) ZIc rfl rfl H4.out aD.out (fun w8 aI mm HZ8=>?_);clear aD))
   refine bodyPost_ret (v:=.tuple #[QZ ((zI:Inp).cells (z1h:Slc)).toArray,_]) (z6a rfl _ _ (w.heap.size+1) 41 _ (0,0) _ rfl aI.out underlying41 rfl (by kernel_rfl)) rfl ?_
   exact ⟨z1h,by unfold x2z k4m;rw [dc.out];rfl,by unfold x2z;rw [dc.out];exact k2i _,HB.out.grown mm.out HB.out.size (fun q e=>by injection e with e;omega)⟩
theorem x7d (V E:Nat) (w:O) :
 CallsD prog 56 #[M (U ⟨V,0,Q⟩),M (U ⟨E,0,Q⟩)] .returning w fun e u' w'=>e=L (.tuple #[])∧u'=.returning∧w'=w:=by
 refine callsD_of_wpS func56 rfl fun c₀ cs hu=>?_
 apply wpS_seq
 apply wpS_region
 simp [wpOpsS,go_sem,recoverD,hu,ntmps56,Exit.thenS]
 apply wpS_seq
 apply wpS_region
 simp [wpOpsS,go_sem,Exit.thenS]
 refine wpS_cond (t:=false) (by simp [Act.eval,Array.replicate]) ?_
 simp only [Bool.false_eq_true,if_false]
 refine wpS_of_wp (wp_skip ?_)
 cases c₀
 simp_all [bodyPostS,results,results56]
structure Catch49 (N E:Nat) (w w':O):Prop where
 n:CB w' N 41 ZIc
 e:CB w' E 44 [I J 490]
 gr:∀ (base:O) (G:Option Nat),base.grownBy w G→base.heap.size≤N→base.heap.size≤E→base.grownBy w' G
theorem y0e {base w w':O} {G:Option Nat} {N:Nat} (h:base.grownBy w G) (hg:w.grownBy w' (U N)) (hN:base.heap.size≤N):base.grownBy w' G:=z2a h hg (.inr fun q e=>by injection e with e;omega)
theorem y9a (N E:Nat) (v:QJ) (w:O) (hN:CB w N 41 ZIc) (hE:CB w E 44 [v]) (hne:N≠E) :
 CallsD prog 56 #[M (U ⟨N,0,Q⟩),M (U ⟨E,0,Q⟩)] (.panicking y3j) w fun e u' w' =>
  e=L (.tuple #[])∧u'=.panicking [{ v:=.iface 44 (I J 490),recovered:=QY }]∧Catch49 N E w w':=by
 have HN:=hd_ hN;have HE:=hd_ hE;have bq:=hd_ hne
 have fQ:C (prog.built 41 []=U ZIc.toArray):=hd_ (by kernel_rfl)
 have aD:=hd_ z7s
 clear hN hE hne
 unfold y3j
 have hta:=y8b
 refine callsD_of_wpS func56 rfl fun c₀ cs hu=>?_
 apply wpS_seq
 apply wpS_region
 simp [wpOpsS,go_sem,recoverD,hu,ntmps56,Exit.thenS]
 apply wpS_seq
 apply wpS_region
 simp [wpOpsS,go_sem,Exit.thenS]
 refine wpS_cond (t:=QY) (by simp [Act.eval,Array.replicate]) ?_
 simp only [if_true]
 refine wpS_of_wp ?_
 go_wp2
 change Code.wp _ _ _ ⟨#[M (U ⟨N,0,Q⟩),M (U ⟨E,0,Q⟩),.iface 44 (I J 490),.iface 44 (I J 490),.iface 44 (I J 490),D QY,undef,undef,undef],_⟩ w
 refine wp_region_held_drew (S:=fun w'=>True) (by kernel_rfl) trivial (fun hHeld=>?_)
 have ey:C (CB w.drew N 41 ZIc):=HN.out
 have jR:C (CB w.drew E 44 [v]):=HE.out
 have Hg1:=hd_ (fun (base:O) (G:Option Nat) (h:base.grownBy w G)=>z3g h)
 clear HN HE
 generalize w.drew=w1 at *
 refine x1m 6 0 rfl (QZ ZIc.toArray) (z0d (by rfl) 41 #[] rfl ZIc [] rfl fQ.out) ?_
 refine tkH 7 1 ?_
 refine tkH 8 2 ?_
 refine rdH 3 fun K hK=>?_
 refine sif 41 (.tmp 0) (.tmp 6) rfl N ZIc rfl rfl ey.out aD.out (fun w2 aP ml ew=>?_)
 have dO:=hd_ (jR.out.keep (ml.out.block _ jR.out.lt (fun e=>bq.out (by injection e with e;exact e.symm))))
 refine goK hK trivial fun hHeld=>?_
 clear hK K
 refine rdH 4 fun K hK=>?_
 have x0:=dO.out.cv 0 v
 have xf:=dO.out.frozen 0
 go_simp
 refine goK hK trivial fun hHeld=>?_
 clear hK K
 refine wpAnyH_done (by kernel_rfl) ?_ _
 show bodyPostS _ _ _ _ _ _ _ _ _
 cases c₀
 simp only at hu
 subst hu
 simp [bodyPostS,results,results56]
 exact ⟨aP.out.keep (Below.heap_setCell w2 ⟨E,0,Q⟩ _ N bq.out),dO.out.set 0 _,fun base G h h1 h2=>y0e (y0e (Hg1.out base G h) ml.out h1) (z6b w2 E 0 _) h2⟩
def j4v (p:Inp × Int) (w:O) (e:Ending) (w':O):Prop:=∃ sl,e=L (.tuple #[QZ ((p.1).cells sl).toArray,I J p.2])∧InpR w' p.1 sl∧A w.heap.size w w'
theorem x4y (w:O):InpR w zP z1h:=k2i w
theorem x2l {P:Program} {fn:Func} {p p2:Tmp} {ty ty2:QG} (h:fn.results = #[.cell p ty,.cell p2 ty2]) (tmps:Array QJ) (w:O) (g g2:Nat) (t _t2:QG) (cs:Array QJ) (fr:Nat × Nat) (d:TypeDesc) (v:QJ)
 (hp:tmps.getD p undef=M (U ⟨g,0,Q⟩)) (hg:w.heap[g]? = U (T cs t fr))
 (hu:P.underlying ty=U d) (hd:(match d with | .struct _ | .array _ _=>QY|_=>QQ)=QY) (hi:(P.info? ty).map (·.size)=U cs.size)
 (hp2:tmps.getD p2 undef=M (U ⟨g2,0,Q⟩)) (h2:(loadVar ty2 ⟨g2,0,Q⟩).run P w=.ok v w) :
 (results fn tmps).run P w=.ok (.tuple #[QZ cs,v]) w:=by
 have pj:tmps[p]?.getD undef=M (U ⟨g,0,Q⟩):=by simpa using hp
 have hp2':tmps[p2]?.getD undef=M (U ⟨g2,0,Q⟩):=by simpa using hp2
 simp [results,h,pj,hp2',asAddr,run_loadVar_row w g t ty cs fr d hg hu hd hi,h2]
theorem x5y (w:O) (g:Nat) (v:QJ) (h:w.cell? ⟨g,0,Q⟩=U v):(loadVar 44 ⟨g,0,Q⟩).run prog w=.ok v w:=by
 simp [loadVar,isAgg,underlying,underlying44,h,Result.andThen,go_sem]
theorem x3l {tmps:Array Value} {R:Ending→O→Prop} {N E:Nat} {w':O} {cs:List Value} {v:Value} (h0:tmps.getD 2 undef=M (U ⟨N,0,Q⟩)) (h1:tmps.getD 3 undef=M (U ⟨E,0,Q⟩))
 (hN:CB w' N 41 cs) (hl:cs.length=32) (hE:CB w' E 44 [v]) (hR:R (.returned (.tuple #[QZ cs.toArray,v])) w'):Leaves prog f21 tmps R [] .returning w' :=
 ⟨_,x2l (fn:=f21) rfl tmps w' N E 41 44 cs.toArray (0,0) _ v h0 hN underlying41 rfl (by rw [List.size_toArray,hl];kernel_rfl) h1 (x5y w' E v (hE.cell 0)),hR⟩
def dfr (N E:Nat):Deferred:={ target:=.fn (.func 56) #[M (U ⟨N,0,Q⟩),M (U ⟨E,0,Q⟩)],args:=#[] }
theorem y1t {tmps:Array Value} {R:Ending→O→Prop} {N E:Nat} {w':O} {v:Value} (h0:tmps.getD 2 undef=M (U ⟨N,0,Q⟩)) (h1:tmps.getD 3 undef=M (U ⟨E,0,Q⟩))
 (hN:CB w' N 41 ZIc) (hE:CB w' E 44 [v]) (hne:N≠E) (hR:∀ w'',Catch49 N E w' w''→R (.returned (.tuple #[QZ ZIc.toArray,I J 490])) w''):Leaves prog f21 tmps R [dfr N E] (.panicking y3j) w':=by
 refine leaves_cons (f:=56) (args:=#[M (U ⟨N,0,Q⟩),M (U ⟨E,0,Q⟩)]) (by simp) (by simp [go_sem]) ?_
 refine (y9a N E v w' hN hE hne).mono ?_
 rintro e u' w'' ⟨rfl,rfl,hc⟩
 show Leaves _ _ _ _ _ (settle _) _
 exact x3l h0 h1 hc.n rfl hc.e (hR w'' hc)
theorem v0b {tmps:Array Value} {R:Ending→O→Prop} {N E:Nat} {w':O} {cs:List Value} {v:Value} (h0:tmps.getD 2 undef=M (U ⟨N,0,Q⟩)) (h1:tmps.getD 3 undef=M (U ⟨E,0,Q⟩))
 (hN:CB w' N 41 cs) (hl:cs.length=32) (hE:CB w' E 44 [v]) (hR:R (.returned (.tuple #[QZ cs.toArray,v])) w'):Leaves prog f21 tmps R [dfr N E] .returning w':=by
 refine leaves_cons (f:=56) (args:=#[M (U ⟨N,0,Q⟩),M (U ⟨E,0,Q⟩)]) (by simp) (by simp [go_sem]) ?_
 refine (x7d N E w').mono ?_
 rintro e u' w'' ⟨rfl,rfl,rfl⟩
 exact x3l h0 h1 hN hl hE hR
theorem y7i {l:List UInt8} {v:V} (hd:z4w l=U v) (hi:z2r v=Q):z8q z2r l=(zP,490):=by
 unfold z8q;rw [hd];show (match z2r v with|none=>(zP,(490:Int))|some x=>if okI x&&decide (z4o x=l) then (x,0) else (zP,490))=_;rw [hi]
theorem y8i {l:List UInt8} {v:V} {x:Inp} (hd:z4w l=U v) (hi:z2r v=U x):z8q z2r l=if okI x&&decide (z4o x=l) then (x,0) else (zP,490):=by
 unfold z8q;rw [hd];show (match z2r v with|none=>(zP,(490:Int))|some x=>if okI x&&decide (z4o x=l) then (x,0) else (zP,490))=_;rw [hi]
theorem j3n {v:V} {o:Option Inp} (hk:v.kind=3) (h:j2h v.l=o):z2r v=o:=by unfold z2r;rw [if_pos hk,h]
theorem y2t {l:List UInt8} {w w9 w':O} {N E:Nat} (hp:z8q z2r l=(zP,490)) (hg:w.grownBy w9 Q) (hN:w.heap.size≤N) (hE:w.heap.size≤E) (hc:Catch49 N E w9 w'):j4v (z8q z2r l) w (.returned (.tuple #[QZ ZIc.toArray,I J 490])) w':=by
 rw [hp]
 exact ⟨z1h,rfl,x4y _,z1d (hc.gr w Q hg hN hE)⟩
theorem k3i {l r:List V} {q:List Int} (h:y6t l=U (q,r)):szs r≤szs l:=by
 unfold y6t at h
 obtain ⟨⟨p,t⟩,h1,h2⟩:=bE.1 h
 obtain ⟨u,h3,h4⟩:=bE.1 h2
 injection h4 with h4;injection h4 with _ h4;subst h4
 have:=y6r h1;show szs t≤_;omega
theorem k4i {l r:List V} {q:List Nod} (h:x3e l=U (q,r)):szs r≤szs l:=by
 unfold x3e at h
 obtain ⟨⟨p,t⟩,h1,h2⟩:=bE.1 h
 obtain ⟨u,h3,h4⟩:=bE.1 h2
 injection h4 with h4;injection h4 with _ h4;subst h4
 have:=y6r h1;show szs t≤_;omega
section
variable {w0 W W':O} {G:Option Nat} {B g X:Nat} {l:List V} {cs mP:List (Nat × List V)} {ts:List Thing} {xc:List Value}
theorem DSt.nss (h:DSt w0 G B ((g,l)::cs) ts W):QX prog 61 #[M (U ⟨g,0,Q⟩)] W fun e w' =>
 (∃ q r oa cap,y6t l=U (q,r)∧e=L (Z oa q.length cap)∧DSt w0 G B ((g,r)::cs) (z1w nuK 3 W.heap.size (Z oa q.length cap) q::ts) w'∧∀ k,(Z oa q.length cap).ownBlock=U k→W.heap.size≤k)∨(y6t l=Q∧e=.panicked y3j∧DFin w0 G ts w'):=by
 refine (j5i B g l W h.top h.hB (h.sm (g,l) mS)).mono fun e w' hp=>?_
 rcases hp with ⟨q,r,v,h1,h2,h3,h4,h5⟩|⟨h1,h2,h3⟩
 ·obtain ⟨oa,cap,rfl,-⟩:=h3.rd.shape
  refine .inl ⟨q,r,oa,cap,h1,h2,(h.step h5 h4 (k3i h1)).add _ h3 (fun p hp hk=>?_),fun k hk=>(h3.lt k hk).1⟩
  have hlow:=(h3.lt _ hk).1
  have:∃ p'∈((g,l)::cs),p'.1=p.1:=by
   rcases mC.1 hp with rfl|hp
   ·exact ⟨_,mS,rfl⟩
   ·exact ⟨p,List.mem_cons_of_mem _ hp,rfl⟩
  obtain ⟨p',pj,e'⟩:=this
  have:=(h.cur p' pj).lt'
  omega
 ·exact .inr ⟨h1,h2,h.stop h3⟩
theorem DSt.tre (h:DSt w0 G B ((g,l)::cs) ts W):QX prog 64 #[M (U ⟨g,0,Q⟩)] W fun e w' =>
 (∃ q r oa cap rl,x3e l=U (q,r)∧e=L (Z oa q.length cap)∧DSt w0 G B ((g,r)::cs) (z1z W.heap.size (Z oa q.length cap) rl q::ts) w'∧∀ k,j2t (Z oa q.length cap) rl k→W.heap.size≤k)∨(x3e l=Q∧e=.panicked y3j∧DFin w0 G ts w'):=by
 refine (x0x B g l W h.top h.hB (h.sm (g,l) mS)).mono fun e w' hp=>?_
 rcases hp with ⟨q,r,v,rl,h1,h2,h3,h4,h5⟩|⟨h1,h2,h3⟩
 ·obtain ⟨oa,cap,hv,-⟩:=h3.at.shape
  subst hv
  refine .inl ⟨q,r,oa,cap,rl,h1,h2,(h.step h5 h4 (k4i h1)).add (z1z W.heap.size (Z oa q.length cap) rl q) h3 (fun p hp hk=>?_),fun k hk=>(h3.low hk).1⟩
  have hlow:=(h3.low hk).1
  have:∃ p'∈((g,l)::cs),p'.1=p.1:=by
   rcases mC.1 hp with rfl|hp
   ·exact ⟨_,mS,rfl⟩
   ·exact ⟨p,List.mem_cons_of_mem _ hp,rfl⟩
  obtain ⟨p',pj,e'⟩:=this
  have:=(h.cur p' pj).lt'
  omega
 ·exact .inr ⟨h1,h2,h.stop h3⟩
structure DX (w0:O) (G:Option Nat) (B X:Nat) (xc:List QJ) (cs:List (Nat × List V)) (ts:List Thing) (W:O):Prop where
 d:DSt w0 G B cs (z2h X 41 xc::ts) W
 far:∀ t∈ts,¬ t.blk X
 lo:w0.heap.size≤X
 lB:B≤X
theorem DX.box (h:DX w0 G B X xc cs ts W):CB W X 41 xc:=h.d.thg (z2h X 41 xc) mS
theorem DX.re (h:DX w0 G B X xc cs ts W) (hs:DSt w0 G B mP (z2h X 41 xc::ts) W'):DX w0 G B X xc mP ts W':=⟨hs,h.far,h.lo,h.lB⟩
theorem DX.own {t:Thing} (h:DX w0 G B X xc cs ts W) (hs:DSt w0 G B mP (t::z2h X 41 xc::ts) W') (ht:∀ k,t.blk k→W.heap.size≤k):DX w0 G B X xc mP (t::ts) W' :=
 ⟨hs.sub (fun u hu=>by
  rcases mC.1 hu with rfl|hu
  ·exact List.mem_cons_of_mem _ mS
  ·rcases mC.1 hu with rfl|hu
   ·exact mS
   ·exact List.mem_cons_of_mem _ (List.mem_cons_of_mem _ hu)),
  fun u hu hx=>by
   rcases mC.1 hu with rfl|hu
   ·have:=ht X hx;have:=h.box.lt;omega
   ·exact h.far u hu hx,h.lo,h.lB⟩
theorem DX.set {yc:List Value} (h:DX w0 G B X xc cs ts W) (hg:W.grownBy W' (U X)) (hc:CB W' X 41 yc):DX w0 G B X yc cs ts W' :=
 ⟨h.d.put [z2h X 41 xc] (z2h X 41 yc) (U X) hg (fun k hk=>by injection hk with hk;subst hk;exact ⟨⟨_,List.mem_singleton.2 rfl,rfl⟩,h.lo,h.lB⟩) hc (fun k hk=>.inl ⟨_,List.mem_singleton.2 rfl,hk⟩) (fun u hu k hk=>by injection hk with hk;subst hk;exact h.far u hu),h.far,h.lo,h.lB⟩
end
theorem y9i {α:Type} {K:EK α} {e t:QG} {w:O} {b g:Nat} {v:Value} {l:List α} {cs:List Value} (h:z7h K e w b v l) (hc:CB w g t cs) (hne:e≠t):∀ k,v.ownBlock=U k→(U g:Option Nat)≠U k:=by
 intro k hk he
 injection he with he
 subst he
 rcases h.2 with ⟨h0,_⟩|⟨g',cap,cur,hv,hb,hg,_⟩
 ·rw [h0] at hk;cases hk
 ·subst hv
  injection hk with hk
  have hk:g'=g:=hk
  subst hk
  unfold CB at hc
  rw [hc] at hg
  injection hg with hg
  injection hg with _ hg _
  exact hne hg.symm
def x8q (y:Inp) (s:Slc) (w:O):Prop:=∃ b1 b2 b3 b4 rl,z7h nuK 3 w b1 s.ways y.flt.ways∧x4b b2 s.tree rl y.tree w∧z7h nuK 3 w b3 s.modes y.chg.modes∧z7h nuK 3 w b4 s.vols y.stn.vols
theorem x8q.rd {y:Inp} {s:Slc} {w:O} (h:x8q y s w):InpR w y s:=by
 obtain ⟨_,_,_,_,_,h1,h2,h3,h4⟩:=h
 exact ⟨h1.rd,h2.at,h3.rd,h4.rd⟩
theorem x8q.keep {y:Inp} {s:Slc} {w w':O} {row:Option Nat} (h:x8q y s w) (hg:w.grownBy w' row) (hr:∀ k,row=U k→∃ t cs,CB w k t cs∧t≠3∧t≠48∧t≠88):x8q y s w':=by
 obtain ⟨b1,b2,b3,b4,rl,h1,h2,h3,h4⟩:=h
 have hi:∀ (b:Nat) (v:QJ) (l:List Int),z7h nuK 3 w b v l→z7h nuK 3 w' b v l:=fun b v l h=>z6d h hg (fun k hk e=>by
  obtain ⟨t,cs,hc,ht,_⟩:=hr k e
  exact y9i h hc ht.symm k hk rfl)
 refine ⟨b1,b2,b3,b4,rl,hi _ _ _ h1,(z1z b2 s.tree rl y.tree).keep h2 hg (fun k hk e=>?_),hi _ _ _ h3,hi _ _ _ h4⟩
 obtain ⟨t,cs,hc,_,ht,ht2⟩:=hr k e
 rcases hk with hk|⟨r,hm,hk⟩
 ·exact y9i h2.1 hc ht.symm k hk rfl
 ·obtain ⟨t',h5,_⟩:=h2.mem hm
  exact y9i h5 hc ht2.symm k hk rfl
theorem x8q.ext {y:Inp} {s:Slc} {w w':O} (h:x8q y s w) (hb:A w.heap.size w w'):x8q y s w':=h.keep (z9a hb) (fun k e=>by cases e)
theorem x8q.row {y:Inp} {s:Slc} {w w':O} {g:Nat} {t:QG} {cs:List Value} (h:x8q y s w) (hc:CB w g t cs) (ht:t≠3∧t≠48∧t≠88) (hg:w.grownBy w' (U g)):x8q y s w' :=
 h.keep hg (fun k e=>by injection e with e;subst e;exact ⟨t,cs,hc,ht⟩)
section
variable {w0 W:O} {G:Option Nat} {B g X:Nat} {cs cs0:List (Nat × List V)} {ts:List Thing} {l:List V} {xc:List Value} {α γ:Type} {rd:Option (α × List V)} {mk:α→Value} {F:FuncId} {args:Array Value} {eI:Ending→O→Prop} {t:Option γ}
theorem rdK {f:α × List V→Option γ} (hc:QX prog F args W (RdS w0 G B g cs ts rd mk)) (HD:C (t=rd.bind f))
 (good:∀ q r W',C (t=f (q,r))→C (DSt w0 G B ((g,r)::cs) ts W')→eI (.returned (mk q)) W') (bad:∀ W',C (t=Q)→DFin w0 G ts W'→eI (.panicked y3j) W'):QX prog F args W eI :=
 hc.mono fun e W' hp=>by
  rcases hp with ⟨q,r,hN,rfl,hs⟩|⟨hN,rfl,hf⟩
  ·exact good q r W' (hd_ (HD.out.trans (z7l hN))) (hd_ hs)
  ·exact bad W' (hd_ (HD.out.trans (z8l hN))) hf
theorem rdX {f:α × List V→Option γ} (H:C (DX w0 G B X xc cs0 ts W)) (hc:QX prog F args W (RdS w0 G B g cs (z2h X 41 xc::ts) rd mk)) (HD:C (t=rd.bind f))
 (good:∀ q r W',C (t=f (q,r))→C (DX w0 G B X xc ((g,r)::cs) ts W')→eI (.returned (mk q)) W') (bad:∀ W',C (t=Q)→DFin w0 G (z2h X 41 xc::ts) W'→eI (.panicked y3j) W'):QX prog F args W eI :=
 rdK hc HD (fun q r W' h1 h2=>good q r W' h1 (hd_ (H.out.re h2.out))) bad
theorem lsK {f:List V × List V→Option γ} (h:DSt w0 G B ((g,l)::cs) ts W) (HD:C (t=(z6l l).bind f))
 (good:∀ n p r W',C (t=f (p,r))→C (DSt w0 G B ((n,p)::(g,r)::cs) ts W')→eI (.returned (M (U ⟨n,0,Q⟩))) W') (bad:∀ W',C (t=Q)→DFin w0 G ts W'→eI (.panicked y3j) W'):QX prog 58 #[M (U ⟨g,0,Q⟩)] W eI :=
 h.lis.mono fun e W' hp=>by
  rcases hp with ⟨p,r,n,hN,rfl,-,hs⟩|⟨hN,rfl,hf⟩
  ·exact good n p r W' (hd_ (HD.out.trans (z7l hN))) (hd_ hs)
  ·exact bad W' (hd_ (HD.out.trans (z8l hN))) hf
theorem lsX {f:List V × List V→Option γ} (H:C (DX w0 G B X xc cs0 ts W)) (hd:DSt w0 G B cs0 (z2h X 41 xc::ts) W→DSt w0 G B ((g,l)::cs) (z2h X 41 xc::ts) W) (HD:C (t=(z6l l).bind f))
 (good:∀ n p r W',C (t=f (p,r))→C (DX w0 G B X xc ((n,p)::(g,r)::cs) ts W')→eI (.returned (M (U ⟨n,0,Q⟩))) W') (bad:∀ W',C (t=Q)→DFin w0 G (z2h X 41 xc::ts) W'→eI (.panicked y3j) W'):QX prog 58 #[M (U ⟨g,0,Q⟩)] W eI :=
 lsK (hd H.out.d) HD (fun n p r W' h1 h2=>good n p r W' h1 (hd_ (H.out.re h2.out))) bad
end
theorem x4e {tmps:Array Value} {l:List UInt8} {x:V} {w W':O} {E:Nat} {ts:List Thing} (hf:DFin w Q ts W') (bq:C (w.heap.size≠E∧w.heap.size≤E)) (fj:C (z4w l=U x)) (HK:C (x.kind=3)) (ac:C (j2h x.l=Q))
 (h0:tmps.getD 2 undef=M (U ⟨w.heap.size,0,Q⟩):=by rfl) (h1:tmps.getD 3 undef=M (U ⟨E,0,Q⟩):=by rfl)
 (m1:z2h w.heap.size 41 ZIc∈ts:=by simp only [List.mem_cons,true_or,or_true]) (m2:z2h E 44 [I J 0]∈ts:=by simp only [List.mem_cons,true_or,or_true]) :
 Leaves prog f21 tmps (j4v (z8q z2r l) w) [dfr w.heap.size E] (.panicking y3j) W' :=
 y1t h0 h1 (hf.thg _ m1) (hf.thg _ m2) bq.out.1 (fun _ hc=>y2t (y7i fj.out (j3n HK.out ac.out)) hf.gr (lR _) bq.out.2 hc)
theorem y3t (l:List UInt8) (hl:l.length≤1000000) (v:QJ) (w:O) (hb:z6c w.heap.size w l v) (hd:z4w l=Q):QX prog 21 #[v] w (j4v (zP,10) w):=by
 have aD:=hd_ z7s
 obtain ⟨ob,capb,rfl⟩:=hb.shape
 have hmf:∀ (fn:Fn) (first cap:Array QJ) (w:O),(Instr.makeFunc fn first cap).run prog w=.ok (.func fn first cap) w:=fun _ _ _ _=>rfl
 have ax:A w.heap.size w ((w.alloc ZI).alloc (T [I J 0].toArray 44)):=(z4b (w:=w) ZI).alloc (z4b (w:=w) ZI).size _
 have hN0:CB ((w.alloc ZI).alloc (T [I J 0].toArray 44)) w.heap.size 41 ZIc:=(z3a w ZI _ _ rfl).alloc _
 have mB:CB ((w.alloc ZI).alloc (T [I J 0].toArray 44)) (w.heap.size+1) 44 [I J 0]:=by
  have:=z3a (w.alloc ZI) (T [I J 0].toArray 44) 44 _ rfl
  rwa [World.size_alloc] at this
 have HW:=hd_ (hb.ext ax);have az:=hd_ ax;have kY:=hd_ hN0;have eL:=hd_ mB;have Hl:=hd_ hl;have HD:=hd_ hd
 obtain ⟨E,hE⟩:∃ E,w.heap.size+1=E:=⟨_,rfl⟩
 have bq:C (w.heap.size≠E∧w.heap.size≤E):=hd_ (by omega)
 rw [hE] at eL
 clear hb ax hN0 mB hl hd
 go_enter_defers func21,ntmps21
 go_upto_region 1 with fail
 change Code.wp _ _ _ _ ((w.alloc ZI).alloc (T [I J 0].toArray 44))
 try rw [hE]
 generalize (w.alloc ZI).alloc (T [I J 0].toArray 44)=w0 at *
 go_upto_region 2 with (go_at_call 55;refine (y2m w0.heap.size l Hl.out _ w0 HW.out (lR _)).mono ?_;rw [HD.out];(rintro e w1 ⟨rfl,hg⟩;have hbz:=z0a az.out (z1d hg);have aG:=hd_ (z0a hbz (z4b (w:=w1) (T (w4 0 0 (Z Q 0 0)).toArray 80)));have ey:=hd_ ((kY.out.ext (z1d hg)).alloc (T (w4 0 0 (Z Q 0 0)).toArray 80));have jR:=hd_ ((eL.out.ext (z1d hg)).alloc (T (w4 0 0 (Z Q 0 0)).toArray 80));have x0:=jR.out.cv 0 (I J 0);have xf:(w1.alloc (T (w4 0 0 (Z Q 0 0)).toArray 80)).frozen? ⟨E,0,Q⟩=QQ:=jR.out.frozen 0;clear hg hbz))
 change Code.wp _ _ _ _ ((w1.alloc (T (w4 0 0 (Z Q 0 0)).toArray 80)).setCell ⟨E,0,Q⟩ (I J 10))
 have fZ:=hd_ (ey.out.far (p:=⟨E,0,Q⟩) bq.out.1 (I J 10))
 have dO:C (CB ((w1.alloc (T (w4 0 0 (Z Q 0 0)).toArray 80)).setCell ⟨E,0,Q⟩ (I J 10)) E 44 [I J 10]):=hd_ (jR.out.set 0 (I J 10))
 have au:=hd_ (aG.out.setCell (p:=⟨E,0,Q⟩) bq.out.2 (I J 10))
 have y2:=dO.out.cv 0 (I J 10)
 clear ey jR aG kY eL az HW x0 xf hE
 generalize (w1.alloc (T (w4 0 0 (Z Q 0 0)).toArray 80)).setCell ⟨E,0,Q⟩ (I J 10)=w2 at *
 go_upto_region 3 with fail
 clear y2
 refine wp_region_noPanic ?_
 refine z7a (S:=fun w'=>CB w' w.heap.size 41 ZIc∧w'.cell? ⟨E,0,Q⟩=U (I J 10)) (late:=fun _=>QQ) (by kernel_rfl) ⟨fZ.out.keep rfl,dO.out.cell 0⟩ (fun hHeld=>?_)
 have iC:C (CB w2.drew w.heap.size 41 ZIc):=fZ.out.keep rfl
 have ff:C (CB w2.drew E 44 [I J 10]):=dO.out.keep rfl
 have aA:C (A w.heap.size w w2.drew):=au.out.drew
 clear fZ dO au
 generalize w2.drew=w3 at *
 refine z2x 17 0 rfl (QZ (ZIc).toArray) (yieldsIf_load_mid (by rfl) 41 _ rfl w.heap.size 0 rfl (ZIc) _ (fun wS aa=>z3h aa.1) underlying41 rfl (by kernel_rfl)) ?_
 refine tkL 18 1 ?_
 refine rdL 2 fun K hK=>?_
 refine sif 41 (.tmp 2) (.tmp 17) rfl w.heap.size ZIc rfl rfl iC.out aD.out (fun w4 dX iR fe=>?_)
 have ei:=hd_ (ff.out.keep (iR.out.block _ ff.out.lt (fun e=>bq.out.1 (by injection e with e;exact e.symm))))
 have cH:=hd_ (aA.out.grown iR.out aA.out.size (fun k hk=>by injection hk with hk;omega))
 refine z4n hK ⟨dX.out,ei.out.cell 0⟩ fun hHeld=>?_
 clear hK K
 refine rdL 3 fun K hK=>?_
 have y0:=ei.out.cv 0 (I J 10)
 have yf:=ei.out.frozen 0
 go_simp
 refine z4n hK ⟨dX.out.keep (Below.heap_setCell w4 ⟨E,0,Q⟩ _ _ bq.out.1),(ei.out.set 0 _).cell 0⟩ fun hHeld=>?_
 clear hK K
 refine z3b (by kernel_rfl) ?_ _
 refine NoPanic.normal ?_
 go_wp2_with fail
 exact x3l rfl rfl (dX.out.keep (Below.heap_setCell w4 ⟨E,0,Q⟩ _ _ bq.out.1)) rfl (ei.out.set 0 _) ⟨z1h,rfl,x4y _,cH.out.setCell (p:=⟨E,0,Q⟩) bq.out.2 _⟩
theorem j6z.st {B N E:Nat} {x:V} {w w2 w3:O} {e:Ending} (hb:A w.heap.size w w2) (hN:CB w2 N 41 ZIc) (hE:CB w2 E 44 [I J 0]) (hB:B≤w2.heap.size) (hz:szs x.l≤1000000) (h:j6z B x w2 e w3) :
 (∃ c,x.kind=3∧e=L (M (U ⟨c,0,Q⟩))∧DSt w Q B [(c,x.l)] [z2h N 41 ZIc,z2h E 44 [I J 0]] w3)∨(¬ x.kind=3∧e=.panicked y3j∧DFin w Q [z2h N 41 ZIc,z2h E 44 [I J 0]] w3):=by
 have ht:∀ t∈[z2h N 41 ZIc,z2h E 44 [I J 0]],t.ok w2:=fun t ht=>by
  simp only [mC,nM,or_false] at ht
  rcases ht with rfl|rfl
  ·exact hN
  ·exact hE
 have h0:DSt w Q B [] [z2h N 41 ZIc,z2h E 44 [I J 0]] w2:=⟨z9a hb,hB,fun p hp=>absurd hp nM,fun p hp=>absurd hp nM,fun p hp=>absurd hp nM,List.nodup_nil,ht,fun t ht p hp=>absurd hp nM⟩
 unfold j6z at h
 by_cases hk:x.kind=3
 ·rw [if_pos hk] at h
  obtain ⟨g,h1,h2,h3,h4⟩:=h
  exact .inl ⟨g,hk,h1,h0.push h2 h4 h3 hz⟩
 ·rw [if_neg hk] at h
  exact .inr ⟨hk,h.1,(h0.grow h.2).fin⟩
theorem y4t (l:List UInt8) (hl:l.length≤1000000) (v:QJ) (w:O) (x:V) (dZ:sz x≤60000) (hb:z6c w.heap.size w l v) (hd:z4w l=U x):QX prog 21 #[v] w (j4v (z8q z2r l) w):=by
 have aD:=hd_ z7s
 have HszX:C (szs x.l≤1000000):=hd_ (by
  have h2:=z4c x
  omega)
 have HWb:=hd_ hb
 have Hl4:C (sz x≤60000):=hd_ dZ
 clear dZ
 obtain ⟨ob,capb,rfl⟩:=hb.shape
 have hmf:∀ (fn:Fn) (first cap:Array QJ) (w:O),(Instr.makeFunc fn first cap).run prog w=.ok (.func fn first cap) w:=fun _ _ _ _=>rfl
 have ax:A w.heap.size w ((w.alloc ZI).alloc (T [I J 0].toArray 44)):=(z4b (w:=w) ZI).alloc (z4b (w:=w) ZI).size _
 have hN0:CB ((w.alloc ZI).alloc (T [I J 0].toArray 44)) w.heap.size 41 ZIc:=(z3a w ZI _ _ rfl).alloc _
 have mB:CB ((w.alloc ZI).alloc (T [I J 0].toArray 44)) (w.heap.size+1) 44 [I J 0]:=by
  have:=z3a (w.alloc ZI) (T [I J 0].toArray 44) 44 _ rfl
  rwa [World.size_alloc] at this
 have HW:=hd_ (hb.ext ax);have az:=hd_ ax;have kY:=hd_ hN0;have eL:=hd_ mB;have Hl:=hd_ hl;have HD:=hd_ hd
 obtain ⟨E,hE⟩:∃ E,w.heap.size+1=E:=⟨_,rfl⟩
 have bq:C (w.heap.size≠E∧w.heap.size≤E):=hd_ (by omega)
 rw [hE] at eL
 have HEl:=hd_ eL.out.lt
 clear hb ax hN0 mB hl hd
 go_enter_defers func21,ntmps21
 go_upto_region 1 with fail
 change Code.wp _ _ _ _ ((w.alloc ZI).alloc (T [I J 0].toArray 44))
 try rw [hE]
 generalize (w.alloc ZI).alloc (T [I J 0].toArray 44)=w0 at *
 go_upto_region 2 with (go_at_call 55;refine (y2m w0.heap.size l Hl.out _ w0 HW.out (lR _)).mono ?_;rw [HD.out];(rintro e w1 ⟨v9,rfl,⟨z1,z2,z3,lv,rfl,z4⟩,hg⟩;obtain ⟨oa,cap,rfl⟩:=z1k z4;have HRV:=hd_ (And.intro z1 (And.intro z2 z3));have kX:=hd_ z4;have HWw:=hd_ hg.size;clear z1 z2 z3 z4;have hbz:=z0a az.out (z1d hg);have aG:=hd_ (z0a hbz (z4b (w:=w1) (T (v4 x (Z oa x.l.length cap)).toArray 80)));have ey:=hd_ ((kY.out.ext (z1d hg)).alloc (T (v4 x (Z oa x.l.length cap)).toArray 80));have jR:=hd_ ((eL.out.ext (z1d hg)).alloc (T (v4 x (Z oa x.l.length cap)).toArray 80));have x0:=jR.out.cv 0 (I J 0);have xf:(w1.alloc (T (v4 x (Z oa x.l.length cap)).toArray 80)).frozen? ⟨E,0,Q⟩=QQ:=jR.out.frozen 0;clear hg hbz))
 change Code.wp _ _ _ _ ((w1.alloc (T (v4 x (Z oa x.l.length cap)).toArray 80)).setCell ⟨E,0,Q⟩ (I J 0))
 have dO:C (CB ((w1.alloc (T (v4 x (Z oa x.l.length cap)).toArray 80)).setCell ⟨E,0,Q⟩ (I J 0)) E 44 [I J 0]):=hd_ (jR.out.set 0 (I J 0))
 have fZ:=hd_ (ey.out.far (p:=⟨E,0,Q⟩) bq.out.1 (I J 0))
 have au:=hd_ (aG.out.setCell (p:=⟨E,0,Q⟩) bq.out.2 (I J 0))
 have pk:=hd_ (show E<w1.heap.size from Nat.lt_of_lt_of_le HEl.out HWw.out)
 have hV2:CB ((w1.alloc (T (v4 x (Z oa x.l.length cap)).toArray 80)).setCell ⟨E,0,Q⟩ (I J 0)) w1.heap.size 80 (v4 x (Z oa x.l.length cap)):=(z3a w1 (T (v4 x (Z oa x.l.length cap)).toArray 80) _ _ rfl).far (p:=⟨E,0,Q⟩) (by show w1.heap.size≠E;have:=pk.out;omega) _
 have HSz:=hd_ (show w1.heap.size≤((w1.alloc (T (v4 x (Z oa x.l.length cap)).toArray 80)).setCell ⟨E,0,Q⟩ (I J 0)).heap.size from Nat.le_of_lt hV2.lt)
 have dm:C (x2f (fun j=>j<w1.heap.size) ((w1.alloc (T (v4 x (Z oa x.l.length cap)).toArray 80)).setCell ⟨E,0,Q⟩ (I J 0)) x (QZ (v4 x (Z oa x.l.length cap)).toArray)):=⟨HRV.out.1,HRV.out.2.1,HRV.out.2.2,_,rfl,kX.out.keep (fun k hk=>hk.2) (fun j hj=>(Below.heap_setCell _ ⟨E,0,Q⟩ _ j (by show j≠E;have:=HEl.out;omega)).trans (Below.heap_alloc w1 _ j hj.2))⟩
 have y0:=dO.out.cv 0 (I J 0)
 have c0:=hV2.cv 0 (I J x.kind)
 have c1:=hV2.cv 1 (I J x.n)
 have c2:=hV2.cv 2 (Y x.s)
 have c3:=hV2.cv 3 (Z oa x.l.length cap)
 clear ey jR aG kY eL az HW x0 xf hE hV2 HRV kX
 generalize ((w1.alloc (T (v4 x (Z oa x.l.length cap)).toArray 80)).setCell ⟨E,0,Q⟩ (I J 0))=w2 at *
 generalize w1.heap.size=B at *
 go_upto_region 6 with (go_at_call 57;refine (x0q B x _ w2 dm.out HSz.out).mono ?_;(intro e w3 ho;have ho:=j6z.st au.out fZ.out dO.out HSz.out HszX.out ho;rcases ho with ⟨c,hk,rfl,hs⟩|⟨hk,rfl,hf⟩);rotate_left;(have hbadk:=hd_ hk);rotate_left;(have gQ:=hd_ hk;have H0:=hd_ hs;have fj:=HD;clear hk hs))
 all_goals (try (exact y1t rfl rfl (hf.thg (z2h w.heap.size 41 ZIc) (mG (i:=0) rfl)) (hf.thg (z2h E 44 [I J 0]) (mG (i:=1) rfl)) bq.out.1 (fun w'' hc=>y2t (y7i HD.out (by unfold z2r;rw [if_neg hbadk.out])) hf.gr (lR _) bq.out.2 hc)))
 clear dO fZ au HSz dm y0 c0 c1 c2 c3 HD
 have hd0:j2h x.l=j2h x.l:=rfl
 conv at hd0=>rhs;unfold j2h
 have lc:=hd_ hd0
 clear hd0
 clear HEl pk HWw HszX
 go_upto_region 7 with (first
  | (have _g:=H0.out;go_at_call 58;refine lsK (H0.out) lc (fun q1 p1 r1 u1 ez H1=>?_) fun _ ac hf=>?_;clear H0 lc))
 all_goals (try exact x4e hf bq fj gQ ac)
 go_upto_region 8 with (first
  | (have _g:=H1.out;go_at_call 59;refine rdK (H1.out.num) ez (fun q2 r2 u2 jr H2=>?_) fun _ ac hf=>?_;clear H1 ez)
  | (have _g:=H2.out;go_at_call 59;refine rdK (H2.out.num) jr (fun q3 r3 u3 ld H3=>?_) fun _ ac hf=>?_;clear H2 jr)
  | (have _g:=H3.out;go_at_call 59;refine rdK (H3.out.num) ld (fun q4 r4 u4 lf H4=>?_) fun _ ac hf=>?_;clear H3 ld)
  | (have _g:=H4.out;go_at_call 59;refine rdK (H4.out.drop.num) lf (fun q5 r5 u5 lg H5=>?_) fun _ ac hf=>?_;clear H4 lf)
  | (have _g:=H5.out;go_at_call 60;refine rdK (H5.out.txt) lg (fun q6 r6 u6 lh H6=>?_) fun _ ac hf=>?_;clear H5 lg;have hzb:=z4b (w:=u6) ZI;have H0x:=hd_ ((H6.out.grow hzb).add (z2h u6.heap.size 41 ZIc) (z3a u6 ZI _ _ rfl) (fun p hp e=>by have:=(H6.out.cur p hp).lt';have:p.1=u6.heap.size:=e;omega));have HXl:=hd_ (show w.heap.size≤u6.heap.size∧B≤u6.heap.size∧(∀ t∈[z2h w.heap.size 41 ZIc,z2h E 44 [I J 0]],¬ t.blk u6.heap.size) from ⟨H6.out.gr.size,H6.out.hB,fun t ht hk=>by have:=t.lt (H6.out.thg t ht) _ hk;omega⟩);clear hzb H6)
  | (have _g:=H0x.out;refine z9b (by rfl) 41 #[(0,.tmp 30),(1,.tmp 32),(2,.tmp 34)] rfl [I J q2,I J q3,I J q4,I J q5,Y q6,I J 0,I J 0,I J 0,Y ByteArray.empty,Z Q 0 0,I J 0,I J 0,D QQ,Z Q 0 0,I J 0,I J 0,Z Q 0 0,I J 0,I J 0,I J 0,I J 0,Y ByteArray.empty,I J 0,I J 0,I J 0,D QQ,I J 0,Z Q 0 0,I J 0,I J 0,I J 0,I J 0] [(0,QZ #[I J q2,I J q3,I J q4]),(1,I J q5),(2,Y q6)] rfl (by kernel_rfl) ?_)
  | (have _g:=H0x.out;refine scs 41 (.tmp 7) (.tmp 35) rfl u6.heap.size [I J q2,I J q3,I J q4,I J q5,Y q6,I J 0,I J 0,I J 0,Y ByteArray.empty,Z Q 0 0,I J 0,I J 0,D QQ,Z Q 0 0,I J 0,I J 0,Z Q 0 0,I J 0,I J 0,I J 0,I J 0,Y ByteArray.empty,I J 0,I J 0,I J 0,D QQ,I J 0,Z Q 0 0,I J 0,I J 0,I J 0,I J 0] rfl rfl (H0x.out.thg _ mS) (z8y rfl) (fun w6 cD fS HS6=>?_);have hx:=DX.set (yc:=[I J q2,I J q3,I J q4,I J q5,Y q6,I J 0,I J 0,I J 0,Y ByteArray.empty,Z Q 0 0,I J 0,I J 0,D QQ,Z Q 0 0,I J 0,I J 0,Z Q 0 0,I J 0,I J 0,I J 0,I J 0,Y ByteArray.empty,I J 0,I J 0,I J 0,D QQ,I J 0,Z Q 0 0,I J 0,I J 0,I J 0,I J 0]) (DX.mk H0x.out HXl.out.2.2 HXl.out.1 HXl.out.2.1) fS.out cD.out;have H6:=hd_ hx;clear hx H0x cD fS HS6))
 all_goals (try exact x4e hf bq fj gQ ac)
 generalize u6.heap.size=X at *
 go_upto_region 9 with (first
  | (have _g:=H6.out;go_at_call 58;refine lsX H6 (fun h=>h) lh (fun q7 p7 r7 u7 iT H7=>?_) fun _ ac hf=>?_;clear H6 lh))
 all_goals (try exact x4e hf bq fj gQ ac)
 go_upto_region 10 with (first
  | (have _g:=H7.out;go_at_call 59;refine rdX H7 (H7.out.d.num) iT (fun q8 r8 u8 jb H8=>?_) fun _ ac hf=>?_;clear H7 iT)
  | (have _g:=H8.out;go_at_call 59;refine rdX H8 (H8.out.d.num) jb (fun q9 r9 u9 li H9=>?_) fun _ ac hf=>?_;clear H8 jb)
  | (have _g:=H9.out;go_at_call 59;refine rdX H9 (H9.out.d.num) li (fun gz r10 u10 fG dN=>?_) fun _ ac hf=>?_;clear H9 li)
  | (have _g:=dN.out;go_at_call 60;refine rdX dN (dN.out.d.txt) fG (fun gB r11 u11 HD11 mn=>?_) fun _ ac hf=>?_;clear dN fG)
  | (have _g:=mn.out;go_at_call 61;refine (mn.out.d.nss).mono ?_;rintro e u12 (⟨fo,r12,dD,bO,hN,rfl,hs,hb⟩|⟨hN,rfl,hf⟩);rotate_left;(have ac:=hd_ (HD11.out.trans (z8l hN));clear mn);rotate_left;have HD12:=hd_ (HD11.out.trans (z7l hN));have gK:=hd_ (mn.out.own hs hb);clear hN hs hb mn HD11)
  | (have _g:=gK.out;go_at_call 62;refine rdX gK (gK.out.d.spn) HD12 (fun q13 r13 u13 HD13 nh=>?_) fun _ ac hf=>?_;clear gK HD12;obtain ⟨dt,du⟩:=q13)
  | (have _g:=nh.out;go_at_call 63;refine rdX nh (nh.out.d.flg) HD13 (fun gC r14 u14 HD14 iG=>?_) fun _ ac hf=>?_;clear nh HD13)
  | (have _g:=iG.out;refine z9b (by rfl) 28 #[(0,.tmp 39),(1,.tmp 41),(2,.tmp 43),(3,.tmp 45),(4,.tmp 47),(5,.tmp 49),(6,.tmp 51)] rfl [I J q8,I J q9,I J gz,Y gB,Z dD fo.length bO,I J dt,I J du,D gC] [(0,I J q8),(1,I J q9),(2,I J gz),(3,Y gB),(4,Z dD fo.length bO),(5,QZ #[I J dt,I J du]),(6,D gC)] rfl (by kernel_rfl) ?_)
  | (have _g:=iG.out;refine z0b rfl 28 (.tmp 53) (.tmp 52) rfl X 5 [I J q8,I J q9,I J gz,Y gB,Z dD fo.length bO,I J dt,I J du,D gC] rfl rfl 41 _ iG.out.box (Nat.le_of_ble_eq_true rfl) (by kernel_rfl) (z8y rfl) (fun w6 cD fS=>?_);have hx:=DX.set (yc:=[I J q2,I J q3,I J q4,I J q5,Y q6,I J q8,I J q9,I J gz,Y gB,Z dD fo.length bO,I J dt,I J du,D gC,Z Q 0 0,I J 0,I J 0,Z Q 0 0,I J 0,I J 0,I J 0,I J 0,Y ByteArray.empty,I J 0,I J 0,I J 0,D QQ,I J 0,Z Q 0 0,I J 0,I J 0,I J 0,I J 0]) iG.out fS.out cD.out;clear iG cD fS;have iG:=hd_ hx;clear hx))
 all_goals (try exact x4e hf bq fj gQ ac)
 go_upto_region 11 with (first
  | (have _g:=iG.out;go_at_call 64;refine (iG.out.d.drop.tre).mono ?_;rintro e u15 (⟨eK,r15,dE,bW,rl15,hN,rfl,hs,hb⟩|⟨hN,rfl,hf⟩);rotate_left;(have ac:=hd_ (HD14.out.trans (z8l hN));clear iG);rotate_left;have HD15:=hd_ (HD14.out.trans (z7l hN));have jF:=hd_ (iG.out.own hs hb);clear hN hs hb iG HD14;have xo:=jF.out.box.cv 13 (Z Q 0 0);have xf:u15.frozen? ⟨X,13,Q⟩=QQ:=jF.out.box.frozen 13))
 all_goals (try exact x4e hf bq fj gQ ac)
 change Code.wp _ _ _ _ (u15.setCell ⟨X,13,Q⟩ (Z dE eK.length bW))
 have hx:=DX.set (yc:=[I J q2,I J q3,I J q4,I J q5,Y q6,I J q8,I J q9,I J gz,Y gB,Z dD fo.length bO,I J dt,I J du,D gC,Z dE eK.length bW,I J 0,I J 0,Z Q 0 0,I J 0,I J 0,I J 0,I J 0,Y ByteArray.empty,I J 0,I J 0,I J 0,D QQ,I J 0,Z Q 0 0,I J 0,I J 0,I J 0,I J 0]) jF.out (z6b u15 X 13 (Z dE eK.length bW)) (jF.out.box.set 13 (Z dE eK.length bW))
 clear jF xo xf
 have jF:=hd_ hx
 clear hx
 generalize u15.setCell ⟨X,13,Q⟩ (Z dE eK.length bW)=us15 at *
 go_upto_region 12 with (first
  | (have _g:=jF.out;go_at_call 58;refine lsX jF (fun h=>h) HD15 (fun q16 p16 r16 u16 HD16 nj=>?_) fun _ ac hf=>?_;clear jF HD15))
 all_goals (try exact x4e hf bq fj gQ ac)
 go_upto_region 13 with (first
  | (have _g:=nj.out;go_at_call 59;refine rdX nj (nj.out.d.num) HD16 (fun ib r17 u17 HD17 H17=>?_) fun _ ac hf=>?_;clear nj HD16)
  | (have _g:=H17.out;go_at_call 59;refine rdX H17 (H17.out.d.num) HD17 (fun ic r18 u18 HD18 H18=>?_) fun _ ac hf=>?_;clear H17 HD17)
  | (have _g:=H18.out;go_at_call 61;refine (H18.out.d.nss).mono ?_;rintro e u19 (⟨fT,r19,eg,cX,hN,rfl,hs,hb⟩|⟨hN,rfl,hf⟩);rotate_left;(have ac:=hd_ (HD18.out.trans (z8l hN));clear H18);rotate_left;have HD19:=hd_ (HD18.out.trans (z7l hN));have mo:=hd_ (H18.out.own hs hb);clear hN hs hb H18 HD18)
  | (have _g:=mo.out;refine z9b (by rfl) 31 #[(0,.tmp 60),(1,.tmp 62),(2,.tmp 64)] rfl [I J ib,I J ic,Z eg fT.length cX] [(0,I J ib),(1,I J ic),(2,Z eg fT.length cX)] rfl (by kernel_rfl) ?_)
  | (have _g:=mo.out;refine z0b rfl 31 (.tmp 66) (.tmp 65) rfl X 14 [I J ib,I J ic,Z eg fT.length cX] rfl rfl 41 _ mo.out.box (Nat.le_of_ble_eq_true rfl) (by kernel_rfl) (z8y rfl) (fun w6 cD fS=>?_);have hx:=DX.set (yc:=[I J q2,I J q3,I J q4,I J q5,Y q6,I J q8,I J q9,I J gz,Y gB,Z dD fo.length bO,I J dt,I J du,D gC,Z dE eK.length bW,I J ib,I J ic,Z eg fT.length cX,I J 0,I J 0,I J 0,I J 0,Y ByteArray.empty,I J 0,I J 0,I J 0,D QQ,I J 0,Z Q 0 0,I J 0,I J 0,I J 0,I J 0]) mo.out fS.out cD.out;clear mo cD fS;have mo:=hd_ hx;clear hx))
 all_goals (try exact x4e hf bq fj gQ ac)
 go_upto_region 14 with (first
  | (have _g:=mo.out;go_at_call 58;refine lsX mo (fun h=>h.drop) HD19 (fun q20 p20 r20 u20 HD20 H20=>?_) fun _ ac hf=>?_;clear mo HD19))
 all_goals (try exact x4e hf bq fj gQ ac)
 go_upto_region 15 with (first
  | (have _g:=H20.out;go_at_call 59;refine rdX H20 (H20.out.d.num) HD20 (fun iH r21 u21 HD21 kD=>?_) fun _ ac hf=>?_;clear H20 HD20)
  | (have _g:=kD.out;go_at_call 59;refine rdX kD (kD.out.d.num) HD21 (fun iI r22 u22 HD22 em=>?_) fun _ ac hf=>?_;clear kD HD21)
  | (have _g:=em.out;go_at_call 59;refine rdX em (em.out.d.num) HD22 (fun iJ r23 u23 HD23 eH=>?_) fun _ ac hf=>?_;clear em HD22)
  | (have _g:=eH.out;go_at_call 59;refine rdX eH (eH.out.d.num) HD23 (fun iK r24 u24 HD24 H24=>?_) fun _ ac hf=>?_;clear eH HD23)
  | (have _g:=H24.out;go_at_call 60;refine rdX H24 (H24.out.d.txt) HD24 (fun iL r25 u25 HD25 H25=>?_) fun _ ac hf=>?_;clear H24 HD24)
  | (have _g:=H25.out;go_at_call 59;refine rdX H25 (H25.out.d.num) HD25 (fun iM r26 u26 HD26 mp=>?_) fun _ ac hf=>?_;clear H25 HD25)
  | (have _g:=mp.out;refine z9b (by rfl) 33 #[(0,.tmp 70),(1,.tmp 72),(2,.tmp 74),(3,.tmp 76),(4,.tmp 78),(5,.tmp 80)] rfl [I J iH,I J iI,I J iJ,I J iK,Y iL,I J iM] [(0,I J iH),(1,I J iI),(2,I J iJ),(3,I J iK),(4,Y iL),(5,I J iM)] rfl (by kernel_rfl) ?_)
  | (have _g:=mp.out;refine z0b rfl 33 (.tmp 82) (.tmp 81) rfl X 17 [I J iH,I J iI,I J iJ,I J iK,Y iL,I J iM] rfl rfl 41 _ mp.out.box (Nat.le_of_ble_eq_true rfl) (by kernel_rfl) (z8y rfl) (fun w6 cD fS=>?_);have hx:=DX.set (yc:=[I J q2,I J q3,I J q4,I J q5,Y q6,I J q8,I J q9,I J gz,Y gB,Z dD fo.length bO,I J dt,I J du,D gC,Z dE eK.length bW,I J ib,I J ic,Z eg fT.length cX,I J iH,I J iI,I J iJ,I J iK,Y iL,I J iM,I J 0,I J 0,D QQ,I J 0,Z Q 0 0,I J 0,I J 0,I J 0,I J 0]) mp.out fS.out cD.out;clear mp cD fS;have mp:=hd_ hx;clear hx))
 all_goals (try exact x4e hf bq fj gQ ac)
 go_upto_region 16 with (first
  | (have _g:=mp.out;go_at_call 58;refine lsX mp (fun h=>h.drop) HD26 (fun q27 p27 r27 u27 HD27 H27=>?_) fun _ ac hf=>?_;clear mp HD26))
 all_goals (try exact x4e hf bq fj gQ ac)
 go_upto_region 17 with (first
  | (have _g:=H27.out;go_at_call 59;refine rdX H27 (H27.out.d.num) HD27 (fun ji r28 u28 HD28 H28=>?_) fun _ ac hf=>?_;clear H27 HD27)
  | (have _g:=H28.out;go_at_call 59;refine rdX H28 (H28.out.d.num) HD28 (fun jj r29 u29 HD29 H29=>?_) fun _ ac hf=>?_;clear H28 HD28)
  | (have _g:=H29.out;go_at_call 63;refine rdX H29 (H29.out.d.flg) HD29 (fun jk r30 u30 HD30 lj=>?_) fun _ ac hf=>?_;clear H29 HD29)
  | (have _g:=lj.out;refine z9b (by rfl) 35 #[(0,.tmp 86),(1,.tmp 88),(2,.tmp 90)] rfl [I J ji,I J jj,D jk] [(0,I J ji),(1,I J jj),(2,D jk)] rfl (by kernel_rfl) ?_)
  | (have _g:=lj.out;refine z0b rfl 35 (.tmp 92) (.tmp 91) rfl X 23 [I J ji,I J jj,D jk] rfl rfl 41 _ lj.out.box (Nat.le_of_ble_eq_true rfl) (by kernel_rfl) (z8y rfl) (fun w6 cD fS=>?_);have hx:=DX.set (yc:=[I J q2,I J q3,I J q4,I J q5,Y q6,I J q8,I J q9,I J gz,Y gB,Z dD fo.length bO,I J dt,I J du,D gC,Z dE eK.length bW,I J ib,I J ic,Z eg fT.length cX,I J iH,I J iI,I J iJ,I J iK,Y iL,I J iM,I J ji,I J jj,D jk,I J 0,Z Q 0 0,I J 0,I J 0,I J 0,I J 0]) lj.out fS.out cD.out;clear lj cD fS;have lj:=hd_ hx;clear hx))
 all_goals (try exact x4e hf bq fj gQ ac)
 go_upto_region 18 with (first
  | (have _g:=lj.out;go_at_call 59;refine rdX lj (lj.out.d.drop.num) HD30 (fun jl r31 u31 HD31 mq=>?_) fun _ ac hf=>?_;clear lj HD30;have xo:=mq.out.box.cv 26 (I J 0);have xf:u31.frozen? ⟨X,26,Q⟩=QQ:=mq.out.box.frozen 26))
 all_goals (try exact x4e hf bq fj gQ ac)
 change Code.wp _ _ _ _ (u31.setCell ⟨X,26,Q⟩ (I J jl))
 have hx:=DX.set (yc:=[I J q2,I J q3,I J q4,I J q5,Y q6,I J q8,I J q9,I J gz,Y gB,Z dD fo.length bO,I J dt,I J du,D gC,Z dE eK.length bW,I J ib,I J ic,Z eg fT.length cX,I J iH,I J iI,I J iJ,I J iK,Y iL,I J iM,I J ji,I J jj,D jk,I J jl,Z Q 0 0,I J 0,I J 0,I J 0,I J 0]) mq.out (z6b u31 X 26 (I J jl)) (mq.out.box.set 26 (I J jl))
 clear mq xo xf
 have mq:=hd_ hx
 clear hx
 generalize u31.setCell ⟨X,26,Q⟩ (I J jl)=us31 at *
 go_upto_region 19 with (first
  | (have _g:=mq.out;go_at_call 58;refine lsX mq (fun h=>h) HD31 (fun q32 p32 r32 u32 HD32 H32=>?_) fun _ ac hf=>?_;clear mq HD31))
 all_goals (try exact x4e hf bq fj gQ ac)
 go_upto_region 20 with (first
  | (have _g:=H32.out;go_at_call 61;refine (H32.out.d.nss).mono ?_;rintro e u33 (⟨ie,r33,fH,dI,hN,rfl,hs,hb⟩|⟨hN,rfl,hf⟩);rotate_left;(have ac:=hd_ (HD32.out.trans (z8l hN));clear H32);rotate_left;have HD33:=hd_ (HD32.out.trans (z7l hN));have H33:=hd_ (H32.out.own hs hb);clear hN hs hb H32 HD32)
  | (have _g:=H33.out;go_at_call 59;refine rdX H33 (H33.out.d.num) HD33 (fun jS r34 u34 HD34 H34=>?_) fun _ ac hf=>?_;clear H33 HD33)
  | (have _g:=H34.out;go_at_call 59;refine rdX H34 (H34.out.d.num) HD34 (fun jT r35 u35 HD35 mr=>?_) fun _ ac hf=>?_;clear H34 HD34)
  | (have _g:=mr.out;refine z9b (by rfl) 37 #[(0,.tmp 99),(1,.tmp 101),(2,.tmp 103)] rfl [Z fH ie.length dI,I J jS,I J jT] [(0,Z fH ie.length dI),(1,I J jS),(2,I J jT)] rfl (by kernel_rfl) ?_)
  | (have _g:=mr.out;refine z0b rfl 37 (.tmp 105) (.tmp 104) rfl X 27 [Z fH ie.length dI,I J jS,I J jT] rfl rfl 41 _ mr.out.box (Nat.le_of_ble_eq_true rfl) (by kernel_rfl) (z8y rfl) (fun w6 cD fS=>?_);have hx:=DX.set (yc:=[I J q2,I J q3,I J q4,I J q5,Y q6,I J q8,I J q9,I J gz,Y gB,Z dD fo.length bO,I J dt,I J du,D gC,Z dE eK.length bW,I J ib,I J ic,Z eg fT.length cX,I J iH,I J iI,I J iJ,I J iK,Y iL,I J iM,I J ji,I J jj,D jk,I J jl,Z fH ie.length dI,I J jS,I J jT,I J 0,I J 0]) mr.out fS.out cD.out;clear mr cD fS;have mr:=hd_ hx;clear hx))
 all_goals (try exact x4e hf bq fj gQ ac)
 go_upto_region 21 with (first
  | (have _g:=mr.out;go_at_call 58;refine lsX mr (fun h=>h.drop) HD35 (fun q36 p36 r36 u36 HD36 H36=>?_) fun _ ac hf=>?_;clear mr HD35))
 all_goals (try exact x4e hf bq fj gQ ac)
 go_upto_region 22 with (first
  | (have _g:=H36.out;go_at_call 59;refine rdX H36 (H36.out.d.num) HD36 (fun kF r37 u37 HD37 H37=>?_) fun _ ac hf=>?_;clear H36 HD36)
  | (have _g:=H37.out;go_at_call 59;refine rdX H37 (H37.out.d.num) HD37 (fun kG r38 u38 HD38 iN=>?_) fun _ ac hf=>?_;clear H37 HD37)
  | (have _g:=iN.out;refine z9b (by rfl) 39 #[(0,.tmp 109),(1,.tmp 111)] rfl [I J kF,I J kG] [(0,I J kF),(1,I J kG)] rfl (by kernel_rfl) ?_)
  | (have _g:=iN.out;refine z0b rfl 39 (.tmp 113) (.tmp 112) rfl X 30 [I J kF,I J kG] rfl rfl 41 _ iN.out.box (Nat.le_of_ble_eq_true rfl) (by kernel_rfl) (z8y rfl) (fun w6 cD fS=>?_);have hx:=DX.set (yc:=[I J q2,I J q3,I J q4,I J q5,Y q6,I J q8,I J q9,I J gz,Y gB,Z dD fo.length bO,I J dt,I J du,D gC,Z dE eK.length bW,I J ib,I J ic,Z eg fT.length cX,I J iH,I J iI,I J iJ,I J iK,Y iL,I J iM,I J ji,I J jj,D jk,I J jl,Z fH ie.length dI,I J jS,I J jT,I J kF,I J kG]) iN.out fS.out cD.out;clear iN cD fS;have iN:=hd_ hx;clear hx))
 all_goals (try exact x4e hf bq fj gQ ac)
 have hfin:j2h x.l=U (⟨q2,q3,q4,q5,q6,⟨q8,q9,gz,gB,fo,dt,du,gC⟩,eK,⟨ib,ic,fT⟩,⟨iH,iI,iJ,iK,iL,iM⟩,⟨ji,jj,jk⟩,jl,⟨ie,jS,jT⟩,kF,kG⟩:Inp):=HD38.out
 have hi:=j3n gQ.out hfin
 obtain ⟨-,-,aW,hsz⟩:=z5l fj.out (by have:=Hl.out;unfold maxLen;omega)
 have hkeep:=y9h hi aW
 have HI:=hd_ hkeep.1
 have HS:=hd_ (show sz (lV (z6e (⟨q2,q3,q4,q5,q6,⟨q8,q9,gz,gB,fo,dt,du,gC⟩,eK,⟨ib,ic,fT⟩,⟨iH,iI,iJ,iK,iL,iM⟩,⟨ji,jj,jk⟩,jl,⟨ie,jS,jT⟩,kF,kG⟩:Inp)))≤60000 by have:=hkeep.2;have:=Hl4.out;omega)
 have nk:=hd_ (InpL.of HS.out)
 have HDI:=hd_ hi
 have t1:=iN.out.d.thg _ (mG (i:=1) rfl)
 have t2:=iN.out.d.thg _ (mG (i:=2) rfl)
 have t3:=iN.out.d.thg _ (mG (i:=3) rfl)
 have t4:=iN.out.d.thg _ (mG (i:=4) rfl)
 have ia:=hd_ (show x8q (⟨q2,q3,q4,q5,q6,⟨q8,q9,gz,gB,fo,dt,du,gC⟩,eK,⟨ib,ic,fT⟩,⟨iH,iI,iJ,iK,iL,iM⟩,⟨ji,jj,jk⟩,jl,⟨ie,jS,jT⟩,kF,kG⟩:Inp) (⟨Z dD fo.length bO,Z dE eK.length bW,Z eg fT.length cX,Z fH ie.length dI⟩:Slc) w6 from ⟨_,_,_,_,_,t4,t3,t2,t1⟩)
 have pn:=hd_ (show CB w6 X 41 ((⟨q2,q3,q4,q5,q6,⟨q8,q9,gz,gB,fo,dt,du,gC⟩,eK,⟨ib,ic,fT⟩,⟨iH,iI,iJ,iK,iL,iM⟩,⟨ji,jj,jk⟩,jl,⟨ie,jS,jT⟩,kF,kG⟩:Inp).cells (⟨Z dD fo.length bO,Z dE eK.length bW,Z eg fT.length cX,Z fH ie.length dI⟩:Slc)) from iN.out.box)
 have jm:=hd_ (show ∀ u∈([I J q2,I J q3,I J q4,I J q5,Y q6,I J q8,I J q9,I J gz,Y gB,Z dD fo.length bO,I J dt,I J du,D gC,Z dE eK.length bW,I J ib,I J ic,Z eg fT.length cX,I J iH,I J iI,I J iJ,I J iK,Y iL,I J iM,I J ji,I J jj,D jk,I J jl,Z fH ie.length dI,I J jS,I J jT,I J kF,I J kG]:List QJ),u.oneCell'=QY from (z8y rfl))
 replace jm:=hd_ (show ∀ u∈(⟨q2,q3,q4,q5,q6,⟨q8,q9,gz,gB,fo,dt,du,gC⟩,eK,⟨ib,ic,fT⟩,⟨iH,iI,iJ,iK,iL,iM⟩,⟨ji,jj,jk⟩,jl,⟨ie,jS,jT⟩,kF,kG⟩:Inp).cells (⟨Z dD fo.length bO,Z dE eK.length bW,Z eg fT.length cX,Z fH ie.length dI⟩:Slc),u.oneCell'=QY from jm.out)
 have HNw:=hd_ (show CB w6 w.heap.size 41 ZIc from iN.out.d.thg (z2h w.heap.size 41 ZIc) (mG (i:=5) rfl))
 have pk:=hd_ (show CB w6 E 44 [I J 0] from iN.out.d.thg (z2h E 44 [I J 0]) (mG (i:=6) rfl))
 have oM:=hd_ iN.out.d.gr
 clear iN HD38 t1 t2 t3 t4 hfin hi aW hsz hkeep
 generalize (⟨q2,q3,q4,q5,q6,⟨q8,q9,gz,gB,fo,dt,du,gC⟩,eK,⟨ib,ic,fT⟩,⟨iH,iI,iJ,iK,iL,iM⟩,⟨ji,jj,jk⟩,jl,⟨ie,jS,jT⟩,kF,kG⟩:Inp)=y at *
 generalize (⟨Z dD fo.length bO,Z dE eK.length bW,Z eg fT.length cX,Z fH ie.length dI⟩:Slc)=sl at *
 have HbW:=hd_ (HWb.out.ext (z1d oM.out))
 obtain ⟨bo,hbo⟩:∃ bo,okI y=bo:=⟨_,rfl⟩
 have dc:=hd_ hbo
 clear hbo
 cases bo
 case false =>
  have hdec:C (z8q z2r l=(zP,490)):=hd_ (by rw [y8i fj.out HDI.out,dc.out];rfl)
  go_upto_region 23 with (first
   | (have _g:=pn.out;refine lcs 41 (.tmp 7) rfl X (y.cells sl) rfl pn.out underlying41 ?_;clear pn)
   | (go_at_call 14;refine (z6n y sl _ ia.out.rd HI.out nk.out HS.out).mono ?_;unfold k3m;rw [dc.out];simp only [Bool.false_eq_true,if_false];(rintro e w7 ⟨u,rfl,hbt,ag⟩;obtain ⟨ou,cu,rfl⟩:=hbt.shape;have jU:=hd_ (HNw.out.ext ag);have jn:=hd_ (pk.out.ext ag);have kI:=hd_ (z2a oM.out (z9a ag) (.inr fun q e=>by cases e));clear hbt ag)))
  clear HNw pk oM
  go_wp2_with fail
  exact y1t rfl rfl jU.out jn.out bq.out.1 (fun w'' hc=>y2t hdec.out kI.out (lR _) bq.out.2 hc)
 case true =>
  obtain ⟨sa,hsa⟩:∃ sa,(⟨(z4o y).toArray⟩:ByteArray)=sa:=⟨_,rfl⟩
  obtain ⟨sb,hsb⟩:∃ sb,(⟨l.toArray⟩:ByteArray)=sb:=⟨_,rfl⟩
  have hab:(sa=sb)↔z4o y=l:=by
   rw [← hsa,← hsb]
   constructor
   ·intro h;injection h with h;exact List.toArray_inj h
   ·intro h;rw [h]
  have hlen:(z4o y).length≤9223372036854775807:=by
   have h1:=y4l (lV (z6e y));have:=HS.out;unfold z4o;omega
  have fA:=hd_ hlen
  clear hlen
  go_upto_region 23 with (first
   | (have _g:=pn.out;refine lcs 41 (.tmp 7) rfl X (y.cells sl) rfl pn.out underlying41 ?_;have HXv:=hd_ pn.out;clear pn)
   | (go_at_call 14;refine (z6n y sl _ ia.out.rd HI.out nk.out HS.out).mono ?_;unfold k3m;rw [dc.out];simp only [if_true];(rintro e w7 ⟨u,rfl,hbt,ag⟩;obtain ⟨ou,cu,rfl⟩:=hbt.shape;have jU:=hd_ (HNw.out.ext ag);have jn:=hd_ (pk.out.ext ag);have HX7:=hd_ (HXv.out.ext ag);have iA:=hd_ (ia.out.ext ag);have kI:=hd_ (z2a oM.out (z9a ag) (.inr fun q e=>by cases e));have k1:=z4p hbt;have k2:=z4p (HbW.out.ext ag);rw [hsa] at k1;rw [hsb] at k2;clear hbt ag)))
  clear HNw pk oM HXv ia HbW
  generalize (z4o y).length=ne at *
  by_cases he:z4o y=l
  ·have hdec:C (z8q z2r l=(y,0)):=hd_ (by rw [y8i fj.out HDI.out,dc.out,he,decide_eq_true rfl];rfl)
   have kq:(sa.toList == sb.toList)=QY:=by rw [y5x];exact decide_eq_true (hab.2 he)
   clear hab hsa hsb he
   go_wp2_with (first
    | (have _g:=HX7.out;refine lcs 41 (.tmp 7) rfl X (y.cells sl) rfl HX7.out underlying41 ?_;clear HX7)
    | (have _g:=jm.out;refine scs 41 (.tmp 2) (.tmp 129) rfl w.heap.size (y.cells sl) rfl rfl jU.out jm.out (fun w8 aI bg dk=>?_);have HE8:=hd_ (jn.out.keep (bg.out.block _ jn.out.lt (fun e=>bq.out.1 (by injection e with e;exact e.symm))));have x0:=HE8.out.cv 0 (I J 0);have xf:w8.frozen? ⟨E,0,Q⟩=QQ:=HE8.out.frozen 0;have kU:=hd_ (iA.out.row jU.out (by decide) bg.out);have dA:=hd_ (y0e kI.out bg.out (lR _));clear jm iA jU jn kI))
   have hE9:=HE8.out.set 0 (I J 0)
   have hN9:=aI.out.far (p:=⟨E,0,Q⟩) bq.out.1 (I J 0)
   have jh:=kU.out.row HE8.out (by decide) (z6b w8 E 0 (I J 0))
   have hG9:=y0e dA.out (z6b w8 E 0 (I J 0)) bq.out.2
   exact v0b rfl rfl hN9 rfl hE9 (by rw [hdec.out];exact ⟨sl,rfl,jh.rd,z1d hG9⟩)
  ·have hdec:C (z8q z2r l=(zP,490)):=hd_ (by rw [y8i fj.out HDI.out,decide_eq_false he,Bool.and_false];rfl)
   have kq:(sa.toList == sb.toList)=QQ:=by rw [y5x];exact decide_eq_false (fun h=>he (hab.1 h))
   clear hab hsa hsb he
   go_wp2_with fail
   exact y1t rfl rfl jU.out jn.out bq.out.1 (fun w'' hc=>y2t hdec.out kI.out (lR _) bq.out.2 hc)
theorem y3c (l:List UInt8) (hl:l.length≤1000000) (hz:∀ x,z4w l=U x→sz x≤60000) (v:QJ) (w:O) (hb:z6c w.heap.size w l v):QX prog 21 #[v] w (j4v (z8q z2r l) w):=by
 cases hd:z4w l with
 | none =>
  have h:z8q z2r l=(zP,10):=by unfold z8q;rw [hd]
  rw [h]
  exact y3t l hl v w hb hd
 | some x=>exact y4t l hl v w x (hz x hd) hb hd
theorem y4c (l:List UInt8) (hl:l.length≤4000) (v:QJ) (w:O) (hb:z6c w.heap.size w l v):QX prog 21 #[v] w (j4v (z8q z2r l) w) :=
 y3c l (by omega) (fun x h=>by have:=(z5l h (by unfold maxLen;omega)).2.2.2;omega) v w hb
theorem x8d (x:Inp) (hI:InpI x) (hL:InpL x) (hz:sz (lV (z6e x))≤60000) (hk:okI x=QY) (v:QJ) (w:O) (hb:z6c w.heap.size w (z4o x) v):QX prog 21 #[v] w fun e w'=>∃ sl,e=L (.tuple #[QZ (x.cells sl).toArray,I J 0])∧InpR w' x sl∧A w.heap.size w w':=by
 have h:=y3c (z4o x) (by have:=y4l (lV (z6e x));unfold z4o;omega) (fun y h=>by
  unfold z4o at h
  rw [y8p (y5a x) (x6k hI hL)] at h
  injection h with h
  rw [← h];exact hz) v w hb
 rw [j6t hI hL hk] at h
 exact h
structure Ex (w w':O) (p q:Prop):Prop where
 ext:A w.heap.size w w'→p→q
theorem exCB {w w':O} {g:Nat} {t:QG} {cs:List Value}:Ex w w' (CB w g t cs) (CB w' g t cs):=⟨fun hb h=>h.ext hb⟩
theorem exIR {w w':O} {x:Inp} {s:Slc}:Ex w w' (InpR w x s) (InpR w' x s):=⟨fun hb h=>h.ext hb⟩
theorem exBt {w w':O} {l:List UInt8} {v:Value}:Ex w w' (z6c w.heap.size w l v) (z6c w'.heap.size w' l v):=⟨fun hb h=>h.ext hb⟩
theorem exBe {w w' w0:O}:Ex w w' (A w0.heap.size w0 w) (A w0.heap.size w0 w'):=⟨fun hb h=>z0a h hb⟩
theorem exHd {w w':O} {p q:Prop} (h:Ex w w' p q):Ex w w' (C p) (C q):=⟨fun hb a=>h.ext hb a⟩
theorem exAn {w w':O} {p q a b:Prop} (h:Ex w w' p q) (k:Ex w w' a b):Ex w w' (p∧a) (q∧b):=⟨fun hb e=>⟨h.ext hb e.1,k.ext hb e.2⟩⟩
theorem exs {w w':O} {p q:Prop} (hb:A w.heap.size w w') (a:p) (h:Ex w w' p q:=by repeat (with_reducible first|apply exAn|apply exHd|exact exCB|exact exIR|exact exBt|exact exBe)):q:=h.ext hb a
theorem an {p q:Prop} (a:p) (b:q):p∧q:=⟨a,b⟩
def z2o (x:Inp) (r s:Int):Inp:={ x with sr:=r,ss:=s }
theorem j5v (x:Inp) (r s:Int):z3j (z2o x r s)=z2o (z3j x) r s:=by
 obtain ⟨a1,a2,a3,k,a5,a6,a7,a8,a9,b1,b2,b3,b4,b5⟩:=x
 unfold z3j z2o z9e
 dsimp only
 repeat' split
 all_goals rfl
theorem k5i (x:Inp):(z3j x).sr=x.sr∧(z3j x).ss=x.ss:=by
 obtain ⟨a1,a2,a3,k,a5,a6,a7,a8,a9,b1,b2,b3,b4,b5⟩:=x
 unfold z3j z9e
 dsimp only
 repeat' split
 all_goals exact ⟨rfl,rfl⟩
theorem k6i (x:Inp) (r s:Int):okI (z2o x r s)=okI x:=by
 have h:decide (z3j (z2o x r s)=z2o x r s)=decide (z3j x=x):=by
  rw [j5v]
  refine decide_eq_decide.2 ⟨fun h=>?_,fun h=>by rw [h]⟩
  have h2:=congrArg (fun y=>z2o y x.sr x.ss) h
  have h3:z2o (z2o (z3j x) r s) x.sr x.ss=z3j x:=by
   have:=k5i x
   show z2o (z3j x) x.sr x.ss=z3j x
   rw [← this.1,← this.2];rfl
  rw [← h3];exact h2
 show (y1h (z2o x r s)&&inB (z2o x r s).kind 1 10&&decide (z3j (z2o x r s)=z2o x r s)&&z3s (z2o x r s))=_
 rw [h];rfl
theorem k7i {x k c p R S m:Nat} {l:List UInt8} (hR:pw 4 k=R) (hp:pw 4 x=p) (hc:j2v R p l=c) (hm:c * x % cQ=m) (hS:(k+m) % cQ=S) :
 z3w (p:Int) (R:Int) (S:Int) 0 0 0 l QY:=by
 refine .inr ⟨rfl,rfl,rfl,p,R,S,pw 4 S,pw p c,c,R * pw p c % cP,rfl,rfl,rfl,hp ▸ x4z y7a x,hR ▸ x4z y7a k,by rw [← hS];exact Nat.mod_lt _ (by decide),hc,rfl,rfl,rfl,?_⟩
 have h:=k9u k c x
 have hs:k4x k c x=S:=by unfold k4x;rw [hm,hS]
 rw [hs,hp,hR] at h
 rw [h];simp
theorem j4n {n:Nat} (h:y7k n):ElE (n:Int) 0:=.inl ⟨k8h h,rfl⟩
theorem k8i {n:Nat} (h:n<cQ):ScE (n:Int) 0:=.inl ⟨k9h h,rfl⟩
theorem j6v:ElE 0 30:=.inr ⟨fun h=>absurd h.1 (by decide),rfl⟩
theorem v2h:ScE 0 0:=.inl ⟨⟨by decide,by decide⟩,rfl⟩
theorem j5n {k:Int} {l:List UInt8} {R S e:Int} (hk:ZPr k) (h:k4a k l R S e):e=0∧(∃ r:Nat,R=(r:Int)∧y7k r)∧(∃ s:Nat,S=(s:Int)∧s<cQ)∧∀ P,k6x k P 0→ElE P 0∧ElE R 0∧ScE S 0∧z3w P R S 0 0 0 l QY:=by
 rcases h with ⟨n,kk,r,c,p,m,s,rfl,h1,h2,h3,h4,h5,h6,h7,rfl,rfl,rfl⟩|⟨h1,_⟩
 ·have hr:y7k r:=h3 ▸ x4z y7a kk
  have hs:s<cQ:=by rw [← h7];exact Nat.mod_lt _ (by decide)
  refine ⟨rfl,⟨r,rfl,hr⟩,⟨s,rfl,hs⟩,fun P hP=>?_⟩
  rcases hP with ⟨n',p',e1,_,h8,rfl,_⟩|⟨h8,_⟩
  ·have e1:n=n':=by exact_mod_cast e1
   subst e1
   rw [h4] at h8
   subst h8
   exact ⟨j4n (h4 ▸ x4z y7a n),j4n hr,k8i hs,k7i h3 h4 h5 h6 h7⟩
  ·exact absurd h1 h8
 ·exact absurd hk h1
theorem x6y {k:Int} {l:List UInt8} {R S e:Int} (hk:¬ ZPr k) (h:k4a k l R S e):R=0∧S=0∧e=40:=by
 rcases h with ⟨n,kk,r,c,p,m,s,rfl,h1,_⟩|⟨_,h2,h3,h4⟩
 ·exact absurd h1 hk
 ·exact ⟨h2,h3,h4⟩
theorem j7v {k P e:Int} (hk:ZPr k) (h:k6x k P e):e=0:=by
 rcases h with ⟨_,_,_,_,_,_,h⟩|⟨h,_⟩
 ·exact h
 ·exact absurd hk h
theorem z8s (x:Inp) (h1:x.flt.ways=[]) (h2:x.tree=[]) (h3:x.chg.modes=[]) (h4:x.stn.vols=[]) (w:O):InpR w x z1h:=by
 refine ⟨?_,?_,?_,?_⟩
 ·rw [h1];exact z4g.nil _ _ _ _
 ·rw [h2];exact z9j.nil _ _ _
 ·rw [h3];exact z4g.nil _ _ _ _
 ·rw [h4];exact z4g.nil _ _ _ _
theorem z0j {x:Inp} {s:Slc} {w:O} (hr:InpR w x s):∀ u∈x.cells s,u.oneCell'=QY:=by
 obtain ⟨a,ca,ha,-⟩:=hr.ways.shape
 obtain ⟨b,cb,hb,-⟩:=hr.tree.shape
 obtain ⟨c,cc,hc,-⟩:=hr.modes.shape
 obtain ⟨d,cd,hd,-⟩:=hr.vols.shape
 have:=z9v x s a b c d _ _ _ _ ca cb cc cd ha hb hc hd
 exact fun u hu=>aM.1 this u (by simpa using hu)
def n0:Inp:=⟨3,1,2,5,ByteArray.empty,j5s,[],⟨0,0,[]⟩,rpZ,⟨0,0,QQ⟩,31,⟨[],0,0⟩,0,0⟩
def nf:Inp:=⟨3,1,2,5,ByteArray.empty,j5s,[],⟨0,0,[]⟩,rpZ,⟨0,0,QQ⟩,32,⟨[],0,0⟩,0,0⟩
def nt:Inp:=⟨3,1,2,10,ByteArray.empty,j5s,[],⟨0,0,[]⟩,rpZ,⟨0,0,QQ⟩,1,⟨[],0,0⟩,0,0⟩
theorem j6n:okI n0=QY:=by decide +kernel
theorem v1b:okI nf=QQ:=by decide +kernel
theorem v2b:okI nt=QQ:=by decide +kernel
theorem v3b:okI zP=QQ:=by decide +kernel
theorem j7n:InpI n0:=by
 have h:∀ z:Int,-100≤z→z≤100→I64 z:=fun z h1 h2=>by unfold I64;omega
 have hs:(ByteArray.empty).size≤maxLen:=by unfold maxLen;decide
 refine ⟨h _ (by decide) (by decide),h _ (by decide) (by decide),h _ (by decide) (by decide),h _ (by decide) (by decide),hs,⟨h _ (by decide) (by decide),h _ (by decide) (by decide),h _ (by decide) (by decide),h _ (by decide) (by decide),h _ (by decide) (by decide),fun x hx=>absurd hx nM,hs⟩,fun x hx=>absurd hx nM,h _ (by decide) (by decide),h _ (by decide) (by decide),fun x hx=>absurd hx nM,h _ (by decide) (by decide),h _ (by decide) (by decide),h _ (by decide) (by decide),h _ (by decide) (by decide),hs,h _ (by decide) (by decide),h _ (by decide) (by decide),h _ (by decide) (by decide),h _ (by decide) (by decide),fun x hx=>absurd hx nM,h _ (by decide) (by decide),h _ (by decide) (by decide),h _ (by decide) (by decide),h _ (by decide) (by decide)⟩
theorem x4l (x:Inp) (h:x.mi=3∨x.mi=0) (h2:x.ce=1∨x.ce=0) (h3:x.no=2∨x.no=0) (h4:0≤x.kind∧x.kind≤10) (h5:0≤x.n∧x.n≤100) (h6:x = { n0 with mi:=x.mi,ce:=x.ce,no:=x.no,kind:=x.kind,n:=x.n }):InpI x:=by
 rw [h6]
 have hh:=j7n
 have i3:I64 3:=by unfold I64;omega
 have i0:I64 0:=by unfold I64;omega
 have i1:I64 1:=by unfold I64;omega
 have i2:I64 2:=by unfold I64;omega
 refine ⟨?_,?_,?_,by unfold I64;dsimp only;omega,hh.text,hh.flt,hh.tree,hh.cfrm,hh.cfg,hh.modes,hh.rst,hh.rno,hh.rmi,hh.rar,hh.rcl,hh.rvo,hh.sst,hh.sfr,by unfold I64;dsimp only;omega,hh.vols,hh.sh,hh.fa,hh.sr,hh.ss⟩
 ·rcases h with h|h <;> (dsimp only;rw [h];assumption)
 ·rcases h2 with h|h <;> (dsimp only;rw [h];assumption)
 ·rcases h3 with h|h <;> (dsimp only;rw [h];assumption)
theorem v3h:InpI nf:=x4l nf (.inl rfl) (.inl rfl) (.inl rfl) (by decide) (by decide) rfl
theorem v4h:InpI nt:=x4l nt (.inl rfl) (.inl rfl) (.inl rfl) (by decide) (by decide) rfl
theorem v5h:InpI zP:=x4l zP (.inr rfl) (.inr rfl) (.inr rfl) (by decide) (by decide) rfl
theorem InpI.sig {x:Inp} (h:InpI x) {R S:Int} (hR:I64 R) (hS:I64 S):InpI (z2o x R S):=⟨h.mi,h.ce,h.no,h.kind,h.text,h.flt,h.tree,h.cfrm,h.cfg,h.modes,h.rst,h.rno,h.rmi,h.rar,h.rcl,h.rvo,h.sst,h.sfr,h.n,h.vols,h.sh,h.fa,hR,hS⟩
theorem v6h (R S:Int) (hR:I64 R) (hS:I64 S):InpI (z2o n0 R S):=j7n.sig hR hS
theorem v4b:FewI n0:=⟨by decide,by decide,by decide,by decide,by decide,by decide,by decide,fun n hn=>absurd hn nM⟩
theorem FewI.sig {x:Inp} (h:FewI x) (R S:Int):FewI (z2o x R S):=⟨h.h0,h.h1,h.h2,h.h3,h.h4,h.h5,h.h6,h.cu⟩
theorem k5a (R S:Int):FewI (z2o n0 R S):=v4b.sig R S
theorem v7h (R S:Int):InpL (z2o n0 R S):=InpL.of (k5a R S).sz
theorem k5v:z8q z2r [3,0]=(zP,490):=by
 have h:enc (lV [])=[3,0]:=by decide +kernel
 have hd:z4w [3,0]=U (lV []):=by rw [← h];exact y8p (by decide +kernel) (z9m trivial (by unfold maxLen;simp))
 exact y7i hd rfl
theorem k9i:z8q z2r []=(zP,10):=by
 have:z4w []=Q:=rfl
 unfold z8q;rw [this]
theorem k6v:k1x 1 0 9 3 1 2 = -1:=by decide
theorem v9e:ZPr 5:=⟨by decide,by decide⟩
theorem v8h:¬ ZPr 0:=fun h=>absurd h.1 (by decide)
end Go.Proofs.YtdblnbnofjggnaaGreatDoor
