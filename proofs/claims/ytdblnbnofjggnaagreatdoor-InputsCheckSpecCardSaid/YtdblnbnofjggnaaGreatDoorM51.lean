/- Parts of the proofs of chapter 49's laws: Jvf Jsg Jdk Jdf. -/
import Derived.Test.YtdblnbnofjggnaaGreatDoorM46
import Derived.Test.YtdblnbnofjggnaaGreatDoorM50
import Derived.Test.YtdblnbnofjggnaaGreatDoorM24
import Derived.Test.YtdblnbnofjggnaaGreatDoorM44
import Derived.Test.YtdblnbnofjggnaaGreatDoorM45
set_option maxHeartbeats 8000000
set_option maxRecDepth 100000
open Go
open Lib renaming hid → hd_
open List renaming mem_cons_self → mS
open List renaming mem_cons → mC
open Option renaming bind_eq_some_iff → bE
open _root_.Array renaming all_eq_true_iff_forall_mem → aM
namespace Go.Proofs.YtdblnbnofjggnaaGreatDoor
open Go.RowKit
def z9z (x:Inp):List UInt8:=z0q k4p (z1z x)
theorem z7s (x:Inp):(z9z x).length ≤ 50000:=by unfold z9z;rw [z6i];decide
def j4q (x:Inp) (t:Bool):Int:=if okI x then (if t then 0 else 491) else 490
def k8n (x:Inp) (t:Bool) (w:World) (e:Ending) (w':World):Prop:=e = .returned (.int .i64 (j4q x t))∧Below w.heap.size w w'
theorem z4z (p:Int) (e1 e2 e3:Int) (t:Bool) (x:Inp) (s:Slc) (w:World) (hx:InpR w x s) (hi:InpI x) (hl:InpL x) (hz:sz (lV (z6e x)) ≤ 60000) (hL:Laid w) (h1:Hid (ElE p e1)) (h2:Hid (ElE x.sr e2)) (h3:Hid (ScE x.ss e3)) (hv:Hid (z6l p x.sr x.ss e1 e2 e3 (z9z x) t)) :
 Calls Tryz.prog 26 #[.int .i64 p,x.v s] w (k8n x t w):=by
 obtain ⟨b,hok⟩:∃ b,okI x = b:=⟨_,rfl⟩
 have Hok:=hd_ hok
 have HI:Hid (CB (w.alloc (bI x s)) w.heap.size 41 (x.cells s)):=z6a w (bI x s) _ _ rfl
 have HB:=hd_ (z5b (w:=w) (bI x s));have HXR:=hd_ hx;have Hi:=hd_ hi;have Hl:=hd_ hl;have Hz:=hd_ hz
 have HL:=hd_ hL
 have H1:=hd_ h1;have H2:=hd_ h2;have H3:=hd_ h3;have HV:=hd_ hv
 clear hok hx hi hl hz hL h1 h2 h3 hv
 change Calls Tryz.prog 26 #[_,.agg (x.cells s).toArray] w _
 go_enter Tryz.func26,Tryz.ntmps26
 go_upto_region 1 with fail
 change Code.wp _ _ _ _ (w.alloc (bI x s))
 generalize w.alloc (bI x s) = w0 at *
 have HCk:Hid (∀ w1,Below w.heap.size w w1→Calls Tryz.prog 13 #[.agg (x.cells s).toArray] w1 fun e w2=>e = .returned (.int .i64 (if b then 0 else 490))∧Below w1.heap.size w1 w2):=fun w1 hb=>(z7i x s w1 (HXR.out.ext hb) Hi.out.text Hi.out.flt.call Hi.out.rcl).mono fun e w2 h=>⟨by rw [← Hok.out];exact h.1,h.2⟩
 cases b
 case false =>
  have HC0:Hid (∀ w1,Below w.heap.size w w1→Calls Tryz.prog 13 #[.agg (x.cells s).toArray] w1 fun e w2=>e = .returned (.int .i64 490)∧Below w1.heap.size w1 w2):=HCk.out
  clear HCk
  go_wp2_with (first
   | (have _g:=HI.out;refine z3a (by rfl) 41 (.tmp 3) rfl w.heap.size (x.cells s) rfl 41 _ HI.out Tryz.underlying41 rfl (by kernel_rfl) ?_;clear _g)
   | (go_at_call 13;refine (HC0.out _ HB.out).mono ?_;go_loud (rintro e w1 ⟨rfl,hb1⟩;have HB1:=hd_ (z0a HB.out hb1);clear hb1)))
  go_ret
  exact ⟨by unfold j4q;rw [Hok.out];rfl,HB1.out⟩
 case true =>
  have HC0:Hid (∀ w1,Below w.heap.size w w1→Calls Tryz.prog 13 #[.agg (x.cells s).toArray] w1 fun e w2=>e = .returned (.int .i64 0)∧Below w1.heap.size w1 w2):=HCk.out
  clear HCk
  go_upto_region 4 with (first
   | (have _g:=HI.out;refine z3a (by rfl) 41 (.tmp 3) rfl w.heap.size (x.cells s) rfl 41 _ HI.out Tryz.underlying41 rfl (by kernel_rfl) ?_;clear _g)
   | (go_at_call 13;refine (HC0.out _ HB.out).mono ?_;go_loud (rintro e w1 ⟨rfl,hb1⟩;have HB1:=hd_ (z0a HB.out hb1);have HI1:=hd_ (HI.out.ext hb1);clear hb1)))
  clear HB HI
  have HB:=HB1;have HI:=HI1
  clear HB1 HI1
  refine z9a (S:=fun w'=>CB w' w.heap.size 41 (x.cells s)) (late:=fun _=>false) (by kernel_rfl) (HI.out.ext (Below.refl w1.heap.size w1).drew) (fun hHeld=>?_)
  have hdr:=(Below.refl w1.heap.size w1).drew
  replace HI:=hd_ (HI.out.ext hdr);replace HB:=hd_ (z0a HB.out hdr)
  clear hdr
  generalize w1.drew = W1 at *
  refine tkL (some 11) 0 ?_
  refine z9s (some 12) 1 rfl (.agg (x.cells s).toArray) (yieldsIf_load_mid (by rfl) 41 _ rfl w.heap.size 0 rfl (x.cells s) _ (fun wS hSw=>z1d hSw) Tryz.underlying41 rfl (by kernel_rfl)) ?_
  refine tkL (some 14) 3 ?_
  refine z9s (some 15) 4 rfl (.agg ([.int .i64 x.sr,.int .i64 x.ss]).toArray) (yieldsIf_load_mid (by rfl) 39 _ rfl w.heap.size 30 rfl ([.int .i64 x.sr,.int .i64 x.ss]) _ (fun wS hSw=>x3m hSw) Tryz.underlying39 rfl (by kernel_rfl)) ?_
  refine rdL 2 fun K hK=>?_
  go_simp
  go_at_call 68
  refine (z5u x s W1 (HXR.out.ext HB.out) Hi.out Hl.out Hz.out (HL.out.ext HB.out)).mono ?_
  rintro e W2 ⟨m,rfl,hm,hb2⟩
  obtain ⟨om,cm,rfl⟩:=hm.shape
  have HM:=hd_ hm
  replace HI:=hd_ (HI.out.ext hb2);replace HB:=hd_ (z0a HB.out hb2)
  clear hm hb2
  refine z8l hK HI.out fun hHeld=>?_
  clear hK K
  refine rdL 5 fun K hK=>?_
  go_simp
  go_at_call 73
  refine (x1v p x.sr x.ss e1 e2 e3 _ (z9z x) t W2 (z7s x) HM.out (HL.out.ext HB.out) H1.out H2.out H3.out HV.out).mono ?_
  rintro e W3 ⟨rfl,hb3⟩
  replace HI:=hd_ (HI.out.ext hb3);replace HB:=hd_ (z0a HB.out hb3)
  clear hb3 HM
  refine z8l hK HI.out fun hHeld=>?_
  clear hK K
  cases t
  case false =>
   refine tkL (some 17) 6 ?_
   refine z6b (by kernel_rfl) ?_ _
   go_wp2_with fail
   go_ret
   exact ⟨by unfold j4q;rw [Hok.out];rfl,HB.out⟩
  case true =>
   refine tkL (some 17) 6 ?_
   refine z6b (by kernel_rfl) ?_ _
   go_wp2_with fail
   go_ret
   exact ⟨by unfold j4q;rw [Hok.out];rfl,HB.out⟩
theorem y4q (p:Int) (e1 e2 e3:Int) (t:Bool) (x:Inp) (s:Slc) (w:World) (hx:InpR w x s) (hi:InpI x) (hl:InpL x) (hz:sz (lV (z6e x)) ≤ 60000) (h1:Hid (ElE p e1)) (h2:Hid (ElE x.sr e2)) (h3:Hid (ScE x.ss e3)) (hv:Hid (z6l p x.sr x.ss e1 e2 e3 (z9z x) t)) :
 Calls Tryz.prog 27 #[.int .i64 p,x.v s] w (k8n x t w):=by
 obtain ⟨b,hok⟩:∃ b,okI x = b:=⟨_,rfl⟩
 have Hok:=hd_ hok
 have HI:Hid (CB (w.alloc (bI x s)) w.heap.size 41 (x.cells s)):=z6a w (bI x s) _ _ rfl
 have HB:=hd_ (z5b (w:=w) (bI x s));have HXR:=hd_ hx;have Hi:=hd_ hi;have Hl:=hd_ hl;have Hz:=hd_ hz
 skip
 have H1:=hd_ h1;have H2:=hd_ h2;have H3:=hd_ h3;have HV:=hd_ hv
 clear hok hx hi hl hz h1 h2 h3 hv
 change Calls Tryz.prog 27 #[_,.agg (x.cells s).toArray] w _
 go_enter Tryz.func27,Tryz.ntmps27
 go_upto_region 1 with fail
 change Code.wp _ _ _ _ (w.alloc (bI x s))
 generalize w.alloc (bI x s) = w0 at *
 have HCk:Hid (∀ w1,Below w.heap.size w w1→Calls Tryz.prog 17 #[.agg (x.cells s).toArray] w1 fun e w2=>e = .returned (.int .i64 (if b then 0 else 490))∧Below w1.heap.size w1 w2):=fun w1 hb=>(z7q x s w1 (HXR.out.ext hb) Hi.out.text Hi.out.flt.call Hi.out.rcl).mono fun e w2 h=>⟨by rw [← Hok.out];exact h.1,h.2⟩
 cases b
 case false =>
  have HC0:Hid (∀ w1,Below w.heap.size w w1→Calls Tryz.prog 17 #[.agg (x.cells s).toArray] w1 fun e w2=>e = .returned (.int .i64 490)∧Below w1.heap.size w1 w2):=HCk.out
  clear HCk
  go_wp2_with (first
   | (have _g:=HI.out;refine z3a (by rfl) 41 (.tmp 3) rfl w.heap.size (x.cells s) rfl 41 _ HI.out Tryz.underlying41 rfl (by kernel_rfl) ?_;clear _g)
   | (go_at_call 17;refine (HC0.out _ HB.out).mono ?_;go_loud (rintro e w1 ⟨rfl,hb1⟩;have HB1:=hd_ (z0a HB.out hb1);clear hb1)))
  go_ret
  exact ⟨by unfold j4q;rw [Hok.out];rfl,HB1.out⟩
 case true =>
  have HC0:Hid (∀ w1,Below w.heap.size w w1→Calls Tryz.prog 17 #[.agg (x.cells s).toArray] w1 fun e w2=>e = .returned (.int .i64 0)∧Below w1.heap.size w1 w2):=HCk.out
  clear HCk
  go_upto_region 4 with (first
   | (have _g:=HI.out;refine z3a (by rfl) 41 (.tmp 3) rfl w.heap.size (x.cells s) rfl 41 _ HI.out Tryz.underlying41 rfl (by kernel_rfl) ?_;clear _g)
   | (go_at_call 17;refine (HC0.out _ HB.out).mono ?_;go_loud (rintro e w1 ⟨rfl,hb1⟩;have HB1:=hd_ (z0a HB.out hb1);have HI1:=hd_ (HI.out.ext hb1);clear hb1)))
  clear HB HI
  have HB:=HB1;have HI:=HI1
  clear HB1 HI1
  refine z9a (S:=fun w'=>CB w' w.heap.size 41 (x.cells s)) (late:=fun _=>false) (by kernel_rfl) (HI.out.ext (Below.refl w1.heap.size w1).drew) (fun hHeld=>?_)
  have hdr:=(Below.refl w1.heap.size w1).drew
  replace HI:=hd_ (HI.out.ext hdr);replace HB:=hd_ (z0a HB.out hdr)
  clear hdr
  generalize w1.drew = W1 at *
  refine tkL (some 11) 0 ?_
  refine z9s (some 12) 1 rfl (.agg (x.cells s).toArray) (yieldsIf_load_mid (by rfl) 41 _ rfl w.heap.size 0 rfl (x.cells s) _ (fun wS hSw=>z1d hSw) Tryz.underlying41 rfl (by kernel_rfl)) ?_
  refine tkL (some 14) 3 ?_
  refine z9s (some 15) 4 rfl (.agg ([.int .i64 x.sr,.int .i64 x.ss]).toArray) (yieldsIf_load_mid (by rfl) 39 _ rfl w.heap.size 30 rfl ([.int .i64 x.sr,.int .i64 x.ss]) _ (fun wS hSw=>x3m hSw) Tryz.underlying39 rfl (by kernel_rfl)) ?_
  refine rdL 2 fun K hK=>?_
  go_simp
  go_at_call 70
  refine (z0r x s W1 (HXR.out.ext HB.out) Hi.out Hl.out Hz.out).mono ?_
  rintro e W2 ⟨m,rfl,hm,hb2⟩
  obtain ⟨om,cm,rfl⟩:=hm.shape
  have HM:=hd_ hm
  replace HI:=hd_ (HI.out.ext hb2);replace HB:=hd_ (z0a HB.out hb2)
  clear hm hb2
  refine z8l hK HI.out fun hHeld=>?_
  clear hK K
  refine rdL 5 fun K hK=>?_
  go_simp
  go_at_call 74
  refine (x9h p x.sr x.ss e1 e2 e3 _ (z9z x) t W2 (z7s x) HM.out H1.out H2.out H3.out HV.out).mono ?_
  rintro e W3 ⟨rfl,hb3⟩
  replace HI:=hd_ (HI.out.ext hb3);replace HB:=hd_ (z0a HB.out hb3)
  clear hb3 HM
  refine z8l hK HI.out fun hHeld=>?_
  clear hK K
  cases t
  case false =>
   refine tkL (some 17) 6 ?_
   refine z6b (by kernel_rfl) ?_ _
   go_wp2_with fail
   go_ret
   exact ⟨by unfold j4q;rw [Hok.out];rfl,HB.out⟩
  case true =>
   refine tkL (some 17) 6 ?_
   refine z6b (by kernel_rfl) ?_ _
   go_wp2_with fail
   go_ret
   exact ⟨by unfold j4q;rw [Hok.out];rfl,HB.out⟩
section
variable {P:Program}
theorem z1e {fn:Func} {p t2:Tmp} {ty:TypeId} (h:fn.results = #[.cell p ty,.tmp t2]) (tmps:Array Value) (w:World) (g:Nat) (t:TypeId) (cs:Array Value) (fr:Nat × Nat) (d:TypeDesc)
 (hp:tmps.getD p undef = .pointer (some ⟨g,0,none⟩)) (hg:w.heap[g]? = some (.cells cs t fr))
 (hu:P.underlying ty = some d) (hd:(match d with | .struct _ | .array _ _=>true | _=>false) = true) (hi:(P.info? ty).map (·.size) = some cs.size) :
 (results fn tmps).run P w = .ok (.tuple #[.agg cs,tmps.getD t2 undef]) w:=by
 have hp':tmps[p]?.getD undef = .pointer (some ⟨g,0,none⟩):=by simpa using hp
 simp [results,h,hp',asAddr,run_loadVar_row w g t ty cs fr d hg hu hd hi]
end
def zI:Inp:=⟨0,0,0,0,ByteArray.empty,j0z,[],⟨0,0,[]⟩,rpZ,⟨0,0,false⟩,0,⟨[],0,0⟩,0,0⟩
theorem j8i (w:World):InpR w zI z1g:=⟨z9f.nil _ _ _ _,z6j.nil _ _ _,z9f.nil _ _ _ _,z9f.nil _ _ _ _⟩
theorem y1g:∀ u ∈ ZIc,u.oneCell' = true:=by
 have h:=z2u zI z1g none none none none 0 0 0 0 0 0 0 0 rfl rfl rfl rfl
 exact fun u hu=>aM.1 h u (List.mem_toArray.2 hu)
def y0b (x:Inp) (r s e:Int):Inp:=if okI x then (if e = 0 then { x with sr:=r,ss:=s } else zI) else zI
def x6v (x:Inp) (e:Int):Int:=if okI x then e else 490
def k8p (x:Inp) (r s e:Int) (w:World) (q:Ending) (w':World):Prop:=∃ sl,q = .returned (.tuple #[.agg ((y0b x r s e).cells sl).toArray,.int .i64 (x6v x e)])∧InpR w' (y0b x r s e) sl∧Below w.heap.size w w'
theorem z9x (k Rr Ss ee:Int) (x:Inp) (s:Slc) (w:World) (hx:InpR w x s) (hi:InpI x) (hl:InpL x) (hz:sz (lV (z6e x)) ≤ 60000) (hL:Laid w) (hs:Hid (x2v k (z9z x) Rr Ss ee)) :
 Calls Tryz.prog 23 #[x.v s,.int .i64 k] w (k8p x Rr Ss ee w):=by
 obtain ⟨b,hok⟩:∃ b,okI x = b:=⟨_,rfl⟩
 have Hok:=hd_ hok
 have hb0:Below w.heap.size w ((w.alloc (bI x s)).alloc ZI):=(z5b (w:=w) (bI x s)).alloc (z5b (w:=w) (bI x s)).size _
 have HI:Hid (CB ((w.alloc (bI x s)).alloc ZI) w.heap.size 41 (x.cells s)):=(z6a w (bI x s) _ _ rfl).alloc _
 have H4:Hid (CB ((w.alloc (bI x s)).alloc ZI) (w.heap.size + 1) 41 ZIc):=hd_ (by
  have:=z6a (w.alloc (bI x s)) ZI 41 ZIc rfl
  rwa [World.size_alloc] at this)
 have HB:=hd_ hb0;have HXR:=hd_ hx;have Hi:=hd_ hi;have Hl:=hd_ hl;have Hz:=hd_ hz;have HS:=hs
 have HL:=hd_ hL
 have HZo:=hd_ y1g
 have HBz:Hid (Tryz.prog.built 41 [] = some ZIc.toArray):=hd_ (by kernel_rfl)
 have HRS:Hid (∀ u ∈ ([.int .i64 Rr,.int .i64 Ss]:List Value),u.oneCell' = true):=hd_ (by intro u hu;simp only [mC,List.not_mem_nil,or_false] at hu;rcases hu with rfl | rfl <;> rfl)
 have hee:ee = 0∨ee = 40:=by
  rcases hs.out with ⟨_,_,_,_,_,_,_,_,_,_,_,_,_,_,_,_,_,h⟩ | ⟨_,_,_,h⟩
  · exact .inl h
  · exact .inr h
 clear hok hb0 hx hi hl hz hs hL
 change Calls Tryz.prog 23 #[.agg (x.cells s).toArray,_] w _
 go_enter Tryz.func23,Tryz.ntmps23
 go_upto_region 1 with fail
 change Code.wp _ _ _ _ ((w.alloc (bI x s)).alloc ZI)
 generalize (w.alloc (bI x s)).alloc ZI = w0 at *
 have HCk:Hid (∀ w1,Below w.heap.size w w1→Calls Tryz.prog 13 #[.agg (x.cells s).toArray] w1 fun e w2=>e = .returned (.int .i64 (if b then 0 else 490))∧Below w1.heap.size w1 w2):=fun w1 hb=>(z7i x s w1 (HXR.out.ext hb) Hi.out.text Hi.out.flt.call Hi.out.rcl).mono fun e w2 h=>⟨by rw [← Hok.out];exact h.1,h.2⟩
 cases b
 case false =>
  have HC0:Hid (∀ w1,Below w.heap.size w w1→Calls Tryz.prog 13 #[.agg (x.cells s).toArray] w1 fun e w2=>e = .returned (.int .i64 490)∧Below w1.heap.size w1 w2):=HCk.out
  clear HCk
  go_upto_region 2 with (first
   | (have _g:=HI.out;refine z3a (by rfl) 41 (.tmp 2) rfl w.heap.size (x.cells s) rfl 41 _ HI.out Tryz.underlying41 rfl (by kernel_rfl) ?_;clear _g)
   | (go_at_call 13;refine (HC0.out _ HB.out).mono ?_;go_loud (rintro e w1 ⟨rfl,hb1⟩;have HB1:=hd_ (z0a HB.out hb1);have H41:=hd_ (H4.out.ext hb1);clear hb1)))
  clear HB H4 HI
  have HB:=HB1;have H4:=H41
  clear HB1 H41
  go_wp2_with (first | (have _g:=H4.out;refine z3a (by rfl) 41 (.tmp 4) rfl (w.heap.size + 1) ZIc rfl 41 _ H4.out Tryz.underlying41 rfl (by kernel_rfl) ?_;clear _g) | (have _g:=HZo.out;refine z4a rfl 41 (.tmp 4) (.tmp 12) rfl (w.heap.size + 1) ZIc rfl rfl 41 ZIc H4.out (by rfl) (by kernel_rfl) HZo.out (fun w8 HC8 HW8 HZ8=>?_);clear HZo))
  refine bodyPost_ret (v:=.tuple #[.agg ((zI:Inp).cells (z1g:Slc)).toArray,_]) (z1e rfl _ _ (w.heap.size + 1) 41 _ (0,0) _ rfl HC8.out Tryz.underlying41 rfl (by kernel_rfl)) rfl ?_
  exact ⟨z1g,by unfold y0b x6v;rw [Hok.out];rfl,by unfold y0b;rw [Hok.out];exact j8i _,HB.out.grown HW8.out HB.out.size (fun q e=>by injection e with e;omega)⟩
 case true =>
  have HC0:Hid (∀ w1,Below w.heap.size w w1→Calls Tryz.prog 13 #[.agg (x.cells s).toArray] w1 fun e w2=>e = .returned (.int .i64 0)∧Below w1.heap.size w1 w2):=HCk.out
  clear HCk
  go_upto_region 4 with (first
   | (have _g:=HI.out;refine z3a (by rfl) 41 (.tmp 2) rfl w.heap.size (x.cells s) rfl 41 _ HI.out Tryz.underlying41 rfl (by kernel_rfl) ?_;clear _g)
   | (go_at_call 13;refine (HC0.out _ HB.out).mono ?_;go_loud (rintro e w1 ⟨rfl,hb1⟩;have HB1:=hd_ (z0a HB.out hb1);have HI1:=hd_ (HI.out.ext hb1);have H41:=hd_ (H4.out.ext hb1);clear hb1)))
  clear HB HI H4
  have HB:=HB1;have HI:=HI1;have H4:=H41
  clear HB1 HI1 H41
  rcases hee with rfl | rfl
  · go_upto_region 7 with (first
     | (have _g:=HI.out;refine z3a (by rfl) 41 (.tmp 2) rfl w.heap.size (x.cells s) rfl 41 _ HI.out Tryz.underlying41 rfl (by kernel_rfl) ?_;clear _g)
     | (go_at_call 68;refine (z5u x s _ (HXR.out.ext HB.out) Hi.out Hl.out Hz.out (HL.out.ext HB.out)).mono ?_;go_loud (rintro e9 w2 ⟨m,rfl,hm,hb2⟩;obtain ⟨om,cm,rfl⟩:=hm.shape;have HM:=hd_ hm;have HB2:=hd_ (z0a HB.out hb2);have HI2:=hd_ (HI.out.ext hb2);have H42:=hd_ (H4.out.ext hb2);clear hm hb2))
     | (go_at_call 67;refine (x8n k Rr Ss _ _ (z9z x) _ HS (z7s x) HM.out (HL.out.ext HB2.out)).mono ?_;go_loud (rintro e9 w3 ⟨rfl,hb3⟩;have HB3:=hd_ (z0a HB2.out hb3);have HI3:=hd_ (HI2.out.ext hb3);have H43:=hd_ (H42.out.ext hb3);have H7z:Hid (CB (w3.alloc (.cells [Value.int .i64 0,.int .i64 0].toArray 39)) w3.heap.size 39 [.int .i64 0,.int .i64 0]):=z6a w3 _ _ _ rfl;clear hb3 HM))
     | (have _g:=HRS.out;refine z4a rfl 39 (.tmp 7) (.tmp 19) rfl w3.heap.size [.int .i64 Rr,.int .i64 Ss] rfl rfl 39 _ H7z.out rfl (by kernel_rfl) HRS.out (fun w4 H7 HW4 HZ4=>?_);clear _g))
    have hz4:Below w3.heap.size w3 w4:=(z5b (w:=w3) (.cells [Value.int .i64 0,.int .i64 0].toArray 39)).grown HW4.out (by simp) (fun q e=>by injection e with e;omega)
    clear HB HI H4
    have HB:=hd_ (z0a HB3.out hz4);have HI:=hd_ (HI3.out.ext hz4);have H4:=hd_ (H43.out.ext hz4)
    have HG7:Hid (w.heap.size + 1 < w3.heap.size):=H43.out.lt
    clear HB2 HB3 HI2 HI3 H42 H43 hz4 HW4 HZ4 H7z
    go_upto_region 8 with (first
     | (have _g:=H7.out;refine z3a (by rfl) 39 (.tmp 7) rfl w3.heap.size [.int .i64 Rr,.int .i64 Ss] rfl 39 _ H7.out Tryz.underlying39 rfl (by kernel_rfl) ?_;clear _g)
     | (have _g:=HRS.out;refine z0b rfl 39 (.tmp 26) (.tmp 25) rfl w.heap.size 30 [.int .i64 Rr,.int .i64 Ss] rfl rfl _ _ HI.out (show 30 + 2 ≤ 32 by decide) (by kernel_rfl) HRS.out (fun w5 HC5 HW5=>?_);clear _g))
    have HC5':Hid (CB w5 w.heap.size 41 (({ x with sr:=Rr,ss:=Ss }:Inp).cells s)):=HC5.out
    have H45:=hd_ (H4.out.keep (HW5.out.block _ H4.out.lt (fun e=>by injection e with e;omega)))
    have HB5:=hd_ (HB.out.grown HW5.out HB.out.size (fun q e=>by injection e with e;omega))
    have HSO:Hid (∀ u ∈ ({ x with sr:=Rr,ss:=Ss }:Inp).cells s,u.oneCell' = true):=by
     obtain ⟨⟨oa,na,ca,ea⟩,⟨ob,nb,cb,eb⟩,⟨oc,nc,cc,ec⟩,⟨od,nd,cd,ed⟩⟩:=y4o HXR.out
     have h:=z2u ({ x with sr:=Rr,ss:=Ss }:Inp) s _ _ _ _ _ _ _ _ _ _ _ _ ea eb ec ed
     exact fun u hu=>aM.1 h u (by simpa using hu)
    clear HI H4 HB HC5 HW5 H7
    go_wp2_with (first
     | (have _g:=HC5'.out;refine z3a (by rfl) 41 (.tmp 2) rfl w.heap.size _ rfl 41 _ HC5'.out Tryz.underlying41 rfl (by kernel_rfl) ?_;clear _g)
     | (have _g:=HSO.out;refine z4a rfl 41 (.tmp 4) (.tmp 27) rfl (w.heap.size + 1) _ rfl rfl 41 ZIc H45.out (by rfl) (by kernel_rfl) HSO.out (fun w8 HC8 HW8 HZ8=>?_);clear HSO))
    refine bodyPost_ret (v:=.tuple #[.agg (({ x with sr:=Rr,ss:=Ss }:Inp).cells (s:Slc)).toArray,_]) (z1e rfl _ _ (w.heap.size + 1) 41 _ (0,0) _ rfl HC8.out Tryz.underlying41 rfl (by kernel_rfl)) rfl ?_
    have hbe:Below w.heap.size w w8:=HB5.out.grown HW8.out HB5.out.size (fun q e=>by injection e with e;omega)
    exact ⟨s,by unfold y0b x6v;rw [Hok.out];rfl,by unfold y0b;rw [Hok.out];exact ⟨(HXR.out.ext hbe).ways,(HXR.out.ext hbe).tree,(HXR.out.ext hbe).modes,(HXR.out.ext hbe).vols⟩,hbe⟩
  · go_upto_region 6 with (first
     | (have _g:=HI.out;refine z3a (by rfl) 41 (.tmp 2) rfl w.heap.size (x.cells s) rfl 41 _ HI.out Tryz.underlying41 rfl (by kernel_rfl) ?_;clear _g)
     | (go_at_call 68;refine (z5u x s _ (HXR.out.ext HB.out) Hi.out Hl.out Hz.out (HL.out.ext HB.out)).mono ?_;go_loud (rintro e9 w2 ⟨m,rfl,hm,hb2⟩;obtain ⟨om,cm,rfl⟩:=hm.shape;have HM:=hd_ hm;have HB2:=hd_ (z0a HB.out hb2);have HI2:=hd_ (HI.out.ext hb2);have H42:=hd_ (H4.out.ext hb2);clear hm hb2))
     | (go_at_call 67;refine (x8n k Rr Ss _ _ (z9z x) _ HS (z7s x) HM.out (HL.out.ext HB2.out)).mono ?_;go_loud (rintro e9 w3 ⟨rfl,hb3⟩;have HB3:=hd_ (z0a HB2.out hb3);have HI3:=hd_ (HI2.out.ext hb3);have H43:=hd_ (H42.out.ext hb3);have H7z:Hid (CB (w3.alloc (.cells [Value.int .i64 0,.int .i64 0].toArray 39)) w3.heap.size 39 [.int .i64 0,.int .i64 0]):=z6a w3 _ _ _ rfl;clear hb3 HM))
     | (have _g:=HRS.out;refine z4a rfl 39 (.tmp 7) (.tmp 19) rfl w3.heap.size [.int .i64 Rr,.int .i64 Ss] rfl rfl 39 _ H7z.out rfl (by kernel_rfl) HRS.out (fun w4 H7 HW4 HZ4=>?_);clear _g))
    have hz4:Below w3.heap.size w3 w4:=(z5b (w:=w3) (.cells [Value.int .i64 0,.int .i64 0].toArray 39)).grown HW4.out (by simp) (fun q e=>by injection e with e;omega)
    clear HB HI H4
    have HB:=hd_ (z0a HB3.out hz4);have H4:=hd_ (H43.out.ext hz4)
    clear HB2 HB3 HI2 HI3 H42 H43 hz4 HW4 HZ4 H7z H7
    go_wp2_with (first | (have _g:=H4.out;refine z3a (by rfl) 41 (.tmp 4) rfl (w.heap.size + 1) ZIc rfl 41 _ H4.out Tryz.underlying41 rfl (by kernel_rfl) ?_;clear _g) | (have _g:=HZo.out;refine z4a rfl 41 (.tmp 4) (.tmp 23) rfl (w.heap.size + 1) ZIc rfl rfl 41 ZIc H4.out (by rfl) (by kernel_rfl) HZo.out (fun w8 HC8 HW8 HZ8=>?_);clear HZo))
    refine bodyPost_ret (v:=.tuple #[.agg ((zI:Inp).cells (z1g:Slc)).toArray,_]) (z1e rfl _ _ (w.heap.size + 1) 41 _ (0,0) _ rfl HC8.out Tryz.underlying41 rfl (by kernel_rfl)) rfl ?_
    exact ⟨z1g,by unfold y0b x6v;rw [Hok.out];rfl,by unfold y0b;rw [Hok.out];exact j8i _,HB.out.grown HW8.out HB.out.size (fun q e=>by injection e with e;omega)⟩
theorem x0i (k Rr Ss ee:Int) (x:Inp) (s:Slc) (w:World) (hx:InpR w x s) (hi:InpI x) (hl:InpL x) (hz:sz (lV (z6e x)) ≤ 60000) (hs:Hid (x2v k (z9z x) Rr Ss ee)) :
 Calls Tryz.prog 24 #[x.v s,.int .i64 k] w (k8p x Rr Ss ee w):=by
 obtain ⟨b,hok⟩:∃ b,okI x = b:=⟨_,rfl⟩
 have Hok:=hd_ hok
 have hb0:Below w.heap.size w ((w.alloc (bI x s)).alloc ZI):=(z5b (w:=w) (bI x s)).alloc (z5b (w:=w) (bI x s)).size _
 have HI:Hid (CB ((w.alloc (bI x s)).alloc ZI) w.heap.size 41 (x.cells s)):=(z6a w (bI x s) _ _ rfl).alloc _
 have H4:Hid (CB ((w.alloc (bI x s)).alloc ZI) (w.heap.size + 1) 41 ZIc):=hd_ (by
  have:=z6a (w.alloc (bI x s)) ZI 41 ZIc rfl
  rwa [World.size_alloc] at this)
 have HB:=hd_ hb0;have HXR:=hd_ hx;have Hi:=hd_ hi;have Hl:=hd_ hl;have Hz:=hd_ hz;have HS:=hs
 skip
 have HZo:=hd_ y1g
 have HBz:Hid (Tryz.prog.built 41 [] = some ZIc.toArray):=hd_ (by kernel_rfl)
 have HRS:Hid (∀ u ∈ ([.int .i64 Rr,.int .i64 Ss]:List Value),u.oneCell' = true):=hd_ (by intro u hu;simp only [mC,List.not_mem_nil,or_false] at hu;rcases hu with rfl | rfl <;> rfl)
 have hee:ee = 0∨ee = 40:=by
  rcases hs.out with ⟨_,_,_,_,_,_,_,_,_,_,_,_,_,_,_,_,_,h⟩ | ⟨_,_,_,h⟩
  · exact .inl h
  · exact .inr h
 clear hok hb0 hx hi hl hz hs
 change Calls Tryz.prog 24 #[.agg (x.cells s).toArray,_] w _
 go_enter Tryz.func24,Tryz.ntmps24
 go_upto_region 1 with fail
 change Code.wp _ _ _ _ ((w.alloc (bI x s)).alloc ZI)
 generalize (w.alloc (bI x s)).alloc ZI = w0 at *
 have HCk:Hid (∀ w1,Below w.heap.size w w1→Calls Tryz.prog 17 #[.agg (x.cells s).toArray] w1 fun e w2=>e = .returned (.int .i64 (if b then 0 else 490))∧Below w1.heap.size w1 w2):=fun w1 hb=>(z7q x s w1 (HXR.out.ext hb) Hi.out.text Hi.out.flt.call Hi.out.rcl).mono fun e w2 h=>⟨by rw [← Hok.out];exact h.1,h.2⟩
 cases b
 case false =>
  have HC0:Hid (∀ w1,Below w.heap.size w w1→Calls Tryz.prog 17 #[.agg (x.cells s).toArray] w1 fun e w2=>e = .returned (.int .i64 490)∧Below w1.heap.size w1 w2):=HCk.out
  clear HCk
  go_upto_region 2 with (first
   | (have _g:=HI.out;refine z3a (by rfl) 41 (.tmp 2) rfl w.heap.size (x.cells s) rfl 41 _ HI.out Tryz.underlying41 rfl (by kernel_rfl) ?_;clear _g)
   | (go_at_call 17;refine (HC0.out _ HB.out).mono ?_;go_loud (rintro e w1 ⟨rfl,hb1⟩;have HB1:=hd_ (z0a HB.out hb1);have H41:=hd_ (H4.out.ext hb1);clear hb1)))
  clear HB H4 HI
  have HB:=HB1;have H4:=H41
  clear HB1 H41
  go_wp2_with (first | (have _g:=HBz.out;refine z7c (by rfl) 41 #[] rfl ZIc [] rfl HBz.out ?_;clear HBz) | (have _g:=HZo.out;refine z4a rfl 41 (.tmp 4) (.tmp 13) rfl (w.heap.size + 1) ZIc rfl rfl 41 ZIc H4.out (by rfl) (by kernel_rfl) HZo.out (fun w8 HC8 HW8 HZ8=>?_);clear HZo))
  refine bodyPost_ret (v:=.tuple #[.agg ((zI:Inp).cells (z1g:Slc)).toArray,_]) (z1e rfl _ _ (w.heap.size + 1) 41 _ (0,0) _ rfl HC8.out Tryz.underlying41 rfl (by kernel_rfl)) rfl ?_
  exact ⟨z1g,by unfold y0b x6v;rw [Hok.out];rfl,by unfold y0b;rw [Hok.out];exact j8i _,HB.out.grown HW8.out HB.out.size (fun q e=>by injection e with e;omega)⟩
 case true =>
  have HC0:Hid (∀ w1,Below w.heap.size w w1→Calls Tryz.prog 17 #[.agg (x.cells s).toArray] w1 fun e w2=>e = .returned (.int .i64 0)∧Below w1.heap.size w1 w2):=HCk.out
  clear HCk
  go_upto_region 4 with (first
   | (have _g:=HI.out;refine z3a (by rfl) 41 (.tmp 2) rfl w.heap.size (x.cells s) rfl 41 _ HI.out Tryz.underlying41 rfl (by kernel_rfl) ?_;clear _g)
   | (go_at_call 17;refine (HC0.out _ HB.out).mono ?_;go_loud (rintro e w1 ⟨rfl,hb1⟩;have HB1:=hd_ (z0a HB.out hb1);have HI1:=hd_ (HI.out.ext hb1);have H41:=hd_ (H4.out.ext hb1);clear hb1)))
  clear HB HI H4
  have HB:=HB1;have HI:=HI1;have H4:=H41
  clear HB1 HI1 H41
  rcases hee with rfl | rfl
  · go_upto_region 7 with (first
     | (have _g:=HI.out;refine z3a (by rfl) 41 (.tmp 2) rfl w.heap.size (x.cells s) rfl 41 _ HI.out Tryz.underlying41 rfl (by kernel_rfl) ?_;clear _g)
     | (go_at_call 70;refine (z0r x s _ (HXR.out.ext HB.out) Hi.out Hl.out Hz.out).mono ?_;go_loud (rintro e9 w2 ⟨m,rfl,hm,hb2⟩;obtain ⟨om,cm,rfl⟩:=hm.shape;have HM:=hd_ hm;have HB2:=hd_ (z0a HB.out hb2);have HI2:=hd_ (HI.out.ext hb2);have H42:=hd_ (H4.out.ext hb2);clear hm hb2))
     | (go_at_call 69;refine (x0a k Rr Ss _ _ (z9z x) _ HS (z7s x) HM.out).mono ?_;go_loud (rintro e9 w3 ⟨rfl,hb3⟩;have HB3:=hd_ (z0a HB2.out hb3);have HI3:=hd_ (HI2.out.ext hb3);have H43:=hd_ (H42.out.ext hb3);have H7z:Hid (CB (w3.alloc (.cells [Value.int .i64 0,.int .i64 0].toArray 39)) w3.heap.size 39 [.int .i64 0,.int .i64 0]):=z6a w3 _ _ _ rfl;clear hb3 HM))
     | (have _g:=HRS.out;refine z4a rfl 39 (.tmp 7) (.tmp 20) rfl w3.heap.size [.int .i64 Rr,.int .i64 Ss] rfl rfl 39 _ H7z.out rfl (by kernel_rfl) HRS.out (fun w4 H7 HW4 HZ4=>?_);clear _g))
    have hz4:Below w3.heap.size w3 w4:=(z5b (w:=w3) (.cells [Value.int .i64 0,.int .i64 0].toArray 39)).grown HW4.out (by simp) (fun q e=>by injection e with e;omega)
    clear HB HI H4
    have HB:=hd_ (z0a HB3.out hz4);have HI:=hd_ (HI3.out.ext hz4);have H4:=hd_ (H43.out.ext hz4)
    have HG7:Hid (w.heap.size + 1 < w3.heap.size):=H43.out.lt
    clear HB2 HB3 HI2 HI3 H42 H43 hz4 HW4 HZ4 H7z
    go_upto_region 8 with (first
     | (have _g:=H7.out;refine z3a (by rfl) 39 (.tmp 7) rfl w3.heap.size [.int .i64 Rr,.int .i64 Ss] rfl 39 _ H7.out Tryz.underlying39 rfl (by kernel_rfl) ?_;clear _g)
     | (have _g:=HRS.out;refine z0b rfl 39 (.tmp 27) (.tmp 26) rfl w.heap.size 30 [.int .i64 Rr,.int .i64 Ss] rfl rfl _ _ HI.out (show 30 + 2 ≤ 32 by decide) (by kernel_rfl) HRS.out (fun w5 HC5 HW5=>?_);clear _g))
    have HC5':Hid (CB w5 w.heap.size 41 (({ x with sr:=Rr,ss:=Ss }:Inp).cells s)):=HC5.out
    have H45:=hd_ (H4.out.keep (HW5.out.block _ H4.out.lt (fun e=>by injection e with e;omega)))
    have HB5:=hd_ (HB.out.grown HW5.out HB.out.size (fun q e=>by injection e with e;omega))
    have HSO:Hid (∀ u ∈ ({ x with sr:=Rr,ss:=Ss }:Inp).cells s,u.oneCell' = true):=by
     obtain ⟨⟨oa,na,ca,ea⟩,⟨ob,nb,cb,eb⟩,⟨oc,nc,cc,ec⟩,⟨od,nd,cd,ed⟩⟩:=y4o HXR.out
     have h:=z2u ({ x with sr:=Rr,ss:=Ss }:Inp) s _ _ _ _ _ _ _ _ _ _ _ _ ea eb ec ed
     exact fun u hu=>aM.1 h u (by simpa using hu)
    clear HI H4 HB HC5 HW5 H7
    go_wp2_with (first
     | (have _g:=HC5'.out;refine z3a (by rfl) 41 (.tmp 2) rfl w.heap.size _ rfl 41 _ HC5'.out Tryz.underlying41 rfl (by kernel_rfl) ?_;clear _g)
     | (have _g:=HSO.out;refine z4a rfl 41 (.tmp 4) (.tmp 28) rfl (w.heap.size + 1) _ rfl rfl 41 ZIc H45.out (by rfl) (by kernel_rfl) HSO.out (fun w8 HC8 HW8 HZ8=>?_);clear HSO))
    refine bodyPost_ret (v:=.tuple #[.agg (({ x with sr:=Rr,ss:=Ss }:Inp).cells (s:Slc)).toArray,_]) (z1e rfl _ _ (w.heap.size + 1) 41 _ (0,0) _ rfl HC8.out Tryz.underlying41 rfl (by kernel_rfl)) rfl ?_
    have hbe:Below w.heap.size w w8:=HB5.out.grown HW8.out HB5.out.size (fun q e=>by injection e with e;omega)
    exact ⟨s,by unfold y0b x6v;rw [Hok.out];rfl,by unfold y0b;rw [Hok.out];exact ⟨(HXR.out.ext hbe).ways,(HXR.out.ext hbe).tree,(HXR.out.ext hbe).modes,(HXR.out.ext hbe).vols⟩,hbe⟩
  · go_upto_region 6 with (first
     | (have _g:=HI.out;refine z3a (by rfl) 41 (.tmp 2) rfl w.heap.size (x.cells s) rfl 41 _ HI.out Tryz.underlying41 rfl (by kernel_rfl) ?_;clear _g)
     | (go_at_call 70;refine (z0r x s _ (HXR.out.ext HB.out) Hi.out Hl.out Hz.out).mono ?_;go_loud (rintro e9 w2 ⟨m,rfl,hm,hb2⟩;obtain ⟨om,cm,rfl⟩:=hm.shape;have HM:=hd_ hm;have HB2:=hd_ (z0a HB.out hb2);have HI2:=hd_ (HI.out.ext hb2);have H42:=hd_ (H4.out.ext hb2);clear hm hb2))
     | (go_at_call 69;refine (x0a k Rr Ss _ _ (z9z x) _ HS (z7s x) HM.out).mono ?_;go_loud (rintro e9 w3 ⟨rfl,hb3⟩;have HB3:=hd_ (z0a HB2.out hb3);have HI3:=hd_ (HI2.out.ext hb3);have H43:=hd_ (H42.out.ext hb3);have H7z:Hid (CB (w3.alloc (.cells [Value.int .i64 0,.int .i64 0].toArray 39)) w3.heap.size 39 [.int .i64 0,.int .i64 0]):=z6a w3 _ _ _ rfl;clear hb3 HM))
     | (have _g:=HRS.out;refine z4a rfl 39 (.tmp 7) (.tmp 20) rfl w3.heap.size [.int .i64 Rr,.int .i64 Ss] rfl rfl 39 _ H7z.out rfl (by kernel_rfl) HRS.out (fun w4 H7 HW4 HZ4=>?_);clear _g))
    have hz4:Below w3.heap.size w3 w4:=(z5b (w:=w3) (.cells [Value.int .i64 0,.int .i64 0].toArray 39)).grown HW4.out (by simp) (fun q e=>by injection e with e;omega)
    clear HB HI H4
    have HB:=hd_ (z0a HB3.out hz4);have H4:=hd_ (H43.out.ext hz4)
    clear HB2 HB3 HI2 HI3 H42 H43 hz4 HW4 HZ4 H7z H7
    go_wp2_with (first | (have _g:=HBz.out;refine z7c (by rfl) 41 #[] rfl ZIc [] rfl HBz.out ?_;clear HBz) | (have _g:=HZo.out;refine z4a rfl 41 (.tmp 4) (.tmp 24) rfl (w.heap.size + 1) ZIc rfl rfl 41 ZIc H4.out (by rfl) (by kernel_rfl) HZo.out (fun w8 HC8 HW8 HZ8=>?_);clear HZo))
    refine bodyPost_ret (v:=.tuple #[.agg ((zI:Inp).cells (z1g:Slc)).toArray,_]) (z1e rfl _ _ (w.heap.size + 1) 41 _ (0,0) _ rfl HC8.out Tryz.underlying41 rfl (by kernel_rfl)) rfl ?_
    exact ⟨z1g,by unfold y0b x6v;rw [Hok.out];rfl,by unfold y0b;rw [Hok.out];exact j8i _,HB.out.grown HW8.out HB.out.size (fun q e=>by injection e with e;omega)⟩
theorem x1a (V E:Nat) (w:World) :
 CallsD Tryz.prog 56 #[.pointer (some ⟨V,0,none⟩),.pointer (some ⟨E,0,none⟩)] .returning w fun e u' w'=>e = .returned (.tuple #[])∧u' = .returning∧w' = w:=by
 refine callsD_of_wpS Tryz.func56 rfl fun c₀ cs hu=>?_
 apply wpS_seq
 apply wpS_region
 simp [wpOpsS,go_sem,recoverD,hu,Tryz.ntmps56,Exit.thenS]
 apply wpS_seq
 apply wpS_region
 simp [wpOpsS,go_sem,Exit.thenS]
 refine wpS_cond (t:=false) (by simp [Act.eval,Array.replicate]) ?_
 simp only [Bool.false_eq_true,if_false]
 refine wpS_of_wp (wp_skip ?_)
 cases c₀
 simp_all [bodyPostS,results,Tryz.results56]
structure Catch49 (N E:Nat) (w w':World):Prop where
 n:CB w' N 41 ZIc
 e:CB w' E 44 [.int .i64 490]
 gr:∀ (base:World) (G:Option Nat),base.grownBy w G→base.heap.size ≤ N→base.heap.size ≤ E→base.grownBy w' G
theorem y1b {base w w':World} {G:Option Nat} {N:Nat} (h:base.grownBy w G) (hg:w.grownBy w' (some N)) (hN:base.heap.size ≤ N):base.grownBy w' G:=z2a h hg (.inr fun q e=>by injection e with e;omega)
theorem z0y (N E:Nat) (v:Value) (w:World) (hN:CB w N 41 ZIc) (hE:CB w E 44 [v]) (hne:N ≠ E) :
 CallsD Tryz.prog 56 #[.pointer (some ⟨N,0,none⟩),.pointer (some ⟨E,0,none⟩)] (.panicking y6g) w fun e u' w' =>
  e = .returned (.tuple #[])∧u' = .panicking [{ v:=.iface 44 (.int .i64 490),recovered:=true }]∧Catch49 N E w w':=by
 have HN:=hd_ hN;have HE:=hd_ hE;have Hne:=hd_ hne
 have HBz:Hid (Tryz.prog.built 41 [] = some ZIc.toArray):=hd_ (by kernel_rfl)
 have HZo:=hd_ y1g
 clear hN hE hne
 unfold y6g
 have hta:=z5y
 refine callsD_of_wpS Tryz.func56 rfl fun c₀ cs hu=>?_
 apply wpS_seq
 apply wpS_region
 simp [wpOpsS,go_sem,recoverD,hu,Tryz.ntmps56,Exit.thenS]
 apply wpS_seq
 apply wpS_region
 simp [wpOpsS,go_sem,Exit.thenS]
 refine wpS_cond (t:=true) (by simp [Act.eval,Array.replicate]) ?_
 simp only [if_true]
 refine wpS_of_wp ?_
 go_wp2
 change Code.wp _ _ _ ⟨#[.pointer (some ⟨N,0,none⟩),.pointer (some ⟨E,0,none⟩),.iface 44 (.int .i64 490),.iface 44 (.int .i64 490),.iface 44 (.int .i64 490),.bool true,undef,undef,undef],_⟩ w
 refine wp_region_held_drew (S:=fun w'=>True) (by kernel_rfl) trivial (fun hHeld=>?_)
 have HN1:Hid (CB w.drew N 41 ZIc):=HN.out
 have HE1:Hid (CB w.drew E 44 [v]):=HE.out
 have Hg1:=hd_ (fun (base:World) (G:Option Nat) (h:base.grownBy w G)=>z5f h)
 clear HN HE
 generalize w.drew = w1 at *
 refine x5j (some 6) 0 rfl (.agg ZIc.toArray) (z2z (by rfl) 41 #[] rfl ZIc [] rfl HBz.out) ?_
 refine tkH (some 7) 1 ?_
 refine tkH (some 8) 2 ?_
 refine rdH 3 fun K hK=>?_
 refine z8c (by rfl) 41 (.tmp 0) (.tmp 6) rfl N ZIc rfl rfl 41 ZIc HN1.out rfl (by kernel_rfl) HZo.out (fun w2 HC2 HG2 HS2=>?_)
 have HE2:=hd_ (HE1.out.keep (HG2.out.block _ HE1.out.lt (fun e=>Hne.out (by injection e with e;exact e.symm))))
 refine goK hK trivial fun hHeld=>?_
 clear hK K
 refine rdH 4 fun K hK=>?_
 have x0:w2.cell? ⟨E,0,none⟩ = some v:=HE2.out.cell 0
 have xf:=HE2.out.frozen 0
 go_simp
 refine goK hK trivial fun hHeld=>?_
 clear hK K
 refine wpAnyH_done (by kernel_rfl) ?_ _
 show bodyPostS _ _ _ _ _ _ _ _ _
 cases c₀
 simp only at hu
 subst hu
 simp [bodyPostS,results,Tryz.results56]
 exact ⟨HC2.out.keep (Below.heap_setCell w2 ⟨E,0,none⟩ _ N Hne.out),HE2.out.set 0 _,fun base G h h1 h2=>y1b (y1b (Hg1.out base G h) HG2.out h1) (z8b w2 E 0 _) h2⟩
def k1f (p:Inp × Int) (w:World) (e:Ending) (w':World):Prop:=∃ sl,e = .returned (.tuple #[.agg ((p.1).cells sl).toArray,.int .i64 p.2])∧InpR w' p.1 sl∧Below w.heap.size w w'
theorem k9n (w:World):InpR w zP z1g:=j8i w
theorem x1i {P:Program} {fn:Func} {p p2:Tmp} {ty ty2:TypeId} (h:fn.results = #[.cell p ty,.cell p2 ty2]) (tmps:Array Value) (w:World) (g g2:Nat) (t _t2:TypeId) (cs:Array Value) (fr:Nat × Nat) (d:TypeDesc) (v:Value)
 (hp:tmps.getD p undef = .pointer (some ⟨g,0,none⟩)) (hg:w.heap[g]? = some (.cells cs t fr))
 (hu:P.underlying ty = some d) (hd:(match d with | .struct _ | .array _ _=>true | _=>false) = true) (hi:(P.info? ty).map (·.size) = some cs.size)
 (hp2:tmps.getD p2 undef = .pointer (some ⟨g2,0,none⟩)) (h2:(loadVar ty2 ⟨g2,0,none⟩).run P w = .ok v w) :
 (results fn tmps).run P w = .ok (.tuple #[.agg cs,v]) w:=by
 have hp':tmps[p]?.getD undef = .pointer (some ⟨g,0,none⟩):=by simpa using hp
 have hp2':tmps[p2]?.getD undef = .pointer (some ⟨g2,0,none⟩):=by simpa using hp2
 simp [results,h,hp',hp2',asAddr,run_loadVar_row w g t ty cs fr d hg hu hd hi,h2]
theorem x3v (w:World) (g:Nat) (v:Value) (h:w.cell? ⟨g,0,none⟩ = some v):(loadVar 44 ⟨g,0,none⟩).run Tryz.prog w = .ok v w:=by
 simp [loadVar,isAgg,underlying,Tryz.underlying44,h,Result.andThen,go_sem]
theorem x2i {tmps:Array Value} {R:Ending→World→Prop} {N E:Nat} {w':World} {cs:List Value} {v:Value} (h0:tmps.getD 2 undef = .pointer (some ⟨N,0,none⟩)) (h1:tmps.getD 3 undef = .pointer (some ⟨E,0,none⟩))
 (hN:CB w' N 41 cs) (hl:cs.length = 32) (hE:CB w' E 44 [v]) (hR:R (.returned (.tuple #[.agg cs.toArray,v])) w'):Leaves Tryz.prog Tryz.f21 tmps R [] .returning w' :=
 ⟨_,x1i (fn:=Tryz.f21) rfl tmps w' N E 41 44 cs.toArray (0,0) _ v h0 hN Tryz.underlying41 rfl (by rw [List.size_toArray,hl];kernel_rfl) h1 (x3v w' E v (hE.cell 0)),hR⟩
def dfr (N E:Nat):Deferred:={ target:=.fn (.func 56) #[.pointer (some ⟨N,0,none⟩),.pointer (some ⟨E,0,none⟩)],args:=#[] }
theorem y5q {tmps:Array Value} {R:Ending→World→Prop} {N E:Nat} {w':World} {v:Value} (h0:tmps.getD 2 undef = .pointer (some ⟨N,0,none⟩)) (h1:tmps.getD 3 undef = .pointer (some ⟨E,0,none⟩))
 (hN:CB w' N 41 ZIc) (hE:CB w' E 44 [v]) (hne:N ≠ E) (hR:∀ w'',Catch49 N E w' w''→R (.returned (.tuple #[.agg ZIc.toArray,.int .i64 490])) w''):Leaves Tryz.prog Tryz.f21 tmps R [dfr N E] (.panicking y6g) w':=by
 refine leaves_cons (f:=56) (args:=#[.pointer (some ⟨N,0,none⟩),.pointer (some ⟨E,0,none⟩)]) (by simp) (by simp [go_sem]) ?_
 refine (z0y N E v w' hN hE hne).mono ?_
 rintro e u' w'' ⟨rfl,rfl,hc⟩
 show Leaves _ _ _ _ _ (settle _) _
 exact x2i h0 h1 hc.n rfl hc.e (hR w'' hc)
theorem k1u {tmps:Array Value} {R:Ending→World→Prop} {N E:Nat} {w':World} {cs:List Value} {v:Value} (h0:tmps.getD 2 undef = .pointer (some ⟨N,0,none⟩)) (h1:tmps.getD 3 undef = .pointer (some ⟨E,0,none⟩))
 (hN:CB w' N 41 cs) (hl:cs.length = 32) (hE:CB w' E 44 [v]) (hR:R (.returned (.tuple #[.agg cs.toArray,v])) w'):Leaves Tryz.prog Tryz.f21 tmps R [dfr N E] .returning w':=by
 refine leaves_cons (f:=56) (args:=#[.pointer (some ⟨N,0,none⟩),.pointer (some ⟨E,0,none⟩)]) (by simp) (by simp [go_sem]) ?_
 refine (x1a N E w').mono ?_
 rintro e u' w'' ⟨rfl,rfl,rfl⟩
 exact x2i h0 h1 hN hl hE hR
theorem y2g {l:List UInt8} {v:V} (hd:x5a l = some v) (hi:z7x v = none):y9g z7x l = (zP,490):=by
 unfold y9g;rw [hd];show (match z7x v with | none=>(zP,(490:Int)) | some x=>if okI x && decide (y6e x = l) then (x,0) else (zP,490)) = _;rw [hi]
theorem y3g {l:List UInt8} {v:V} {x:Inp} (hd:x5a l = some v) (hi:z7x v = some x):y9g z7x l = if okI x && decide (y6e x = l) then (x,0) else (zP,490):=by
 unfold y9g;rw [hd];show (match z7x v with | none=>(zP,(490:Int)) | some x=>if okI x && decide (y6e x = l) then (x,0) else (zP,490)) = _;rw [hi]
theorem j9i {v:V} {o:Option Inp} (hk:v.kind = 3) (h:j4d v.l = o):z7x v = o:=by unfold z7x;rw [if_pos hk,h]
theorem y6q {l:List UInt8} {w w9 w':World} {N E:Nat} (hp:y9g z7x l = (zP,490)) (hg:w.grownBy w9 none) (hN:w.heap.size ≤ N) (hE:w.heap.size ≤ E) (hc:Catch49 N E w9 w'):k1f (y9g z7x l) w (.returned (.tuple #[.agg ZIc.toArray,.int .i64 490])) w':=by
 rw [hp]
 exact ⟨z1g,rfl,k9n _,z0f (hc.gr w none hg hN hE)⟩
theorem k3d {l r:List V} {q:List Int} (h:y0r l = some (q,r)):szs r ≤ szs l:=by
 unfold y0r at h
 obtain ⟨⟨p,t⟩,h1,h2⟩:=bE.1 h
 obtain ⟨u,h3,h4⟩:=bE.1 h2
 injection h4 with h4;injection h4 with _ h4;subst h4
 have:=y9o h1;show szs t ≤ _;omega
theorem k4d {l r:List V} {q:List Nod} (h:x8a l = some (q,r)):szs r ≤ szs l:=by
 unfold x8a at h
 obtain ⟨⟨p,t⟩,h1,h2⟩:=bE.1 h
 obtain ⟨u,h3,h4⟩:=bE.1 h2
 injection h4 with h4;injection h4 with _ h4;subst h4
 have:=y9o h1;show szs t ≤ _;omega
section
variable {w0 W W':World} {G:Option Nat} {B g X:Nat} {l:List V} {cs cs':List (Nat × List V)} {ts:List Thing} {xc:List Value}
theorem DSt.nss (h:DSt w0 G B ((g,l) :: cs) ts W):Calls Tryz.prog 61 #[.pointer (some ⟨g,0,none⟩)] W fun e w' =>
 (∃ q r oa cap,y0r l = some (q,r)∧e = .returned (.slice oa q.length cap)∧DSt w0 G B ((g,r) :: cs) (x1h nuK 3 W.heap.size (.slice oa q.length cap) q :: ts) w'∧∀ k,(Value.slice oa q.length cap).ownBlock = some k→W.heap.size ≤ k)∨(y0r l = none∧e = .panicked y6g∧DFin w0 G ts w'):=by
 refine (j7e B g l W h.top h.hB (h.sm (g,l) mS)).mono fun e w' hp=>?_
 rcases hp with ⟨q,r,v,h1,h2,h3,h4,h5⟩ | ⟨h1,h2,h3⟩
 · obtain ⟨oa,cap,rfl,-⟩:=h3.rd.shape
   refine .inl ⟨q,r,oa,cap,h1,h2,(h.step h5 h4 (k3d h1)).add _ h3 (fun p hp hk=>?_),fun k hk=>(h3.lt k hk).1⟩
   have hlow:=(h3.lt _ hk).1
   have:∃ p' ∈ ((g,l) :: cs),p'.1 = p.1:=by
    rcases mC.1 hp with rfl | hp
    · exact ⟨_,mS,rfl⟩
    · exact ⟨p,List.mem_cons_of_mem _ hp,rfl⟩
   obtain ⟨p',hp',e'⟩:=this
   have:=(h.cur p' hp').lt'
   omega
 · exact .inr ⟨h1,h2,h.stop h3⟩
theorem DSt.tre (h:DSt w0 G B ((g,l) :: cs) ts W):Calls Tryz.prog 64 #[.pointer (some ⟨g,0,none⟩)] W fun e w' =>
 (∃ q r oa cap rl,x8a l = some (q,r)∧e = .returned (.slice oa q.length cap)∧DSt w0 G B ((g,r) :: cs) (x9a W.heap.size (.slice oa q.length cap) rl q :: ts) w'∧∀ k,j8z (.slice oa q.length cap) rl k→W.heap.size ≤ k)∨(x8a l = none∧e = .panicked y6g∧DFin w0 G ts w'):=by
 refine (x9t B g l W h.top h.hB (h.sm (g,l) mS)).mono fun e w' hp=>?_
 rcases hp with ⟨q,r,v,rl,h1,h2,h3,h4,h5⟩ | ⟨h1,h2,h3⟩
 · obtain ⟨oa,cap,hv,-⟩:=h3.at.shape
   subst hv
   refine .inl ⟨q,r,oa,cap,rl,h1,h2,(h.step h5 h4 (k4d h1)).add (x9a W.heap.size (.slice oa q.length cap) rl q) h3 (fun p hp hk=>?_),fun k hk=>(h3.low hk).1⟩
   have hlow:=(h3.low hk).1
   have:∃ p' ∈ ((g,l) :: cs),p'.1 = p.1:=by
    rcases mC.1 hp with rfl | hp
    · exact ⟨_,mS,rfl⟩
    · exact ⟨p,List.mem_cons_of_mem _ hp,rfl⟩
   obtain ⟨p',hp',e'⟩:=this
   have:=(h.cur p' hp').lt'
   omega
 · exact .inr ⟨h1,h2,h.stop h3⟩
structure DX (w0:World) (G:Option Nat) (B X:Nat) (xc:List Value) (cs:List (Nat × List V)) (ts:List Thing) (W:World):Prop where
 d:DSt w0 G B cs (z5m X 41 xc :: ts) W
 far:∀ t ∈ ts,¬ t.blk X
 lo:w0.heap.size ≤ X
 lB:B ≤ X
theorem DX.box (h:DX w0 G B X xc cs ts W):CB W X 41 xc:=h.d.thg (z5m X 41 xc) mS
theorem DX.re (h:DX w0 G B X xc cs ts W) (hs:DSt w0 G B cs' (z5m X 41 xc :: ts) W'):DX w0 G B X xc cs' ts W':=⟨hs,h.far,h.lo,h.lB⟩
theorem DX.own {t:Thing} (h:DX w0 G B X xc cs ts W) (hs:DSt w0 G B cs' (t :: z5m X 41 xc :: ts) W') (ht:∀ k,t.blk k→W.heap.size ≤ k):DX w0 G B X xc cs' (t :: ts) W' :=
 ⟨hs.sub (fun u hu=>by
  rcases mC.1 hu with rfl | hu
  · exact List.mem_cons_of_mem _ mS
  · rcases mC.1 hu with rfl | hu
    · exact mS
    · exact List.mem_cons_of_mem _ (List.mem_cons_of_mem _ hu)),
  fun u hu hx=>by
   rcases mC.1 hu with rfl | hu
   · have:=ht X hx;have:=h.box.lt;omega
   · exact h.far u hu hx,h.lo,h.lB⟩
theorem DX.set {yc:List Value} (h:DX w0 G B X xc cs ts W) (hg:W.grownBy W' (some X)) (hc:CB W' X 41 yc):DX w0 G B X yc cs ts W' :=
 ⟨h.d.put [z5m X 41 xc] (z5m X 41 yc) (some X) hg (fun k hk=>by injection hk with hk;subst hk;exact ⟨⟨_,List.mem_singleton.2 rfl,rfl⟩,h.lo,h.lB⟩) hc (fun k hk=>.inl ⟨_,List.mem_singleton.2 rfl,hk⟩) (fun u hu k hk=>by injection hk with hk;subst hk;exact h.far u hu),h.far,h.lo,h.lB⟩
end
theorem j0j {α:Type} {K:EK α} {e t:TypeId} {w:World} {b g:Nat} {v:Value} {l:List α} {cs:List Value} (h:z7m K e w b v l) (hc:CB w g t cs) (hne:e ≠ t):∀ k,v.ownBlock = some k→(some g:Option Nat) ≠ some k:=by
 intro k hk he
 injection he with he
 subst he
 rcases h.2 with ⟨h0,_⟩ | ⟨g',cap,cur,hv,hb,hg,_⟩
 · rw [h0] at hk;cases hk
 · subst hv
   injection hk with hk
   have hk:g' = g:=hk
   subst hk
   unfold CB at hc
   rw [hc] at hg
   injection hg with hg
   injection hg with _ hg _
   exact hne hg.symm
def j8u (y:Inp) (s:Slc) (w:World):Prop:=∃ b1 b2 b3 b4 rl,z7m nuK 3 w b1 s.ways y.flt.ways∧x5v b2 s.tree rl y.tree w∧z7m nuK 3 w b3 s.modes y.chg.modes∧z7m nuK 3 w b4 s.vols y.stn.vols
theorem j8u.rd {y:Inp} {s:Slc} {w:World} (h:j8u y s w):InpR w y s:=by
 obtain ⟨_,_,_,_,_,h1,h2,h3,h4⟩:=h
 exact ⟨h1.rd,h2.at,h3.rd,h4.rd⟩
theorem j8u.keep {y:Inp} {s:Slc} {w w':World} {row:Option Nat} (h:j8u y s w) (hg:w.grownBy w' row) (hr:∀ k,row = some k→∃ t cs,CB w k t cs∧t ≠ 3∧t ≠ 48∧t ≠ 88):j8u y s w':=by
 obtain ⟨b1,b2,b3,b4,rl,h1,h2,h3,h4⟩:=h
 have hi:∀ (b:Nat) (v:Value) (l:List Int),z7m nuK 3 w b v l→z7m nuK 3 w' b v l:=fun b v l h=>y5a h hg (fun k hk e=>by
  obtain ⟨t,cs,hc,ht,_⟩:=hr k e
  exact j0j h hc ht.symm k hk rfl)
 refine ⟨b1,b2,b3,b4,rl,hi _ _ _ h1,(x9a b2 s.tree rl y.tree).keep h2 hg (fun k hk e=>?_),hi _ _ _ h3,hi _ _ _ h4⟩
 obtain ⟨t,cs,hc,_,ht,ht2⟩:=hr k e
 rcases hk with hk | ⟨r,hm,hk⟩
 · exact j0j h2.1 hc ht.symm k hk rfl
 · obtain ⟨t',h5,_⟩:=h2.mem hm
   exact j0j h5 hc ht2.symm k hk rfl
theorem j8u.ext {y:Inp} {s:Slc} {w w':World} (h:j8u y s w) (hb:Below w.heap.size w w'):j8u y s w':=h.keep (z0d hb) (fun k e=>by cases e)
theorem j8u.row {y:Inp} {s:Slc} {w w':World} {g:Nat} {t:TypeId} {cs:List Value} (h:j8u y s w) (hc:CB w g t cs) (ht:t ≠ 3∧t ≠ 48∧t ≠ 88) (hg:w.grownBy w' (some g)):j8u y s w' :=
 h.keep hg (fun k e=>by injection e with e;subst e;exact ⟨t,cs,hc,ht⟩)
section
variable {w0 W:World} {G:Option Nat} {B g X:Nat} {cs cs0:List (Nat × List V)} {ts:List Thing} {l:List V} {xc:List Value} {α γ:Type} {rd:Option (α × List V)} {mk:α→Value} {F:FuncId} {args:Array Value} {Post:Ending→World→Prop} {t:Option γ}
theorem rdK {f:α × List V→Option γ} (hc:Calls Tryz.prog F args W (RdS w0 G B g cs ts rd mk)) (HD:Hid (t = rd.bind f))
 (good:∀ q r W',Hid (t = f (q,r))→Hid (DSt w0 G B ((g,r) :: cs) ts W')→Post (.returned (mk q)) W') (bad:∀ W',Hid (t = none)→DFin w0 G ts W'→Post (.panicked y6g) W'):Calls Tryz.prog F args W Post :=
 hc.mono fun e W' hp=>by
  rcases hp with ⟨q,r,hN,rfl,hs⟩ | ⟨hN,rfl,hf⟩
  · exact good q r W' (hd_ (HD.out.trans (z9k hN))) (hd_ hs)
  · exact bad W' (hd_ (HD.out.trans (z0l hN))) hf
theorem rdX {f:α × List V→Option γ} (H:Hid (DX w0 G B X xc cs0 ts W)) (hc:Calls Tryz.prog F args W (RdS w0 G B g cs (z5m X 41 xc :: ts) rd mk)) (HD:Hid (t = rd.bind f))
 (good:∀ q r W',Hid (t = f (q,r))→Hid (DX w0 G B X xc ((g,r) :: cs) ts W')→Post (.returned (mk q)) W') (bad:∀ W',Hid (t = none)→DFin w0 G (z5m X 41 xc :: ts) W'→Post (.panicked y6g) W'):Calls Tryz.prog F args W Post :=
 rdK hc HD (fun q r W' h1 h2=>good q r W' h1 (hd_ (H.out.re h2.out))) bad
theorem lsK {f:List V × List V→Option γ} (h:DSt w0 G B ((g,l) :: cs) ts W) (HD:Hid (t = (z5k l).bind f))
 (good:∀ n p r W',Hid (t = f (p,r))→Hid (DSt w0 G B ((n,p) :: (g,r) :: cs) ts W')→Post (.returned (.pointer (some ⟨n,0,none⟩))) W') (bad:∀ W',Hid (t = none)→DFin w0 G ts W'→Post (.panicked y6g) W'):Calls Tryz.prog 58 #[.pointer (some ⟨g,0,none⟩)] W Post :=
 h.lis.mono fun e W' hp=>by
  rcases hp with ⟨p,r,n,hN,rfl,-,hs⟩ | ⟨hN,rfl,hf⟩
  · exact good n p r W' (hd_ (HD.out.trans (z9k hN))) (hd_ hs)
  · exact bad W' (hd_ (HD.out.trans (z0l hN))) hf
theorem lsX {f:List V × List V→Option γ} (H:Hid (DX w0 G B X xc cs0 ts W)) (hd:DSt w0 G B cs0 (z5m X 41 xc :: ts) W→DSt w0 G B ((g,l) :: cs) (z5m X 41 xc :: ts) W) (HD:Hid (t = (z5k l).bind f))
 (good:∀ n p r W',Hid (t = f (p,r))→Hid (DX w0 G B X xc ((n,p) :: (g,r) :: cs) ts W')→Post (.returned (.pointer (some ⟨n,0,none⟩))) W') (bad:∀ W',Hid (t = none)→DFin w0 G (z5m X 41 xc :: ts) W'→Post (.panicked y6g) W'):Calls Tryz.prog 58 #[.pointer (some ⟨g,0,none⟩)] W Post :=
 lsK (hd H.out.d) HD (fun n p r W' h1 h2=>good n p r W' h1 (hd_ (H.out.re h2.out))) bad
end
theorem x0b {tmps:Array Value} {l:List UInt8} {x:V} {w W':World} {E:Nat} {ts:List Thing} (hf:DFin w none ts W') (Hne:Hid (w.heap.size ≠ E∧w.heap.size ≤ E)) (HDF:Hid (x5a l = some x)) (HK:Hid (x.kind = 3)) (hbad:Hid (j4d x.l = none))
 (h0:tmps.getD 2 undef = .pointer (some ⟨w.heap.size,0,none⟩):=by rfl) (h1:tmps.getD 3 undef = .pointer (some ⟨E,0,none⟩):=by rfl)
 (m1:z5m w.heap.size 41 ZIc ∈ ts:=by simp only [List.mem_cons,true_or,or_true]) (m2:z5m E 44 [.int .i64 0] ∈ ts:=by simp only [List.mem_cons,true_or,or_true]) :
 Leaves Tryz.prog Tryz.f21 tmps (k1f (y9g z7x l) w) [dfr w.heap.size E] (.panicking y6g) W' :=
 y5q h0 h1 (hf.thg _ m1) (hf.thg _ m2) Hne.out.1 (fun _ hc=>y6q (y2g HDF.out (j9i HK.out hbad.out)) hf.gr (Nat.le_refl _) Hne.out.2 hc)
end Go.Proofs.YtdblnbnofjggnaaGreatDoor
