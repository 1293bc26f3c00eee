/- Parts of the proofs of chapter 49's laws. -/
import Derived.Test.YtdblnbnofjggnaaGreatDoorP47
set_option maxHeartbeats 16000000
set_option maxRecDepth 100000
open Go.Lib renaming hid → hd_
open Go.World renaming cell?_of_block → cB
open List renaming setIfInBounds_toArray → aS
open Go.Value renaming int → I, slice → X, string → Y, bool → A, agg → F
open Go.IntKind renaming i64 → J
open Go.Obj renaming cells → Z
open Go.Ending renaming returned → M
open Option renaming none → Q, some → G
open Bool renaming true → B, false → D
open Go renaming World → E, Value → O, Calls → H
open Go.RowKit renaming Below → U, Hid → C
set_option linter.all false
namespace Go.Proofs.YtdblnbnofjggnaaGreatDoor
open Go.Proofs.Tryz
open Go.RowKit
section
variable {x:Inp} {s:Slc} {W:E}
theorem k7v (hx:InpR W x s) (hi:InpI x) (hk:okI x=B):H prog 13 #[F (x.cells s).toArray] W fun e W'=>e=M (I J 0)∧U W.heap.size W W' :=
 (z5m x s W hx hi.text hi.flt.call hi.rcl).mono fun e W' h=>by unfold k1m at h;rw [hk] at h;exact h
theorem j8n (hx:InpR W x s) (hi:InpI x) (hk:okI x=D):H prog 13 #[F (x.cells s).toArray] W fun e W'=>e=M (I J 490)∧U W.heap.size W W' :=
 (z5m x s W hx hi.text hi.flt.call hi.rcl).mono fun e W' h=>by unfold k1m at h;rw [hk] at h;exact h
theorem k0j (hx:InpR W x s) (hi:InpI x) (hz:sz (lV (z6e x))≤60000) (hk:okI x=B):H prog 14 #[F (x.cells s).toArray] W fun e W'=>∃ ou cu,e=M (.tuple #[.slice ou (z4o x).length cu,I J 0])∧z6c W'.heap.size W' (z4o x) (.slice ou (z4o x).length cu)∧U W.heap.size W W' :=
 (z6n x s W hx hi (InpL.of hz) hz).mono fun e W' h=>by
  obtain ⟨u,h1,h2,h3⟩:=h
  rw [hk] at h1 h2
  simp only [if_true] at h1 h2
  obtain ⟨ou,cu,rfl⟩:=h2.shape
  exact ⟨ou,cu,h1,h2,h3⟩
theorem j9n {k R S:Int} (hx:InpR W x s) (hi:InpI x) (hz:sz (lV (z6e x))≤60000) (hL:Laid W) (hk:okI x=B) (hs:k4a k (x1l x) R S 0):H prog 23 #[F (x.cells s).toArray,I J k] W fun e W'=>∃ sl,e=M (.tuple #[F ((z2o x R S).cells sl).toArray,I J 0])∧InpR W' (z2o x R S) sl∧U W.heap.size W W' :=
 (y1o k R S 0 x s W hx hi (InpL.of hz) hz hL (hd_ hs)).mono fun e W' h=>by
  obtain ⟨sl,h1,h2,h3⟩:=h
  unfold x2z k4m at h1
  unfold x2z at h2
  rw [hk] at h1 h2
  exact ⟨sl,h1,h2,h3⟩
theorem k8v {k R S e:Int} (hx:InpR W x s) (hi:InpI x) (hz:sz (lV (z6e x))≤60000) (hL:Laid W) (hk:okI x=B) (hs:k4a k (x1l x) R S e) (he:e≠0):H prog 23 #[F (x.cells s).toArray,I J k] W fun q W'=>∃ sl,q=M (.tuple #[F (zP.cells sl).toArray,I J e])∧InpR W' zP sl∧U W.heap.size W W' :=
 (y1o k R S e x s W hx hi (InpL.of hz) hz hL (hd_ hs)).mono fun q W' h=>by
  obtain ⟨sl,h1,h2,h3⟩:=h
  unfold x2z k4m at h1
  unfold x2z at h2
  rw [hk] at h1 h2
  simp only [if_true,if_neg he] at h1 h2
  exact ⟨sl,h1,h2,h3⟩
theorem j0o {p e1 e2 e3:Int} {t:Bool} (hx:InpR W x s) (hi:InpI x) (hz:sz (lV (z6e x))≤60000) (hL:Laid W) (hk:okI x=B) (h1:ElE p e1) (h2:ElE x.sr e2) (h3:ScE x.ss e3) (hv:z3w p x.sr x.ss e1 e2 e3 (x1l x) t):H prog 26 #[I J p,F (x.cells s).toArray] W fun e W'=>e=M (I J (if t then 0 else 491))∧U W.heap.size W W' :=
 (x6d p e1 e2 e3 t x s W hx hi (InpL.of hz) hz hL (hd_ h1) (hd_ h2) (hd_ h3) (hd_ hv)).mono fun e W' h=>by unfold v8e k4v at h;rw [hk] at h;exact h
theorem k9v {p e1 e2 e3:Int} (hx:InpR W x s) (hi:InpI x) (hz:sz (lV (z6e x))≤60000) (hL:Laid W) (hk:okI x=B) (h1:ElE p e1) (h2:ElE x.sr e2) (h3:ScE x.ss e3) (hv:z3w p x.sr x.ss e1 e2 e3 (x1l x) B):H prog 26 #[I J p,F (x.cells s).toArray] W fun e W'=>e=M (I J 0)∧U W.heap.size W W':=j0o hx hi hz hL hk h1 h2 h3 hv
theorem k0w {p e1 e2 e3:Int} (hx:InpR W x s) (hi:InpI x) (hz:sz (lV (z6e x))≤60000) (hL:Laid W) (hk:okI x=B) (h1:ElE p e1) (h2:ElE x.sr e2) (h3:ScE x.ss e3) (hv:z3w p x.sr x.ss e1 e2 e3 (x1l x) D):H prog 26 #[I J p,F (x.cells s).toArray] W fun e W'=>e=M (I J 491)∧U W.heap.size W W':=j0o hx hi hz hL hk h1 h2 h3 hv
theorem k6a {y:Inp} {t:Slc} (hx:InpR W x s) (hy:InpR W y t) (b:Bool) (hb:decide (x=y)=b):H prog 15 #[F (x.cells s).toArray,F (y.cells t).toArray] W fun e W'=>e=M (A b)∧U W.heap.size W W' :=
 (x6o x y s t W hx hy).mono fun e W' h=>by rw [hb] at h;exact h
theorem x5l {y:Inp} {t:Slc} (hx:InpR W x s) (hy:InpR W y t) (b:Bool) (hb:decide (x=y)=b):H prog 18 #[F (x.cells s).toArray,F (y.cells t).toArray] W fun e W'=>e=M (A b)∧U W.heap.size W W' :=
 (y6y x y s t W hx hy).mono fun e W' h=>by rw [hb] at h;exact h
end
theorem v5b (w:E):z6c (w.alloc (Z #[I .u8 3,I .u8 0] 5)).heap.size (w.alloc (Z #[I .u8 3,I .u8 0] 5)) [3,0] (X (G ⟨w.heap.size,0,Q⟩) 2 2) :=
 z6c.mk' rfl (Nat.le_refl _) (by decide) (by simp) fun j c hj=>by
  rw [Nat.zero_add,(CB.new w 5 [I .u8 3,I .u8 0]).cell j]
  match j,hj with
  | 0,hj=>simp at hj;subst hj;rfl
  | 1,hj=>simp at hj;subst hj;rfl
theorem v9h (w:E):z6c w.heap.size w [] (X Q 0 0):=.inl ⟨rfl,Q,0,rfl,Nat.zero_le _⟩
theorem k7a {l:List UInt8} {n:Int} (hl:l.length≤4000) (hd:z8q z2r l=(zP,n)) (v:O) (W:E) (hb:z6c W.heap.size W l v):H prog 21 #[v] W fun e W'=>∃ sl,e=M (.tuple #[F (zP.cells sl).toArray,I J n])∧InpR W' zP sl∧U W.heap.size W W' :=
 (y4c l hl v W hb).mono fun e W' h=>by rw [hd] at h;exact h
theorem y0b (w:E) (hL:Laid w):H prog 11 #[] w fun e w'=>e=M (A B)∧U w.heap.size w w':=by
 have HL:=hd_ hL
 clear hL
 obtain ⟨R',S',e5,hs5⟩:=j2n 5 (x1l n0)
 obtain ⟨rfl,⟨r,rfl,hr⟩,⟨s,rfl,hs⟩,hv⟩:=j5n v9e hs5
 obtain ⟨P,eP,hp⟩:=k1i 5
 obtain rfl:=j7v v9e hp
 have hv:=hv P hp
 obtain ⟨R0,S0,e0,hs0⟩:=j2n 0 (x1l n0)
 obtain ⟨rfl,rfl,rfl⟩:=x6y v8h hs0
 have Hp:=hd_ hp;have Hs5:=hd_ hs5;have Hs0:=hd_ hs0;have HV:=hd_ hv
 have hrl:0<r∧r<cP:=⟨hr.1,hr.2.1⟩
 have HXI:C (InpI (z2o n0 (r:Int) (s:Int))):=hd_ (v6h _ _ (by unfold I64;have:=hrl.2;unfold cP at this;omega) (by unfold I64;unfold cQ at hs;omega))
 have HXz:C (sz (lV (z6e (z2o n0 (r:Int) (s:Int))))≤60000):=hd_ (k5a _ _).sz
 have HXL:C (InpL (z2o n0 (r:Int) (s:Int))):=hd_ (v7h _ _)
 have HXk:C (okI (z2o n0 (r:Int) (s:Int))=B):=hd_ (by rw [k6i];exact j6n)
 have HXs:C (k4a 5 (x1l (z2o n0 (r:Int) (s:Int))) (r:Int) (s:Int) 0):=hd_ hs5
 have HXn:C (decide (z2o n0 (r:Int) (s:Int)=n0)=D):=hd_ (decide_eq_false (fun h=>by have h1:=congrArg Inp.sr h;have h1:(r:Int)=0:=h1;have:=hrl.1;omega))
 have HB:=hd_ (Below.refl w.heap.size w)
 clear hp hs5 hs0 hv hr hs hrl
 go_enter func11,ntmps11
 have T0:=ti
 have HZ:C (CB (w.alloc ZI) w.heap.size 41 ZIc):=hd_ (z3a w ZI _ _ rfl)
 go_upto_region 2 with (first
  | (have _g:=T0.out;refine z9b (by rfl) 41 #[(0,.tmp 21),(1,.const (I J 5)),(8,.const (I J 31))] rfl (n0.cells z1h) [(0,F #[I J 3,I J 1,I J 2]),(1,I J 5),(8,I J 31)] rfl (by kernel_rfl) ?_;clear T0;have T1:=ti)
  | (have _g:=T1.out;have _h:=HZ.out;refine scs 41 (.tmp 1) (.tmp 22) rfl w.heap.size (n0.cells z1h) rfl rfl HZ.out (z0j (z8s n0 rfl rfl rfl rfl w)) (fun w1 HC HG fI=>?_);have hbs:U w.heap.size w w1:=(z4b (w:=w) ZI).grown HG.out (z4b (w:=w) ZI).size (fun q e=>by injection e with e;omega);replace HB:=hd_ (z0a HB.out hbs);have B1:=HC;clear hbs HC HG fI HZ _h;clear T1;have T2:=ti))
 have HZ:C (CB (w1.alloc ZI) w1.heap.size 41 ZIc):=hd_ (z3a w1 ZI _ _ rfl)
 have Hw1:=hd_ B1.out.lt
 go_upto_region 3 with (first
  | (have _g:=T2.out;refine lcs 41 (.tmp 1) rfl w.heap.size (n0.cells z1h) rfl B1.out underlying41 ?_;clear T2;have T3:=ti)
  | (have _g:=T3.out;have _h:=HZ.out;refine scs 41 (.tmp 2) (.tmp 23) rfl w1.heap.size (n0.cells z1h) rfl rfl HZ.out (z0j (z8s n0 rfl rfl rfl rfl w)) (fun w2 HC HG fI=>?_);have hbs:U w1.heap.size w1 w2:=(z4b (w:=w1) ZI).grown HG.out (z4b (w:=w1) ZI).size (fun q e=>by injection e with e;omega);replace B1:=hd_ (B1.out.ext hbs);replace HB:=hd_ (z0a HB.out hbs);have B2:=HC;clear hbs HC HG fI HZ _h;clear T3;have T4:=ti))
 have x26:=B2.out.cv 26 (I J 31);have f26:w2.frozen? ⟨w1.heap.size,26,Q⟩=D:=B2.out.frozen 26
 have hne1:C (w.heap.size≠w1.heap.size):=hd_ (by have:=Hw1.out;omega)
 go_upto_region 4 with fail
 change Code.wp _ _ _ _ (w2.setCell ⟨w1.heap.size,26,Q⟩ (I J 32))
 have gi:CB (w2.setCell ⟨w1.heap.size,26,Q⟩ (I J 32)) w1.heap.size 41 (nf.cells z1h):=B2.out.set 26 (I J 32)
 have iU:=B1.out.far (p:=⟨w1.heap.size,26,Q⟩) hne1.out (I J 32)
 have hB:=HB.out.setCell (p:=⟨w1.heap.size,26,Q⟩) (by show w.heap.size≤w1.heap.size;have:=Hw1.out;omega) (I J 32)
 clear B2 B1 HB x26 f26
 have B2:=hd_ gi;have B1:=hd_ iU;have HB:=hd_ hB
 clear gi iU hB
 have y0:=B1.out.cv 0 (I J 3);have y1:=B1.out.cv 1 (I J 1);have y2:=B1.out.cv 2 (I J 2)
 generalize w2.setCell ⟨w1.heap.size,26,Q⟩ (I J 32)=w3 at *
 have HZ:C (CB (w3.alloc ZI) w3.heap.size 41 ZIc):=hd_ (z3a w3 ZI _ _ rfl)
 go_upto_region 5 with (first
  | (have _g:=T4.out;refine z9b (by rfl) 41 #[(0,.tmp 26),(1,.const (I J 10)),(8,.const (I J 1))] rfl (nt.cells z1h) [(0,F #[I J 3,I J 1,I J 2]),(1,I J 10),(8,I J 1)] rfl (by kernel_rfl) ?_;clear T4;have T5:=ti)
  | (have _g:=T5.out;have _h:=HZ.out;refine scs 41 (.tmp 3) (.tmp 27) rfl w3.heap.size (nt.cells z1h) rfl rfl HZ.out (z0j (z8s nt rfl rfl rfl rfl w)) (fun w4 HC HG fI=>?_);have hbs:U w3.heap.size w3 w4:=(z4b (w:=w3) ZI).grown HG.out (z4b (w:=w3) ZI).size (fun q e=>by injection e with e;omega);have hh:=exs hbs (an B1 (an B2 HB) :);clear B1 B2 HB;obtain ⟨B1,B2,HB⟩:=hh;have B3:=HC;clear hbs HC HG fI HZ _h;clear T5;have T6:=ti))
 clear y0 y1 y2
 go_upto_region 7 with (first
  | (have _g:=T6.out;go_at_call 25;refine (x3y 5 P 0 Hp _).mono ?_;(rintro e w5 ⟨rfl,hb⟩;have hh:=exs hb (an B1 (an B2 (an B3 HB)) :);clear B1 B2 B3 HB;obtain ⟨B1,B2,B3,HB⟩:=hh;clear hb;clear T6;have T7:=ti))
  | (have _g:=T7.out;refine lcs 41 (.tmp 1) rfl w.heap.size (n0.cells z1h) rfl B1.out underlying41 ?_;clear T7;have T8:=ti)
  | (have _g:=T8.out;go_at_call 23;refine (j9n (z8s n0 rfl rfl rfl rfl _) j7n v4b.sz (HL.out.ext HB.out) j6n Hs5.out).mono ?_;(rintro e w6 ⟨nl,rfl,hI6,hb⟩;have hh:=exs hb (an B1 (an B2 (an B3 HB)) :);clear B1 B2 B3 HB;obtain ⟨B1,B2,B3,HB⟩:=hh;have R6:=hd_ hI6;clear hI6;have HZ:C (CB (w6.alloc ZI) w6.heap.size 41 ZIc):=hd_ (z3a w6 ZI _ _ rfl);clear hb;clear T8;have T9:=ti))
  | (have _g:=T9.out;have _h:=HZ.out;refine scs 41 (.tmp 6) (.tmp 35) rfl w6.heap.size ((z2o n0 (r:Int) (s:Int)).cells nl) rfl rfl HZ.out (z0j R6.out) (fun w7 HC HG fI=>?_);have hbs:U w6.heap.size w6 w7:=(z4b (w:=w6) ZI).grown HG.out (z4b (w:=w6) ZI).size (fun q e=>by injection e with e;omega);have hh:=exs hbs (an B1 (an B2 (an B3 (an R6 HB))) :);clear B1 B2 B3 R6 HB;obtain ⟨B1,B2,B3,R6,HB⟩:=hh;have B6:=HC;clear hbs HC HG fI HZ _h;clear T9;have T10:=ti))
 go_upto_region 9 with (first
  | (have _g:=T10.out;refine lcs 41 (.tmp 6) rfl w6.heap.size ((z2o n0 (r:Int) (s:Int)).cells nl) rfl B6.out underlying41 ?_;clear T10;have T11:=ti)
  | (have _g:=T11.out;go_at_call 14;refine (k0j R6.out HXI.out HXz.out HXk.out).mono ?_;(rintro e w8 ⟨ou,cu,rfl,hu,hb⟩;have hh:=exs hb (an B1 (an B2 (an B3 (an R6 (an B6 HB)))) :);clear B1 B2 B3 R6 B6 HB;obtain ⟨B1,B2,B3,R6,B6,HB⟩:=hh;have U8:=hd_ hu;clear hu;clear hb;clear T11;have T12:=ti))
  | (have _g:=T12.out;go_at_call 21;refine (x8d _ HXI.out HXL.out HXz.out HXk.out _ _ U8.out).mono ?_;(rintro e w9 ⟨sl9,rfl,hI,hb⟩;have hh:=exs hb (an B1 (an B2 (an B3 (an R6 (an B6 (an U8 HB))))) :);clear B1 B2 B3 R6 B6 U8 HB;obtain ⟨B1,B2,B3,R6,B6,U8,HB⟩:=hh;have R9:=hd_ hI;clear hI U8;have HZ:C (CB (w9.alloc ZI) w9.heap.size 41 ZIc):=hd_ (z3a w9 ZI _ _ rfl);clear hb;clear T12;have T13:=ti))
  | (have _g:=T13.out;have _h:=HZ.out;refine scs 41 (.tmp 10) (.tmp 45) rfl w9.heap.size ((z2o n0 (r:Int) (s:Int)).cells sl9) rfl rfl HZ.out (z0j R9.out) (fun wa HC HG fI=>?_);have hbs:U w9.heap.size w9 wa:=(z4b (w:=w9) ZI).grown HG.out (z4b (w:=w9) ZI).size (fun q e=>by injection e with e;omega);have hh:=exs hbs (an B1 (an B2 (an B3 (an R6 (an B6 (an R9 HB))))) :);clear B1 B2 B3 R6 B6 R9 HB;obtain ⟨B1,B2,B3,R6,B6,R9,HB⟩:=hh;have bm:=HC;clear hbs HC HG fI HZ _h;clear T13;have T14:=ti))
 go_upto_region 10 with (first
  | (have _g:=T14.out;go_at_call 21;refine (k7a (by decide) k5v _ _ (v5b wa)).mono ?_;(rintro e wb ⟨slb,rfl,hI,hb⟩;replace hb:=z0a (z4b (w:=wa) (Z #[I .u8 3,I .u8 0] 5)) hb;have hh:=exs hb (an B1 (an B2 (an B3 (an R6 (an B6 (an R9 (an bm HB)))))) :);clear B1 B2 B3 R6 B6 R9 bm HB;obtain ⟨B1,B2,B3,R6,B6,R9,bm,HB⟩:=hh;have Rb:=hd_ hI;clear hI hb;have HZ:C (CB (wb.alloc ZI) wb.heap.size 41 ZIc):=hd_ (z3a wb ZI _ _ rfl);clear T14;have T15:=ti))
  | (have _g:=T15.out;have _h:=HZ.out;refine scs 41 (.tmp 12) (.tmp 50) rfl wb.heap.size (zP.cells slb) rfl rfl HZ.out (z0j Rb.out) (fun wc HC HG fI=>?_);have hbs:U wb.heap.size wb wc:=(z4b (w:=wb) ZI).grown HG.out (z4b (w:=wb) ZI).size (fun q e=>by injection e with e;omega);have hh:=exs hbs (an B1 (an B2 (an B3 (an R6 (an B6 (an R9 (an bm (an Rb HB))))))) :);clear B1 B2 B3 R6 B6 R9 bm Rb HB;obtain ⟨B1,B2,B3,R6,B6,R9,bm,Rb,HB⟩:=hh;have bM:=HC;clear hbs HC HG fI HZ _h;clear T15;have T16:=ti))
 go_upto_region 11 with (first
  | (have _g:=T16.out;go_at_call 21;refine (k7a (by decide) k9i _ _ (v9h _)).mono ?_;(rintro e wd ⟨sld,rfl,hI,hb⟩;have hh:=exs hb (an B1 (an B2 (an B3 (an R6 (an B6 (an R9 (an bm (an Rb (an bM HB)))))))) :);clear B1 B2 B3 R6 B6 R9 bm Rb bM HB;obtain ⟨B1,B2,B3,R6,B6,R9,bm,Rb,bM,HB⟩:=hh;have Rd:=hd_ hI;clear hI;have HZ:C (CB (wd.alloc ZI) wd.heap.size 41 ZIc):=hd_ (z3a wd ZI _ _ rfl);clear hb;clear T16;have T17:=ti))
  | (have _g:=T17.out;have _h:=HZ.out;refine scs 41 (.tmp 14) (.tmp 54) rfl wd.heap.size (zP.cells sld) rfl rfl HZ.out (z0j Rd.out) (fun we HC HG fI=>?_);have hbs:U wd.heap.size wd we:=(z4b (w:=wd) ZI).grown HG.out (z4b (w:=wd) ZI).size (fun q e=>by injection e with e;omega);have hh:=exs hbs (an B1 (an B2 (an B3 (an R6 (an B6 (an R9 (an bm (an Rb (an bM (an Rd HB))))))))) :);clear B1 B2 B3 R6 B6 R9 bm Rb bM Rd HB;obtain ⟨B1,B2,B3,R6,B6,R9,bm,Rb,bM,Rd,HB⟩:=hh;have cJ:=HC;clear hbs HC HG fI HZ _h;clear T17;have T18:=ti))
 go_upto_region 12 with (first
  | (have _g:=T18.out;refine lcs 41 (.tmp 1) rfl w.heap.size (n0.cells z1h) rfl B1.out underlying41 ?_;clear T18;have T19:=ti)
  | (have _g:=T19.out;go_at_call 23;refine (k8v (z8s n0 rfl rfl rfl rfl _) j7n v4b.sz (HL.out.ext HB.out) j6n Hs0.out (by decide)).mono ?_;(rintro e wf ⟨slf,rfl,hI,hb⟩;have hh:=exs hb (an B1 (an B2 (an B3 (an R6 (an B6 (an R9 (an bm (an Rb (an bM (an Rd (an cJ HB)))))))))) :);clear B1 B2 B3 R6 B6 R9 bm Rb bM Rd cJ HB;obtain ⟨B1,B2,B3,R6,B6,R9,bm,Rb,bM,Rd,cJ,HB⟩:=hh;have Rf:=hd_ hI;clear hI;have HZ:C (CB (wf.alloc ZI) wf.heap.size 41 ZIc):=hd_ (z3a wf ZI _ _ rfl);clear hb;clear T19;have T20:=ti))
  | (have _g:=T20.out;have _h:=HZ.out;refine scs 41 (.tmp 16) (.tmp 59) rfl wf.heap.size (zP.cells slf) rfl rfl HZ.out (z0j Rf.out) (fun wg HC HG fI=>?_);have hbs:U wf.heap.size wf wg:=(z4b (w:=wf) ZI).grown HG.out (z4b (w:=wf) ZI).size (fun q e=>by injection e with e;omega);have hh:=exs hbs (an B1 (an B2 (an B3 (an R6 (an B6 (an R9 (an bm (an Rb (an bM (an Rd (an cJ (an Rf HB))))))))))) :);clear B1 B2 B3 R6 B6 R9 bm Rb bM Rd cJ Rf HB;obtain ⟨B1,B2,B3,R6,B6,R9,bm,Rb,bM,Rd,cJ,Rf,HB⟩:=hh;have dn:=HC;clear hbs HC HG fI HZ _h;clear T20;have T21:=ti))
 go_upto_region 13 with (first
  | (have _g:=T21.out;refine lcs 41 (.tmp 6) rfl w6.heap.size ((z2o n0 (r:Int) (s:Int)).cells nl) rfl B6.out underlying41 ?_;clear T21;have T22:=ti)
  | (have _g:=T22.out;go_at_call 23;refine (j9n R6.out HXI.out HXz.out (HL.out.ext HB.out) HXk.out HXs.out).mono ?_;(rintro e wh ⟨slh,rfl,hI,hb⟩;have hh:=exs hb (an B1 (an B2 (an B3 (an R6 (an B6 (an R9 (an bm (an Rb (an bM (an Rd (an cJ (an Rf (an dn HB)))))))))))) :);clear B1 B2 B3 R6 B6 R9 bm Rb bM Rd cJ Rf dn HB;obtain ⟨B1,B2,B3,R6,B6,R9,bm,Rb,bM,Rd,cJ,Rf,dn,HB⟩:=hh;have Rh:=hd_ hI;clear hI;have HZ:C (CB (wh.alloc ZI) wh.heap.size 41 ZIc):=hd_ (z3a wh ZI _ _ rfl);clear hb;clear T22;have T23:=ti))
  | (have _g:=T23.out;have _h:=HZ.out;refine scs 41 (.tmp 18) (.tmp 64) rfl wh.heap.size ((z2o (z2o n0 (r:Int) (s:Int)) (r:Int) (s:Int)).cells slh) rfl rfl HZ.out (z0j Rh.out) (fun wi HC HG fI=>?_);have hbs:U wh.heap.size wh wi:=(z4b (w:=wh) ZI).grown HG.out (z4b (w:=wh) ZI).size (fun q e=>by injection e with e;omega);have hh:=exs hbs (an B1 (an B2 (an B3 (an R6 (an B6 (an R9 (an bm (an Rb (an bM (an Rd (an cJ (an Rf (an dn (an Rh HB))))))))))))) :);clear B1 B2 B3 R6 B6 R9 bm Rb bM Rd cJ Rf dn Rh HB;obtain ⟨B1,B2,B3,R6,B6,R9,bm,Rb,bM,Rd,cJ,Rf,dn,Rh,HB⟩:=hh;have dB:=HC;clear hbs HC HG fI HZ _h;clear T23;have T24:=ti))
 go_upto_region 14 with (first
  | (have _g:=T24.out;refine lcs 41 (.tmp 6) rfl w6.heap.size ((z2o n0 (r:Int) (s:Int)).cells nl) rfl B6.out underlying41 ?_;clear T24;have T25:=ti)
  | (have _g:=T25.out;refine lcs 41 (.tmp 10) rfl w9.heap.size ((z2o n0 (r:Int) (s:Int)).cells sl9) rfl bm.out underlying41 ?_;clear T25;have T26:=ti)
  | (have _g:=T26.out;go_at_call 18;refine (x5l R6.out R9.out B (decide_eq_true rfl)).mono ?_;(rintro e wj ⟨rfl,hb⟩;have hh:=exs hb (an B1 (an B2 (an B3 (an R6 (an B6 (an R9 (an bm (an Rb (an bM (an Rd (an cJ (an Rf (an dn (an Rh (an dB HB)))))))))))))) :);clear B1 B2 B3 R6 B6 R9 bm Rb bM Rd cJ Rf dn Rh dB HB;obtain ⟨B1,B2,B3,R6,B6,R9,bm,Rb,bM,Rd,cJ,Rf,dn,Rh,dB,HB⟩:=hh;clear hb;clear T26;have T27:=ti))
  | (have _g:=T27.out;refine lcs 41 (.tmp 6) rfl w6.heap.size ((z2o n0 (r:Int) (s:Int)).cells nl) rfl B6.out underlying41 ?_;clear T27;have T28:=ti)
  | (have _g:=T28.out;refine lcs 41 (.tmp 18) rfl wh.heap.size ((z2o (z2o n0 (r:Int) (s:Int)) (r:Int) (s:Int)).cells slh) rfl dB.out underlying41 ?_;clear T28;have T29:=ti)
  | (have _g:=T29.out;go_at_call 18;refine (x5l R6.out Rh.out B (decide_eq_true rfl)).mono ?_;(rintro e wk ⟨rfl,hb⟩;have hh:=exs hb (an B1 (an B2 (an B3 (an R6 (an B6 (an R9 (an bm (an Rb (an bM (an Rd (an cJ (an Rf (an dn (an Rh (an dB HB)))))))))))))) :);clear B1 B2 B3 R6 B6 R9 bm Rb bM Rd cJ Rf dn Rh dB HB;obtain ⟨B1,B2,B3,R6,B6,R9,bm,Rb,bM,Rd,cJ,Rf,dn,Rh,dB,HB⟩:=hh;clear hb;clear T29;have T30:=ti)))
 go_wp2_with (first
  | (have _g:=T30.out;refine lcs 41 (.tmp 1) rfl w.heap.size (n0.cells z1h) rfl B1.out underlying41 ?_;clear T30;have T31:=ti)
  | (have _g:=T31.out;go_at_call 13;refine (k7v (z8s n0 rfl rfl rfl rfl _) j7n j6n).mono ?_;(rintro e wl ⟨rfl,hb⟩;have hh:=exs hb (an B1 (an B2 (an B3 (an R6 (an B6 (an R9 (an bm (an Rb (an bM (an Rd (an cJ (an Rf (an dn (an Rh (an dB HB)))))))))))))) :);clear B1 B2 B3 R6 B6 R9 bm Rb bM Rd cJ Rf dn Rh dB HB;obtain ⟨B1,B2,B3,R6,B6,R9,bm,Rb,bM,Rd,cJ,Rf,dn,Rh,dB,HB⟩:=hh;clear hb;clear T31;have T32:=ti))
  | (have _g:=T32.out;refine lcs 41 (.tmp 2) rfl w1.heap.size (nf.cells z1h) rfl B2.out underlying41 ?_;clear T32;have T33:=ti)
  | (have _g:=T33.out;go_at_call 13;refine (j8n (z8s nf rfl rfl rfl rfl _) v3h v1b).mono ?_;(rintro e wm ⟨rfl,hb⟩;have hh:=exs hb (an B1 (an B2 (an B3 (an R6 (an B6 (an R9 (an bm (an Rb (an bM (an Rd (an cJ (an Rf (an dn (an Rh (an dB HB)))))))))))))) :);clear B1 B2 B3 R6 B6 R9 bm Rb bM Rd cJ Rf dn Rh dB HB;obtain ⟨B1,B2,B3,R6,B6,R9,bm,Rb,bM,Rd,cJ,Rf,dn,Rh,dB,HB⟩:=hh;clear hb;clear T33;have T34:=ti))
  | (have _g:=T34.out;refine lcs 41 (.tmp 3) rfl w3.heap.size (nt.cells z1h) rfl B3.out underlying41 ?_;clear T34;have T35:=ti)
  | (have _g:=T35.out;go_at_call 13;refine (j8n (z8s nt rfl rfl rfl rfl _) v4h v2b).mono ?_;(rintro e wn ⟨rfl,hb⟩;have hh:=exs hb (an B1 (an B2 (an B3 (an R6 (an B6 (an R9 (an bm (an Rb (an bM (an Rd (an cJ (an Rf (an dn (an Rh (an dB HB)))))))))))))) :);clear B1 B2 B3 R6 B6 R9 bm Rb bM Rd cJ Rf dn Rh dB HB;obtain ⟨B1,B2,B3,R6,B6,R9,bm,Rb,bM,Rd,cJ,Rf,dn,Rh,dB,HB⟩:=hh;clear hb;clear T35;have T36:=ti))
  | (have _g:=T36.out;refine z9b (by rfl) 41 #[] rfl (zP.cells z1h) [] rfl (by kernel_rfl) ?_;clear T36;have T37:=ti)
  | (have _g:=T37.out;go_at_call 13;refine (j8n (z8s zP rfl rfl rfl rfl _) v5h v3b).mono ?_;(rintro e wo ⟨rfl,hb⟩;have hh:=exs hb (an B1 (an B2 (an B3 (an R6 (an B6 (an R9 (an bm (an Rb (an bM (an Rd (an cJ (an Rf (an dn (an Rh (an dB HB)))))))))))))) :);clear B1 B2 B3 R6 B6 R9 bm Rb bM Rd cJ Rf dn Rh dB HB;obtain ⟨B1,B2,B3,R6,B6,R9,bm,Rb,bM,Rd,cJ,Rf,dn,Rh,dB,HB⟩:=hh;clear hb;clear T37;have T38:=ti))
  | (have _g:=T38.out;refine lcs 41 (.tmp 6) rfl w6.heap.size ((z2o n0 (r:Int) (s:Int)).cells nl) rfl B6.out underlying41 ?_;clear T38;have T39:=ti)
  | (have _g:=T39.out;go_at_call 26;refine (k9v R6.out HXI.out HXz.out (HL.out.ext HB.out) HXk.out HV.out.1 HV.out.2.1 HV.out.2.2.1 HV.out.2.2.2).mono ?_;(rintro e wp ⟨rfl,hb⟩;have hh:=exs hb (an B1 (an B2 (an B3 (an R6 (an B6 (an R9 (an bm (an Rb (an bM (an Rd (an cJ (an Rf (an dn (an Rh (an dB HB)))))))))))))) :);clear B1 B2 B3 R6 B6 R9 bm Rb bM Rd cJ Rf dn Rh dB HB;obtain ⟨B1,B2,B3,R6,B6,R9,bm,Rb,bM,Rd,cJ,Rf,dn,Rh,dB,HB⟩:=hh;clear hb;clear T39;have T40:=ti))
  | (have _g:=T40.out;refine lcs 41 (.tmp 1) rfl w.heap.size (n0.cells z1h) rfl B1.out underlying41 ?_;clear T40;have T41:=ti)
  | (have _g:=T41.out;go_at_call 26;refine (k0w (z8s n0 rfl rfl rfl rfl _) j7n v4b.sz (HL.out.ext HB.out) j6n HV.out.1 j6v v2h (.inl ⟨by decide,rfl⟩)).mono ?_;(rintro e wq ⟨rfl,hb⟩;have hh:=exs hb (an B1 (an B2 (an B3 (an R6 (an B6 (an R9 (an bm (an Rb (an bM (an Rd (an cJ (an Rf (an dn (an Rh (an dB HB)))))))))))))) :);clear B1 B2 B3 R6 B6 R9 bm Rb bM Rd cJ Rf dn Rh dB HB;obtain ⟨B1,B2,B3,R6,B6,R9,bm,Rb,bM,Rd,cJ,Rf,dn,Rh,dB,HB⟩:=hh;clear hb;clear T41;have T42:=ti))
  | (have _g:=T42.out;refine lcs 41 (.tmp 6) rfl w6.heap.size ((z2o n0 (r:Int) (s:Int)).cells nl) rfl B6.out underlying41 ?_;clear T42;have T43:=ti)
  | (have _g:=T43.out;refine lcs 41 (.tmp 10) rfl w9.heap.size ((z2o n0 (r:Int) (s:Int)).cells sl9) rfl bm.out underlying41 ?_;clear T43;have T44:=ti)
  | (have _g:=T44.out;go_at_call 15;refine (k6a R6.out R9.out B (decide_eq_true rfl)).mono ?_;(rintro e wr ⟨rfl,hb⟩;have hh:=exs hb (an B1 (an B2 (an B3 (an R6 (an B6 (an R9 (an bm (an Rb (an bM (an Rd (an cJ (an Rf (an dn (an Rh (an dB HB)))))))))))))) :);clear B1 B2 B3 R6 B6 R9 bm Rb bM Rd cJ Rf dn Rh dB HB;obtain ⟨B1,B2,B3,R6,B6,R9,bm,Rb,bM,Rd,cJ,Rf,dn,Rh,dB,HB⟩:=hh;clear hb;clear T44;have T45:=ti))
  | (have _g:=T45.out;refine lcs 41 (.tmp 6) rfl w6.heap.size ((z2o n0 (r:Int) (s:Int)).cells nl) rfl B6.out underlying41 ?_;clear T45;have T46:=ti)
  | (have _g:=T46.out;refine lcs 41 (.tmp 1) rfl w.heap.size (n0.cells z1h) rfl B1.out underlying41 ?_;clear T46;have T47:=ti)
  | (have _g:=T47.out;go_at_call 15;refine (k6a R6.out (z8s n0 rfl rfl rfl rfl _) D HXn.out).mono ?_;(rintro e ws ⟨rfl,hb⟩;have hh:=exs hb (an B1 (an B2 (an B3 (an R6 (an B6 (an R9 (an bm (an Rb (an bM (an Rd (an cJ (an Rf (an dn (an Rh (an dB HB)))))))))))))) :);clear B1 B2 B3 R6 B6 R9 bm Rb bM Rd cJ Rf dn Rh dB HB;obtain ⟨B1,B2,B3,R6,B6,R9,bm,Rb,bM,Rd,cJ,Rf,dn,Rh,dB,HB⟩:=hh;have y0:=B1.out.cv 0 (I J 3);have y1:=B1.out.cv 1 (I J 1);have y2:=B1.out.cv 2 (I J 2);clear hb;clear T47;have T48:=ti))
  | (have _g:=T48.out;go_at_call 16;refine (y7y 1 0 9 3 1 2 _).mono ?_;rw [k6v];(rintro e wt ⟨rfl,hb⟩;have hh:=exs hb (an B1 (an B2 (an B3 (an R6 (an B6 (an R9 (an bm (an Rb (an bM (an Rd (an cJ (an Rf (an dn (an Rh (an dB HB)))))))))))))) :);clear B1 B2 B3 R6 B6 R9 bm Rb bM Rd cJ Rf dn Rh dB HB;obtain ⟨B1,B2,B3,R6,B6,R9,bm,Rb,bM,Rd,cJ,Rf,dn,Rh,dB,HB⟩:=hh;clear hb;clear T48;have T49:=ti)))
 go_ret
 exact ⟨rfl,HB.out⟩
def v6b (w:E) (e:Ending) (w':E):Prop:=e=M (A B)∧U w.heap.size w w'
section
variable {x:Inp} {s:Slc} {W:E}
theorem k1j (hx:InpR W x s) (hi:InpI x) {b:Bool} (hb:j7k x=b):H prog 12 #[F (x.cells s).toArray] W fun e W'=>e=M (A b)∧U W.heap.size W W' :=
 (k3g x s W hx hi.text hi.flt.call hi.rcl).mono fun e W' h=>by rw [hb] at h;exact h
theorem v7b (hx:InpR W x s) (hi:InpI x) (hf:FewI x) {n:Int} {L:List UInt8} (hn:(if okI x then (0:Int) else 490)=n) (hL:(if okI x then z4o x else [])=L):H prog 14 #[F (x.cells s).toArray] W fun e W'=>∃ ou cu,e=M (.tuple #[X ou L.length cu,I J n])∧z6c W'.heap.size W' L (X ou L.length cu)∧U W.heap.size W W' :=
 (z6n x s W hx hi (InpL.of hf.sz) hf.sz).mono fun e W' h=>by
  obtain ⟨u,h1,h2,h3⟩:=h
  rw [hn] at h1;rw [hL] at h2
  obtain ⟨ou,cu,rfl⟩:=h2.shape
  exact ⟨ou,cu,h1,h2,h3⟩
theorem v8b {l:List UInt8} {y:Inp} {n:Int} (hl:l.length≤4000) (hd:z8q z2r l=(y,n)) (v:O) (W:E) (hb:z6c W.heap.size W l v):H prog 21 #[v] W fun e W'=>∃ sl,e=M (.tuple #[F (y.cells sl).toArray,I J n])∧InpR W' y sl∧U W.heap.size W W' :=
 (y4c l hl v W hb).mono fun e W' h=>by rw [hd] at h;exact h
end
theorem c4 {w:E} {g:Nat} {t:TypeId} {a b c d:Value} (h:CB w g t [a,b,c,d]):w.cell? ⟨g,0,Q⟩=G a∧w.cell? ⟨g,1,Q⟩=G b∧w.cell? ⟨g,2,Q⟩=G c∧w.cell? ⟨g,3,Q⟩=G d:=⟨h.cell 0,h.cell 1,h.cell 2,h.cell 3⟩
theorem e4 {w w':E} {p q r s:Addr} {a b c d:Value} {R:Prop} (hb:U w.heap.size w w') (h:w.cell? p=G a∧w.cell? q=G b∧w.cell? r=G c∧w.cell? s=G d∧R):w'.cell? p=G a∧w'.cell? q=G b∧w'.cell? r=G c∧w'.cell? s=G d :=
 ⟨z1a hb h.1,z1a hb h.2.1,z1a hb h.2.2.1,z1a hb h.2.2.2.1⟩
structure RS (w:E) (x:V) (oa:Option Addr) (ln cap:Nat) (T:TypeId) (Zc:List O) (W:E):Prop where
 v:RD W x (F ((v4 x (X oa ln cap)):List O).toArray)
 b:CB W w.heap.size 80 (v4 x (X oa ln cap))
 z:CB W (w.heap.size+1) T Zc
 lo:U w.heap.size w W
theorem RS.ext {w W W':E} {x:V} {oa:Option Addr} {ln cap:Nat} {T:TypeId} {Zc:List Value} (h:RS w x oa ln cap T Zc W) (hb:U W.heap.size W W'):RS w x oa ln cap T Zc W':=⟨h.v.ext hb,h.b.ext hb,h.z.ext hb,z0a h.lo hb⟩
theorem RS.start {w:E} {x:V} {oa:Option Addr} {ln cap:Nat} {T:TypeId} {Zc:List Value} (h:RD w x (F ((v4 x (X oa ln cap)):List O).toArray)):RS w x oa ln cap T Zc ((w.alloc (Z (v4 x (X oa ln cap)).toArray 80)).alloc (Z Zc.toArray T)):=by
 have hb:U w.heap.size w ((w.alloc (Z (v4 x (X oa ln cap)).toArray 80)).alloc (Z Zc.toArray T)):=(z4b (w:=w) (Z (v4 x (X oa ln cap)).toArray 80)).alloc (z4b (w:=w) (Z (v4 x (X oa ln cap)).toArray 80)).size _
 refine ⟨h.ext hb,(z3a w _ _ _ rfl).alloc _,?_,hb⟩
 have:=z3a (w.alloc (Z (v4 x (X oa ln cap)).toArray 80)) (Z Zc.toArray T) T Zc rfl
 rwa [World.size_alloc] at this
theorem z3e {w:E} {b:Nat} {oa:Option Addr} {n cap:Nat} {q:List Int} (h:z7h nuK 3 w b (X oa n cap) q) {k:Nat} {a:Int} (ha:q[k]? = G a):∃ g,oa=G ⟨g,0,Q⟩∧g<w.heap.size∧w.cell? ⟨g,k,Q⟩=G (I J a):=by
 have hkl:=(List.getElem?_eq_some_iff.1 ha).1
 have bk:=h.rd
 have hlt:=h.lt
 rcases h.2 with ⟨h0,h1⟩|⟨g,cp,cur,hv,-⟩
 ·omega
 ·injection hv with h1 h2 h3
  subst h1 h2 h3
  obtain ⟨b',off,he,hb,hat⟩:=bk.at hkl
  injection he with he
  injection he with h1 h2 h3
  subst h1 h2
  have:=hat k a ha 0 _ rfl
  have this:w.cell? ⟨g,0+k * 1+0,Q⟩=G (I J a):=this
  rw [Nat.mul_one,Nat.zero_add,Nat.add_zero] at this
  exact ⟨g,rfl,hb,this⟩
theorem z9s {w:E} {b g g2:Nat} {n cap:Nat} {q:List Int} {t:TypeId} {cs:List Value} (h:z7h nuK 3 w b (X (G ⟨g,0,Q⟩) n cap) q) (hc:CB w g2 t cs) (hne:3 ≠ t):g≠g2:=fun e=>y9i h hc hne g rfl (by rw [e])
theorem j8v {q:List Int} (h:q.length=2):∃ a b,q=[a,b]:=by
 match q,h with
 | [a,b],_=>exact ⟨a,b,rfl⟩
theorem k1w {q:List Int} (h:q.length=3):∃ a b c,q=[a,b,c]:=by
 match q,h with
 | [a,b,c],_=>exact ⟨a,b,c,rfl⟩
theorem v0i {q:List Int} (h:q.length=4):∃ a b c d,q=[a,b,c,d]:=by
 match q,h with
 | [a,b,c,d],_=>exact ⟨a,b,c,d,rfl⟩
theorem v1i {q:List Int} (h:q.length=5):∃ a b c d e,q=[a,b,c,d,e]:=by
 match q,h with
 | [a,b,c,d,e],_=>exact ⟨a,b,c,d,e,rfl⟩
theorem x9d:∀ {l:List V} {q:List Int} (_:z3k l=G q),q.length=l.length
 | [],q,h=>by injection h with h;subst h;rfl
 | x::r,q,h=>by
  unfold z3k at h
  by_cases hk:x.kind=1
  ·rw [if_pos hk] at h
   obtain ⟨t,h1,h2⟩:=Option.bind_eq_some_iff.1 h
   injection h2 with h2;subst h2
   rw [List.length_cons,List.length_cons,x9d h1]
  ·rw [if_neg hk] at h;cases h
theorem z2e {m:Nat} {v:V} {q:List Int} (h:z7b (m:Int) v=G q):q.length=m:=by
 unfold z7b at h
 by_cases hk:v.kind=3∧((m:Int)<0∨(v.l.length:Int)=(m:Int))
 ·rw [if_pos hk] at h
  have:=x9d h
  rcases hk.2 with h|h <;> omega
 ·rw [if_neg hk] at h;cases h
theorem y1b {m:Int} {y:V} {v:Value} {W:E} (hv:RD W y v) (hz:sz y≤100000):H prog 122 #[v,I J m] W (v4e m y W):=x9b m y v W hv (by have h1:=y1c y.l;have h2:=z4c y;omega)
theorem v9b {l:List V} (h:l.length=3):∃ a0 a1 a2,l=[a0,a1,a2]:=by
 match l,h with
 | [a0,a1,a2],_=>exact ⟨a0,a1,a2,rfl⟩
theorem v2i {l:List V} (h:l.length=4):∃ a0 a1 a2 a3,l=[a0,a1,a2,a3]:=by
 match l,h with
 | [a0,a1,a2,a3],_=>exact ⟨a0,a1,a2,a3,rfl⟩
theorem v3i {l:List V} (h:l.length=6):∃ a0 a1 a2 a3 a4 a5,l=[a0,a1,a2,a3,a4,a5]:=by
 match l,h with
 | [a0,a1,a2,a3,a4,a5],_=>exact ⟨a0,a1,a2,a3,a4,a5,rfl⟩
theorem v4i {l:List V} (h:l.length=7):∃ a0 a1 a2 a3 a4 a5 a6,l=[a0,a1,a2,a3,a4,a5,a6]:=by
 match l,h with
 | [a0,a1,a2,a3,a4,a5,a6],_=>exact ⟨a0,a1,a2,a3,a4,a5,a6,rfl⟩
theorem v0c {l:List V} (h:l.length=11):∃ a0 a1 a2 a3 a4 a5 a6 a7 a8 a9 a10,l=[a0,a1,a2,a3,a4,a5,a6,a7,a8,a9,a10]:=by
 match l,h with
 | [a0,a1,a2,a3,a4,a5,a6,a7,a8,a9,a10],_=>exact ⟨a0,a1,a2,a3,a4,a5,a6,a7,a8,a9,a10,rfl⟩
def v5i (o:Option Chg) (w:E) (e:Ending) (w':E):Prop:=∃ oa n cap b,e=M (.tuple #[F ((o.getD ⟨0,0,[]⟩).cells (X oa n cap)).toArray,A o.isSome])∧z7h nuK 3 w' b (X oa n cap) (o.getD ⟨0,0,[]⟩).modes∧U w.heap.size w w'
theorem k2j {x:V} (h:¬ (x.kind=3∧x.l.length=3)):y1k x=Q:=by
 unfold y1k
 split
 ·rename_i hl
  rw [hl] at h
  rw [if_neg (fun hk=>h ⟨hk,rfl⟩)]
 ·rfl
theorem k3j {x v0 v1 v2:V} (hl:x.l=[v0,v1,v2]) (hk:x.kind=3) (h:z7b (2) (lV [v0,v1])=Q):y1k x=Q:=by
 unfold y1k
 simp only [hl,if_pos hk]
 rw [h];rfl
theorem k4j {x v0 v1 v2:V} (hl:x.l=[v0,v1,v2]) (hk:x.kind=3) (h:z7b (-1) (v2)=Q):y1k x=Q:=by
 unfold y1k
 simp only [hl,if_pos hk]
 cases z7b (2) (lV [v0,v1]) with
 | none=>rfl
 | some _ =>
 simp only [Option.bind_some]
 rw [h];rfl
theorem j1o {x v0 v1 v2:V} {a0 a1:Int} {m:List Int} (hl:x.l=[v0,v1,v2]) (hk:x.kind=3) (ha:z7b (2) (lV [v0,v1])=G [a0,a1]) (hm:z7b (-1) (v2)=G m):y1k x=G ⟨a0,a1,m⟩:=by
 unfold y1k
 simp only [hl,if_pos hk,ha,hm,Option.bind_some]
 rfl
theorem z9u (x:V) (v:O) (w:E) (hv:RD w x v) (hz:sz x≤60000):H prog 126 #[v] w (v5i (y1k x) w):=by
 obtain ⟨oa,cap,rfl⟩:=hv.form
 obtain ⟨ln,hln⟩:∃ ln,x.l.length=ln:=⟨_,rfl⟩
 rw [hln] at hv ⊢
 have aC:=@RD.el w x (I J x.kind) (I J x.n) (Y x.s) oa ln cap hv
 have hlb:=hv.lt
 rw [hln] at hlb
 have HS:=hd_ (RS.start (T:=31) (Zc:=[I J 0,I J 0,X Q 0 0]) hv)
 have aD:=hd_ (show ∀ u∈([I J 0,I J 0,X Q 0 0]:List O),u.oneCell'=B from (z8y rfl))
 by_cases hs:x.kind=3∧ln=3
 case neg =>
  have ac:=hd_ (k2j (x:=x) (fun h=>hs ⟨h.1,hln.symm.trans h.2⟩))
  have bX:C (decide (x.kind=3∧(x.l.length:Int)=(3:Int))=D):=hd_ (decide_eq_false (fun h=>hs ⟨h.1,by have:=h.2;omega⟩))
  clear hs hln hv aC hz
  go_enter func126,ntmps126
  go_upto_region 1 with fail
  change Code.wp _ _ _ _ ((w.alloc (Z (v4 x (X oa ln cap)).toArray 80)).alloc (Z ([I J 0,I J 0,X Q 0 0]:List O).toArray 31))
  generalize (w.alloc (Z (v4 x (X oa ln cap)).toArray 80)).alloc (Z ([I J 0,I J 0,X Q 0 0]:List O).toArray 31)=w1 at *
  obtain ⟨c0,c1,c2,c3⟩:=c4 HS.out.b
  go_wp2_with (first
   | (go_at_call 121;refine (z9c 3 x _ _ HS.out.v).mono ?_;rw [bX.out];(rintro e w2 ⟨rfl,hb⟩;replace HS:=hd_ (HS.out.ext hb);clear hb;clear bX))
   | (have _g:=aD.out;refine scs 31 (.tmp 2) (.tmp 11) rfl (w.heap.size+1) [I J 0,I J 0,X Q 0 0] rfl rfl HS.out.z aD.out (fun w8 aI bg dk=>?_);have aT:=hd_ (HS.out.lo.grown bg.out HS.out.lo.size (fun q e=>by injection e with e;omega));clear aD))
  (refine bodyPost_ret (v:=.tuple #[F ([I J 0,I J 0,X Q 0 0]:List O).toArray,A D]) (z6a (fn:=f126) (p:=2) (t2:=3) (ty:=31) rfl _ _ (w.heap.size+1) 31 _ (0,0) _ rfl aI.out underlying31 rfl (by kernel_rfl)) rfl ?_;exact ⟨Q,0,0,0,by rw [ac.out];rfl,by rw [ac.out];exact z7h.nil _ _ _,aT.out⟩)
 case pos =>
  obtain ⟨hk3,ij⟩:=hs
  subst ij
  obtain ⟨v0,v1,v2,hl⟩:=v9b hln
  rw [hl] at aC
  have bX:C (decide (x.kind=3∧(x.l.length:Int)=(3:Int))=B):=hd_ (decide_eq_true ⟨hk3,by omega⟩)
  have HL:=hd_ hl;have eR:=hd_ hk3
  have hsz:=z4c x
  rw [hl] at hsz
  simp only [szs] at hsz
  obtain ⟨b2,cC,da,jE,ob2,cb2,cg,ch,cj,cA,hr2⟩:=aC (k:=2) (y:=v2) rfl
  subst da
  have dO:=hd_ (And.intro cg (And.intro ch (And.intro cj (And.intro cA hr2))))
  have Z2:C (sz v2≤100000):=hd_ (by omega)
  have ZP:C (sz (lV [v0,v1])≤100000):=hd_ (by have e:=z4c (lV [v0,v1]);simp only [lV,V.s,V.l,szs,show (⟨#[]⟩:ByteArray).size=0 from rfl] at e ⊢;omega)
  have gb:C (∀ (j i:Nat) (y:V),([0,1]:List Nat)[j]? = G i→([v0,v1]:List V)[j]? = G y→x.l[i]? = G y):=hd_ (by
   intro j i y h1 h2
   rw [hl]
   match j,h1,h2 with
   | 0,h1,h2=>simp at h1 h2;subst h1;subst h2;rfl
   | 1,h1,h2=>simp at h1 h2;subst h1;subst h2;rfl
   | k+2,h1,_=>simp at h1)
  have az:=hd_ jE
  clear hz hsz hv aC hln hk3 hl cg ch cj cA hr2 jE
  go_enter func126,ntmps126
  go_upto_region 1 with fail
  change Code.wp _ _ _ _ ((w.alloc (Z (v4 x (X (G ⟨b2,cC,Q⟩) 3 cap)).toArray 80)).alloc (Z ([I J 0,I J 0,X Q 0 0]:List O).toArray 31))
  generalize (w.alloc (Z (v4 x (X (G ⟨b2,cC,Q⟩) 3 cap)).toArray 80)).alloc (Z ([I J 0,I J 0,X Q 0 0]:List O).toArray 31)=w1 at *
  obtain ⟨c0,c1,c2,c3⟩:=c4 HS.out.b
  go_upto_region 7 with (first
   | (go_at_call 121;refine (z9c 3 x _ _ HS.out.v).mono ?_;rw [bX.out];(rintro e w2 ⟨rfl,hb⟩;replace HS:=hd_ (HS.out.ext hb);clear hb;clear c0 c1 c2 c3;obtain ⟨c0,c1,c2,c3⟩:=c4 HS.out.b;have aR:U w2.heap.size w2 (w2.alloc (Z [I J 0,I J 1].toArray 3)):=z4b _;have bu:=hd_ (HS.out.ext aR);have bH:C (z4g nuK (w2.alloc (Z [I J 0,I J 1].toArray 3)).heap.size (w2.alloc (Z [I J 0,I J 1].toArray 3)) (([0,1]:List Nat).map (fun (k:Nat)=>(k:Int))) (X (G ⟨w2.heap.size,0,Q⟩) 2 2)):=hd_ (z2n (K:=nuK) 2 (z3a w2 (Z [I J 0,I J 1].toArray 3) 3 _ rfl) rfl (by unfold maxLen;decide));clear aR;clear bX))
   | (have _g:=bH.out;go_at_call 123;refine (z2k x _ _ [0,1] [v0,v1] _ bu.out.v bH.out rfl gb.out (by decide)).mono ?_;(rintro e w4 ⟨lv4,rfl,hr,hb⟩;replace HS:=hd_ (bu.out.ext hb);have cZ:=hd_ hr;clear hr hb bu bH))
   | (have _g:=cZ.out;go_at_call 122;refine (y1b (m:=2) cZ.out ZP.out).mono ?_;(rintro e w5 (⟨q5,oa,pa,hN,rfl,⟨ba',hO⟩,hb⟩|⟨hN,rfl,hb⟩));rotate_left;(have ac:=hd_ (k3j HL.out eR.out hN);replace HS:=hd_ (HS.out.ext hb);(try clear cg ch cj cA);clear c0 c1 c2 c3;obtain ⟨c0,c1,c2,c3⟩:=c4 HS.out.b;obtain ⟨cg,ch,cj,cA⟩:=e4 HS.out.lo dO.out;have ez:=hd_ (dO.out.2.2.2.2.ext HS.out.lo);clear hN hb cZ);rotate_left;(obtain ⟨a0,a1,rfl⟩:=j8v (z2e (m:=2) hN);have jo:=hd_ hN;have cL:=hd_ hO;replace HS:=hd_ (HS.out.ext hb);(try clear cg ch cj cA);clear c0 c1 c2 c3;obtain ⟨c0,c1,c2,c3⟩:=c4 HS.out.b;obtain ⟨cg,ch,cj,cA⟩:=e4 HS.out.lo dO.out;have ez:=hd_ (dO.out.2.2.2.2.ext HS.out.lo);clear hN hO hb cZ))
   | (have _g:=ez.out;go_at_call 122;refine (y1b (m:=-1) ez.out Z2.out).mono ?_;(rintro e w6 (⟨m,om,pm,hN,rfl,⟨bm',hO⟩,hb⟩|⟨hN,rfl,hb⟩));rotate_left;(have ac:=hd_ (k4j HL.out eR.out hN);replace HS:=hd_ (HS.out.ext hb);(try replace cL:=hd_ (z6d cL.out (z9a hb) (fun _ _ e=>by cases e)));(try clear cg ch cj cA);clear hN hb ez);rotate_left;(have nm:=hd_ hN;have mu:=hd_ hO;replace HS:=hd_ (HS.out.ext hb);(try replace cL:=hd_ (z6d cL.out (z9a hb) (fun _ _ e=>by cases e)));(try clear cg ch cj cA);clear hN hO hb ez))
   | (have _g:=aD.out;refine scs 31 (.tmp 2) (.tmp 11) rfl (w.heap.size+1) [I J 0,I J 0,X Q 0 0] rfl rfl HS.out.z aD.out (fun w8 aI bg dk=>?_);have aT:=hd_ (HS.out.lo.grown bg.out HS.out.lo.size (fun q e=>by injection e with e;omega));clear aD)
   | (have _g:=aD.out;refine scs 31 (.tmp 2) (.tmp 33) rfl (w.heap.size+1) [I J 0,I J 0,X Q 0 0] rfl rfl HS.out.z aD.out (fun w8 aI bg dk=>?_);have aT:=hd_ (HS.out.lo.grown bg.out HS.out.lo.size (fun q e=>by injection e with e;omega));clear aD))
  all_goals (try (refine bodyPost_ret (v:=.tuple #[F ([I J 0,I J 0,X Q 0 0]:List O).toArray,A D]) (z6a (fn:=f126) (p:=2) (t2:=3) (ty:=31) rfl _ _ (w.heap.size+1) 31 _ (0,0) _ rfl aI.out underlying31 rfl (by kernel_rfl)) rfl ?_;exact ⟨Q,0,0,0,by rw [ac.out];rfl,by rw [ac.out];exact z7h.nil _ _ _,aT.out⟩))
  obtain ⟨ga,hga,hwa,jp⟩:=z3e cL.out (k:=0) rfl
  obtain ⟨lk,ak,-,jq⟩:=z3e cL.out (k:=1) rfl
  rw [hga] at ak;injection ak with ak;injection ak with ak _ _;subst ak
  subst hga
  have hnea:=z9s cL.out HS.out.z (by decide)
  have dy:=hd_ (And.intro hwa hnea)
  have mv:=hd_ jp
  have je:=hd_ jq
  clear jp jq hwa hnea
  have eN:=hd_ (show w.heap.size<w6.heap.size∧w.heap.size≠w.heap.size+1 from ⟨HS.out.b.lt,by omega⟩)
  have jM:=hd_ (show b2<w6.heap.size∧b2≠w.heap.size+1 from ⟨Nat.lt_of_lt_of_le az.out HS.out.lo.size,by have:=az.out;omega⟩)
  have Hz:=hd_ HS.out.z;have ko:=hd_ (HS.out.b.cv 3 (X (G ⟨b2,cC,Q⟩) 3 cap));have kH:=hd_ HS.out.lo
  have jV:C (y1k x=G ⟨a0,a1,m⟩):=hd_ (j1o HL.out eR.out jo.out nm.out)
  (try clear c0 c1 c2 c3);(try clear cg ch cj cA);(try clear u1 u2 u3);clear HS jo nm
  refine z7a (S:=fun w'=>∀ k,k<w6.heap.size→k≠w.heap.size+1→w'.heap[k]? = w6.heap[k]?) (late:=fun _=>D) (by kernel_rfl) (fun _ _ _=>rfl) (fun hHeld=>?_)
  have fE:C (CB w6.drew (w.heap.size+1) 31 [I J 0,I J 0,X Q 0 0]):=Hz.out
  have gR:=hd_ (kH.out.drew)
  have gU:=hd_ (z6d mu.out (z9a (Below.refl w6.heap.size w6).drew) (fun _ _ e=>by cases e));
  have fN:∀ k,k<w6.heap.size→k≠w.heap.size+1→w6.drew.heap[k]? = w6.heap[k]?:=fun _ _ _=>rfl
  have dZ:w6.drew.heap.size=w6.heap.size:=rfl
  generalize w6.drew=wd at *
  refine tkL 34 0 ?_
  refine tkL 35 1 ?_
  refine tkL 36 2 ?_ (hy:=fun wS aa=>by have z:=(cB (w:=w6) (aa ga dy.out.1 dy.out.2)).trans mv.out;go_simp;first|done|with_reducible rfl)
  refine tkL 37 3 ?_
  refine tkL 38 4 ?_
  refine tkL 39 5 ?_ (hy:=fun wS aa=>by have z:=(cB (w:=w6) (aa ga dy.out.1 dy.out.2)).trans je.out;go_simp;first|done|with_reducible rfl)
  refine tkL 40 6 ?_
  refine z2x 41 7 rfl (F ([I J a0,I J a1,X om m.length pm]:List O).toArray) (z0d (by rfl) 31 _ rfl [I J a0,I J a1,X om m.length pm] [(0,I J a0),(1,I J a1),(2,X om m.length pm)] rfl (by kernel_rfl)) ?_
  refine rdL 8 fun K hK=>?_
  refine sif 31 (.tmp 2) (.tmp 41) rfl (w.heap.size+1) [I J a0,I J a1,X om m.length pm] rfl rfl fE.out (z8y rfl) (fun w9 fP dA jd=>?_)
  have HO9m:=hd_ (z6d gU.out dA.out (fun k hk e=>y9i gU.out fE.out (by decide) k hk e))
  refine hK.out _ w9 (fun _=>(fun k h1 h2=>(dA.out.block k (by rw [dZ];exact h1) (fun e=>h2 (by injection e))).trans (fN k h1 h2))) (fun ae=>?_)
  clear hK K
  have hHeld:=ae (by rfl)
  clear ae
  try simp only [Act.put,aS,List.set_cons_zero,List.set_cons_succ]
  refine tkL 3 9 ?_
  refine z3b (by kernel_rfl) ?_ _
  go_wp2_with fail
  refine bodyPost_ret (v:=.tuple #[F ([I J a0,I J a1,X om m.length pm]:List O).toArray,A B]) (z6a (fn:=f126) (p:=2) (t2:=3) (ty:=31) rfl _ _ (w.heap.size+1) 31 _ (0,0) _ rfl fP.out underlying31 rfl (by kernel_rfl)) rfl ?_
  have fd:=gR.out.grown dA.out gR.out.size (fun q e=>by injection e with e;omega)
  exact ⟨om,m.length,pm,_,by rw [jV.out];rfl,by rw [jV.out];exact HO9m.out,fd⟩
def v6i (o:Option Stn) (w:E) (e:Ending) (w':E):Prop:=∃ oa n cap b,e=M (.tuple #[F ((o.getD ⟨[],0,0⟩).cells (X oa n cap)).toArray,A o.isSome])∧z7h nuK 3 w' b (X oa n cap) (o.getD ⟨[],0,0⟩).vols∧U w.heap.size w w'
theorem k5j {x:V} (h:¬ (x.kind=3∧x.l.length=3)):y3k x=Q:=by
 unfold y3k
 split
 ·rename_i hl
  rw [hl] at h
  rw [if_neg (fun hk=>h ⟨hk,rfl⟩)]
 ·rfl
theorem k6j {x v0 v1 v2:V} (hl:x.l=[v0,v1,v2]) (hk:x.kind=3) (h:z7b (2) (lV [v1,v2])=Q):y3k x=Q:=by
 unfold y3k
 simp only [hl,if_pos hk]
 rw [h];rfl
theorem k7j {x v0 v1 v2:V} (hl:x.l=[v0,v1,v2]) (hk:x.kind=3) (h:z7b (-1) (v0)=Q):y3k x=Q:=by
 unfold y3k
 simp only [hl,if_pos hk]
 cases z7b (2) (lV [v1,v2]) with
 | none=>rfl
 | some _ =>
 simp only [Option.bind_some]
 rw [h];rfl
theorem j2o {x v0 v1 v2:V} {a0 a1:Int} {m:List Int} (hl:x.l=[v0,v1,v2]) (hk:x.kind=3) (ha:z7b (2) (lV [v1,v2])=G [a0,a1]) (hm:z7b (-1) (v0)=G m):y3k x=G ⟨m,a0,a1⟩:=by
 unfold y3k
 simp only [hl,if_pos hk,ha,hm,Option.bind_some]
 rfl
theorem z0t (x:V) (v:O) (w:E) (hv:RD w x v) (hz:sz x≤60000):H prog 128 #[v] w (v6i (y3k x) w):=by
 obtain ⟨oa,cap,rfl⟩:=hv.form
 obtain ⟨ln,hln⟩:∃ ln,x.l.length=ln:=⟨_,rfl⟩
 rw [hln] at hv ⊢
 have aC:=@RD.el w x (I J x.kind) (I J x.n) (Y x.s) oa ln cap hv
 have hlb:=hv.lt
 rw [hln] at hlb
 have HS:=hd_ (RS.start (T:=37) (Zc:=[X Q 0 0,I J 0,I J 0]) hv)
 have aD:=hd_ (show ∀ u∈([X Q 0 0,I J 0,I J 0]:List O),u.oneCell'=B from (z8y rfl))
 by_cases hs:x.kind=3∧ln=3
 case neg =>
  have ac:=hd_ (k5j (x:=x) (fun h=>hs ⟨h.1,hln.symm.trans h.2⟩))
  have bX:C (decide (x.kind=3∧(x.l.length:Int)=(3:Int))=D):=hd_ (decide_eq_false (fun h=>hs ⟨h.1,by have:=h.2;omega⟩))
  clear hs hln hv aC hz
  go_enter func128,ntmps128
  go_upto_region 1 with fail
  change Code.wp _ _ _ _ ((w.alloc (Z (v4 x (X oa ln cap)).toArray 80)).alloc (Z ([X Q 0 0,I J 0,I J 0]:List O).toArray 37))
  generalize (w.alloc (Z (v4 x (X oa ln cap)).toArray 80)).alloc (Z ([X Q 0 0,I J 0,I J 0]:List O).toArray 37)=w1 at *
  obtain ⟨c0,c1,c2,c3⟩:=c4 HS.out.b
  go_wp2_with (first
   | (go_at_call 121;refine (z9c 3 x _ _ HS.out.v).mono ?_;rw [bX.out];(rintro e w2 ⟨rfl,hb⟩;replace HS:=hd_ (HS.out.ext hb);clear hb;clear bX))
   | (have _g:=aD.out;refine scs 37 (.tmp 2) (.tmp 11) rfl (w.heap.size+1) [X Q 0 0,I J 0,I J 0] rfl rfl HS.out.z aD.out (fun w8 aI bg dk=>?_);have aT:=hd_ (HS.out.lo.grown bg.out HS.out.lo.size (fun q e=>by injection e with e;omega));clear aD))
  (refine bodyPost_ret (v:=.tuple #[F ([X Q 0 0,I J 0,I J 0]:List O).toArray,A D]) (z6a (fn:=f128) (p:=2) (t2:=3) (ty:=37) rfl _ _ (w.heap.size+1) 37 _ (0,0) _ rfl aI.out underlying37 rfl (by kernel_rfl)) rfl ?_;exact ⟨Q,0,0,0,by rw [ac.out];rfl,by rw [ac.out];exact z7h.nil _ _ _,aT.out⟩)
 case pos =>
  obtain ⟨hk3,ij⟩:=hs
  subst ij
  obtain ⟨v0,v1,v2,hl⟩:=v9b hln
  rw [hl] at aC
  have bX:C (decide (x.kind=3∧(x.l.length:Int)=(3:Int))=B):=hd_ (decide_eq_true ⟨hk3,by omega⟩)
  have HL:=hd_ hl;have eR:=hd_ hk3
  have hsz:=z4c x
  rw [hl] at hsz
  simp only [szs] at hsz
  obtain ⟨b0,eo,gX,jt,ob0,cb0,fB,fU,fV,fW,kS⟩:=aC (k:=0) (y:=v0) rfl
  simp only [Nat.zero_mul,Nat.add_zero] at fB fU fV fW
  subst gX
  have eL:=hd_ (And.intro fB (And.intro fU (And.intro fV (And.intro fW kS))))
  have Z0:C (sz v0≤100000):=hd_ (by omega)
  have ZP:C (sz (lV [v1,v2])≤100000):=hd_ (by have e:=z4c (lV [v1,v2]);simp only [lV,V.s,V.l,szs,show (⟨#[]⟩:ByteArray).size=0 from rfl] at e ⊢;omega)
  have gb:C (∀ (j i:Nat) (y:V),([1,2]:List Nat)[j]? = G i→([v1,v2]:List V)[j]? = G y→x.l[i]? = G y):=hd_ (by
   intro j i y h1 h2
   rw [hl]
   match j,h1,h2 with
   | 0,h1,h2=>simp at h1 h2;subst h1;subst h2;rfl
   | 1,h1,h2=>simp at h1 h2;subst h1;subst h2;rfl
   | k+2,h1,_=>simp at h1)
  have az:=hd_ jt
  clear hz hsz hv aC hln hk3 hl fB fU fV fW kS jt
  go_enter func128,ntmps128
  go_upto_region 1 with fail
  change Code.wp _ _ _ _ ((w.alloc (Z (v4 x (X (G ⟨b0,eo,Q⟩) 3 cap)).toArray 80)).alloc (Z ([X Q 0 0,I J 0,I J 0]:List O).toArray 37))
  generalize (w.alloc (Z (v4 x (X (G ⟨b0,eo,Q⟩) 3 cap)).toArray 80)).alloc (Z ([X Q 0 0,I J 0,I J 0]:List O).toArray 37)=w1 at *
  obtain ⟨c0,c1,c2,c3⟩:=c4 HS.out.b
  go_upto_region 7 with (first
   | (go_at_call 121;refine (z9c 3 x _ _ HS.out.v).mono ?_;rw [bX.out];(rintro e w2 ⟨rfl,hb⟩;replace HS:=hd_ (HS.out.ext hb);clear hb;clear c0 c1 c2 c3;obtain ⟨c0,c1,c2,c3⟩:=c4 HS.out.b;have aR:U w2.heap.size w2 (w2.alloc (Z [I J 1,I J 2].toArray 3)):=z4b _;have bu:=hd_ (HS.out.ext aR);have bH:C (z4g nuK (w2.alloc (Z [I J 1,I J 2].toArray 3)).heap.size (w2.alloc (Z [I J 1,I J 2].toArray 3)) (([1,2]:List Nat).map (fun (k:Nat)=>(k:Int))) (X (G ⟨w2.heap.size,0,Q⟩) 2 2)):=hd_ (z2n (K:=nuK) 2 (z3a w2 (Z [I J 1,I J 2].toArray 3) 3 _ rfl) rfl (by unfold maxLen;decide));clear aR;clear bX))
   | (have _g:=bH.out;go_at_call 123;refine (z2k x _ _ [1,2] [v1,v2] _ bu.out.v bH.out rfl gb.out (by decide)).mono ?_;(rintro e w4 ⟨lv4,rfl,hr,hb⟩;replace HS:=hd_ (bu.out.ext hb);have cZ:=hd_ hr;clear hr hb bu bH))
   | (have _g:=cZ.out;go_at_call 122;refine (y1b (m:=2) cZ.out ZP.out).mono ?_;(rintro e w5 (⟨q5,oa,pa,hN,rfl,⟨ba',hO⟩,hb⟩|⟨hN,rfl,hb⟩));rotate_left;(have ac:=hd_ (k6j HL.out eR.out hN);replace HS:=hd_ (HS.out.ext hb);(try clear fB fU fV fW);clear c0 c1 c2 c3;obtain ⟨c0,c1,c2,c3⟩:=c4 HS.out.b;obtain ⟨fB,fU,fV,fW⟩:=e4 HS.out.lo eL.out;have ez:=hd_ (eL.out.2.2.2.2.ext HS.out.lo);clear hN hb cZ);rotate_left;(obtain ⟨a0,a1,rfl⟩:=j8v (z2e (m:=2) hN);have jo:=hd_ hN;have cL:=hd_ hO;replace HS:=hd_ (HS.out.ext hb);(try clear fB fU fV fW);clear c0 c1 c2 c3;obtain ⟨c0,c1,c2,c3⟩:=c4 HS.out.b;obtain ⟨fB,fU,fV,fW⟩:=e4 HS.out.lo eL.out;have ez:=hd_ (eL.out.2.2.2.2.ext HS.out.lo);clear hN hO hb cZ))
   | (have _g:=ez.out;go_at_call 122;refine (y1b (m:=-1) ez.out Z0.out).mono ?_;(rintro e w6 (⟨m,om,pm,hN,rfl,⟨bm',hO⟩,hb⟩|⟨hN,rfl,hb⟩));rotate_left;(have ac:=hd_ (k7j HL.out eR.out hN);replace HS:=hd_ (HS.out.ext hb);(try replace cL:=hd_ (z6d cL.out (z9a hb) (fun _ _ e=>by cases e)));(try clear fB fU fV fW);clear hN hb ez);rotate_left;(have nm:=hd_ hN;have mu:=hd_ hO;replace HS:=hd_ (HS.out.ext hb);(try replace cL:=hd_ (z6d cL.out (z9a hb) (fun _ _ e=>by cases e)));(try clear fB fU fV fW);clear hN hO hb ez))
   | (have _g:=aD.out;refine scs 37 (.tmp 2) (.tmp 11) rfl (w.heap.size+1) [X Q 0 0,I J 0,I J 0] rfl rfl HS.out.z aD.out (fun w8 aI bg dk=>?_);have aT:=hd_ (HS.out.lo.grown bg.out HS.out.lo.size (fun q e=>by injection e with e;omega));clear aD)
   | (have _g:=aD.out;refine scs 37 (.tmp 2) (.tmp 33) rfl (w.heap.size+1) [X Q 0 0,I J 0,I J 0] rfl rfl HS.out.z aD.out (fun w8 aI bg dk=>?_);have aT:=hd_ (HS.out.lo.grown bg.out HS.out.lo.size (fun q e=>by injection e with e;omega));clear aD))
  all_goals (try (refine bodyPost_ret (v:=.tuple #[F ([X Q 0 0,I J 0,I J 0]:List O).toArray,A D]) (z6a (fn:=f128) (p:=2) (t2:=3) (ty:=37) rfl _ _ (w.heap.size+1) 37 _ (0,0) _ rfl aI.out underlying37 rfl (by kernel_rfl)) rfl ?_;exact ⟨Q,0,0,0,by rw [ac.out];rfl,by rw [ac.out];exact z7h.nil _ _ _,aT.out⟩))
  obtain ⟨ga,hga,hwa,jp⟩:=z3e cL.out (k:=0) rfl
  obtain ⟨lk,ak,-,jq⟩:=z3e cL.out (k:=1) rfl
  rw [hga] at ak;injection ak with ak;injection ak with ak _ _;subst ak
  subst hga
  have hnea:=z9s cL.out HS.out.z (by decide)
  have dy:=hd_ (And.intro hwa hnea)
  have mv:=hd_ jp
  have je:=hd_ jq
  clear jp jq hwa hnea
  have eN:=hd_ (show w.heap.size<w6.heap.size∧w.heap.size≠w.heap.size+1 from ⟨HS.out.b.lt,by omega⟩)
  have jM:=hd_ (show b0<w6.heap.size∧b0≠w.heap.size+1 from ⟨Nat.lt_of_lt_of_le az.out HS.out.lo.size,by have:=az.out;omega⟩)
  have Hz:=hd_ HS.out.z;have ko:=hd_ (HS.out.b.cv 3 (X (G ⟨b0,eo,Q⟩) 3 cap));have kH:=hd_ HS.out.lo
  have jV:C (y3k x=G ⟨m,a0,a1⟩):=hd_ (j2o HL.out eR.out jo.out nm.out)
  (try clear c0 c1 c2 c3);(try clear fB fU fV fW);(try clear u1 u2 u3);clear HS jo nm
  refine z7a (S:=fun w'=>∀ k,k<w6.heap.size→k≠w.heap.size+1→w'.heap[k]? = w6.heap[k]?) (late:=fun _=>D) (by kernel_rfl) (fun _ _ _=>rfl) (fun hHeld=>?_)
  have fE:C (CB w6.drew (w.heap.size+1) 37 [X Q 0 0,I J 0,I J 0]):=Hz.out
  have gR:=hd_ (kH.out.drew)
  have gU:=hd_ (z6d mu.out (z9a (Below.refl w6.heap.size w6).drew) (fun _ _ e=>by cases e));
  have fN:∀ k,k<w6.heap.size→k≠w.heap.size+1→w6.drew.heap[k]? = w6.heap[k]?:=fun _ _ _=>rfl
  have dZ:w6.drew.heap.size=w6.heap.size:=rfl
  generalize w6.drew=wd at *
  refine tkL 34 0 ?_
  refine tkL 35 1 ?_
  refine tkL 36 2 ?_
  refine tkL 37 3 ?_ (hy:=fun wS aa=>by have z:=(cB (w:=w6) (aa ga dy.out.1 dy.out.2)).trans mv.out;go_simp;first|done|with_reducible rfl)
  refine tkL 38 4 ?_
  refine tkL 39 5 ?_
  refine tkL 40 6 ?_ (hy:=fun wS aa=>by have z:=(cB (w:=w6) (aa ga dy.out.1 dy.out.2)).trans je.out;go_simp;first|done|with_reducible rfl)
  refine z2x 41 7 rfl (F ([X om m.length pm,I J a0,I J a1]:List O).toArray) (z0d (by rfl) 37 _ rfl [X om m.length pm,I J a0,I J a1] [(0,X om m.length pm),(1,I J a0),(2,I J a1)] rfl (by kernel_rfl)) ?_
  refine rdL 8 fun K hK=>?_
  refine sif 37 (.tmp 2) (.tmp 41) rfl (w.heap.size+1) [X om m.length pm,I J a0,I J a1] rfl rfl fE.out (z8y rfl) (fun w9 fP dA jd=>?_)
  have HO9m:=hd_ (z6d gU.out dA.out (fun k hk e=>y9i gU.out fE.out (by decide) k hk e))
  refine hK.out _ w9 (fun _=>(fun k h1 h2=>(dA.out.block k (by rw [dZ];exact h1) (fun e=>h2 (by injection e))).trans (fN k h1 h2))) (fun ae=>?_)
  clear hK K
  have hHeld:=ae (by rfl)
  clear ae
  try simp only [Act.put,aS,List.set_cons_zero,List.set_cons_succ]
  refine tkL 3 9 ?_
  refine z3b (by kernel_rfl) ?_ _
  go_wp2_with fail
  refine bodyPost_ret (v:=.tuple #[F ([X om m.length pm,I J a0,I J a1]:List O).toArray,A B]) (z6a (fn:=f128) (p:=2) (t2:=3) (ty:=37) rfl _ _ (w.heap.size+1) 37 _ (0,0) _ rfl fP.out underlying37 rfl (by kernel_rfl)) rfl ?_
  have fd:=gR.out.grown dA.out gR.out.size (fun q e=>by injection e with e;omega)
  exact ⟨om,m.length,pm,_,by rw [jV.out];rfl,by rw [jV.out];exact HO9m.out,fd⟩
def v7i (o:Option Rp) (w:E) (e:Ending) (w':E):Prop:=e=M (.tuple #[F ((o.getD rpZ).cells).toArray,A o.isSome])∧U w.heap.size w w'
theorem k8j {x:V} (h:¬ (x.kind=3∧x.l.length=6)):y2k x=Q:=by
 unfold y2k
 split
 ·rename_i hl
  rw [hl] at h
  rw [if_neg (fun hk=>h ⟨hk.1,rfl⟩)]
 ·rfl
theorem k9j {x v0 v1 v2 v3 v4 v5:V} (hl:x.l=[v0,v1,v2,v3,v4,v5]) (h:¬ v4.kind=2):y2k x=Q:=by
 unfold y2k
 simp only [hl,if_neg (show ¬ (x.kind=3∧v4.kind=2) from fun hk=>h hk.2)]
theorem k0k {x v0 v1 v2 v3 v4 v5:V} (hl:x.l=[v0,v1,v2,v3,v4,v5]) (hk:x.kind=3∧v4.kind=2) (h:z7b (5) (lV [v0,v1,v2,v3,v5])=Q):y2k x=Q:=by
 unfold y2k
 simp only [hl,if_pos hk]
 rw [h];rfl
theorem j3o {x v0 v1 v2 v3 v4 v5:V} {a0 a1 a2 a3 a4:Int} (hl:x.l=[v0,v1,v2,v3,v4,v5]) (hk:x.kind=3∧v4.kind=2) (ha:z7b (5) (lV [v0,v1,v2,v3,v5])=G [a0,a1,a2,a3,a4]):y2k x=G ⟨a0,a1,a2,a3,v4.s,a4⟩:=by
 unfold y2k
 simp only [hl,if_pos hk,ha,Option.bind_some]
 rfl
theorem z0v (x:V) (v:O) (w:E) (hv:RD w x v) (hz:sz x≤60000):H prog 127 #[v] w (v7i (y2k x) w):=by
 obtain ⟨oa,cap,rfl⟩:=hv.form
 obtain ⟨ln,hln⟩:∃ ln,x.l.length=ln:=⟨_,rfl⟩
 rw [hln] at hv ⊢
 have aC:=@RD.el w x (I J x.kind) (I J x.n) (Y x.s) oa ln cap hv
 have hlb:=hv.lt
 rw [hln] at hlb
 have HS:=hd_ (RS.start (T:=33) (Zc:=[I J 0,I J 0,I J 0,I J 0,Y ⟨#[]⟩,I J 0]) hv)
 have aD:=hd_ (show ∀ u∈([I J 0,I J 0,I J 0,I J 0,Y ⟨#[]⟩,I J 0]:List O),u.oneCell'=B from (z8y rfl))
 by_cases hs:x.kind=3∧ln=6
 case neg =>
  have ac:=hd_ (k8j (x:=x) (fun h=>hs ⟨h.1,hln.symm.trans h.2⟩))
  have bX:C (decide (x.kind=3∧(x.l.length:Int)=(6:Int))=D):=hd_ (decide_eq_false (fun h=>hs ⟨h.1,by have:=h.2;omega⟩))
  clear hs hln hv aC hz
  go_enter func127,ntmps127
  go_upto_region 1 with fail
  change Code.wp _ _ _ _ ((w.alloc (Z [I J x.kind,I J x.n,Y x.s,X oa ln cap].toArray 80)).alloc (Z ([I J 0,I J 0,I J 0,I J 0,Y ⟨#[]⟩,I J 0]:List O).toArray 33))
  generalize (w.alloc (Z [I J x.kind,I J x.n,Y x.s,X oa ln cap].toArray 80)).alloc (Z ([I J 0,I J 0,I J 0,I J 0,Y ⟨#[]⟩,I J 0]:List O).toArray 33)=w1 at *
  obtain ⟨c0,c1,c2,c3⟩:=c4 HS.out.b
  go_wp2_with (first
   | (go_at_call 121;refine (z9c 6 x _ _ HS.out.v).mono ?_;rw [bX.out];(rintro e w2 ⟨rfl,hb⟩;replace HS:=hd_ (HS.out.ext hb);clear hb;clear bX))
   | (have _g:=aD.out;refine z2d rfl 33 (.tmp 2) (.tmp 17) rfl (w.heap.size+1) [I J 0,I J 0,I J 0,I J 0,Y ⟨#[]⟩,I J 0] rfl rfl 33 [I J 0,I J 0,I J 0,I J 0,Y ⟨#[]⟩,I J 0] HS.out.z rfl (by kernel_rfl) aD.out (fun w8 aI bg dk=>?_);have aT:=hd_ (HS.out.lo.grown bg.out HS.out.lo.size (fun q e=>by injection e with e;omega));clear aD))
  (refine bodyPost_ret (v:=.tuple #[F ([I J 0,I J 0,I J 0,I J 0,Y ⟨#[]⟩,I J 0]:List O).toArray,A D]) (z6a (fn:=f127) (p:=2) (t2:=3) (ty:=33) rfl _ _ (w.heap.size+1) 33 _ (0,0) _ rfl aI.out underlying33 rfl (by kernel_rfl)) rfl ?_;exact ⟨by rw [ac.out];rfl,aT.out⟩)
 case pos =>
  obtain ⟨hk3,ij⟩:=hs
  subst ij
  obtain ⟨v0,v1,v2,v3,v4,v5,hl⟩:=v3i hln
  rw [hl] at aC
  have bX:C (decide (x.kind=3∧(x.l.length:Int)=(6:Int))=B):=hd_ (decide_eq_true ⟨hk3,by omega⟩)
  have HL:=hd_ hl;have eR:=hd_ hk3
  have hsz:=z4c x
  rw [hl] at hsz
  simp only [szs] at hsz
  obtain ⟨b4,gd,gF,np,ob4,cb4,dP,dQ,dR,dS,gO⟩:=aC (k:=4) (y:=v4) rfl
  subst gF
  have ei:=hd_ (And.intro dP (And.intro dQ (And.intro dR (And.intro dS gO))))
  have Z4:C (sz v4≤100000):=hd_ (by omega)
  have ZP:C (sz (lV [v0,v1,v2,v3,v5])≤100000):=hd_ (by have e:=z4c (lV [v0,v1,v2,v3,v5]);simp only [lV,V.s,V.l,szs,show (⟨#[]⟩:ByteArray).size=0 from rfl] at e ⊢;omega)
  have gb:C (∀ (j i:Nat) (y:V),([0,1,2,3,5]:List Nat)[j]? = G i→([v0,v1,v2,v3,v5]:List V)[j]? = G y→x.l[i]? = G y):=hd_ (by
   intro j i y h1 h2
   rw [hl]
   match j,h1,h2 with
   | 0,h1,h2=>simp at h1 h2;subst h1;subst h2;rfl
   | 1,h1,h2=>simp at h1 h2;subst h1;subst h2;rfl
   | 2,h1,h2=>simp at h1 h2;subst h1;subst h2;rfl
   | 3,h1,h2=>simp at h1 h2;subst h1;subst h2;rfl
   | 4,h1,h2=>simp at h1 h2;subst h1;subst h2;rfl
   | k+5,h1,_=>simp at h1)
  have az:=hd_ np
  clear hz hsz hv aC hln hk3 hl dP dQ dR dS gO np
  by_cases hk2:v4.kind=2
  case neg =>
   have ac:=hd_ (k9j HL.out hk2)
   have u1:decide (v4.kind=2)=D:=decide_eq_false hk2
   have u2:(v4.kind == 2)=D:=beq_false_of_ne hk2
   have u3:(v4.kind != 2)=B:=by rw [bne,u2];rfl
   clear hk2
   go_enter func127,ntmps127
   go_upto_region 1 with fail
   change Code.wp _ _ _ _ ((w.alloc (Z [I J x.kind,I J x.n,Y x.s,X (G ⟨b4,gd,Q⟩) 6 cap].toArray 80)).alloc (Z ([I J 0,I J 0,I J 0,I J 0,Y ⟨#[]⟩,I J 0]:List O).toArray 33))
   generalize (w.alloc (Z [I J x.kind,I J x.n,Y x.s,X (G ⟨b4,gd,Q⟩) 6 cap].toArray 80)).alloc (Z ([I J 0,I J 0,I J 0,I J 0,Y ⟨#[]⟩,I J 0]:List O).toArray 33)=w1 at *
   obtain ⟨c0,c1,c2,c3⟩:=c4 HS.out.b
   go_wp2_with (first
    | (go_at_call 121;refine (z9c 6 x _ _ HS.out.v).mono ?_;rw [bX.out];(rintro e w2 ⟨rfl,hb⟩;replace HS:=hd_ (HS.out.ext hb);clear hb;clear c0 c1 c2 c3;obtain ⟨c0,c1,c2,c3⟩:=c4 HS.out.b;obtain ⟨dP,dQ,dR,dS⟩:=e4 HS.out.lo ei.out;clear bX))
    | (have _g:=aD.out;refine z2d rfl 33 (.tmp 2) (.tmp 17) rfl (w.heap.size+1) [I J 0,I J 0,I J 0,I J 0,Y ⟨#[]⟩,I J 0] rfl rfl 33 [I J 0,I J 0,I J 0,I J 0,Y ⟨#[]⟩,I J 0] HS.out.z rfl (by kernel_rfl) aD.out (fun w8 aI bg dk=>?_);have aT:=hd_ (HS.out.lo.grown bg.out HS.out.lo.size (fun q e=>by injection e with e;omega));clear aD))
   (refine bodyPost_ret (v:=.tuple #[F ([I J 0,I J 0,I J 0,I J 0,Y ⟨#[]⟩,I J 0]:List O).toArray,A D]) (z6a (fn:=f127) (p:=2) (t2:=3) (ty:=33) rfl _ _ (w.heap.size+1) 33 _ (0,0) _ rfl aI.out underlying33 rfl (by kernel_rfl)) rfl ?_;exact ⟨by rw [ac.out];rfl,aT.out⟩)
  have u1:decide (v4.kind=2)=B:=decide_eq_true hk2
  have u2:(v4.kind == 2)=B:=by rw [hk2];rfl
  have u3:(v4.kind != 2)=D:=by rw [bne,u2];rfl
  have ll:=hd_ hk2
  clear hk2
  go_enter func127,ntmps127
  go_upto_region 1 with fail
  change Code.wp _ _ _ _ ((w.alloc (Z [I J x.kind,I J x.n,Y x.s,X (G ⟨b4,gd,Q⟩) 6 cap].toArray 80)).alloc (Z ([I J 0,I J 0,I J 0,I J 0,Y ⟨#[]⟩,I J 0]:List O).toArray 33))
  generalize (w.alloc (Z [I J x.kind,I J x.n,Y x.s,X (G ⟨b4,gd,Q⟩) 6 cap].toArray 80)).alloc (Z ([I J 0,I J 0,I J 0,I J 0,Y ⟨#[]⟩,I J 0]:List O).toArray 33)=w1 at *
  obtain ⟨c0,c1,c2,c3⟩:=c4 HS.out.b
  go_upto_region 6 with (first
   | (go_at_call 121;refine (z9c 6 x _ _ HS.out.v).mono ?_;rw [bX.out];(rintro e w2 ⟨rfl,hb⟩;replace HS:=hd_ (HS.out.ext hb);clear hb;clear c0 c1 c2 c3;obtain ⟨c0,c1,c2,c3⟩:=c4 HS.out.b;obtain ⟨dP,dQ,dR,dS⟩:=e4 HS.out.lo ei.out;have aR:U w2.heap.size w2 (w2.alloc (Z [I J 0,I J 1,I J 2,I J 3,I J 5].toArray 3)):=z4b _;have bu:=hd_ (HS.out.ext aR);have bH:C (z4g nuK (w2.alloc (Z [I J 0,I J 1,I J 2,I J 3,I J 5].toArray 3)).heap.size (w2.alloc (Z [I J 0,I J 1,I J 2,I J 3,I J 5].toArray 3)) (([0,1,2,3,5]:List Nat).map (fun (k:Nat)=>(k:Int))) (X (G ⟨w2.heap.size,0,Q⟩) 5 5)):=hd_ (z2n (K:=nuK) 5 (z3a w2 (Z [I J 0,I J 1,I J 2,I J 3,I J 5].toArray 3) 3 _ rfl) rfl (by unfold maxLen;decide));clear aR;clear bX))
   | (have _g:=bH.out;go_at_call 123;refine (z2k x _ _ [0,1,2,3,5] [v0,v1,v2,v3,v5] _ bu.out.v bH.out rfl gb.out (by decide)).mono ?_;(rintro e w4 ⟨lv4,rfl,hr,hb⟩;replace HS:=hd_ (bu.out.ext hb);have cZ:=hd_ hr;clear hr hb bu bH))
   | (have _g:=cZ.out;go_at_call 122;refine (y1b (m:=5) cZ.out ZP.out).mono ?_;(rintro e w5 (⟨q5,oa,pa,hN,rfl,⟨ba',hO⟩,hb⟩|⟨hN,rfl,hb⟩));rotate_left;(have ac:=hd_ (k0k HL.out ⟨eR.out,ll.out⟩ hN);replace HS:=hd_ (HS.out.ext hb);(try clear dP dQ dR dS);clear hN hb cZ);rotate_left;(obtain ⟨a0,a1,a2,a3,a4,rfl⟩:=v1i (z2e (m:=5) hN);have jo:=hd_ hN;have cL:=hd_ hO;replace HS:=hd_ (HS.out.ext hb);(try clear dP dQ dR dS);clear hN hO hb cZ))
   | (have _g:=aD.out;refine z2d rfl 33 (.tmp 2) (.tmp 17) rfl (w.heap.size+1) [I J 0,I J 0,I J 0,I J 0,Y ⟨#[]⟩,I J 0] rfl rfl 33 [I J 0,I J 0,I J 0,I J 0,Y ⟨#[]⟩,I J 0] HS.out.z rfl (by kernel_rfl) aD.out (fun w8 aI bg dk=>?_);have aT:=hd_ (HS.out.lo.grown bg.out HS.out.lo.size (fun q e=>by injection e with e;omega));clear aD)
   | (have _g:=aD.out;refine z2d rfl 33 (.tmp 2) (.tmp 27) rfl (w.heap.size+1) [I J 0,I J 0,I J 0,I J 0,Y ⟨#[]⟩,I J 0] rfl rfl 33 [I J 0,I J 0,I J 0,I J 0,Y ⟨#[]⟩,I J 0] HS.out.z rfl (by kernel_rfl) aD.out (fun w8 aI bg dk=>?_);have aT:=hd_ (HS.out.lo.grown bg.out HS.out.lo.size (fun q e=>by injection e with e;omega));clear aD))
  all_goals (try (refine bodyPost_ret (v:=.tuple #[F ([I J 0,I J 0,I J 0,I J 0,Y ⟨#[]⟩,I J 0]:List O).toArray,A D]) (z6a (fn:=f127) (p:=2) (t2:=3) (ty:=33) rfl _ _ (w.heap.size+1) 33 _ (0,0) _ rfl aI.out underlying33 rfl (by kernel_rfl)) rfl ?_;exact ⟨by rw [ac.out];rfl,aT.out⟩))
  obtain ⟨ga,hga,hwa,jp⟩:=z3e cL.out (k:=0) rfl
  obtain ⟨lk,ak,-,jq⟩:=z3e cL.out (k:=1) rfl
  rw [hga] at ak;injection ak with ak;injection ak with ak _ _;subst ak
  obtain ⟨lk,ak,-,nr⟩:=z3e cL.out (k:=2) rfl
  rw [hga] at ak;injection ak with ak;injection ak with ak _ _;subst ak
  obtain ⟨lk,ak,-,ka3⟩:=z3e cL.out (k:=3) rfl
  rw [hga] at ak;injection ak with ak;injection ak with ak _ _;subst ak
  obtain ⟨lk,ak,-,ka4⟩:=z3e cL.out (k:=4) rfl
  rw [hga] at ak;injection ak with ak;injection ak with ak _ _;subst ak
  subst hga
  have hnea:=z9s cL.out HS.out.z (by decide)
  have dy:=hd_ (And.intro hwa hnea)
  have mv:=hd_ jp
  have je:=hd_ jq
  have kW:=hd_ nr
  have oZ:=hd_ ka3
  have Ka4:=hd_ ka4
  clear jp jq nr ka3 ka4 hwa hnea
  have eN:=hd_ (show w.heap.size<w5.heap.size∧w.heap.size≠w.heap.size+1 from ⟨HS.out.b.lt,by omega⟩)
  have jM:=hd_ (show b4<w5.heap.size∧b4≠w.heap.size+1 from ⟨Nat.lt_of_lt_of_le az.out HS.out.lo.size,by have:=az.out;omega⟩)
  have Hz:=hd_ HS.out.z;have ko:=hd_ (HS.out.b.cv 3 (X (G ⟨b4,gd,Q⟩) 6 cap));have kH:=hd_ HS.out.lo
  have Ks4:C (w5.cell? ⟨b4,gd+18,Q⟩=G (Y v4.s)):=z1a HS.out.lo ei.out.2.2.1
  have jV:C (y2k x=G ⟨a0,a1,a2,a3,v4.s,a4⟩):=hd_ (j3o HL.out ⟨eR.out,ll.out⟩ jo.out)
  (try clear c0 c1 c2 c3);(try clear dP dQ dR dS);(try clear u1 u2 u3);clear HS jo
  refine z7a (S:=fun w'=>∀ k,k<w5.heap.size→k≠w.heap.size+1→w'.heap[k]? = w5.heap[k]?) (late:=fun _=>D) (by kernel_rfl) (fun _ _ _=>rfl) (fun hHeld=>?_)
  have fE:C (CB w5.drew (w.heap.size+1) 33 [I J 0,I J 0,I J 0,I J 0,Y ⟨#[]⟩,I J 0]):=Hz.out
  have gR:=hd_ (kH.out.drew)
  skip
  have fN:∀ k,k<w5.heap.size→k≠w.heap.size+1→w5.drew.heap[k]? = w5.heap[k]?:=fun _ _ _=>rfl
  have dZ:w5.drew.heap.size=w5.heap.size:=rfl
  generalize w5.drew=wd at *
  refine tkL 28 0 ?_
  refine tkL 29 1 ?_
  refine tkL 30 2 ?_ (hy:=fun wS aa=>by have z:=(cB (w:=w5) (aa ga dy.out.1 dy.out.2)).trans mv.out;go_simp;first|done|with_reducible rfl)
  refine tkL 31 3 ?_
  refine tkL 32 4 ?_
  refine tkL 33 5 ?_ (hy:=fun wS aa=>by have z:=(cB (w:=w5) (aa ga dy.out.1 dy.out.2)).trans je.out;go_simp;first|done|with_reducible rfl)
  refine tkL 34 6 ?_
  refine tkL 35 7 ?_
  refine tkL 36 8 ?_ (hy:=fun wS aa=>by have z:=(cB (w:=w5) (aa ga dy.out.1 dy.out.2)).trans kW.out;go_simp;first|done|with_reducible rfl)
  refine tkL 37 9 ?_
  refine tkL 38 10 ?_
  refine tkL 39 11 ?_ (hy:=fun wS aa=>by have z:=(cB (w:=w5) (aa ga dy.out.1 dy.out.2)).trans oZ.out;go_simp;first|done|with_reducible rfl)
  refine tkL 40 12 ?_
  refine tkL 41 13 ?_ (hy:=fun wS aa=>by have z:=(cB (w:=w5) (aa w.heap.size eN.out.1 eN.out.2)).trans ko.out;go_simp;first|done|with_reducible rfl)
  refine tkL 42 14 ?_
  refine tkL 43 15 ?_
  refine tkL 44 16 ?_ (hy:=fun wS aa=>by have z:=(cB (w:=w5) (aa b4 jM.out.1 jM.out.2)).trans Ks4.out;go_simp;first|done|with_reducible rfl)
  refine tkL 45 17 ?_
  refine tkL 46 18 ?_
  refine tkL 47 19 ?_ (hy:=fun wS aa=>by have z:=(cB (w:=w5) (aa ga dy.out.1 dy.out.2)).trans Ka4.out;go_simp;first|done|with_reducible rfl)
  refine z2x 48 20 rfl (F ([I J a0,I J a1,I J a2,I J a3,Y v4.s,I J a4]:List O).toArray) (z0d (by rfl) 33 _ rfl [I J a0,I J a1,I J a2,I J a3,Y v4.s,I J a4] [(0,I J a0),(1,I J a1),(2,I J a2),(3,I J a3),(4,Y v4.s),(5,I J a4)] rfl (by kernel_rfl)) ?_
  refine rdL 21 fun K hK=>?_
  refine z0l (by rfl) 33 (.tmp 2) (.tmp 48) rfl (w.heap.size+1) [I J a0,I J a1,I J a2,I J a3,Y v4.s,I J a4] rfl rfl 33 [I J 0,I J 0,I J 0,I J 0,Y ⟨#[]⟩,I J 0] fE.out rfl (by kernel_rfl) (z8y rfl) (fun w9 fP dA jd=>?_)
  refine hK.out _ w9 (fun _=>(fun k h1 h2=>(dA.out.block k (by rw [dZ];exact h1) (fun e=>h2 (by injection e))).trans (fN k h1 h2))) (fun ae=>?_)
  clear hK K
  have hHeld:=ae (by rfl)
  clear ae
  try simp only [Act.put,aS,List.set_cons_zero,List.set_cons_succ]
  refine tkL 3 22 ?_
  refine z3b (by kernel_rfl) ?_ _
  go_wp2_with fail
  refine bodyPost_ret (v:=.tuple #[F ([I J a0,I J a1,I J a2,I J a3,Y v4.s,I J a4]:List O).toArray,A B]) (z6a (fn:=f127) (p:=2) (t2:=3) (ty:=33) rfl _ _ (w.heap.size+1) 33 _ (0,0) _ rfl fP.out underlying33 rfl (by kernel_rfl)) rfl ?_
  have fd:=gR.out.grown dA.out gR.out.size (fun q e=>by injection e with e;omega)
  exact ⟨by rw [jV.out];rfl,fd⟩
end Go.Proofs.YtdblnbnofjggnaaGreatDoor
