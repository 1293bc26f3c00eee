/- Parts of the proofs of chapter 49's laws: Jsp Jl0. -/
import Derived.Test.YtdblnbnofjggnaaGreatDoorM52
set_option maxHeartbeats 16000000
set_option maxRecDepth 100000
open Go
open Lib renaming hid → hd_
open Nat renaming le_refl → lR
namespace Go.Proofs.YtdblnbnofjggnaaGreatDoor
open Go.RowKit
section
variable {x:Inp} {s:Slc} {W:World}
theorem k2o (hx:InpR W x s) (hi:InpI x) (hk:okI x = true):Calls Tryz.prog 13 #[.agg (x.cells s).toArray] W fun e W'=>e = .returned (.int .i64 0)∧Below W.heap.size W W' :=
 (z7i x s W hx hi.text hi.flt.call hi.rcl).mono fun e W' h=>by unfold j1t at h;rw [hk] at h;exact h
theorem j5j (hx:InpR W x s) (hi:InpI x) (hk:okI x = false):Calls Tryz.prog 13 #[.agg (x.cells s).toArray] W fun e W'=>e = .returned (.int .i64 490)∧Below W.heap.size W W' :=
 (z7i x s W hx hi.text hi.flt.call hi.rcl).mono fun e W' h=>by unfold j1t at h;rw [hk] at h;exact h
theorem k0e (hx:InpR W x s) (hi:InpI x) (hz:sz (lV (z6e x)) ≤ 60000) (hk:okI x = true):Calls Tryz.prog 14 #[.agg (x.cells s).toArray] W fun e W'=>∃ ou cu,e = .returned (.tuple #[.slice ou (y6e x).length cu,.int .i64 0])∧z9c W'.heap.size W' (y6e x) (.slice ou (y6e x).length cu)∧Below W.heap.size W W' :=
 (z9q x s W hx hi (InpL.of hz) hz).mono fun e W' h=>by
  obtain ⟨u,h1,h2,h3⟩:=h
  rw [hk] at h1 h2
  simp only [if_true] at h1 h2
  obtain ⟨ou,cu,rfl⟩:=h2.shape
  exact ⟨ou,cu,h1,h2,h3⟩
theorem j6j {k R S:Int} (hx:InpR W x s) (hi:InpI x) (hz:sz (lV (z6e x)) ≤ 60000) (hL:Laid W) (hk:okI x = true) (hs:x2v k (z9z x) R S 0):Calls Tryz.prog 23 #[.agg (x.cells s).toArray,.int .i64 k] W fun e W'=>∃ sl,e = .returned (.tuple #[.agg ((z6m x R S).cells sl).toArray,.int .i64 0])∧InpR W' (z6m x R S) sl∧Below W.heap.size W W' :=
 (z9x k R S 0 x s W hx hi (InpL.of hz) hz hL (hd_ hs)).mono fun e W' h=>by
  obtain ⟨sl,h1,h2,h3⟩:=h
  unfold y0b x6v at h1
  unfold y0b at h2
  rw [hk] at h1 h2
  exact ⟨sl,h1,h2,h3⟩
theorem k3o {k R S e:Int} (hx:InpR W x s) (hi:InpI x) (hz:sz (lV (z6e x)) ≤ 60000) (hL:Laid W) (hk:okI x = true) (hs:x2v k (z9z x) R S e) (he:e ≠ 0):Calls Tryz.prog 23 #[.agg (x.cells s).toArray,.int .i64 k] W fun q W'=>∃ sl,q = .returned (.tuple #[.agg (zP.cells sl).toArray,.int .i64 e])∧InpR W' zP sl∧Below W.heap.size W W' :=
 (z9x k R S e x s W hx hi (InpL.of hz) hz hL (hd_ hs)).mono fun q W' h=>by
  obtain ⟨sl,h1,h2,h3⟩:=h
  unfold y0b x6v at h1
  unfold y0b at h2
  rw [hk] at h1 h2
  simp only [if_true,if_neg he] at h1 h2
  exact ⟨sl,h1,h2,h3⟩
theorem j7j {p e1 e2 e3:Int} {t:Bool} (hx:InpR W x s) (hi:InpI x) (hz:sz (lV (z6e x)) ≤ 60000) (hL:Laid W) (hk:okI x = true) (h1:ElE p e1) (h2:ElE x.sr e2) (h3:ScE x.ss e3) (hv:z6l p x.sr x.ss e1 e2 e3 (z9z x) t):Calls Tryz.prog 26 #[.int .i64 p,.agg (x.cells s).toArray] W fun e W'=>e = .returned (.int .i64 (if t then 0 else 491))∧Below W.heap.size W W' :=
 (z4z p e1 e2 e3 t x s W hx hi (InpL.of hz) hz hL (hd_ h1) (hd_ h2) (hd_ h3) (hd_ hv)).mono fun e W' h=>by unfold k8n j4q at h;rw [hk] at h;exact h
theorem k4o {p e1 e2 e3:Int} (hx:InpR W x s) (hi:InpI x) (hz:sz (lV (z6e x)) ≤ 60000) (hL:Laid W) (hk:okI x = true) (h1:ElE p e1) (h2:ElE x.sr e2) (h3:ScE x.ss e3) (hv:z6l p x.sr x.ss e1 e2 e3 (z9z x) true):Calls Tryz.prog 26 #[.int .i64 p,.agg (x.cells s).toArray] W fun e W'=>e = .returned (.int .i64 0)∧Below W.heap.size W W':=j7j hx hi hz hL hk h1 h2 h3 hv
theorem k5o {p e1 e2 e3:Int} (hx:InpR W x s) (hi:InpI x) (hz:sz (lV (z6e x)) ≤ 60000) (hL:Laid W) (hk:okI x = true) (h1:ElE p e1) (h2:ElE x.sr e2) (h3:ScE x.ss e3) (hv:z6l p x.sr x.ss e1 e2 e3 (z9z x) false):Calls Tryz.prog 26 #[.int .i64 p,.agg (x.cells s).toArray] W fun e W'=>e = .returned (.int .i64 491)∧Below W.heap.size W W':=j7j hx hi hz hL hk h1 h2 h3 hv
theorem x9n {y:Inp} {t:Slc} (hx:InpR W x s) (hy:InpR W y t) (b:Bool) (hb:decide (x = y) = b):Calls Tryz.prog 15 #[.agg (x.cells s).toArray,.agg (y.cells t).toArray] W fun e W'=>e = .returned (.bool b)∧Below W.heap.size W W' :=
 (x9l x y s t W hx hy).mono fun e W' h=>by rw [hb] at h;exact h
theorem y9q {y:Inp} {t:Slc} (hx:InpR W x s) (hy:InpR W y t) (b:Bool) (hb:decide (x = y) = b):Calls Tryz.prog 18 #[.agg (x.cells s).toArray,.agg (y.cells t).toArray] W fun e W'=>e = .returned (.bool b)∧Below W.heap.size W W' :=
 (y0w x y s t W hx hy).mono fun e W' h=>by rw [hb] at h;exact h
end
theorem k7u (w:World):z9c (w.alloc (.cells #[.int .u8 3,.int .u8 0] 5)).heap.size (w.alloc (.cells #[.int .u8 3,.int .u8 0] 5)) [3,0] (.slice (some ⟨w.heap.size,0,none⟩) 2 2) :=
 z9c.mk' rfl (lR _) (by decide) (by simp) fun j c hj=>by
  rw [Nat.zero_add,(CB.new w 5 [.int .u8 3,.int .u8 0]).cell j]
  match j,hj with
  | 0,hj=>simp at hj;subst hj;rfl
  | 1,hj=>simp at hj;subst hj;rfl
theorem k2z (w:World):z9c w.heap.size w [] (.slice none 0 0):=.inl ⟨rfl,none,0,rfl,Nat.zero_le _⟩
theorem j0v {l:List UInt8} {n:Int} (hl:l.length ≤ 4000) (hd:y9g z7x l = (zP,n)) (v:Value) (W:World) (hb:z9c W.heap.size W l v):Calls Tryz.prog 21 #[v] W fun e W'=>∃ sl,e = .returned (.tuple #[.agg (zP.cells sl).toArray,.int .i64 n])∧InpR W' zP sl∧Below W.heap.size W W' :=
 (x2a l hl v W hb).mono fun e W' h=>by rw [hd] at h;exact h
theorem z9n (w:World) (hL:Laid w):Calls Tryz.prog 11 #[] w fun e w'=>e = .returned (.bool true)∧Below w.heap.size w w':=by
 have HL:=hd_ hL
 clear hL
 obtain ⟨R',S',e5,hs5⟩:=x8h 5 (z9z n0)
 obtain ⟨rfl,⟨r,rfl,hr⟩,⟨s,rfl,hs⟩,hv⟩:=j2j k5w hs5
 obtain ⟨P,eP,hp⟩:=j7i 5
 obtain rfl:=j7q k5w hp
 have hv:=hv P hp
 obtain ⟨R0,S0,e0,hs0⟩:=x8h 0 (z9z n0)
 obtain ⟨rfl,rfl,rfl⟩:=x4v k1z hs0
 have Hp:=hd_ hp;have Hs5:=hd_ hs5;have Hs0:=hd_ hs0;have HV:=hd_ hv
 have hrl:0 < r∧r < cP:=⟨hr.1,hr.2.1⟩
 have HXI:Hid (InpI (z6m n0 (r:Int) (s:Int))):=hd_ (k9y _ _ (by unfold I64;have:=hrl.2;unfold cP at this;omega) (by unfold I64;unfold cQ at hs;omega))
 have HXz:Hid (sz (lV (z6e (z6m n0 (r:Int) (s:Int)))) ≤ 60000):=hd_ (j9u _ _).sz
 have HXL:Hid (InpL (z6m n0 (r:Int) (s:Int))):=hd_ (k0z _ _)
 have HXk:Hid (okI (z6m n0 (r:Int) (s:Int)) = true):=hd_ (by rw [k6d];exact j3j)
 have HXs:Hid (x2v 5 (z9z (z6m n0 (r:Int) (s:Int))) (r:Int) (s:Int) 0):=hd_ hs5
 have HXn:Hid (decide (z6m n0 (r:Int) (s:Int) = n0) = false):=hd_ (decide_eq_false (fun h=>by have h1:=congrArg Inp.sr h;have h1:(r:Int) = 0:=h1;have:=hrl.1;omega))
 have HB:=hd_ (Below.refl w.heap.size w)
 clear hp hs5 hs0 hv hr hs hrl
 go_enter Tryz.func11,Tryz.ntmps11
 have T0:=hd_ (lR 0)
 have HZ:Hid (CB (w.alloc ZI) w.heap.size 41 ZIc):=hd_ (z6a w ZI _ _ rfl)
 go_upto_region 2 with (first
  | (have _g:=T0.out;refine z7c (by rfl) 41 #[(0,.tmp 21),(1,.const (.int .i64 5)),(8,.const (.int .i64 31))] rfl (n0.cells z1g) [(0,.agg #[.int .i64 3,.int .i64 1,.int .i64 2]),(1,.int .i64 5),(8,.int .i64 31)] rfl (by kernel_rfl) ?_;clear T0;have T1:=hd_ (lR 1))
  | (have _g:=T1.out;have _h:=HZ.out;refine z4a rfl 41 (.tmp 1) (.tmp 22) rfl w.heap.size (n0.cells z1g) rfl rfl 41 ZIc HZ.out rfl (by kernel_rfl) (z1i (z4r n0 rfl rfl rfl rfl w)) (fun w1 HC HG HS_=>?_);have hbs:Below w.heap.size w w1:=(z5b (w:=w) ZI).grown HG.out (z5b (w:=w) ZI).size (fun q e=>by injection e with e;omega);replace HB:=hd_ (z0a HB.out hbs);have B1:=HC;clear hbs HC HG HS_ HZ _h;clear T1;have T2:=hd_ (lR 2)))
 have HZ:Hid (CB (w1.alloc ZI) w1.heap.size 41 ZIc):=hd_ (z6a w1 ZI _ _ rfl)
 have Hw1:=hd_ B1.out.lt
 go_upto_region 3 with (first
  | (have _g:=T2.out;refine z3a (by rfl) 41 (.tmp 1) rfl w.heap.size (n0.cells z1g) rfl 41 _ B1.out Tryz.underlying41 rfl (by kernel_rfl) ?_;clear T2;have T3:=hd_ (lR 3))
  | (have _g:=T3.out;have _h:=HZ.out;refine z4a rfl 41 (.tmp 2) (.tmp 23) rfl w1.heap.size (n0.cells z1g) rfl rfl 41 ZIc HZ.out rfl (by kernel_rfl) (z1i (z4r n0 rfl rfl rfl rfl w)) (fun w2 HC HG HS_=>?_);have hbs:Below w1.heap.size w1 w2:=(z5b (w:=w1) ZI).grown HG.out (z5b (w:=w1) ZI).size (fun q e=>by injection e with e;omega);replace B1:=hd_ (B1.out.ext hbs);replace HB:=hd_ (z0a HB.out hbs);have B2:=HC;clear hbs HC HG HS_ HZ _h;clear T3;have T4:=hd_ (lR 4)))
 have x26:w2.cell? ⟨w1.heap.size,26,none⟩ = some (.int .i64 31):=B2.out.cell 26;have f26:w2.frozen? ⟨w1.heap.size,26,none⟩ = false:=B2.out.frozen 26
 have hne1:Hid (w.heap.size ≠ w1.heap.size):=hd_ (by have:=Hw1.out;omega)
 go_upto_region 4 with fail
 change Code.wp _ _ _ _ (w2.setCell ⟨w1.heap.size,26,none⟩ (.int .i64 32))
 have hB2:CB (w2.setCell ⟨w1.heap.size,26,none⟩ (.int .i64 32)) w1.heap.size 41 (nf.cells z1g):=B2.out.set 26 (.int .i64 32)
 have hB1:=B1.out.far (p:=⟨w1.heap.size,26,none⟩) hne1.out (.int .i64 32)
 have hB:=HB.out.setCell (p:=⟨w1.heap.size,26,none⟩) (by show w.heap.size ≤ w1.heap.size;have:=Hw1.out;omega) (.int .i64 32)
 clear B2 B1 HB x26 f26
 have B2:=hd_ hB2;have B1:=hd_ hB1;have HB:=hd_ hB
 clear hB2 hB1 hB
 have y0:(w2.setCell ⟨w1.heap.size,26,none⟩ (.int .i64 32)).cell? ⟨w.heap.size,0,none⟩ = some (.int .i64 3):=B1.out.cell 0;have y1:(w2.setCell ⟨w1.heap.size,26,none⟩ (.int .i64 32)).cell? ⟨w.heap.size,1,none⟩ = some (.int .i64 1):=B1.out.cell 1;have y2:(w2.setCell ⟨w1.heap.size,26,none⟩ (.int .i64 32)).cell? ⟨w.heap.size,2,none⟩ = some (.int .i64 2):=B1.out.cell 2
 generalize w2.setCell ⟨w1.heap.size,26,none⟩ (.int .i64 32) = w3 at *
 have HZ:Hid (CB (w3.alloc ZI) w3.heap.size 41 ZIc):=hd_ (z6a w3 ZI _ _ rfl)
 go_upto_region 5 with (first
  | (have _g:=T4.out;refine z7c (by rfl) 41 #[(0,.tmp 26),(1,.const (.int .i64 10)),(8,.const (.int .i64 1))] rfl (nt.cells z1g) [(0,.agg #[.int .i64 3,.int .i64 1,.int .i64 2]),(1,.int .i64 10),(8,.int .i64 1)] rfl (by kernel_rfl) ?_;clear T4;have T5:=hd_ (lR 5))
  | (have _g:=T5.out;have _h:=HZ.out;refine z4a rfl 41 (.tmp 3) (.tmp 27) rfl w3.heap.size (nt.cells z1g) rfl rfl 41 ZIc HZ.out rfl (by kernel_rfl) (z1i (z4r nt rfl rfl rfl rfl w)) (fun w4 HC HG HS_=>?_);have hbs:Below w3.heap.size w3 w4:=(z5b (w:=w3) ZI).grown HG.out (z5b (w:=w3) ZI).size (fun q e=>by injection e with e;omega);replace B1:=hd_ (B1.out.ext hbs);replace B2:=hd_ (B2.out.ext hbs);replace HB:=hd_ (z0a HB.out hbs);have B3:=HC;clear hbs HC HG HS_ HZ _h;clear T5;have T6:=hd_ (lR 6)))
 clear y0 y1 y2
 go_upto_region 7 with (first
  | (have _g:=T6.out;go_at_call 25;refine (y0l 5 P 0 Hp _).mono ?_;go_loud (rintro e w5 ⟨rfl,hb⟩;replace B1:=hd_ (B1.out.ext hb);replace B2:=hd_ (B2.out.ext hb);replace B3:=hd_ (B3.out.ext hb);replace HB:=hd_ (z0a HB.out hb);clear hb;clear T6;have T7:=hd_ (lR 7)))
  | (have _g:=T7.out;refine z3a (by rfl) 41 (.tmp 1) rfl w.heap.size (n0.cells z1g) rfl 41 _ B1.out Tryz.underlying41 rfl (by kernel_rfl) ?_;clear T7;have T8:=hd_ (lR 8))
  | (have _g:=T8.out;go_at_call 23;refine (j6j (z4r n0 rfl rfl rfl rfl _) j4j k6u.sz (HL.out.ext HB.out) j3j Hs5.out).mono ?_;go_loud (rintro e w6 ⟨sl6,rfl,hI6,hb⟩;replace B1:=hd_ (B1.out.ext hb);replace B2:=hd_ (B2.out.ext hb);replace B3:=hd_ (B3.out.ext hb);replace HB:=hd_ (z0a HB.out hb);have R6:=hd_ hI6;clear hI6;have HZ:Hid (CB (w6.alloc ZI) w6.heap.size 41 ZIc):=hd_ (z6a w6 ZI _ _ rfl);clear hb;clear T8;have T9:=hd_ (lR 9)))
  | (have _g:=T9.out;have _h:=HZ.out;refine z4a rfl 41 (.tmp 6) (.tmp 35) rfl w6.heap.size ((z6m n0 (r:Int) (s:Int)).cells sl6) rfl rfl 41 ZIc HZ.out rfl (by kernel_rfl) (z1i R6.out) (fun w7 HC HG HS_=>?_);have hbs:Below w6.heap.size w6 w7:=(z5b (w:=w6) ZI).grown HG.out (z5b (w:=w6) ZI).size (fun q e=>by injection e with e;omega);replace B1:=hd_ (B1.out.ext hbs);replace B2:=hd_ (B2.out.ext hbs);replace B3:=hd_ (B3.out.ext hbs);replace R6:=hd_ (R6.out.ext hbs);replace HB:=hd_ (z0a HB.out hbs);have B6:=HC;clear hbs HC HG HS_ HZ _h;clear T9;have T10:=hd_ (lR 10)))
 go_upto_region 9 with (first
  | (have _g:=T10.out;refine z3a (by rfl) 41 (.tmp 6) rfl w6.heap.size ((z6m n0 (r:Int) (s:Int)).cells sl6) rfl 41 _ B6.out Tryz.underlying41 rfl (by kernel_rfl) ?_;clear T10;have T11:=hd_ (lR 11))
  | (have _g:=T11.out;go_at_call 14;refine (k0e R6.out HXI.out HXz.out HXk.out).mono ?_;go_loud (rintro e w8 ⟨ou,cu,rfl,hu,hb⟩;replace B1:=hd_ (B1.out.ext hb);replace B2:=hd_ (B2.out.ext hb);replace B3:=hd_ (B3.out.ext hb);replace R6:=hd_ (R6.out.ext hb);replace B6:=hd_ (B6.out.ext hb);replace HB:=hd_ (z0a HB.out hb);have U8:=hd_ hu;clear hu;clear hb;clear T11;have T12:=hd_ (lR 12)))
  | (have _g:=T12.out;go_at_call 21;refine (x3a _ HXI.out HXL.out HXz.out HXk.out _ _ U8.out).mono ?_;go_loud (rintro e w9 ⟨sl9,rfl,hI,hb⟩;replace B1:=hd_ (B1.out.ext hb);replace B2:=hd_ (B2.out.ext hb);replace B3:=hd_ (B3.out.ext hb);replace R6:=hd_ (R6.out.ext hb);replace B6:=hd_ (B6.out.ext hb);replace U8:=hd_ (U8.out.ext hb);replace HB:=hd_ (z0a HB.out hb);have R9:=hd_ hI;clear hI U8;have HZ:Hid (CB (w9.alloc ZI) w9.heap.size 41 ZIc):=hd_ (z6a w9 ZI _ _ rfl);clear hb;clear T12;have T13:=hd_ (lR 13)))
  | (have _g:=T13.out;have _h:=HZ.out;refine z4a rfl 41 (.tmp 10) (.tmp 45) rfl w9.heap.size ((z6m n0 (r:Int) (s:Int)).cells sl9) rfl rfl 41 ZIc HZ.out rfl (by kernel_rfl) (z1i R9.out) (fun wa HC HG HS_=>?_);have hbs:Below w9.heap.size w9 wa:=(z5b (w:=w9) ZI).grown HG.out (z5b (w:=w9) ZI).size (fun q e=>by injection e with e;omega);replace B1:=hd_ (B1.out.ext hbs);replace B2:=hd_ (B2.out.ext hbs);replace B3:=hd_ (B3.out.ext hbs);replace R6:=hd_ (R6.out.ext hbs);replace B6:=hd_ (B6.out.ext hbs);replace R9:=hd_ (R9.out.ext hbs);replace HB:=hd_ (z0a HB.out hbs);have B10:=HC;clear hbs HC HG HS_ HZ _h;clear T13;have T14:=hd_ (lR 14)))
 go_upto_region 10 with (first
  | (have _g:=T14.out;go_at_call 21;refine (j0v (by decide) k0o _ _ (k7u wa)).mono ?_;go_loud (rintro e wb ⟨slb,rfl,hI,hb⟩;replace hb:=z0a (z5b (w:=wa) (.cells #[.int .u8 3,.int .u8 0] 5)) hb;replace B1:=hd_ (B1.out.ext hb);replace B2:=hd_ (B2.out.ext hb);replace B3:=hd_ (B3.out.ext hb);replace R6:=hd_ (R6.out.ext hb);replace B6:=hd_ (B6.out.ext hb);replace R9:=hd_ (R9.out.ext hb);replace B10:=hd_ (B10.out.ext hb);replace HB:=hd_ (z0a HB.out hb);have Rb:=hd_ hI;clear hI hb;have HZ:Hid (CB (wb.alloc ZI) wb.heap.size 41 ZIc):=hd_ (z6a wb ZI _ _ rfl);clear T14;have T15:=hd_ (lR 15)))
  | (have _g:=T15.out;have _h:=HZ.out;refine z4a rfl 41 (.tmp 12) (.tmp 50) rfl wb.heap.size (zP.cells slb) rfl rfl 41 ZIc HZ.out rfl (by kernel_rfl) (z1i Rb.out) (fun wc HC HG HS_=>?_);have hbs:Below wb.heap.size wb wc:=(z5b (w:=wb) ZI).grown HG.out (z5b (w:=wb) ZI).size (fun q e=>by injection e with e;omega);replace B1:=hd_ (B1.out.ext hbs);replace B2:=hd_ (B2.out.ext hbs);replace B3:=hd_ (B3.out.ext hbs);replace R6:=hd_ (R6.out.ext hbs);replace B6:=hd_ (B6.out.ext hbs);replace R9:=hd_ (R9.out.ext hbs);replace B10:=hd_ (B10.out.ext hbs);replace Rb:=hd_ (Rb.out.ext hbs);replace HB:=hd_ (z0a HB.out hbs);have B12:=HC;clear hbs HC HG HS_ HZ _h;clear T15;have T16:=hd_ (lR 16)))
 go_upto_region 11 with (first
  | (have _g:=T16.out;go_at_call 21;refine (j0v (by decide) k9d _ _ (k2z _)).mono ?_;go_loud (rintro e wd ⟨sld,rfl,hI,hb⟩;replace B1:=hd_ (B1.out.ext hb);replace B2:=hd_ (B2.out.ext hb);replace B3:=hd_ (B3.out.ext hb);replace R6:=hd_ (R6.out.ext hb);replace B6:=hd_ (B6.out.ext hb);replace R9:=hd_ (R9.out.ext hb);replace B10:=hd_ (B10.out.ext hb);replace Rb:=hd_ (Rb.out.ext hb);replace B12:=hd_ (B12.out.ext hb);replace HB:=hd_ (z0a HB.out hb);have Rd:=hd_ hI;clear hI;have HZ:Hid (CB (wd.alloc ZI) wd.heap.size 41 ZIc):=hd_ (z6a wd ZI _ _ rfl);clear hb;clear T16;have T17:=hd_ (lR 17)))
  | (have _g:=T17.out;have _h:=HZ.out;refine z4a rfl 41 (.tmp 14) (.tmp 54) rfl wd.heap.size (zP.cells sld) rfl rfl 41 ZIc HZ.out rfl (by kernel_rfl) (z1i Rd.out) (fun we HC HG HS_=>?_);have hbs:Below wd.heap.size wd we:=(z5b (w:=wd) ZI).grown HG.out (z5b (w:=wd) ZI).size (fun q e=>by injection e with e;omega);replace B1:=hd_ (B1.out.ext hbs);replace B2:=hd_ (B2.out.ext hbs);replace B3:=hd_ (B3.out.ext hbs);replace R6:=hd_ (R6.out.ext hbs);replace B6:=hd_ (B6.out.ext hbs);replace R9:=hd_ (R9.out.ext hbs);replace B10:=hd_ (B10.out.ext hbs);replace Rb:=hd_ (Rb.out.ext hbs);replace B12:=hd_ (B12.out.ext hbs);replace Rd:=hd_ (Rd.out.ext hbs);replace HB:=hd_ (z0a HB.out hbs);have B14:=HC;clear hbs HC HG HS_ HZ _h;clear T17;have T18:=hd_ (lR 18)))
 go_upto_region 12 with (first
  | (have _g:=T18.out;refine z3a (by rfl) 41 (.tmp 1) rfl w.heap.size (n0.cells z1g) rfl 41 _ B1.out Tryz.underlying41 rfl (by kernel_rfl) ?_;clear T18;have T19:=hd_ (lR 19))
  | (have _g:=T19.out;go_at_call 23;refine (k3o (z4r n0 rfl rfl rfl rfl _) j4j k6u.sz (HL.out.ext HB.out) j3j Hs0.out (by decide)).mono ?_;go_loud (rintro e wf ⟨slf,rfl,hI,hb⟩;replace B1:=hd_ (B1.out.ext hb);replace B2:=hd_ (B2.out.ext hb);replace B3:=hd_ (B3.out.ext hb);replace R6:=hd_ (R6.out.ext hb);replace B6:=hd_ (B6.out.ext hb);replace R9:=hd_ (R9.out.ext hb);replace B10:=hd_ (B10.out.ext hb);replace Rb:=hd_ (Rb.out.ext hb);replace B12:=hd_ (B12.out.ext hb);replace Rd:=hd_ (Rd.out.ext hb);replace B14:=hd_ (B14.out.ext hb);replace HB:=hd_ (z0a HB.out hb);have Rf:=hd_ hI;clear hI;have HZ:Hid (CB (wf.alloc ZI) wf.heap.size 41 ZIc):=hd_ (z6a wf ZI _ _ rfl);clear hb;clear T19;have T20:=hd_ (lR 20)))
  | (have _g:=T20.out;have _h:=HZ.out;refine z4a rfl 41 (.tmp 16) (.tmp 59) rfl wf.heap.size (zP.cells slf) rfl rfl 41 ZIc HZ.out rfl (by kernel_rfl) (z1i Rf.out) (fun wg HC HG HS_=>?_);have hbs:Below wf.heap.size wf wg:=(z5b (w:=wf) ZI).grown HG.out (z5b (w:=wf) ZI).size (fun q e=>by injection e with e;omega);replace B1:=hd_ (B1.out.ext hbs);replace B2:=hd_ (B2.out.ext hbs);replace B3:=hd_ (B3.out.ext hbs);replace R6:=hd_ (R6.out.ext hbs);replace B6:=hd_ (B6.out.ext hbs);replace R9:=hd_ (R9.out.ext hbs);replace B10:=hd_ (B10.out.ext hbs);replace Rb:=hd_ (Rb.out.ext hbs);replace B12:=hd_ (B12.out.ext hbs);replace Rd:=hd_ (Rd.out.ext hbs);replace B14:=hd_ (B14.out.ext hbs);replace Rf:=hd_ (Rf.out.ext hbs);replace HB:=hd_ (z0a HB.out hbs);have B16:=HC;clear hbs HC HG HS_ HZ _h;clear T20;have T21:=hd_ (lR 21)))
 go_upto_region 13 with (first
  | (have _g:=T21.out;refine z3a (by rfl) 41 (.tmp 6) rfl w6.heap.size ((z6m n0 (r:Int) (s:Int)).cells sl6) rfl 41 _ B6.out Tryz.underlying41 rfl (by kernel_rfl) ?_;clear T21;have T22:=hd_ (lR 22))
  | (have _g:=T22.out;go_at_call 23;refine (j6j R6.out HXI.out HXz.out (HL.out.ext HB.out) HXk.out HXs.out).mono ?_;go_loud (rintro e wh ⟨slh,rfl,hI,hb⟩;replace B1:=hd_ (B1.out.ext hb);replace B2:=hd_ (B2.out.ext hb);replace B3:=hd_ (B3.out.ext hb);replace R6:=hd_ (R6.out.ext hb);replace B6:=hd_ (B6.out.ext hb);replace R9:=hd_ (R9.out.ext hb);replace B10:=hd_ (B10.out.ext hb);replace Rb:=hd_ (Rb.out.ext hb);replace B12:=hd_ (B12.out.ext hb);replace Rd:=hd_ (Rd.out.ext hb);replace B14:=hd_ (B14.out.ext hb);replace Rf:=hd_ (Rf.out.ext hb);replace B16:=hd_ (B16.out.ext hb);replace HB:=hd_ (z0a HB.out hb);have Rh:=hd_ hI;clear hI;have HZ:Hid (CB (wh.alloc ZI) wh.heap.size 41 ZIc):=hd_ (z6a wh ZI _ _ rfl);clear hb;clear T22;have T23:=hd_ (lR 23)))
  | (have _g:=T23.out;have _h:=HZ.out;refine z4a rfl 41 (.tmp 18) (.tmp 64) rfl wh.heap.size ((z6m (z6m n0 (r:Int) (s:Int)) (r:Int) (s:Int)).cells slh) rfl rfl 41 ZIc HZ.out rfl (by kernel_rfl) (z1i Rh.out) (fun wi HC HG HS_=>?_);have hbs:Below wh.heap.size wh wi:=(z5b (w:=wh) ZI).grown HG.out (z5b (w:=wh) ZI).size (fun q e=>by injection e with e;omega);replace B1:=hd_ (B1.out.ext hbs);replace B2:=hd_ (B2.out.ext hbs);replace B3:=hd_ (B3.out.ext hbs);replace R6:=hd_ (R6.out.ext hbs);replace B6:=hd_ (B6.out.ext hbs);replace R9:=hd_ (R9.out.ext hbs);replace B10:=hd_ (B10.out.ext hbs);replace Rb:=hd_ (Rb.out.ext hbs);replace B12:=hd_ (B12.out.ext hbs);replace Rd:=hd_ (Rd.out.ext hbs);replace B14:=hd_ (B14.out.ext hbs);replace Rf:=hd_ (Rf.out.ext hbs);replace B16:=hd_ (B16.out.ext hbs);replace Rh:=hd_ (Rh.out.ext hbs);replace HB:=hd_ (z0a HB.out hbs);have B18:=HC;clear hbs HC HG HS_ HZ _h;clear T23;have T24:=hd_ (lR 24)))
 go_upto_region 14 with (first
  | (have _g:=T24.out;refine z3a (by rfl) 41 (.tmp 6) rfl w6.heap.size ((z6m n0 (r:Int) (s:Int)).cells sl6) rfl 41 _ B6.out Tryz.underlying41 rfl (by kernel_rfl) ?_;clear T24;have T25:=hd_ (lR 25))
  | (have _g:=T25.out;refine z3a (by rfl) 41 (.tmp 10) rfl w9.heap.size ((z6m n0 (r:Int) (s:Int)).cells sl9) rfl 41 _ B10.out Tryz.underlying41 rfl (by kernel_rfl) ?_;clear T25;have T26:=hd_ (lR 26))
  | (have _g:=T26.out;go_at_call 18;refine (y9q R6.out R9.out true (decide_eq_true rfl)).mono ?_;go_loud (rintro e wj ⟨rfl,hb⟩;replace B1:=hd_ (B1.out.ext hb);replace B2:=hd_ (B2.out.ext hb);replace B3:=hd_ (B3.out.ext hb);replace R6:=hd_ (R6.out.ext hb);replace B6:=hd_ (B6.out.ext hb);replace R9:=hd_ (R9.out.ext hb);replace B10:=hd_ (B10.out.ext hb);replace Rb:=hd_ (Rb.out.ext hb);replace B12:=hd_ (B12.out.ext hb);replace Rd:=hd_ (Rd.out.ext hb);replace B14:=hd_ (B14.out.ext hb);replace Rf:=hd_ (Rf.out.ext hb);replace B16:=hd_ (B16.out.ext hb);replace Rh:=hd_ (Rh.out.ext hb);replace B18:=hd_ (B18.out.ext hb);replace HB:=hd_ (z0a HB.out hb);clear hb;clear T26;have T27:=hd_ (lR 27)))
  | (have _g:=T27.out;refine z3a (by rfl) 41 (.tmp 6) rfl w6.heap.size ((z6m n0 (r:Int) (s:Int)).cells sl6) rfl 41 _ B6.out Tryz.underlying41 rfl (by kernel_rfl) ?_;clear T27;have T28:=hd_ (lR 28))
  | (have _g:=T28.out;refine z3a (by rfl) 41 (.tmp 18) rfl wh.heap.size ((z6m (z6m n0 (r:Int) (s:Int)) (r:Int) (s:Int)).cells slh) rfl 41 _ B18.out Tryz.underlying41 rfl (by kernel_rfl) ?_;clear T28;have T29:=hd_ (lR 29))
  | (have _g:=T29.out;go_at_call 18;refine (y9q R6.out Rh.out true (decide_eq_true rfl)).mono ?_;go_loud (rintro e wk ⟨rfl,hb⟩;replace B1:=hd_ (B1.out.ext hb);replace B2:=hd_ (B2.out.ext hb);replace B3:=hd_ (B3.out.ext hb);replace R6:=hd_ (R6.out.ext hb);replace B6:=hd_ (B6.out.ext hb);replace R9:=hd_ (R9.out.ext hb);replace B10:=hd_ (B10.out.ext hb);replace Rb:=hd_ (Rb.out.ext hb);replace B12:=hd_ (B12.out.ext hb);replace Rd:=hd_ (Rd.out.ext hb);replace B14:=hd_ (B14.out.ext hb);replace Rf:=hd_ (Rf.out.ext hb);replace B16:=hd_ (B16.out.ext hb);replace Rh:=hd_ (Rh.out.ext hb);replace B18:=hd_ (B18.out.ext hb);replace HB:=hd_ (z0a HB.out hb);clear hb;clear T29;have T30:=hd_ (lR 30))))
 go_wp2_with (first
  | (have _g:=T30.out;refine z3a (by rfl) 41 (.tmp 1) rfl w.heap.size (n0.cells z1g) rfl 41 _ B1.out Tryz.underlying41 rfl (by kernel_rfl) ?_;clear T30;have T31:=hd_ (lR 31))
  | (have _g:=T31.out;go_at_call 13;refine (k2o (z4r n0 rfl rfl rfl rfl _) j4j j3j).mono ?_;go_loud (rintro e wl ⟨rfl,hb⟩;replace B1:=hd_ (B1.out.ext hb);replace B2:=hd_ (B2.out.ext hb);replace B3:=hd_ (B3.out.ext hb);replace R6:=hd_ (R6.out.ext hb);replace B6:=hd_ (B6.out.ext hb);replace R9:=hd_ (R9.out.ext hb);replace B10:=hd_ (B10.out.ext hb);replace Rb:=hd_ (Rb.out.ext hb);replace B12:=hd_ (B12.out.ext hb);replace Rd:=hd_ (Rd.out.ext hb);replace B14:=hd_ (B14.out.ext hb);replace Rf:=hd_ (Rf.out.ext hb);replace B16:=hd_ (B16.out.ext hb);replace Rh:=hd_ (Rh.out.ext hb);replace B18:=hd_ (B18.out.ext hb);replace HB:=hd_ (z0a HB.out hb);clear hb;clear T31;have T32:=hd_ (lR 32)))
  | (have _g:=T32.out;refine z3a (by rfl) 41 (.tmp 2) rfl w1.heap.size (nf.cells z1g) rfl 41 _ B2.out Tryz.underlying41 rfl (by kernel_rfl) ?_;clear T32;have T33:=hd_ (lR 33))
  | (have _g:=T33.out;go_at_call 13;refine (j5j (z4r nf rfl rfl rfl rfl _) k7y k2u).mono ?_;go_loud (rintro e wm ⟨rfl,hb⟩;replace B1:=hd_ (B1.out.ext hb);replace B2:=hd_ (B2.out.ext hb);replace B3:=hd_ (B3.out.ext hb);replace R6:=hd_ (R6.out.ext hb);replace B6:=hd_ (B6.out.ext hb);replace R9:=hd_ (R9.out.ext hb);replace B10:=hd_ (B10.out.ext hb);replace Rb:=hd_ (Rb.out.ext hb);replace B12:=hd_ (B12.out.ext hb);replace Rd:=hd_ (Rd.out.ext hb);replace B14:=hd_ (B14.out.ext hb);replace Rf:=hd_ (Rf.out.ext hb);replace B16:=hd_ (B16.out.ext hb);replace Rh:=hd_ (Rh.out.ext hb);replace B18:=hd_ (B18.out.ext hb);replace HB:=hd_ (z0a HB.out hb);clear hb;clear T33;have T34:=hd_ (lR 34)))
  | (have _g:=T34.out;refine z3a (by rfl) 41 (.tmp 3) rfl w3.heap.size (nt.cells z1g) rfl 41 _ B3.out Tryz.underlying41 rfl (by kernel_rfl) ?_;clear T34;have T35:=hd_ (lR 35))
  | (have _g:=T35.out;go_at_call 13;refine (j5j (z4r nt rfl rfl rfl rfl _) k8y k3u).mono ?_;go_loud (rintro e wn ⟨rfl,hb⟩;replace B1:=hd_ (B1.out.ext hb);replace B2:=hd_ (B2.out.ext hb);replace B3:=hd_ (B3.out.ext hb);replace R6:=hd_ (R6.out.ext hb);replace B6:=hd_ (B6.out.ext hb);replace R9:=hd_ (R9.out.ext hb);replace B10:=hd_ (B10.out.ext hb);replace Rb:=hd_ (Rb.out.ext hb);replace B12:=hd_ (B12.out.ext hb);replace Rd:=hd_ (Rd.out.ext hb);replace B14:=hd_ (B14.out.ext hb);replace Rf:=hd_ (Rf.out.ext hb);replace B16:=hd_ (B16.out.ext hb);replace Rh:=hd_ (Rh.out.ext hb);replace B18:=hd_ (B18.out.ext hb);replace HB:=hd_ (z0a HB.out hb);clear hb;clear T35;have T36:=hd_ (lR 36)))
  | (have _g:=T36.out;refine z7c (by rfl) 41 #[] rfl (zP.cells z1g) [] rfl (by kernel_rfl) ?_;clear T36;have T37:=hd_ (lR 37))
  | (have _g:=T37.out;go_at_call 13;refine (j5j (z4r zP rfl rfl rfl rfl _) k5u k4u).mono ?_;go_loud (rintro e wo ⟨rfl,hb⟩;replace B1:=hd_ (B1.out.ext hb);replace B2:=hd_ (B2.out.ext hb);replace B3:=hd_ (B3.out.ext hb);replace R6:=hd_ (R6.out.ext hb);replace B6:=hd_ (B6.out.ext hb);replace R9:=hd_ (R9.out.ext hb);replace B10:=hd_ (B10.out.ext hb);replace Rb:=hd_ (Rb.out.ext hb);replace B12:=hd_ (B12.out.ext hb);replace Rd:=hd_ (Rd.out.ext hb);replace B14:=hd_ (B14.out.ext hb);replace Rf:=hd_ (Rf.out.ext hb);replace B16:=hd_ (B16.out.ext hb);replace Rh:=hd_ (Rh.out.ext hb);replace B18:=hd_ (B18.out.ext hb);replace HB:=hd_ (z0a HB.out hb);clear hb;clear T37;have T38:=hd_ (lR 38)))
  | (have _g:=T38.out;refine z3a (by rfl) 41 (.tmp 6) rfl w6.heap.size ((z6m n0 (r:Int) (s:Int)).cells sl6) rfl 41 _ B6.out Tryz.underlying41 rfl (by kernel_rfl) ?_;clear T38;have T39:=hd_ (lR 39))
  | (have _g:=T39.out;go_at_call 26;refine (k4o R6.out HXI.out HXz.out (HL.out.ext HB.out) HXk.out HV.out.1 HV.out.2.1 HV.out.2.2.1 HV.out.2.2.2).mono ?_;go_loud (rintro e wp ⟨rfl,hb⟩;replace B1:=hd_ (B1.out.ext hb);replace B2:=hd_ (B2.out.ext hb);replace B3:=hd_ (B3.out.ext hb);replace R6:=hd_ (R6.out.ext hb);replace B6:=hd_ (B6.out.ext hb);replace R9:=hd_ (R9.out.ext hb);replace B10:=hd_ (B10.out.ext hb);replace Rb:=hd_ (Rb.out.ext hb);replace B12:=hd_ (B12.out.ext hb);replace Rd:=hd_ (Rd.out.ext hb);replace B14:=hd_ (B14.out.ext hb);replace Rf:=hd_ (Rf.out.ext hb);replace B16:=hd_ (B16.out.ext hb);replace Rh:=hd_ (Rh.out.ext hb);replace B18:=hd_ (B18.out.ext hb);replace HB:=hd_ (z0a HB.out hb);clear hb;clear T39;have T40:=hd_ (lR 40)))
  | (have _g:=T40.out;refine z3a (by rfl) 41 (.tmp 1) rfl w.heap.size (n0.cells z1g) rfl 41 _ B1.out Tryz.underlying41 rfl (by kernel_rfl) ?_;clear T40;have T41:=hd_ (lR 41))
  | (have _g:=T41.out;go_at_call 26;refine (k5o (z4r n0 rfl rfl rfl rfl _) j4j k6u.sz (HL.out.ext HB.out) j3j HV.out.1 j6q k6y (.inl ⟨by decide,rfl⟩)).mono ?_;go_loud (rintro e wq ⟨rfl,hb⟩;replace B1:=hd_ (B1.out.ext hb);replace B2:=hd_ (B2.out.ext hb);replace B3:=hd_ (B3.out.ext hb);replace R6:=hd_ (R6.out.ext hb);replace B6:=hd_ (B6.out.ext hb);replace R9:=hd_ (R9.out.ext hb);replace B10:=hd_ (B10.out.ext hb);replace Rb:=hd_ (Rb.out.ext hb);replace B12:=hd_ (B12.out.ext hb);replace Rd:=hd_ (Rd.out.ext hb);replace B14:=hd_ (B14.out.ext hb);replace Rf:=hd_ (Rf.out.ext hb);replace B16:=hd_ (B16.out.ext hb);replace Rh:=hd_ (Rh.out.ext hb);replace B18:=hd_ (B18.out.ext hb);replace HB:=hd_ (z0a HB.out hb);clear hb;clear T41;have T42:=hd_ (lR 42)))
  | (have _g:=T42.out;refine z3a (by rfl) 41 (.tmp 6) rfl w6.heap.size ((z6m n0 (r:Int) (s:Int)).cells sl6) rfl 41 _ B6.out Tryz.underlying41 rfl (by kernel_rfl) ?_;clear T42;have T43:=hd_ (lR 43))
  | (have _g:=T43.out;refine z3a (by rfl) 41 (.tmp 10) rfl w9.heap.size ((z6m n0 (r:Int) (s:Int)).cells sl9) rfl 41 _ B10.out Tryz.underlying41 rfl (by kernel_rfl) ?_;clear T43;have T44:=hd_ (lR 44))
  | (have _g:=T44.out;go_at_call 15;refine (x9n R6.out R9.out true (decide_eq_true rfl)).mono ?_;go_loud (rintro e wr ⟨rfl,hb⟩;replace B1:=hd_ (B1.out.ext hb);replace B2:=hd_ (B2.out.ext hb);replace B3:=hd_ (B3.out.ext hb);replace R6:=hd_ (R6.out.ext hb);replace B6:=hd_ (B6.out.ext hb);replace R9:=hd_ (R9.out.ext hb);replace B10:=hd_ (B10.out.ext hb);replace Rb:=hd_ (Rb.out.ext hb);replace B12:=hd_ (B12.out.ext hb);replace Rd:=hd_ (Rd.out.ext hb);replace B14:=hd_ (B14.out.ext hb);replace Rf:=hd_ (Rf.out.ext hb);replace B16:=hd_ (B16.out.ext hb);replace Rh:=hd_ (Rh.out.ext hb);replace B18:=hd_ (B18.out.ext hb);replace HB:=hd_ (z0a HB.out hb);clear hb;clear T44;have T45:=hd_ (lR 45)))
  | (have _g:=T45.out;refine z3a (by rfl) 41 (.tmp 6) rfl w6.heap.size ((z6m n0 (r:Int) (s:Int)).cells sl6) rfl 41 _ B6.out Tryz.underlying41 rfl (by kernel_rfl) ?_;clear T45;have T46:=hd_ (lR 46))
  | (have _g:=T46.out;refine z3a (by rfl) 41 (.tmp 1) rfl w.heap.size (n0.cells z1g) rfl 41 _ B1.out Tryz.underlying41 rfl (by kernel_rfl) ?_;clear T46;have T47:=hd_ (lR 47))
  | (have _g:=T47.out;go_at_call 15;refine (x9n R6.out (z4r n0 rfl rfl rfl rfl _) false HXn.out).mono ?_;go_loud (rintro e ws ⟨rfl,hb⟩;replace B1:=hd_ (B1.out.ext hb);replace B2:=hd_ (B2.out.ext hb);replace B3:=hd_ (B3.out.ext hb);replace R6:=hd_ (R6.out.ext hb);replace B6:=hd_ (B6.out.ext hb);replace R9:=hd_ (R9.out.ext hb);replace B10:=hd_ (B10.out.ext hb);replace Rb:=hd_ (Rb.out.ext hb);replace B12:=hd_ (B12.out.ext hb);replace Rd:=hd_ (Rd.out.ext hb);replace B14:=hd_ (B14.out.ext hb);replace Rf:=hd_ (Rf.out.ext hb);replace B16:=hd_ (B16.out.ext hb);replace Rh:=hd_ (Rh.out.ext hb);replace B18:=hd_ (B18.out.ext hb);replace HB:=hd_ (z0a HB.out hb);have y0:ws.cell? ⟨w.heap.size,0,none⟩ = some (.int .i64 3):=B1.out.cell 0;have y1:ws.cell? ⟨w.heap.size,1,none⟩ = some (.int .i64 1):=B1.out.cell 1;have y2:ws.cell? ⟨w.heap.size,2,none⟩ = some (.int .i64 2):=B1.out.cell 2;clear hb;clear T47;have T48:=hd_ (lR 48)))
  | (have _g:=T48.out;go_at_call 16;refine (z7y 1 0 9 3 1 2 _).mono ?_;rw [k1o];go_loud (rintro e wt ⟨rfl,hb⟩;replace B1:=hd_ (B1.out.ext hb);replace B2:=hd_ (B2.out.ext hb);replace B3:=hd_ (B3.out.ext hb);replace R6:=hd_ (R6.out.ext hb);replace B6:=hd_ (B6.out.ext hb);replace R9:=hd_ (R9.out.ext hb);replace B10:=hd_ (B10.out.ext hb);replace Rb:=hd_ (Rb.out.ext hb);replace B12:=hd_ (B12.out.ext hb);replace Rd:=hd_ (Rd.out.ext hb);replace B14:=hd_ (B14.out.ext hb);replace Rf:=hd_ (Rf.out.ext hb);replace B16:=hd_ (B16.out.ext hb);replace Rh:=hd_ (Rh.out.ext hb);replace B18:=hd_ (B18.out.ext hb);replace HB:=hd_ (z0a HB.out hb);clear hb;clear T48;have T49:=hd_ (lR 49))))
 go_ret
 exact ⟨rfl,HB.out⟩
def x4i (w:World) (e:Ending) (w':World):Prop:=e = .returned (.bool true)∧Below w.heap.size w w'
section
variable {x:Inp} {s:Slc} {W:World}
theorem x5i (hx:InpR W x s) (hi:InpI x) {b:Bool} (hb:y4k x = b):Calls Tryz.prog 12 #[.agg (x.cells s).toArray] W fun e W'=>e = .returned (.bool b)∧Below W.heap.size W W' :=
 (k0b x s W hx hi.text hi.flt.call hi.rcl).mono fun e W' h=>by rw [hb] at h;exact h
theorem k8u (hx:InpR W x s) (hi:InpI x) {n:Int} (hn:(if okI x then (0:Int) else 490) = n):Calls Tryz.prog 13 #[.agg (x.cells s).toArray] W fun e W'=>e = .returned (.int .i64 n)∧Below W.heap.size W W' :=
 (z7i x s W hx hi.text hi.flt.call hi.rcl).mono fun e W' h=>by unfold j1t at h;rw [hn] at h;exact h
end
end Go.Proofs.YtdblnbnofjggnaaGreatDoor
