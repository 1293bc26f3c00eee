/- chapter 49's law: InputsSignSpec (printed by gen49ao.py). -/
import Derived.Test.YtdblnbnofjggnaaGreatDoorM53
set_option maxHeartbeats 16000000
set_option maxRecDepth 100000
open Go
open Lib renaming hid → hd_
open Nat renaming le_refl → lR
namespace Go.Proofs.YtdblnbnofjggnaaGreatDoor
open Go.RowKit
theorem j1v:FewI zP:=⟨by decide,by decide,by decide,by decide,by decide,by decide,by decide,fun n hn=>absurd hn List.not_mem_nil⟩
theorem k1e {k R S e:Int} {l:List UInt8} (h:x2v k l R S e):I64 R∧I64 S:=by
 rcases h with ⟨n,kk,r,c,p,m,s,rfl,h1,h2,h3,h4,h5,h6,h7,rfl,rfl,rfl⟩ | ⟨_,rfl,rfl,_⟩
 · have hr:z4t r:=h3 ▸ x1b z2r kk
   have hs:s < cQ:=by rw [← h7];exact Nat.mod_lt _ (by decide)
   have hrl:r < cP:=hr.2.1
   exact ⟨by unfold I64;unfold cP at hrl;omega,by unfold I64;unfold cQ at hs;omega⟩
 · exact ⟨by unfold I64;omega,by unfold I64;omega⟩
theorem k2e {x:Inp} {R S e:Int} (hi:InpI x) (hf:FewI x) (h:I64 R∧I64 S):InpI (y0b x R S e)∧FewI (y0b x R S e):=by
 unfold y0b
 split
 · split
   · exact ⟨hi.sig h.1 h.2,hf.sig R S⟩
   · exact ⟨k5u,j1v⟩
 · exact ⟨k5u,j1v⟩
def k0v (p:Int) (x:Inp) (m:Int):Prop:=∃ e1 e2 e3 t,ElE p e1∧ElE x.sr e2∧ScE x.ss e3∧z6l p x.sr x.ss e1 e2 e3 (z9z x) t∧j4q x t = m
theorem x6i (p:Int) (x:Inp):∃ m,k0v p x m:=by
 obtain ⟨e1,e2,e3,t,h1,h2,h3,h4⟩:=k2d p x.sr x.ss (z9z x)
 exact ⟨_,e1,e2,e3,t,h1,h2,h3,h4,rfl⟩
section
variable {x:Inp} {s:Slc} {W:World}
theorem k1v {k R S e m:Int} {z:Inp} (hx:InpR W x s) (hi:InpI x) (hf:FewI x) (hL:Laid W) (hs:x2v k (z9z x) R S e) (hz:y0b x R S e = z) (hm:x6v x e = m):Calls Tryz.prog 23 #[.agg (x.cells s).toArray,.int .i64 k] W fun q W'=>∃ sl,q = .returned (.tuple #[.agg (z.cells sl).toArray,.int .i64 m])∧InpR W' z sl∧Below W.heap.size W W' :=
 (z9x k R S e x s W hx hi (InpL.of hf.sz) hf.sz hL (hd_ hs)).mono fun q W' h=>by unfold k8p at h;rw [hz,hm] at h;exact h
theorem k8o {k R S e m:Int} {z:Inp} (hx:InpR W x s) (hi:InpI x) (hf:FewI x) (hs:x2v k (z9z x) R S e) (hz:y0b x R S e = z) (hm:x6v x e = m):Calls Tryz.prog 24 #[.agg (x.cells s).toArray,.int .i64 k] W fun q W'=>∃ sl,q = .returned (.tuple #[.agg (z.cells sl).toArray,.int .i64 m])∧InpR W' z sl∧Below W.heap.size W W' :=
 (x0i k R S e x s W hx hi (InpL.of hf.sz) hf.sz (hd_ hs)).mono fun q W' h=>by unfold k8p at h;rw [hz,hm] at h;exact h
theorem k3e {p m:Int} (hx:InpR W x s) (hi:InpI x) (hf:FewI x) (hL:Laid W) (hv:k0v p x m):Calls Tryz.prog 26 #[.int .i64 p,.agg (x.cells s).toArray] W fun e W'=>e = .returned (.int .i64 m)∧Below W.heap.size W W':=by
 obtain ⟨e1,e2,e3,t,h1,h2,h3,h4,h5⟩:=hv
 exact (z4z p e1 e2 e3 t x s W hx hi (InpL.of hf.sz) hf.sz hL (hd_ h1) (hd_ h2) (hd_ h3) (hd_ h4)).mono fun e W' h=>by unfold k8n at h;rw [h5] at h;exact h
theorem j8j {p m:Int} (hx:InpR W x s) (hi:InpI x) (hf:FewI x) (hv:k0v p x m):Calls Tryz.prog 27 #[.int .i64 p,.agg (x.cells s).toArray] W fun e W'=>e = .returned (.int .i64 m)∧Below W.heap.size W W':=by
 obtain ⟨e1,e2,e3,t,h1,h2,h3,h4,h5⟩:=hv
 exact (y4q p e1 e2 e3 t x s W hx hi (InpL.of hf.sz) hf.sz (hd_ h1) (hd_ h2) (hd_ h3) (hd_ h4)).mono fun e W' h=>by unfold k8n at h;rw [h5] at h;exact h
end
theorem k6z (x:Inp) (s:Slc) (k p:Int) (w:World) (hx:InpR w x s) (hi:InpI x) (hL:Laid w) (hfw:y4k x = false):Calls Tryz.prog 7 #[x.v s,.int .i64 k,.int .i64 p] w (x4i w):=by
 have HI:Hid (CB (w.alloc (bI x s)) w.heap.size 41 (x.cells s)):=z6a w (bI x s) _ _ rfl
 have HB:=hd_ (z5b (w:=w) (bI x s));have RX:=hd_ (hx.ext (z5b (w:=w) (bI x s)));have Hi:=hd_ hi;have HL:=hd_ hL
 clear hx hi hL
 change Calls Tryz.prog 7 #[.agg (x.cells s).toArray,.int .i64 k,.int .i64 p] w _
 go_enter Tryz.func7,Tryz.ntmps7
 go_upto_region 1 with fail
 change Code.wp _ _ _ _ (w.alloc (bI x s))
 generalize w.alloc (bI x s) = w0 at *
 have Hf:=hd_ hfw;clear hfw
 have T0:=hd_ (lR 0)
 go_wp2_with (first
  | (have _g:=T0.out;go_at_call 11;refine (z9n _ (HL.out.ext HB.out)).mono ?_;go_loud (rintro e w1 ⟨rfl,hb⟩;replace HI:=hd_ (HI.out.ext hb);replace RX:=hd_ (RX.out.ext hb);replace HB:=hd_ (z0a HB.out hb);clear hb;clear T0;have T1:=hd_ (lR 1)))
  | (have _g:=T1.out;refine z3a (by rfl) 41 (.tmp 3) rfl w.heap.size (x.cells s) rfl 41 _ HI.out Tryz.underlying41 rfl (by kernel_rfl) ?_;clear T1;have T2:=hd_ (lR 2))
  | (have _g:=T2.out;go_at_call 12;refine (x5i RX.out Hi.out Hf.out).mono ?_;go_loud (rintro e w2 ⟨rfl,hb⟩;replace HI:=hd_ (HI.out.ext hb);replace RX:=hd_ (RX.out.ext hb);replace HB:=hd_ (z0a HB.out hb);clear hb;clear T2;have T3:=hd_ (lR 3))))
 go_ret
 exact ⟨rfl,HB.out⟩
theorem k7z (x:Inp) (s:Slc) (k p:Int) (w:World) (hx:InpR w x s) (hi:InpI x) (hL:Laid w) (hfw:y4k x = true):Calls Tryz.prog 7 #[x.v s,.int .i64 k,.int .i64 p] w (x4i w):=by
 obtain ⟨R,S,e,hs⟩:=x8h k (z9z x)
 obtain ⟨P,eP,hp⟩:=j7i k
 have HF:=hd_ (k1n hfw)
 have hzi:=k2e (e:=e) hi HF.out (k1e hs)
 obtain ⟨z,hz⟩:∃ z,y0b x R S e = z:=⟨_,rfl⟩
 obtain ⟨m,hm⟩:∃ m,x6v x e = m:=⟨_,rfl⟩
 rw [hz] at hzi
 obtain ⟨v1,hv1⟩:=x6i p x
 obtain ⟨v2,hv2⟩:=x6i P z
 obtain ⟨v3,hv3⟩:=x6i p z
 have Hs:=hd_ hs;have Hp:=hd_ hp;have HZI:=hd_ hzi;have HZq:=hd_ hz;have HMq:=hd_ hm;have HV1:=hd_ hv1;have HV2:=hd_ hv2;have HV3:=hd_ hv3
 clear hs hp hzi hz hm hv1 hv2 hv3
 have HI:Hid (CB (w.alloc (bI x s)) w.heap.size 41 (x.cells s)):=z6a w (bI x s) _ _ rfl
 have HB:=hd_ (z5b (w:=w) (bI x s));have RX:=hd_ (hx.ext (z5b (w:=w) (bI x s)));have Hi:=hd_ hi;have HL:=hd_ hL
 clear hx hi hL
 change Calls Tryz.prog 7 #[.agg (x.cells s).toArray,.int .i64 k,.int .i64 p] w _
 go_enter Tryz.func7,Tryz.ntmps7
 go_upto_region 1 with fail
 change Code.wp _ _ _ _ (w.alloc (bI x s))
 generalize w.alloc (bI x s) = w0 at *
 have Hf:=hd_ hfw;clear hfw
 have T0:=hd_ (lR 0)
 go_upto_region 5 with (first
  | (have _g:=T0.out;go_at_call 11;refine (z9n _ (HL.out.ext HB.out)).mono ?_;go_loud (rintro e w1 ⟨rfl,hb⟩;replace HI:=hd_ (HI.out.ext hb);replace RX:=hd_ (RX.out.ext hb);replace HB:=hd_ (z0a HB.out hb);clear hb;clear T0;have T1:=hd_ (lR 1)))
  | (have _g:=T1.out;refine z3a (by rfl) 41 (.tmp 3) rfl w.heap.size (x.cells s) rfl 41 _ HI.out Tryz.underlying41 rfl (by kernel_rfl) ?_;clear T1;have T2:=hd_ (lR 2))
  | (have _g:=T2.out;go_at_call 12;refine (x5i RX.out Hi.out Hf.out).mono ?_;go_loud (rintro e w2 ⟨rfl,hb⟩;replace HI:=hd_ (HI.out.ext hb);replace RX:=hd_ (RX.out.ext hb);replace HB:=hd_ (z0a HB.out hb);clear hb;clear T2;have T3:=hd_ (lR 3))))
 go_upto_region 6 with (first
  | (have _g:=T3.out;refine z3a (by rfl) 41 (.tmp 3) rfl w.heap.size (x.cells s) rfl 41 _ HI.out Tryz.underlying41 rfl (by kernel_rfl) ?_;clear T3;have T4:=hd_ (lR 4))
  | (have _g:=T4.out;go_at_call 23;refine (k1v RX.out Hi.out HF.out (HL.out.ext HB.out) Hs.out HZq.out HMq.out).mono ?_;go_loud (rintro e w3 ⟨sl,rfl,hI,hb⟩;replace HI:=hd_ (HI.out.ext hb);replace RX:=hd_ (RX.out.ext hb);replace HB:=hd_ (z0a HB.out hb);have R1:=hd_ hI;clear hI;have HZ:Hid (CB (w3.alloc ZI) w3.heap.size 41 ZIc):=hd_ (z6a w3 ZI _ _ rfl);clear hb;clear T4;have T5:=hd_ (lR 5)))
  | (have _g:=T5.out;have _h:=HZ.out;refine z4a rfl 41 (.tmp 7) (.tmp 22) rfl w3.heap.size (z.cells sl) rfl rfl 41 ZIc HZ.out rfl (by kernel_rfl) (z1i R1.out) (fun w4 HC HG HS_=>?_);have hbs:Below w3.heap.size w3 w4:=(z5b (w:=w3) ZI).grown HG.out (z5b (w:=w3) ZI).size (fun q e=>by injection e with e;omega);replace HI:=hd_ (HI.out.ext hbs);replace RX:=hd_ (RX.out.ext hbs);replace R1:=hd_ (R1.out.ext hbs);replace HB:=hd_ (z0a HB.out hbs);have B1:=HC;clear hbs HC HG HS_ HZ _h;clear T5;have T6:=hd_ (lR 6)))
 go_upto_region 7 with (first
  | (have _g:=T6.out;refine z3a (by rfl) 41 (.tmp 3) rfl w.heap.size (x.cells s) rfl 41 _ HI.out Tryz.underlying41 rfl (by kernel_rfl) ?_;clear T6;have T7:=hd_ (lR 7))
  | (have _g:=T7.out;go_at_call 24;refine (k8o RX.out Hi.out HF.out Hs.out HZq.out HMq.out).mono ?_;go_loud (rintro e w5 ⟨sm,rfl,hI,hb⟩;replace HI:=hd_ (HI.out.ext hb);replace RX:=hd_ (RX.out.ext hb);replace R1:=hd_ (R1.out.ext hb);replace B1:=hd_ (B1.out.ext hb);replace HB:=hd_ (z0a HB.out hb);have R2:=hd_ hI;clear hI;have HZ:Hid (CB (w5.alloc ZI) w5.heap.size 41 ZIc):=hd_ (z6a w5 ZI _ _ rfl);clear hb;clear T7;have T8:=hd_ (lR 8)))
  | (have _g:=T8.out;have _h:=HZ.out;refine z4a rfl 41 (.tmp 9) (.tmp 28) rfl w5.heap.size (z.cells sm) rfl rfl 41 ZIc HZ.out rfl (by kernel_rfl) (z1i R2.out) (fun w6 HC HG HS_=>?_);have hbs:Below w5.heap.size w5 w6:=(z5b (w:=w5) ZI).grown HG.out (z5b (w:=w5) ZI).size (fun q e=>by injection e with e;omega);replace HI:=hd_ (HI.out.ext hbs);replace RX:=hd_ (RX.out.ext hbs);replace R1:=hd_ (R1.out.ext hbs);replace B1:=hd_ (B1.out.ext hbs);replace R2:=hd_ (R2.out.ext hbs);replace HB:=hd_ (z0a HB.out hbs);have B2:=HC;clear hbs HC HG HS_ HZ _h;clear T8;have T9:=hd_ (lR 9)))
 go_upto_region 8 with (first
  | (have _g:=T9.out;go_at_call 25;refine (y0l k P eP Hp _).mono ?_;go_loud (rintro e w7 ⟨rfl,hb⟩;replace HI:=hd_ (HI.out.ext hb);replace RX:=hd_ (RX.out.ext hb);replace R1:=hd_ (R1.out.ext hb);replace B1:=hd_ (B1.out.ext hb);replace R2:=hd_ (R2.out.ext hb);replace B2:=hd_ (B2.out.ext hb);replace HB:=hd_ (z0a HB.out hb);clear hb;clear T9;have T10:=hd_ (lR 10))))
 refine z9a (S:=fun w'=>CB w' w.heap.size 41 (x.cells s)∧CB w' w3.heap.size 41 (z.cells sl)∧CB w' w5.heap.size 41 (z.cells sm)) (late:=fun _=>false) (by kernel_rfl) ⟨HI.out.ext (Below.refl w7.heap.size w7).drew,B1.out.ext (Below.refl w7.heap.size w7).drew,B2.out.ext (Below.refl w7.heap.size w7).drew⟩ (fun hHeld=>?_)
 have hdr:=(Below.refl w7.heap.size w7).drew
 replace HI:=hd_ (HI.out.ext hdr);replace B1:=hd_ (B1.out.ext hdr);replace B2:=hd_ (B2.out.ext hdr);replace RX:=hd_ (RX.out.ext hdr);replace R1:=hd_ (R1.out.ext hdr);replace R2:=hd_ (R2.out.ext hdr);replace HB:=hd_ (z0a HB.out hdr)
 clear hdr
 generalize w7.drew = W1 at *
 refine z9s (some 35) 0 rfl (.agg (z.cells sl).toArray) (yieldsIf_load_mid (by rfl) 41 _ rfl w3.heap.size 0 rfl (z.cells sl) _ (fun wS hSw=>z1d hSw.2.1) Tryz.underlying41 rfl (by kernel_rfl)) ?_
 refine z9s (some 36) 1 rfl (.agg (z.cells sm).toArray) (yieldsIf_load_mid (by rfl) 41 _ rfl w5.heap.size 0 rfl (z.cells sm) _ (fun wS hSw=>z1d hSw.2.2) Tryz.underlying41 rfl (by kernel_rfl)) ?_
 refine rdL 2 fun K hK=>?_
 go_simp
 go_at_call 18
 refine (y9q R1.out R2.out true (decide_eq_true rfl)).mono ?_
 rintro e W2 ⟨rfl,hb⟩
 replace HI:=hd_ (HI.out.ext hb);replace B1:=hd_ (B1.out.ext hb);replace B2:=hd_ (B2.out.ext hb);replace RX:=hd_ (RX.out.ext hb);replace R1:=hd_ (R1.out.ext hb);replace R2:=hd_ (R2.out.ext hb);replace HB:=hd_ (z0a HB.out hb)
 clear hb
 refine z8l hK ⟨HI.out,B1.out,B2.out⟩ fun hHeld=>?_
 clear hK K
 refine tkL (some 38) 3 ?_
 refine tkL (some 39) 4 ?_
 refine tkL (some 40) 5 ?_
 refine tkL (some 41) 6 ?_
 refine tkL (some 42) 7 ?_
 refine tkL (some 43) 8 ?_
 refine tkL (some 44) 9 ?_
 refine z9s (some 45) 10 rfl (.agg (x.cells s).toArray) (yieldsIf_load_mid (by rfl) 41 _ rfl w.heap.size 0 rfl (x.cells s) _ (fun wS hSw=>z1d hSw.1) Tryz.underlying41 rfl (by kernel_rfl)) ?_
 refine tkL (some 47) 12 ?_
 refine z9s (some 48) 13 rfl (.agg (x.cells s).toArray) (yieldsIf_load_mid (by rfl) 41 _ rfl w.heap.size 0 rfl (x.cells s) _ (fun wS hSw=>z1d hSw.1) Tryz.underlying41 rfl (by kernel_rfl)) ?_
 refine rdL 11 fun K hK=>?_
 go_simp
 go_at_call 26
 refine (k3e RX.out Hi.out HF.out (HL.out.ext HB.out) HV1.out).mono ?_
 rintro e W3 ⟨rfl,hb⟩
 replace HI:=hd_ (HI.out.ext hb);replace B1:=hd_ (B1.out.ext hb);replace B2:=hd_ (B2.out.ext hb);replace RX:=hd_ (RX.out.ext hb);replace R1:=hd_ (R1.out.ext hb);replace R2:=hd_ (R2.out.ext hb);replace HB:=hd_ (z0a HB.out hb)
 clear hb
 refine z8l hK ⟨HI.out,B1.out,B2.out⟩ fun hHeld=>?_
 clear hK K
 refine rdL 14 fun K hK=>?_
 go_simp
 go_at_call 27
 refine (j8j RX.out Hi.out HF.out HV1.out).mono ?_
 rintro e W4 ⟨rfl,hb⟩
 replace HI:=hd_ (HI.out.ext hb);replace B1:=hd_ (B1.out.ext hb);replace B2:=hd_ (B2.out.ext hb);replace RX:=hd_ (RX.out.ext hb);replace R1:=hd_ (R1.out.ext hb);replace R2:=hd_ (R2.out.ext hb);replace HB:=hd_ (z0a HB.out hb)
 clear hb
 refine z8l hK ⟨HI.out,B1.out,B2.out⟩ fun hHeld=>?_
 clear hK K
 refine tkL (some 50) 15 ?_
 refine tkL (some 51) 16 ?_
 refine tkL (some 52) 17 ?_
 refine tkL (some 53) 18 ?_
 refine z9s (some 54) 19 rfl (.agg (z.cells sm).toArray) (yieldsIf_load_mid (by rfl) 41 _ rfl w5.heap.size 0 rfl (z.cells sm) _ (fun wS hSw=>z1d hSw.2.2) Tryz.underlying41 rfl (by kernel_rfl)) ?_
 refine tkL (some 56) 21 ?_
 refine z9s (some 57) 22 rfl (.agg (z.cells sm).toArray) (yieldsIf_load_mid (by rfl) 41 _ rfl w5.heap.size 0 rfl (z.cells sm) _ (fun wS hSw=>z1d hSw.2.2) Tryz.underlying41 rfl (by kernel_rfl)) ?_
 refine rdL 20 fun K hK=>?_
 go_simp
 go_at_call 26
 refine (k3e R2.out HZI.out.1 HZI.out.2 (HL.out.ext HB.out) HV2.out).mono ?_
 rintro e W5 ⟨rfl,hb⟩
 replace HI:=hd_ (HI.out.ext hb);replace B1:=hd_ (B1.out.ext hb);replace B2:=hd_ (B2.out.ext hb);replace RX:=hd_ (RX.out.ext hb);replace R1:=hd_ (R1.out.ext hb);replace R2:=hd_ (R2.out.ext hb);replace HB:=hd_ (z0a HB.out hb)
 clear hb
 refine z8l hK ⟨HI.out,B1.out,B2.out⟩ fun hHeld=>?_
 clear hK K
 refine rdL 23 fun K hK=>?_
 go_simp
 go_at_call 27
 refine (j8j R2.out HZI.out.1 HZI.out.2 HV2.out).mono ?_
 rintro e W6 ⟨rfl,hb⟩
 replace HI:=hd_ (HI.out.ext hb);replace B1:=hd_ (B1.out.ext hb);replace B2:=hd_ (B2.out.ext hb);replace RX:=hd_ (RX.out.ext hb);replace R1:=hd_ (R1.out.ext hb);replace R2:=hd_ (R2.out.ext hb);replace HB:=hd_ (z0a HB.out hb)
 clear hb
 refine z8l hK ⟨HI.out,B1.out,B2.out⟩ fun hHeld=>?_
 clear hK K
 refine tkL (some 59) 24 ?_
 refine tkL (some 60) 25 ?_
 refine tkL (some 61) 26 ?_
 refine tkL (some 62) 27 ?_
 refine z9s (some 63) 28 rfl (.agg (z.cells sm).toArray) (yieldsIf_load_mid (by rfl) 41 _ rfl w5.heap.size 0 rfl (z.cells sm) _ (fun wS hSw=>z1d hSw.2.2) Tryz.underlying41 rfl (by kernel_rfl)) ?_
 refine tkL (some 65) 30 ?_
 refine z9s (some 66) 31 rfl (.agg (z.cells sm).toArray) (yieldsIf_load_mid (by rfl) 41 _ rfl w5.heap.size 0 rfl (z.cells sm) _ (fun wS hSw=>z1d hSw.2.2) Tryz.underlying41 rfl (by kernel_rfl)) ?_
 refine rdL 29 fun K hK=>?_
 go_simp
 go_at_call 26
 refine (k3e R2.out HZI.out.1 HZI.out.2 (HL.out.ext HB.out) HV3.out).mono ?_
 rintro e W7 ⟨rfl,hb⟩
 replace HI:=hd_ (HI.out.ext hb);replace B1:=hd_ (B1.out.ext hb);replace B2:=hd_ (B2.out.ext hb);replace RX:=hd_ (RX.out.ext hb);replace R1:=hd_ (R1.out.ext hb);replace R2:=hd_ (R2.out.ext hb);replace HB:=hd_ (z0a HB.out hb)
 clear hb
 refine z8l hK ⟨HI.out,B1.out,B2.out⟩ fun hHeld=>?_
 clear hK K
 refine rdL 32 fun K hK=>?_
 go_simp
 go_at_call 27
 refine (j8j R2.out HZI.out.1 HZI.out.2 HV3.out).mono ?_
 rintro e W8 ⟨rfl,hb⟩
 replace HI:=hd_ (HI.out.ext hb);replace B1:=hd_ (B1.out.ext hb);replace B2:=hd_ (B2.out.ext hb);replace RX:=hd_ (RX.out.ext hb);replace R1:=hd_ (R1.out.ext hb);replace R2:=hd_ (R2.out.ext hb);replace HB:=hd_ (z0a HB.out hb)
 clear hb
 refine z8l hK ⟨HI.out,B1.out,B2.out⟩ fun hHeld=>?_
 clear hK K
 refine tkL (some 68) 33 ?_
 refine tkL (some 69) 34 ?_
 refine tkL (some 6) 35 ?_
 refine z6b (by kernel_rfl) ?_ _
 go_wp2_with fail
 go_ret
 exact ⟨rfl,HB.out⟩
theorem x7i (x:Inp) (s:Slc) (k p:Int) (w:World) (hx:InpR w x s) (hi:InpI x) (hL:Laid w):Calls Tryz.prog 7 #[x.v s,.int .i64 k,.int .i64 p] w (x4i w):=by
 cases hf:y4k x with
 | false=>exact k6z x s k p w hx hi hL hf
 | true=>exact k7z x s k p w hx hi hL hf
end Go.Proofs.YtdblnbnofjggnaaGreatDoor
