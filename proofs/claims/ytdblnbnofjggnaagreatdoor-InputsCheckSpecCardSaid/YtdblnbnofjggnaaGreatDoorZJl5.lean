/- chapter 49's law: InputsCheckSpec (printed by gen49ao.py). -/
import Derived.Test.YtdblnbnofjggnaaGreatDoorM53
import Derived.Test.YtdblnbnofjggnaaGreatDoorM43
set_option maxHeartbeats 16000000
set_option maxRecDepth 100000
open Go
open Lib renaming hid → hd_
open Nat renaming le_refl → lR
namespace Go.Proofs.YtdblnbnofjggnaaGreatDoor
open Go.RowKit
theorem k6o {x:Inp} {s:Slc} {W:World} (hx:InpR W x s) (hi:InpI x) {n:Int} (hn:(if okI x then (0:Int) else 490) = n):Calls Tryz.prog 17 #[.agg (x.cells s).toArray] W fun e W'=>e = .returned (.int .i64 n)∧Below W.heap.size W W' :=
 (z7q x s W hx hi.text hi.flt.call hi.rcl).mono fun e W' h=>by unfold j1t at h;rw [hn] at h;exact h
theorem k9u {x y:Inp} {c:Int} (W:World) (hc:y5g x.mi x.ce x.no y.mi y.ce y.no = c):Calls Tryz.prog 16 #[.agg (stC x).toArray,.agg (stC y).toArray] W fun e W'=>e = .returned (.int .i64 c)∧Below W.heap.size W W' :=
 (z7y x.mi x.ce x.no y.mi y.ce y.no W).mono fun e W' h=>by rw [hc] at h;exact h
theorem k7o {x y:Inp} {c:Int} (W:World) (hc:y5g x.mi x.ce x.no y.mi y.ce y.no = c):Calls Tryz.prog 19 #[.agg (stC x).toArray,.agg (stC y).toArray] W fun e W'=>e = .returned (.int .i64 c)∧Below W.heap.size W W' :=
 (y6n x.mi x.ce x.no y.mi y.ce y.no W).mono fun e W' h=>by rw [hc] at h;exact h
theorem k3z (x y:Inp) (s t:Slc) (w:World) (hx:InpR w x s) (hy:InpR w y t) (hi:InpI x) (hj:InpI y) (hL:Laid w) (hfw:y4k x = false):Calls Tryz.prog 5 #[x.v s,y.v t] w (x4i w):=by
 have hb0:Below w.heap.size w ((w.alloc (bI x s)).alloc (bI y t)):=(z5b (w:=w) (bI x s)).alloc (z5b (w:=w) (bI x s)).size _
 have HI:Hid (CB ((w.alloc (bI x s)).alloc (bI y t)) w.heap.size 41 (x.cells s)):=(z6a w (bI x s) _ _ rfl).alloc _
 have HJ:Hid (CB ((w.alloc (bI x s)).alloc (bI y t)) (w.heap.size + 1) 41 (y.cells t)):=x9x w (bI x s) _ _
 have HB:=hd_ hb0;have RX:=hd_ (hx.ext hb0);have RY:=hd_ (hy.ext hb0);have Hi:=hd_ hi;have Hj:=hd_ hj;have HL:=hd_ hL
 clear hb0 hx hy hi hj hL
 change Calls Tryz.prog 5 #[.agg (x.cells s).toArray,.agg (y.cells t).toArray] w _
 go_enter Tryz.func5,Tryz.ntmps5
 go_upto_region 1 with fail
 change Code.wp _ _ _ _ ((w.alloc (bI x s)).alloc (bI y t))
 generalize ((w.alloc (bI x s)).alloc (bI y t)) = w0 at *
 have Hf:=hd_ hfw;clear hfw
 have T0:=hd_ (lR 0)
 go_wp2_with (first
  | (have _g:=T0.out;go_at_call 11;refine (z9n _ (HL.out.ext HB.out)).mono ?_;go_loud (rintro e w1 ⟨rfl,hb⟩;replace HI:=hd_ (HI.out.ext hb);replace HJ:=hd_ (HJ.out.ext hb);replace RX:=hd_ (RX.out.ext hb);replace RY:=hd_ (RY.out.ext hb);replace HB:=hd_ (z0a HB.out hb);clear hb;clear T0;have T1:=hd_ (lR 1)))
  | (have _g:=T1.out;refine z3a (by rfl) 41 (.tmp 2) rfl w.heap.size (x.cells s) rfl 41 _ HI.out Tryz.underlying41 rfl (by kernel_rfl) ?_;clear T1;have T2:=hd_ (lR 2))
  | (have _g:=T2.out;go_at_call 12;refine (x5i RX.out Hi.out Hf.out).mono ?_;go_loud (rintro e w2 ⟨rfl,hb⟩;replace HI:=hd_ (HI.out.ext hb);replace HJ:=hd_ (HJ.out.ext hb);replace RX:=hd_ (RX.out.ext hb);replace RY:=hd_ (RY.out.ext hb);replace HB:=hd_ (z0a HB.out hb);clear hb;clear T2;have T3:=hd_ (lR 3))))
 go_ret
 exact ⟨rfl,HB.out⟩
theorem k4z (x y:Inp) (s t:Slc) (w:World) (hx:InpR w x s) (hy:InpR w y t) (hi:InpI x) (hj:InpI y) (hL:Laid w) (hfw:y4k x = true) (hgw:y4k y = false):Calls Tryz.prog 5 #[x.v s,y.v t] w (x4i w):=by
 have hb0:Below w.heap.size w ((w.alloc (bI x s)).alloc (bI y t)):=(z5b (w:=w) (bI x s)).alloc (z5b (w:=w) (bI x s)).size _
 have HI:Hid (CB ((w.alloc (bI x s)).alloc (bI y t)) w.heap.size 41 (x.cells s)):=(z6a w (bI x s) _ _ rfl).alloc _
 have HJ:Hid (CB ((w.alloc (bI x s)).alloc (bI y t)) (w.heap.size + 1) 41 (y.cells t)):=x9x w (bI x s) _ _
 have HB:=hd_ hb0;have RX:=hd_ (hx.ext hb0);have RY:=hd_ (hy.ext hb0);have Hi:=hd_ hi;have Hj:=hd_ hj;have HL:=hd_ hL
 clear hb0 hx hy hi hj hL
 change Calls Tryz.prog 5 #[.agg (x.cells s).toArray,.agg (y.cells t).toArray] w _
 go_enter Tryz.func5,Tryz.ntmps5
 go_upto_region 1 with fail
 change Code.wp _ _ _ _ ((w.alloc (bI x s)).alloc (bI y t))
 generalize ((w.alloc (bI x s)).alloc (bI y t)) = w0 at *
 have Hf:=hd_ hfw;have Hg:=hd_ hgw;clear hfw hgw
 have T0:=hd_ (lR 0)
 go_wp2_with (first
  | (have _g:=T0.out;go_at_call 11;refine (z9n _ (HL.out.ext HB.out)).mono ?_;go_loud (rintro e w1 ⟨rfl,hb⟩;replace HI:=hd_ (HI.out.ext hb);replace HJ:=hd_ (HJ.out.ext hb);replace RX:=hd_ (RX.out.ext hb);replace RY:=hd_ (RY.out.ext hb);replace HB:=hd_ (z0a HB.out hb);clear hb;clear T0;have T1:=hd_ (lR 1)))
  | (have _g:=T1.out;refine z3a (by rfl) 41 (.tmp 2) rfl w.heap.size (x.cells s) rfl 41 _ HI.out Tryz.underlying41 rfl (by kernel_rfl) ?_;clear T1;have T2:=hd_ (lR 2))
  | (have _g:=T2.out;go_at_call 12;refine (x5i RX.out Hi.out Hf.out).mono ?_;go_loud (rintro e w2 ⟨rfl,hb⟩;replace HI:=hd_ (HI.out.ext hb);replace HJ:=hd_ (HJ.out.ext hb);replace RX:=hd_ (RX.out.ext hb);replace RY:=hd_ (RY.out.ext hb);replace HB:=hd_ (z0a HB.out hb);clear hb;clear T2;have T3:=hd_ (lR 3)))
  | (have _g:=T3.out;refine z3a (by rfl) 41 (.tmp 3) rfl (w.heap.size + 1) (y.cells t) rfl 41 _ HJ.out Tryz.underlying41 rfl (by kernel_rfl) ?_;clear T3;have T4:=hd_ (lR 4))
  | (have _g:=T4.out;go_at_call 12;refine (x5i RY.out Hj.out Hg.out).mono ?_;go_loud (rintro e w3 ⟨rfl,hb⟩;replace HI:=hd_ (HI.out.ext hb);replace HJ:=hd_ (HJ.out.ext hb);replace RX:=hd_ (RX.out.ext hb);replace RY:=hd_ (RY.out.ext hb);replace HB:=hd_ (z0a HB.out hb);clear hb;clear T4;have T5:=hd_ (lR 5))))
 go_ret
 exact ⟨rfl,HB.out⟩
theorem k5z (x y:Inp) (s t:Slc) (w:World) (hx:InpR w x s) (hy:InpR w y t) (hi:InpI x) (hj:InpI y) (hL:Laid w) (hfw:y4k x = true) (hgw:y4k y = true):Calls Tryz.prog 5 #[x.v s,y.v t] w (x4i w):=by
 have hb0:Below w.heap.size w ((w.alloc (bI x s)).alloc (bI y t)):=(z5b (w:=w) (bI x s)).alloc (z5b (w:=w) (bI x s)).size _
 have HI:Hid (CB ((w.alloc (bI x s)).alloc (bI y t)) w.heap.size 41 (x.cells s)):=(z6a w (bI x s) _ _ rfl).alloc _
 have HJ:Hid (CB ((w.alloc (bI x s)).alloc (bI y t)) (w.heap.size + 1) 41 (y.cells t)):=x9x w (bI x s) _ _
 have HB:=hd_ hb0;have RX:=hd_ (hx.ext hb0);have RY:=hd_ (hy.ext hb0);have Hi:=hd_ hi;have Hj:=hd_ hj;have HL:=hd_ hL
 clear hb0 hx hy hi hj hL
 change Calls Tryz.prog 5 #[.agg (x.cells s).toArray,.agg (y.cells t).toArray] w _
 go_enter Tryz.func5,Tryz.ntmps5
 go_upto_region 1 with fail
 change Code.wp _ _ _ _ ((w.alloc (bI x s)).alloc (bI y t))
 generalize ((w.alloc (bI x s)).alloc (bI y t)) = w0 at *
 have Hf:=hd_ hfw;have Hg:=hd_ hgw;clear hfw hgw
 obtain ⟨n,hn⟩:∃ n,(if okI x then (0:Int) else 490) = n:=⟨_,rfl⟩
 obtain ⟨bq,hq⟩:∃ b,decide (x = y) = b:=⟨_,rfl⟩
 obtain ⟨c,hc⟩:∃ c,y5g x.mi x.ce x.no y.mi y.ce y.no = c:=⟨_,rfl⟩
 have Hn:=hd_ hn;have Hq:=hd_ hq;have Hc:=hd_ hc
 clear hn hq hc
 have T0:=hd_ (lR 0)
 go_upto_region 5 with (first
  | (have _g:=T0.out;go_at_call 11;refine (z9n _ (HL.out.ext HB.out)).mono ?_;go_loud (rintro e w1 ⟨rfl,hb⟩;replace HI:=hd_ (HI.out.ext hb);replace HJ:=hd_ (HJ.out.ext hb);replace RX:=hd_ (RX.out.ext hb);replace RY:=hd_ (RY.out.ext hb);replace HB:=hd_ (z0a HB.out hb);clear hb;clear T0;have T1:=hd_ (lR 1)))
  | (have _g:=T1.out;refine z3a (by rfl) 41 (.tmp 2) rfl w.heap.size (x.cells s) rfl 41 _ HI.out Tryz.underlying41 rfl (by kernel_rfl) ?_;clear T1;have T2:=hd_ (lR 2))
  | (have _g:=T2.out;go_at_call 12;refine (x5i RX.out Hi.out Hf.out).mono ?_;go_loud (rintro e w2 ⟨rfl,hb⟩;replace HI:=hd_ (HI.out.ext hb);replace HJ:=hd_ (HJ.out.ext hb);replace RX:=hd_ (RX.out.ext hb);replace RY:=hd_ (RY.out.ext hb);replace HB:=hd_ (z0a HB.out hb);clear hb;clear T2;have T3:=hd_ (lR 3)))
  | (have _g:=T3.out;refine z3a (by rfl) 41 (.tmp 3) rfl (w.heap.size + 1) (y.cells t) rfl 41 _ HJ.out Tryz.underlying41 rfl (by kernel_rfl) ?_;clear T3;have T4:=hd_ (lR 4))
  | (have _g:=T4.out;go_at_call 12;refine (x5i RY.out Hj.out Hg.out).mono ?_;go_loud (rintro e w3 ⟨rfl,hb⟩;replace HI:=hd_ (HI.out.ext hb);replace HJ:=hd_ (HJ.out.ext hb);replace RX:=hd_ (RX.out.ext hb);replace RY:=hd_ (RY.out.ext hb);replace HB:=hd_ (z0a HB.out hb);clear hb;clear T4;have T5:=hd_ (lR 5))))
 refine z9a (S:=fun w'=>CB w' w.heap.size 41 (x.cells s)∧CB w' (w.heap.size + 1) 41 (y.cells t)) (late:=fun _=>false) (by kernel_rfl) ⟨HI.out.ext (Below.refl w3.heap.size w3).drew,HJ.out.ext (Below.refl w3.heap.size w3).drew⟩ (fun hHeld=>?_)
 have hdr:=(Below.refl w3.heap.size w3).drew
 replace HI:=hd_ (HI.out.ext hdr);replace HJ:=hd_ (HJ.out.ext hdr);replace RX:=hd_ (RX.out.ext hdr);replace RY:=hd_ (RY.out.ext hdr);replace HB:=hd_ (z0a HB.out hdr)
 clear hdr
 generalize w3.drew = W1 at *
 refine z9s (some 15) 0 rfl (.agg (x.cells s).toArray) (yieldsIf_load_mid (by rfl) 41 _ rfl w.heap.size 0 rfl (x.cells s) _ (fun wS hSw=>z1d hSw.1) Tryz.underlying41 rfl (by kernel_rfl)) ?_
 refine z9s (some 17) 2 rfl (.agg (x.cells s).toArray) (yieldsIf_load_mid (by rfl) 41 _ rfl w.heap.size 0 rfl (x.cells s) _ (fun wS hSw=>z1d hSw.1) Tryz.underlying41 rfl (by kernel_rfl)) ?_
 refine rdL 1 fun K hK=>?_
 go_simp
 go_at_call 13
 refine (k8u RX.out Hi.out Hn.out).mono ?_
 rintro e W2 ⟨rfl,hb⟩
 replace HI:=hd_ (HI.out.ext hb);replace HJ:=hd_ (HJ.out.ext hb);replace RX:=hd_ (RX.out.ext hb);replace RY:=hd_ (RY.out.ext hb);replace HB:=hd_ (z0a HB.out hb)
 clear hb
 refine z8l hK ⟨HI.out,HJ.out⟩ fun hHeld=>?_
 clear hK K
 refine rdL 3 fun K hK=>?_
 go_simp
 go_at_call 17
 refine (k6o RX.out Hi.out Hn.out).mono ?_
 rintro e W3 ⟨rfl,hb⟩
 replace HI:=hd_ (HI.out.ext hb);replace HJ:=hd_ (HJ.out.ext hb);replace RX:=hd_ (RX.out.ext hb);replace RY:=hd_ (RY.out.ext hb);replace HB:=hd_ (z0a HB.out hb)
 clear hb
 refine z8l hK ⟨HI.out,HJ.out⟩ fun hHeld=>?_
 clear hK K
 refine tkL (some 19) 4 ?_
 refine tkL (some 20) 5 ?_
 refine z9s (some 21) 6 rfl (.agg (x.cells s).toArray) (yieldsIf_load_mid (by rfl) 41 _ rfl w.heap.size 0 rfl (x.cells s) _ (fun wS hSw=>z1d hSw.1) Tryz.underlying41 rfl (by kernel_rfl)) ?_
 refine z9s (some 22) 7 rfl (.agg (y.cells t).toArray) (yieldsIf_load_mid (by rfl) 41 _ rfl (w.heap.size + 1) 0 rfl (y.cells t) _ (fun wS hSw=>z1d hSw.2) Tryz.underlying41 rfl (by kernel_rfl)) ?_
 refine z9s (some 24) 9 rfl (.agg (x.cells s).toArray) (yieldsIf_load_mid (by rfl) 41 _ rfl w.heap.size 0 rfl (x.cells s) _ (fun wS hSw=>z1d hSw.1) Tryz.underlying41 rfl (by kernel_rfl)) ?_
 refine z9s (some 25) 10 rfl (.agg (y.cells t).toArray) (yieldsIf_load_mid (by rfl) 41 _ rfl (w.heap.size + 1) 0 rfl (y.cells t) _ (fun wS hSw=>z1d hSw.2) Tryz.underlying41 rfl (by kernel_rfl)) ?_
 refine rdL 8 fun K hK=>?_
 go_simp
 go_at_call 15
 refine (x9n RX.out RY.out bq Hq.out).mono ?_
 rintro e W4 ⟨rfl,hb⟩
 replace HI:=hd_ (HI.out.ext hb);replace HJ:=hd_ (HJ.out.ext hb);replace RX:=hd_ (RX.out.ext hb);replace RY:=hd_ (RY.out.ext hb);replace HB:=hd_ (z0a HB.out hb)
 clear hb
 refine z8l hK ⟨HI.out,HJ.out⟩ fun hHeld=>?_
 clear hK K
 refine rdL 11 fun K hK=>?_
 go_simp
 go_at_call 18
 refine (y9q RX.out RY.out bq Hq.out).mono ?_
 rintro e W5 ⟨rfl,hb⟩
 replace HI:=hd_ (HI.out.ext hb);replace HJ:=hd_ (HJ.out.ext hb);replace RX:=hd_ (RX.out.ext hb);replace RY:=hd_ (RY.out.ext hb);replace HB:=hd_ (z0a HB.out hb)
 clear hb
 refine z8l hK ⟨HI.out,HJ.out⟩ fun hHeld=>?_
 clear hK K
 refine tkL (some 27) 12 ?_
 refine tkL (some 28) 13 ?_
 refine tkL (some 29) 14 ?_
 refine z9s (some 30) 15 rfl (.agg (x.cells s).toArray) (yieldsIf_load_mid (by rfl) 41 _ rfl w.heap.size 0 rfl (x.cells s) _ (fun wS hSw=>z1d hSw.1) Tryz.underlying41 rfl (by kernel_rfl)) ?_
 refine z9s (some 31) 16 rfl (.agg (x.cells s).toArray) (yieldsIf_load_mid (by rfl) 41 _ rfl w.heap.size 0 rfl (x.cells s) _ (fun wS hSw=>z1d hSw.1) Tryz.underlying41 rfl (by kernel_rfl)) ?_
 refine rdL 17 fun K hK=>?_
 go_simp
 go_at_call 15
 refine (x9n RX.out RX.out true (decide_eq_true rfl)).mono ?_
 rintro e W6 ⟨rfl,hb⟩
 replace HI:=hd_ (HI.out.ext hb);replace HJ:=hd_ (HJ.out.ext hb);replace RX:=hd_ (RX.out.ext hb);replace RY:=hd_ (RY.out.ext hb);replace HB:=hd_ (z0a HB.out hb)
 clear hb
 refine z8l hK ⟨HI.out,HJ.out⟩ fun hHeld=>?_
 clear hK K
 refine tkL (some 33) 18 ?_
 refine tkL (some 34) 19 ?_
 refine tkL (some 35) 20 ?_
 refine z9s (some 36) 21 rfl (.agg (stC x).toArray) (yieldsIf_load_mid (by rfl) 23 _ rfl w.heap.size 0 rfl (stC x) _ (fun wS hSw=>y0e hSw.1) Tryz.underlying23 rfl (by kernel_rfl)) ?_
 refine tkL (some 37) 22 ?_
 refine z9s (some 38) 23 rfl (.agg (stC y).toArray) (yieldsIf_load_mid (by rfl) 23 _ rfl (w.heap.size + 1) 0 rfl (stC y) _ (fun wS hSw=>y0e hSw.2) Tryz.underlying23 rfl (by kernel_rfl)) ?_
 refine tkL (some 40) 25 ?_
 refine z9s (some 41) 26 rfl (.agg (stC x).toArray) (yieldsIf_load_mid (by rfl) 23 _ rfl w.heap.size 0 rfl (stC x) _ (fun wS hSw=>y0e hSw.1) Tryz.underlying23 rfl (by kernel_rfl)) ?_
 refine tkL (some 42) 27 ?_
 refine z9s (some 43) 28 rfl (.agg (stC y).toArray) (yieldsIf_load_mid (by rfl) 23 _ rfl (w.heap.size + 1) 0 rfl (stC y) _ (fun wS hSw=>y0e hSw.2) Tryz.underlying23 rfl (by kernel_rfl)) ?_
 refine rdL 24 fun K hK=>?_
 go_simp
 go_at_call 16
 refine (k9u _ Hc.out).mono ?_
 rintro e W7 ⟨rfl,hb⟩
 replace HI:=hd_ (HI.out.ext hb);replace HJ:=hd_ (HJ.out.ext hb);replace RX:=hd_ (RX.out.ext hb);replace RY:=hd_ (RY.out.ext hb);replace HB:=hd_ (z0a HB.out hb)
 clear hb
 refine z8l hK ⟨HI.out,HJ.out⟩ fun hHeld=>?_
 clear hK K
 refine rdL 29 fun K hK=>?_
 go_simp
 go_at_call 19
 refine (k7o _ Hc.out).mono ?_
 rintro e W8 ⟨rfl,hb⟩
 replace HI:=hd_ (HI.out.ext hb);replace HJ:=hd_ (HJ.out.ext hb);replace RX:=hd_ (RX.out.ext hb);replace RY:=hd_ (RY.out.ext hb);replace HB:=hd_ (z0a HB.out hb)
 clear hb
 refine z8l hK ⟨HI.out,HJ.out⟩ fun hHeld=>?_
 clear hK K
 refine tkL (some 45) 30 ?_
 refine tkL (some 46) 31 ?_
 refine tkL (some 4) 32 ?_
 refine z6b (by kernel_rfl) ?_ _
 go_wp2_with fail
 go_ret
 exact ⟨rfl,HB.out⟩
theorem x4a (x y:Inp) (s t:Slc) (w:World) (hx:InpR w x s) (hy:InpR w y t) (hi:InpI x) (hj:InpI y) (hL:Laid w):Calls Tryz.prog 5 #[x.v s,y.v t] w (x4i w):=by
 cases hf:y4k x with
 | false=>exact k3z x y s t w hx hy hi hj hL hf
 | true =>
  cases hg:y4k y with
  | false=>exact k4z x y s t w hx hy hi hj hL hf hg
  | true=>exact k5z x y s t w hx hy hi hj hL hf hg
end Go.Proofs.YtdblnbnofjggnaaGreatDoor
