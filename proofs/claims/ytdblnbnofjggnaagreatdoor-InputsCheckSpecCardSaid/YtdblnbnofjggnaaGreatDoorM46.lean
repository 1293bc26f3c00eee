/- Parts of the proofs of chapter 49's laws: Jms Jen Jrm. -/
import Derived.Test.YtdblnbnofjggnaaGreatDoorM41
import Derived.Test.YtdblnbnofjggnaaGreatDoorM43
import Derived.Test.YtdblnbnofjggnaaGreatDoorM18
import Derived.Test.YtdblnbnofjggnaaGreatDoorM20
import Derived.Test.YtdblnbnofjggnaaGreatDoorM35
import Derived.Test.YtdblnbnofjggnaaGreatDoorM42
import Derived.Test.YtdblnbnofjggnaaGreatDoorM27
set_option maxHeartbeats 8000000
set_option maxRecDepth 100000
open Go
open Lib renaming hid → hd_
namespace Go.Proofs.YtdblnbnofjggnaaGreatDoor
open Go.RowKit
theorem x2n {B:Nat} {w:World} {lv:Value} {xs:List V} (h:z3j (fun _=>False) B w lv xs):RdV w.heap.size w (lV xs) (.agg (lvC lv).toArray):=(z3j.rd h).rd (fun _ hk=>hk.2)
theorem j3u (y:V) (hck:ck y = 0) (hz:sz y ≤ 60000) (v:Value) (w:World) (hr:RdV w.heap.size w y v):Calls Tryz.prog 37 #[v] w fun e w'=>∃ u,e = .returned (.tuple #[u,.int .i64 0])∧z9c w'.heap.size w' (enc y) u∧Below w.heap.size w w':=by
 refine (x3p y hz v w hr).mono ?_
 rintro e w' ⟨u,rfl,h,hb⟩
 rw [hck] at h ⊢
 exact ⟨u,rfl,RdB.bts h,hb⟩
def ZDg:Obj:=.cells (z5a (List.replicate 32 0)).toArray 165
def k4w (x:Inp) (w:World) (e:Ending) (w':World):Prop:=∃ v,e = .returned v∧z9c w'.heap.size w' (z0q k4p (z1z x)) v∧Below w.heap.size w w'
theorem z5u (x:Inp) (s:Slc) (w:World) (hx:InpR w x s) (hi:InpI x) (hl:InpL x) (hz:sz (lV (z6e x)) ≤ 60000) (hL:Laid w):Calls Tryz.prog 68 #[x.v s] w (k4w x w):=by
 have HL:=hd_ hL
 clear hL
 have HI:Hid (CB (w.alloc (bI x s)) w.heap.size 41 (x.cells s)):=z6a w (bI x s) _ _ rfl
 have HB:=hd_ (z5b (w:=w) (bI x s));have HXR:=hd_ hx;have Hi:=hd_ hi;have Hl:=hd_ hl;have Hz:=hd_ hz
 clear hx hi hl hz
 change Calls Tryz.prog 68 #[.agg (x.cells s).toArray] w _
 go_enter Tryz.func68,Tryz.ntmps68
 go_upto_region 1 with fail
 change Code.wp _ _ _ _ (w.alloc (bI x s))
 generalize w.alloc (bI x s) = w0 at *
 go_wp2_with (first
  | (have _g:=HI.out;refine z3a (by rfl) 41 (.tmp 1) rfl w.heap.size (x.cells s) rfl 41 _ HI.out Tryz.underlying41 rfl (by kernel_rfl) ?_;clear _g)
  | (go_at_call 35;refine (z0z x s _ (HXR.out.ext HB.out) Hi.out Hl.out).mono ?_;go_loud (rintro e w2 ⟨lv,rfl,hO,hb2⟩;obtain ⟨ol,cl,rfl⟩:=hO.shape;have HR2:=hd_ (x2n hO);have HB2:=hd_ (z0a HB.out hb2);clear hO hb2))
  | (go_at_call 37;refine (j3u (lV (z5e x)) (j3e x) (Nat.le_trans (x0h x) Hz.out) _ _ HR2.out).mono ?_;go_loud (rintro e w3 ⟨u,rfl,hu,hb3⟩;obtain ⟨ou,cu,rfl⟩:=hu.shape;have HU3:=hd_ hu;have HB3:=hd_ (z0a HB2.out hb3);clear hu hb3))
  | (go_at_call 133;refine (y8i ⟨#[105,110,112,117,116]⟩ _ (z1z x) _ (by decide) (by have:=y9j x Hz.out;omega) HU3.out (HL.out.ext HB3.out)).mono ?_;go_loud (rintro e w4 ⟨rfl,hb4⟩;have HB4:=hd_ (z0a HB3.out hb4);have HZ4:Hid ((w4.alloc ZDg).heap[w4.heap.size]? = some (.cells (z5a (List.replicate 32 0)).toArray 165 (0,0))):=z6a w4 ZDg _ _ rfl;clear hb4))
  | (refine z8d (hgd:=rfl) 165 (.tmp 5) (.tmp 13) rfl w4.heap.size (z0q k4p (z1z x)) (z6i _ _) rfl rfl 165 _ HZ4.out rfl z3n ?_;intro w5 hc5 hg5 hz5))
 go_ret
 exact ⟨_,rfl,y3m hc5.out (z6i _ _),(z0a HB4.out (z5b (w:=w4) ZDg)).grown hg5.out (z0a HB4.out (z5b (w:=w4) ZDg)).size (fun q e=>by injection e with e;have:=HB4.out.size;omega)⟩
def k5t (x:Inp) (w:World) (e:Ending) (w':World):Prop:=∃ u,e = .returned (.tuple #[u,.int .i64 (if okI x then 0 else 490)])∧z9c w'.heap.size w' (if okI x then y6e x else []) u∧Below w.heap.size w w'
theorem k4y (w:World):z9c w.heap.size w [] (.slice none 0 0):=.inl ⟨rfl,none,0,rfl,Nat.zero_le _⟩
structure Skip (B g:Nat) (w:World) (lv:Value) (xs:List V):Prop where
 own:x3j 80 (fun k=>B ≤ k∧k ≠ g∧k < w.heap.size∧some k ≠ lv.ownBlock) w B lv xs
theorem Skip.ext {B g:Nat} {w w':World} {lv:Value} {xs:List V} (h:Skip B g w lv xs) (hb:Below w.heap.size w w'):Skip B g w' lv xs :=
 ⟨(x3j.kept h.own (z0d hb) (by cases ho:lv.ownBlock <;> simp) (fun k _ e=>by cases e) (fun k hk=>hk.2.2.1)).mono (fun k hk=>⟨hk.1,hk.2.1,Nat.lt_of_lt_of_le hk.2.2.1 hb.size,hk.2.2.2⟩) (fun k hk=>hk.2.2.2)⟩
theorem Skip.of {B:Nat} {w w':World} {lv:Value} {xs:List V} (h:z3j (fun _=>False) B w lv xs) (hb:Below w.heap.size w w'):Skip B w.heap.size w' lv xs :=
 ⟨(x3j.kept h.1 (z0d hb) (by cases ho:lv.ownBlock <;> simp) (fun k _ e=>by cases e) (fun k hk=>hk.2.1)).mono (fun k hk=>⟨hk.1.resolve_left id,by have:=hk.2.1;omega,Nat.lt_of_lt_of_le hk.2.1 hb.size,hk.2.2⟩) (fun k hk=>hk.2.2.2)⟩
theorem z9q (x:Inp) (s:Slc) (w:World) (hx:InpR w x s) (hi:InpI x) (hl:InpL x) (hz:sz (lV (z6e x)) ≤ 60000):Calls Tryz.prog 14 #[x.v s] w (k5t x w):=by
 obtain ⟨b,hok⟩:∃ b,okI x = b:=⟨_,rfl⟩
 have Hok:=hd_ hok
 clear hok
 have HI:Hid (CB (w.alloc (bI x s)) w.heap.size 41 (x.cells s)):=z6a w (bI x s) _ _ rfl
 have HB:=hd_ (z5b (w:=w) (bI x s));have HXR:=hd_ hx;have Hi:=hd_ hi;have Hl:=hd_ hl;have Hz:=hd_ hz
 clear hx hi hl hz
 change Calls Tryz.prog 14 #[.agg (x.cells s).toArray] w _
 go_enter Tryz.func14,Tryz.ntmps14
 go_upto_region 1 with fail
 change Code.wp _ _ _ _ (w.alloc (bI x s))
 generalize w.alloc (bI x s) = w0 at *
 have HCk:Hid (∀ w1,Below w.heap.size w w1→Calls Tryz.prog 13 #[.agg (x.cells s).toArray] w1 fun e w2=>e = .returned (.int .i64 (if b then 0 else 490))∧Below w1.heap.size w1 w2):=fun w1 hb=>(z7i x s w1 (HXR.out.ext hb) Hi.out.text Hi.out.flt.call Hi.out.rcl).mono fun e w2 h=>⟨by rw [← Hok.out];exact h.1,h.2⟩
 cases b
 case false =>
  have HC0:Hid (∀ w1,Below w.heap.size w w1→Calls Tryz.prog 13 #[.agg (x.cells s).toArray] w1 fun e w2=>e = .returned (.int .i64 490)∧Below w1.heap.size w1 w2):=HCk.out
  clear HCk
  go_wp2_with (first
   | (have _g:=HI.out;refine z3a (by rfl) 41 (.tmp 1) rfl w.heap.size (x.cells s) rfl 41 _ HI.out Tryz.underlying41 rfl (by kernel_rfl) ?_;clear _g)
   | (go_at_call 13;refine (HC0.out _ HB.out).mono ?_;go_loud (rintro e w1 ⟨rfl,hb1⟩;have HB1:=hd_ (z0a HB.out hb1);clear hb1)))
  go_ret2
  exact ⟨_,by rw [Hok.out];rfl,by rw [Hok.out];exact k4y _,HB1.out⟩
 case true =>
  have HC0:Hid (∀ w1,Below w.heap.size w w1→Calls Tryz.prog 13 #[.agg (x.cells s).toArray] w1 fun e w2=>e = .returned (.int .i64 0)∧Below w1.heap.size w1 w2):=HCk.out
  clear HCk
  go_upto_region 4 with (first
   | (have _g:=HI.out;refine z3a (by rfl) 41 (.tmp 1) rfl w.heap.size (x.cells s) rfl 41 _ HI.out Tryz.underlying41 rfl (by kernel_rfl) ?_;clear _g)
   | (go_at_call 13;refine (HC0.out _ HB.out).mono ?_;go_loud (rintro e w1 ⟨rfl,hb1⟩;have HB1:=hd_ (z0a HB.out hb1);have HI1:=hd_ (HI.out.ext hb1);clear hb1)))
  clear HB HI
  have HI:=HI1
  go_upto_region 5 with (first
   | (have _g:=HI.out;refine z3a (by rfl) 41 (.tmp 1) rfl w.heap.size (x.cells s) rfl 41 _ HI.out Tryz.underlying41 rfl (by kernel_rfl) ?_;clear _g)
   | (go_at_call 35;refine (z0z x s _ (HXR.out.ext HB1.out) Hi.out Hl.out).mono ?_;go_loud (rintro e w2 ⟨lv,rfl,hO,hb2⟩;obtain ⟨ol,cl,rfl⟩:=hO.shape;have HO:=hd_ hO;have HB2:=hd_ (z0a HB1.out hb2);have HI2:=hd_ (HI1.out.ext hb2);have HW12:Hid (w1.heap.size ≤ w2.heap.size):=hb2.size;have H5z:Hid (CB (w2.alloc Z4) w2.heap.size 80 Z4c):=z6a w2 Z4 _ _ rfl;have HLv:=hd_ (z0p (.slice ol (z5e x).length cl) rfl);clear hO hb2))
   | (have _g:=HLv.out;refine z4a rfl 80 (.tmp 5) (.tmp 12) rfl w2.heap.size (lvC (.slice ol (z5e x).length cl)) rfl rfl 80 Z4c H5z.out rfl (by kernel_rfl) HLv.out (fun w4 H5 HW4 HZ4=>?_);clear HLv))
  have hz4:Below w2.heap.size w2 w4:=(z5b (w:=w2) Z4).grown HW4.out (by simp) (fun q e=>by injection e with e;omega)
  have HV:=hd_ (Skip.of HO.out hz4);have HB:=hd_ (z0a HB2.out hz4);replace HI:=hd_ (HI2.out.ext hz4)
  have HLo:Hid (∀ g,((.slice ol (z5e x).length cl):Value).ownBlock = some g→g < w2.heap.size):=fun g e=>(HO.out.own g e).2
  have HLb:Hid (∀ g,((.slice ol (z5e x).length cl):Value).ownBlock = some g→w1.heap.size ≤ g):=fun g e=>(HO.out.own g e).1
  have HwB:Hid (w.heap.size < w1.heap.size):=HI1.out.lt
  clear HI1 HI2 HB1 HB2 H5z HW4 HZ4 hz4 HO
  have HBg:Hid (w1.heap.size ≤ w2.heap.size):=HW12
  clear HW12
  generalize w1.heap.size = B5 at *
  generalize w2.heap.size = g5 at *
  refine z9a (S:=fun w'=>CB w' g5 80 (lvC (.slice ol (z5e x).length cl))∧CB w' w.heap.size 41 (x.cells s)) (late:=fun j=>j == 15) (by kernel_rfl) ⟨H5.out.ext (Below.refl w4.heap.size w4).drew,HI.out.ext (Below.refl w4.heap.size w4).drew⟩ (fun hHeld=>?_)
  have hdr:=(Below.refl w4.heap.size w4).drew
  replace H5:=hd_ (H5.out.ext hdr);replace HI:=hd_ (HI.out.ext hdr);replace HB:=hd_ (z0a HB.out hdr);replace HV:=hd_ (HV.out.ext hdr)
  clear hdr
  generalize w4.drew = W4 at *
  refine tkL (some 13) 0 ?_
  refine tkL (some 14) 1 ?_ (hy:=fun wS hSw=>by have e1:wS.cell? ⟨g5,3,none⟩ = some (.slice ol (z5e x).length cl):=hSw.1.cell 3;go_simp;first | done | with_reducible rfl)
  refine tkL (some 15) 2 ?_
  refine tkL (some 16) 3 ?_
  refine tkL (some 17) 4 ?_ (hy:=fun wS hSw=>by have e1:wS.cell? ⟨w.heap.size,30,none⟩ = some (.int .i64 x.sr):=hSw.2.cell 30;go_simp;first | done | with_reducible rfl)
  refine tkL (some 18) 5 ?_
  refine tkL (some 19) 6 ?_
  refine tkL (some 20) 7 ?_
  refine tkL (some 21) 8 ?_ (hy:=fun wS hSw=>by have e1:wS.cell? ⟨w.heap.size,31,none⟩ = some (.int .i64 x.ss):=hSw.2.cell 31;go_simp;first | done | with_reducible rfl)
  refine tkL (some 22) 9 ?_
  refine rdL 10 fun K hK=>?_
  go_simp
  have hz:Below W4.heap.size W4 (W4.alloc (.cells (([.num x.sr,.num x.ss]:List It).map It.v).toArray 20)):=z5b _
  have HIa:Hid (z6p (fun _=>False) (W4.alloc (.cells (([.num x.sr,.num x.ss]:List It).map It.v).toArray 20)) [.num x.sr,.num x.ss] (.slice (some ⟨W4.heap.size,0,none⟩) 2 2)):=hd_ (z5l (fun _=>False) W4 [.num x.sr,.num x.ss] (fun t ht=>by simp only [List.mem_cons,List.not_mem_nil,or_false] at ht;rcases ht with rfl | rfl <;> first | exact Hi.out.sr | exact Hi.out.ss))
  change K _ (W4.alloc (.cells (([.num x.sr,.num x.ss]:List It).map It.v).toArray 20))
  replace H5:=hd_ (H5.out.ext hz);replace HI:=hd_ (HI.out.ext hz);replace HB:=hd_ (z0a HB.out hz);replace HV:=hd_ (HV.out.ext hz)
  clear hz
  generalize W4.alloc (.cells (([.num x.sr,.num x.ss]:List It).map It.v).toArray 20) = W5 at *
  refine z8l hK ⟨H5.out,HI.out⟩ fun hHeld=>?_
  clear hK K
  refine rdL 11 fun K hK=>?_
  go_simp
  go_at_call 36
  refine (z4j [.num x.sr,.num x.ss] _ (fun _=>False) W5 (by simp) HIa.out (fun j h=>h.elim)).mono ?_
  rintro e W7 ⟨lv7,rfl,hO7,hb7⟩
  obtain ⟨o7,c7,rfl⟩:=hO7.shape
  have HO7:=hd_ hO7
  have HG5:Hid (g5 < W5.heap.size):=H5.out.lt
  have H57:Hid (W5.heap.size ≤ W7.heap.size):=hb7.size
  replace H5:=hd_ (H5.out.ext hb7);replace HI:=hd_ (HI.out.ext hb7);replace HB:=hd_ (z0a HB.out hb7);replace HV:=hd_ (HV.out.ext hb7)
  clear hO7 hb7
  refine z8l hK ⟨H5.out,HI.out⟩ fun hHeld=>?_
  clear hK K
  refine rdL 12 fun K hK=>?_
  go_simp
  have HBk:Hid (CB (W7.alloc (.cells [.int .i64 3,.int .i64 0,.string ⟨#[]⟩,.slice o7 2 c7].toArray 80)) W7.heap.size 80 [.int .i64 3,.int .i64 0,.string ⟨#[]⟩,.slice o7 2 c7]):=z6a W7 _ _ _ rfl
  have hz:Below W7.heap.size W7 (W7.alloc (.cells [.int .i64 3,.int .i64 0,.string ⟨#[]⟩,.slice o7 2 c7].toArray 80)):=z5b _
  have HNv:Hid (y2e (fun k=>B5 ≤ k∧k ≠ g5∧k < (W7.alloc (.cells [.int .i64 3,.int .i64 0,.string ⟨#[]⟩,.slice o7 2 c7].toArray 80)).heap.size∧some k ≠ ((.slice ol (z5e x).length cl):Value).ownBlock) (W7.alloc (.cells [.int .i64 3,.int .i64 0,.string ⟨#[]⟩,.slice o7 2 c7].toArray 80)) (lV [iV x.sr,iV x.ss]) (.slice o7 2 c7)):=y2e.keep (D:=fun j=>(False∨W5.heap.size ≤ j)∧j < W7.heap.size) (w:=W7) ⟨by show I64 3;unfold I64;omega,by show I64 0;unfold I64;omega,by show (0:Nat) ≤ _;unfold maxLen;decide,HO7.out.sl⟩ (fun k hk=>⟨by have:=HG5.out;have:=HBg.out;have:=hk.1.resolve_left id;omega,by have:=HG5.out;have:=hk.1.resolve_left id;omega,by have:=hk.2;rw [World.size_alloc];omega,fun e=>by have:=HLo.out k e.symm;have:=HG5.out;have:=hk.1.resolve_left id;omega⟩) (fun k hk=>Below.heap_alloc W7 _ k hk.2)
  change K _ (W7.alloc (.cells [.int .i64 3,.int .i64 0,.string ⟨#[]⟩,.slice o7 2 c7].toArray 80))
  replace H5:=hd_ (H5.out.ext hz);replace HI:=hd_ (HI.out.ext hz);replace HB:=hd_ (z0a HB.out hz);replace HV:=hd_ (HV.out.ext hz)
  clear hz HO7
  generalize W7.alloc (.cells [.int .i64 3,.int .i64 0,.string ⟨#[]⟩,.slice o7 2 c7].toArray 80) = W8 at *
  generalize W7.heap.size = gk at *
  refine z8l hK ⟨H5.out,HI.out⟩ fun hHeld=>?_
  clear hK K
  refine rdL 13 fun K hK=>?_
  refine z3v (e:=80) (z:=.agg #[.int .i64 0,.int .i64 0,.string ⟨#[]⟩,.slice none 0 0]) (bytes:=56) Tryz.underlying78 z1m rfl (by decide) rfl (.tmp 14) (.tmp 25) rfl (fun k=>B5 ≤ k∧k ≠ g5∧k < W8.heap.size∧some k ≠ ((.slice ol (z5e x).length cl):Value).ownBlock) B5 (.slice ol (z5e x).length cl) (z5e x) rfl ?q1 gk (lV [iV x.sr,iV x.ss]) (.slice o7 2 c7) rfl HNv.out rfl ?q3 ?q4 ?q5 ?q6 ?_
  case q1=>exact HV.out.own
  case q3=>(refine ⟨?_,?_,?_,?_⟩ <;> first | exact HBk.out.cell 0 | exact HBk.out.cell 1 | exact HBk.out.cell 2 | exact HBk.out.cell 3)
  case q4=>(show (10:Nat) ≤ 1000000;decide)
  case q5=>exact Nat.le_trans HBg.out (Nat.le_of_lt H5.out.lt)
  case q6=>exact fun k hk=>hk.2.2.1
  intro lv9 w9 hO9 hg9 hn9
  obtain ⟨o9,c9,rfl⟩:=hO9.shape
  generalize hxl:(z5e x ++ [lV [iV x.sr,iV x.ss]]).length = n9 at *
  clear hxl
  have H59:=hd_ (H5.out.keep (hg9.block _ H5.out.lt (fun e=>by have:=HLo.out _ e.symm;omega)))
  have HI9:=hd_ (HI.out.keep (hg9.block _ HI.out.lt (fun e=>by have:=HLb.out _ e.symm;have:=HwB.out;omega)))
  have HB9:=hd_ (HB.out.grown hg9 HB.out.size (fun q e=>by have:=HLb.out q e;have:=HwB.out;omega))
  have Hn9:Hid ((Value.slice o9 n9 c9).ownBlock ≠ some g5):=fun e=>by
   rcases hn9 with hn | hn
   · have:=HLo.out _ (hn ▸ e);omega
   · have:=hn _ e;have:=H5.out.lt;omega
  have HO9:=hd_ hO9
  have HW89:Hid (W8.heap.size ≤ w9.heap.size):=hg9.size
  have y3:_ = some ((.slice ol (z5e x).length cl):Value):=H59.out.cell 3
  have yf:=H59.out.frozen 3
  clear hO9 hg9 hn9 HBk HNv HV H5 HI HB
  refine hK.out (Act.put _ (some 26) _) w9 (fun _=>⟨H59.out,HI9.out⟩) (fun hHeld0=>?_)
  clear hK K
  have hHeld:=hHeld0 (by rfl)
  clear hHeld0
  try simp only [Act.put,List.setIfInBounds_toArray,List.set_cons_zero,List.set_cons_succ]
  refine tkL (some 27) 14 ?_
  refine rdL 15 fun K hK=>?_
  go_simp
  refine hK.out _ _ (fun h=>absurd h (by decide)) (fun hHeld0=>?_)
  clear hK K
  try simp only [Act.put,List.setIfInBounds_toArray,List.set_cons_zero,List.set_cons_succ]
  refine z6b (by kernel_rfl) ?_ _
  have HRd:Hid (RdV (w9.setCell ⟨g5,3,none⟩ (.slice o9 n9 c9)).heap.size (w9.setCell ⟨g5,3,none⟩ (.slice o9 n9 c9)) (lV (z6e x)) (.agg (lvC (.slice o9 n9 c9)).toArray)):=by
   have hs:y0i (fun k=>k ≠ g5∧k < w9.heap.size) w9 (z5e x ++ [lV [iV x.sr,iV x.ss]]) (.slice o9 n9 c9):=x3j.sl HO9.out (fun k hk=>⟨hk.2.1,Nat.lt_of_lt_of_le hk.2.2.1 HW89.out⟩) (fun g hg=>⟨fun e=>Hn9.out (e ▸ hg),(x3j.own_lt HO9.out g hg).2⟩)
   have hs2:=hs.keep (w':=w9.setCell ⟨g5,3,none⟩ (.slice o9 n9 c9)) (D':=fun k=>k < w9.heap.size) (fun k hk=>hk.2) (fun k hk=>Below.heap_setCell w9 _ _ k hk.1)
   exact ⟨by show I64 3;unfold I64;omega,by show I64 0;unfold I64;omega,by show (0:Nat) ≤ _;unfold maxLen;decide,_,rfl,hs2.sl (fun k hk=>by simpa [World.setCell] using hk)⟩
  have HC5:Hid (CB (w9.setCell ⟨g5,3,none⟩ (.slice o9 n9 c9)) g5 80 (lvC (.slice o9 n9 c9))):=H59.out.set 3 _
  have HB10:Hid (Below w.heap.size w (w9.setCell ⟨g5,3,none⟩ (.slice o9 n9 c9))):=HB9.out.grown (z8b w9 g5 3 _) HB9.out.size (fun q e=>by injection e with e;have:=HBg.out;have:=HwB.out;omega)
  clear HO9 H59 HI9 HB9 y3 yf Hn9
  generalize w9.setCell ⟨g5,3,none⟩ (.slice o9 n9 c9) = w10 at *
  go_wp2_with (first
   | (have _g:=HC5.out;refine z3a (by rfl) 80 (.tmp 5) rfl g5 _ rfl 80 _ HC5.out Tryz.underlying80 rfl (by kernel_rfl) ?_;clear HC5)
   | (go_at_call 37;refine (j3u (lV (z6e x)) (x9g x) Hz.out _ _ HRd.out).mono ?_;go_loud (rintro e w11 ⟨u,rfl,hu,hb11⟩;have HU:=hd_ hu;have HB11:=hd_ (z0a HB10.out hb11);clear hu hb11)))
  go_ret2
  exact ⟨u,by rw [Hok.out];rfl,by rw [Hok.out];exact HU.out,HB11.out⟩
theorem k1b (y:V) (hck:ck y = 0) (hz:sz y ≤ 60000) (v:Value) (w:World) (hr:RdV w.heap.size w y v):Calls Tryz.prog 51 #[v] w fun e w'=>∃ u,e = .returned (.tuple #[u,.int .i64 0])∧z9c w'.heap.size w' (enc y) u∧Below w.heap.size w w':=by
 refine (x2d y hz v w hr).mono ?_
 rintro e w' ⟨u,rfl,h,hb⟩
 rw [hck] at h ⊢
 exact ⟨u,rfl,RdB.bts h,hb⟩
theorem z0r (x:Inp) (s:Slc) (w:World) (hx:InpR w x s) (hi:InpI x) (hl:InpL x) (hz:sz (lV (z6e x)) ≤ 60000):Calls Tryz.prog 70 #[x.v s] w (k4w x w):=by
 have HI:Hid (CB (w.alloc (bI x s)) w.heap.size 41 (x.cells s)):=z6a w (bI x s) _ _ rfl
 have HB:=hd_ (z5b (w:=w) (bI x s));have HXR:=hd_ hx;have Hi:=hd_ hi;have Hl:=hd_ hl;have Hz:=hd_ hz
 clear hx hi hl hz
 change Calls Tryz.prog 70 #[.agg (x.cells s).toArray] w _
 go_enter Tryz.func70,Tryz.ntmps70
 go_upto_region 1 with fail
 change Code.wp _ _ _ _ (w.alloc (bI x s))
 generalize w.alloc (bI x s) = w0 at *
 go_wp2_with (first
  | (have _g:=HI.out;refine z3a (by rfl) 41 (.tmp 1) rfl w.heap.size (x.cells s) rfl 41 _ HI.out Tryz.underlying41 rfl (by kernel_rfl) ?_;clear _g)
  | (go_at_call 53;refine (y7o x s _ (HXR.out.ext HB.out) Hi.out Hl.out).mono ?_;go_loud (rintro e w2 ⟨lv,rfl,hO,hb2⟩;obtain ⟨ol,cl,rfl⟩:=hO.shape;have HO2:=hd_ hO;have HB2:=hd_ (z0a HB.out hb2);clear hO hb2))
  | (go_at_call 52;refine (z8f _ _ _ _).mono ?_;go_loud (rintro e w9 ⟨rfl,hb9⟩;have HR2:=hd_ (x2n (HO2.out.ext hb9));have HB9:=hd_ (z0a HB2.out hb9);clear hb9))
  | (go_at_call 51;refine (k1b (lV (z5e x)) (j3e x) (Nat.le_trans (x0h x) Hz.out) _ _ HR2.out).mono ?_;go_loud (rintro e w3 ⟨u,rfl,hu,hb3⟩;obtain ⟨ou,cu,rfl⟩:=hu.shape;have HU3:=hd_ hu;have HB3:=hd_ (z0a HB9.out hb3);clear hu hb3))
  | (go_at_call 141;refine (y6d ⟨#[105,110,112,117,116]⟩ _ (z1z x) _ (by decide) (by have:=y9j x Hz.out;omega) HU3.out).mono ?_;go_loud (rintro e w4 ⟨rfl,hb4⟩;have HB4:=hd_ (z0a HB3.out hb4);have HZ4:Hid ((w4.alloc ZDg).heap[w4.heap.size]? = some (.cells (z5a (List.replicate 32 0)).toArray 165 (0,0))):=z6a w4 ZDg _ _ rfl;clear hb4))
  | (refine z8d (hgd:=rfl) 165 (.tmp 5) (.tmp 14) rfl w4.heap.size (z0q k4p (z1z x)) (z6i _ _) rfl rfl 165 _ HZ4.out rfl z3n ?_;intro w5 hc5 hg5 hz5))
 go_ret
 exact ⟨_,rfl,y3m hc5.out (z6i _ _),(z0a HB4.out (z5b (w:=w4) ZDg)).grown hg5.out (z0a HB4.out (z5b (w:=w4) ZDg)).size (fun q e=>by injection e with e;have:=HB4.out.size;omega)⟩
end Go.Proofs.YtdblnbnofjggnaaGreatDoor
