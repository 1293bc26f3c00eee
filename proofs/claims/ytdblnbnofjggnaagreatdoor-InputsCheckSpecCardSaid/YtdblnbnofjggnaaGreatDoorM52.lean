/- Parts of the proofs of chapter 49's laws: Jde Jdg Jdh Jso. -/
import Derived.Test.YtdblnbnofjggnaaGreatDoorM51
import Derived.Test.YtdblnbnofjggnaaGreatDoorM45
import Derived.Test.YtdblnbnofjggnaaGreatDoorM30
import Derived.Test.YtdblnbnofjggnaaGreatDoorM35
import Derived.Test.YtdblnbnofjggnaaGreatDoorM43
set_option maxHeartbeats 16000000
set_option maxRecDepth 100000
open Go
open Lib renaming hid → hd_
open List renaming mem_cons → mC
open List renaming not_mem_nil → nM
open List renaming mem_of_getElem? → mG
open Nat renaming le_refl → lR
namespace Go.Proofs.YtdblnbnofjggnaaGreatDoor
open Go.RowKit
theorem y7q (l:List UInt8) (hl:l.length ≤ 1000000) (v:Value) (w:World) (hb:z9c w.heap.size w l v) (hd:x5a l = none):Calls Tryz.prog 21 #[v] w (k1f (zP,10) w):=by
 have HZo:=hd_ y1g
 obtain ⟨ob,capb,rfl⟩:=hb.shape
 have hmf:∀ (fn:Fn) (first cap:Array Value) (w:World),(Instr.makeFunc fn first cap).run Tryz.prog w = .ok (.func fn first cap) w:=fun _ _ _ _=>rfl
 have hb0:Below w.heap.size w ((w.alloc ZI).alloc (.cells [Value.int .i64 0].toArray 44)):=(z5b (w:=w) ZI).alloc (z5b (w:=w) ZI).size _
 have hN0:CB ((w.alloc ZI).alloc (.cells [Value.int .i64 0].toArray 44)) w.heap.size 41 ZIc:=(z6a w ZI _ _ rfl).alloc _
 have hE0:CB ((w.alloc ZI).alloc (.cells [Value.int .i64 0].toArray 44)) (w.heap.size + 1) 44 [.int .i64 0]:=by
  have:=z6a (w.alloc ZI) (.cells [Value.int .i64 0].toArray 44) 44 _ rfl
  rwa [World.size_alloc] at this
 have HW:=hd_ (hb.ext hb0);have HB0:=hd_ hb0;have HN0:=hd_ hN0;have HE0:=hd_ hE0;have Hl:=hd_ hl;have HD:=hd_ hd
 obtain ⟨E,hE⟩:∃ E,w.heap.size + 1 = E:=⟨_,rfl⟩
 have Hne:Hid (w.heap.size ≠ E∧w.heap.size ≤ E):=hd_ (by omega)
 rw [hE] at HE0
 clear hb hb0 hN0 hE0 hl hd
 go_enter_defers Tryz.func21,Tryz.ntmps21
 go_upto_region 1 with fail
 change Code.wp _ _ _ _ ((w.alloc ZI).alloc (.cells [Value.int .i64 0].toArray 44))
 try rw [hE]
 generalize (w.alloc ZI).alloc (.cells [Value.int .i64 0].toArray 44) = w0 at *
 go_upto_region 2 with (go_at_call 55;refine (y0j w0.heap.size l Hl.out _ w0 HW.out (lR _)).mono ?_;rw [HD.out];go_loud (rintro e w1 ⟨rfl,hg⟩;have hbz:=z0a HB0.out (z0f hg);have HB1:=hd_ (z0a hbz (z5b (w:=w1) (.cells [.int .i64 0,.int .i64 0,.string ⟨#[]⟩,.slice none 0 0].toArray 80)));have HN1:=hd_ ((HN0.out.ext (z0f hg)).alloc (.cells [.int .i64 0,.int .i64 0,.string ⟨#[]⟩,.slice none 0 0].toArray 80));have HE1:=hd_ ((HE0.out.ext (z0f hg)).alloc (.cells [.int .i64 0,.int .i64 0,.string ⟨#[]⟩,.slice none 0 0].toArray 80));have x0:(w1.alloc (.cells [.int .i64 0,.int .i64 0,.string ⟨#[]⟩,.slice none 0 0].toArray 80)).cell? ⟨E,0,none⟩ = some (.int .i64 0):=HE1.out.cell 0;have xf:(w1.alloc (.cells [.int .i64 0,.int .i64 0,.string ⟨#[]⟩,.slice none 0 0].toArray 80)).frozen? ⟨E,0,none⟩ = false:=HE1.out.frozen 0;clear hg hbz))
 change Code.wp _ _ _ _ ((w1.alloc (.cells [.int .i64 0,.int .i64 0,.string ⟨#[]⟩,.slice none 0 0].toArray 80)).setCell ⟨E,0,none⟩ (.int .i64 10))
 have HN2:=hd_ (HN1.out.far (p:=⟨E,0,none⟩) Hne.out.1 (.int .i64 10))
 have HE2:Hid (CB ((w1.alloc (.cells [.int .i64 0,.int .i64 0,.string ⟨#[]⟩,.slice none 0 0].toArray 80)).setCell ⟨E,0,none⟩ (.int .i64 10)) E 44 [.int .i64 10]):=hd_ (HE1.out.set 0 (.int .i64 10))
 have HB2:=hd_ (HB1.out.setCell (p:=⟨E,0,none⟩) Hne.out.2 (.int .i64 10))
 have y2:((w1.alloc (.cells [.int .i64 0,.int .i64 0,.string ⟨#[]⟩,.slice none 0 0].toArray 80)).setCell ⟨E,0,none⟩ (.int .i64 10)).cell? ⟨E,0,none⟩ = some (.int .i64 10):=HE2.out.cell 0
 clear HN1 HE1 HB1 HN0 HE0 HB0 HW x0 xf hE
 generalize (w1.alloc (.cells [.int .i64 0,.int .i64 0,.string ⟨#[]⟩,.slice none 0 0].toArray 80)).setCell ⟨E,0,none⟩ (.int .i64 10) = w2 at *
 go_upto_region 3 with fail
 clear y2
 refine wp_region_noPanic ?_
 refine z9a (S:=fun w'=>CB w' w.heap.size 41 ZIc∧w'.cell? ⟨E,0,none⟩ = some (.int .i64 10)) (late:=fun _=>false) (by kernel_rfl) ⟨HN2.out.keep rfl,HE2.out.cell 0⟩ (fun hHeld=>?_)
 have HN3:Hid (CB w2.drew w.heap.size 41 ZIc):=HN2.out.keep rfl
 have HE3:Hid (CB w2.drew E 44 [.int .i64 10]):=HE2.out.keep rfl
 have HB3:Hid (Below w.heap.size w w2.drew):=HB2.out.drew
 clear HN2 HE2 HB2
 generalize w2.drew = w3 at *
 refine z9s (some 17) 0 rfl (.agg (ZIc).toArray) (yieldsIf_load_mid (by rfl) 41 _ rfl w.heap.size 0 rfl (ZIc) _ (fun wS hSw=>z1d hSw.1) Tryz.underlying41 rfl (by kernel_rfl)) ?_
 refine tkL (some 18) 1 ?_
 refine rdL 2 fun K hK=>?_
 refine z8c (by rfl) 41 (.tmp 2) (.tmp 17) rfl w.heap.size ZIc rfl rfl 41 ZIc HN3.out rfl (by kernel_rfl) HZo.out (fun w4 HC4 HG4 HS4=>?_)
 have HE4:=hd_ (HE3.out.keep (HG4.out.block _ HE3.out.lt (fun e=>Hne.out.1 (by injection e with e;exact e.symm))))
 have HB4:=hd_ (HB3.out.grown HG4.out HB3.out.size (fun k hk=>by injection hk with hk;omega))
 refine z8l hK ⟨HC4.out,HE4.out.cell 0⟩ fun hHeld=>?_
 clear hK K
 refine rdL 3 fun K hK=>?_
 have y0:w4.cell? ⟨E,0,none⟩ = some (.int .i64 10):=HE4.out.cell 0
 have yf:=HE4.out.frozen 0
 go_simp
 refine z8l hK ⟨HC4.out.keep (Below.heap_setCell w4 ⟨E,0,none⟩ _ _ Hne.out.1),(HE4.out.set 0 _).cell 0⟩ fun hHeld=>?_
 clear hK K
 refine z6b (by kernel_rfl) ?_ _
 refine NoPanic.normal ?_
 go_wp2_with fail
 exact x2i rfl rfl (HC4.out.keep (Below.heap_setCell w4 ⟨E,0,none⟩ _ _ Hne.out.1)) rfl (HE4.out.set 0 _) ⟨z1g,rfl,k9n _,HB4.out.setCell (p:=⟨E,0,none⟩) Hne.out.2 _⟩
theorem j0u.st {B N E:Nat} {x:V} {w w2 w3:World} {e:Ending} (hb:Below w.heap.size w w2) (hN:CB w2 N 41 ZIc) (hE:CB w2 E 44 [.int .i64 0]) (hB:B ≤ w2.heap.size) (hz:szs x.l ≤ 1000000) (h:j0u B x w2 e w3) :
 (∃ c,x.kind = 3∧e = .returned (.pointer (some ⟨c,0,none⟩))∧DSt w none B [(c,x.l)] [z5m N 41 ZIc,z5m E 44 [.int .i64 0]] w3)∨(¬ x.kind = 3∧e = .panicked y6g∧DFin w none [z5m N 41 ZIc,z5m E 44 [.int .i64 0]] w3):=by
 have ht:∀ t ∈ [z5m N 41 ZIc,z5m E 44 [.int .i64 0]],t.ok w2:=fun t ht=>by
  simp only [mC,nM,or_false] at ht
  rcases ht with rfl | rfl
  · exact hN
  · exact hE
 have h0:DSt w none B [] [z5m N 41 ZIc,z5m E 44 [.int .i64 0]] w2:=⟨z0d hb,hB,fun p hp=>absurd hp nM,fun p hp=>absurd hp nM,fun p hp=>absurd hp nM,List.nodup_nil,ht,fun t ht p hp=>absurd hp nM⟩
 unfold j0u at h
 by_cases hk:x.kind = 3
 · rw [if_pos hk] at h
   obtain ⟨g,h1,h2,h3,h4⟩:=h
   exact .inl ⟨g,hk,h1,h0.push h2 h4 h3 hz⟩
 · rw [if_neg hk] at h
   exact .inr ⟨hk,h.1,(h0.grow h.2).fin⟩
theorem y8q (l:List UInt8) (hl:l.length ≤ 1000000) (v:Value) (w:World) (x:V) (hsz0:sz x ≤ 60000) (hb:z9c w.heap.size w l v) (hd:x5a l = some x):Calls Tryz.prog 21 #[v] w (k1f (y9g z7x l) w):=by
 have HZo:=hd_ y1g
 have HszX:Hid (szs x.l ≤ 1000000):=hd_ (by
  have h2:=y9e x
  omega)
 have HWb:=hd_ hb
 have Hl4:Hid (sz x ≤ 60000):=hd_ hsz0
 clear hsz0
 obtain ⟨ob,capb,rfl⟩:=hb.shape
 have hmf:∀ (fn:Fn) (first cap:Array Value) (w:World),(Instr.makeFunc fn first cap).run Tryz.prog w = .ok (.func fn first cap) w:=fun _ _ _ _=>rfl
 have hb0:Below w.heap.size w ((w.alloc ZI).alloc (.cells [Value.int .i64 0].toArray 44)):=(z5b (w:=w) ZI).alloc (z5b (w:=w) ZI).size _
 have hN0:CB ((w.alloc ZI).alloc (.cells [Value.int .i64 0].toArray 44)) w.heap.size 41 ZIc:=(z6a w ZI _ _ rfl).alloc _
 have hE0:CB ((w.alloc ZI).alloc (.cells [Value.int .i64 0].toArray 44)) (w.heap.size + 1) 44 [.int .i64 0]:=by
  have:=z6a (w.alloc ZI) (.cells [Value.int .i64 0].toArray 44) 44 _ rfl
  rwa [World.size_alloc] at this
 have HW:=hd_ (hb.ext hb0);have HB0:=hd_ hb0;have HN0:=hd_ hN0;have HE0:=hd_ hE0;have Hl:=hd_ hl;have HD:=hd_ hd
 obtain ⟨E,hE⟩:∃ E,w.heap.size + 1 = E:=⟨_,rfl⟩
 have Hne:Hid (w.heap.size ≠ E∧w.heap.size ≤ E):=hd_ (by omega)
 rw [hE] at HE0
 have HEl:=hd_ HE0.out.lt
 clear hb hb0 hN0 hE0 hl hd
 go_enter_defers Tryz.func21,Tryz.ntmps21
 go_upto_region 1 with fail
 change Code.wp _ _ _ _ ((w.alloc ZI).alloc (.cells [Value.int .i64 0].toArray 44))
 try rw [hE]
 generalize (w.alloc ZI).alloc (.cells [Value.int .i64 0].toArray 44) = w0 at *
 go_upto_region 2 with (go_at_call 55;refine (y0j w0.heap.size l Hl.out _ w0 HW.out (lR _)).mono ?_;rw [HD.out];go_loud (rintro e w1 ⟨v9,rfl,⟨z1,z2,z3,lv,rfl,z4⟩,hg⟩;obtain ⟨oa,cap,rfl⟩:=z6n z4;have HRV:=hd_ (And.intro z1 (And.intro z2 z3));have HZ4:=hd_ z4;have HWw:=hd_ hg.size;clear z1 z2 z3 z4;have hbz:=z0a HB0.out (z0f hg);have HB1:=hd_ (z0a hbz (z5b (w:=w1) (.cells [.int .i64 x.kind,.int .i64 x.n,.string x.s,.slice oa x.l.length cap].toArray 80)));have HN1:=hd_ ((HN0.out.ext (z0f hg)).alloc (.cells [.int .i64 x.kind,.int .i64 x.n,.string x.s,.slice oa x.l.length cap].toArray 80));have HE1:=hd_ ((HE0.out.ext (z0f hg)).alloc (.cells [.int .i64 x.kind,.int .i64 x.n,.string x.s,.slice oa x.l.length cap].toArray 80));have x0:(w1.alloc (.cells [.int .i64 x.kind,.int .i64 x.n,.string x.s,.slice oa x.l.length cap].toArray 80)).cell? ⟨E,0,none⟩ = some (.int .i64 0):=HE1.out.cell 0;have xf:(w1.alloc (.cells [.int .i64 x.kind,.int .i64 x.n,.string x.s,.slice oa x.l.length cap].toArray 80)).frozen? ⟨E,0,none⟩ = false:=HE1.out.frozen 0;clear hg hbz))
 change Code.wp _ _ _ _ ((w1.alloc (.cells [.int .i64 x.kind,.int .i64 x.n,.string x.s,.slice oa x.l.length cap].toArray 80)).setCell ⟨E,0,none⟩ (.int .i64 0))
 have HE2:Hid (CB ((w1.alloc (.cells [.int .i64 x.kind,.int .i64 x.n,.string x.s,.slice oa x.l.length cap].toArray 80)).setCell ⟨E,0,none⟩ (.int .i64 0)) E 44 [.int .i64 0]):=hd_ (HE1.out.set 0 (.int .i64 0))
 have HN2:=hd_ (HN1.out.far (p:=⟨E,0,none⟩) Hne.out.1 (.int .i64 0))
 have HB2:=hd_ (HB1.out.setCell (p:=⟨E,0,none⟩) Hne.out.2 (.int .i64 0))
 have HEw:=hd_ (show E < w1.heap.size from Nat.lt_of_lt_of_le HEl.out HWw.out)
 have hV2:CB ((w1.alloc (.cells [.int .i64 x.kind,.int .i64 x.n,.string x.s,.slice oa x.l.length cap].toArray 80)).setCell ⟨E,0,none⟩ (.int .i64 0)) w1.heap.size 80 [.int .i64 x.kind,.int .i64 x.n,.string x.s,.slice oa x.l.length cap]:=(z6a w1 (.cells [.int .i64 x.kind,.int .i64 x.n,.string x.s,.slice oa x.l.length cap].toArray 80) _ _ rfl).far (p:=⟨E,0,none⟩) (by show w1.heap.size ≠ E;have:=HEw.out;omega) _
 have HSz:=hd_ (show w1.heap.size ≤ ((w1.alloc (.cells [.int .i64 x.kind,.int .i64 x.n,.string x.s,.slice oa x.l.length cap].toArray 80)).setCell ⟨E,0,none⟩ (.int .i64 0)).heap.size from Nat.le_of_lt hV2.lt)
 have HR2:Hid (x0x (fun j=>j < w1.heap.size) ((w1.alloc (.cells [.int .i64 x.kind,.int .i64 x.n,.string x.s,.slice oa x.l.length cap].toArray 80)).setCell ⟨E,0,none⟩ (.int .i64 0)) x (.agg [.int .i64 x.kind,.int .i64 x.n,.string x.s,.slice oa x.l.length cap].toArray)):=⟨HRV.out.1,HRV.out.2.1,HRV.out.2.2,_,rfl,HZ4.out.keep (fun k hk=>hk.2) (fun j hj=>(Below.heap_setCell _ ⟨E,0,none⟩ _ j (by show j ≠ E;have:=HEl.out;omega)).trans (Below.heap_alloc w1 _ j hj.2))⟩
 have y0:((w1.alloc (.cells [.int .i64 x.kind,.int .i64 x.n,.string x.s,.slice oa x.l.length cap].toArray 80)).setCell ⟨E,0,none⟩ (.int .i64 0)).cell? ⟨E,0,none⟩ = some (.int .i64 0):=HE2.out.cell 0
 have c0:((w1.alloc (.cells [.int .i64 x.kind,.int .i64 x.n,.string x.s,.slice oa x.l.length cap].toArray 80)).setCell ⟨E,0,none⟩ (.int .i64 0)).cell? ⟨w1.heap.size,0,none⟩ = some (.int .i64 x.kind):=hV2.cell 0
 have c1:((w1.alloc (.cells [.int .i64 x.kind,.int .i64 x.n,.string x.s,.slice oa x.l.length cap].toArray 80)).setCell ⟨E,0,none⟩ (.int .i64 0)).cell? ⟨w1.heap.size,1,none⟩ = some (.int .i64 x.n):=hV2.cell 1
 have c2:((w1.alloc (.cells [.int .i64 x.kind,.int .i64 x.n,.string x.s,.slice oa x.l.length cap].toArray 80)).setCell ⟨E,0,none⟩ (.int .i64 0)).cell? ⟨w1.heap.size,2,none⟩ = some (.string x.s):=hV2.cell 2
 have c3:((w1.alloc (.cells [.int .i64 x.kind,.int .i64 x.n,.string x.s,.slice oa x.l.length cap].toArray 80)).setCell ⟨E,0,none⟩ (.int .i64 0)).cell? ⟨w1.heap.size,3,none⟩ = some (.slice oa x.l.length cap):=hV2.cell 3
 clear HN1 HE1 HB1 HN0 HE0 HB0 HW x0 xf hE hV2 HRV HZ4
 generalize ((w1.alloc (.cells [.int .i64 x.kind,.int .i64 x.n,.string x.s,.slice oa x.l.length cap].toArray 80)).setCell ⟨E,0,none⟩ (.int .i64 0)) = w2 at *
 generalize w1.heap.size = B at *
 go_upto_region 6 with (go_at_call 57;refine (x8m B x _ w2 HR2.out HSz.out).mono ?_;go_loud (intro e w3 ho;have ho:=j0u.st HB2.out HN2.out HE2.out HSz.out HszX.out ho;rcases ho with ⟨c,hk,rfl,hs⟩ | ⟨hk,rfl,hf⟩);rotate_left;(have hbadk:=hd_ hk);rotate_left;(have HK3:=hd_ hk;have H0:=hd_ hs;have HDF:=HD;clear hk hs))
 all_goals (try (exact y5q rfl rfl (hf.thg (z5m w.heap.size 41 ZIc) (mG (i:=0) rfl)) (hf.thg (z5m E 44 [.int .i64 0]) (mG (i:=1) rfl)) Hne.out.1 (fun w'' hc=>y6q (y2g HD.out (by unfold z7x;rw [if_neg hbadk.out])) hf.gr (lR _) Hne.out.2 hc)))
 clear HE2 HN2 HB2 HSz HR2 y0 c0 c1 c2 c3 HD
 have hd0:j4d x.l = j4d x.l:=rfl
 conv at hd0=>rhs;unfold j4d
 have HD0:=hd_ hd0
 clear hd0
 clear HEl HEw HWw HszX
 go_upto_region 7 with (first
  | (have _g:=H0.out;go_at_call 58;refine lsK (H0.out) HD0 (fun q1 p1 r1 u1 HD1 H1=>?_) fun _ hbad hf=>?_;clear H0 HD0))
 all_goals (try exact x0b hf Hne HDF HK3 hbad)
 go_upto_region 8 with (first
  | (have _g:=H1.out;go_at_call 59;refine rdK (H1.out.num) HD1 (fun q2 r2 u2 HD2 H2=>?_) fun _ hbad hf=>?_;clear H1 HD1)
  | (have _g:=H2.out;go_at_call 59;refine rdK (H2.out.num) HD2 (fun q3 r3 u3 HD3 H3=>?_) fun _ hbad hf=>?_;clear H2 HD2)
  | (have _g:=H3.out;go_at_call 59;refine rdK (H3.out.num) HD3 (fun q4 r4 u4 HD4 H4=>?_) fun _ hbad hf=>?_;clear H3 HD3)
  | (have _g:=H4.out;go_at_call 59;refine rdK (H4.out.drop.num) HD4 (fun q5 r5 u5 HD5 H5=>?_) fun _ hbad hf=>?_;clear H4 HD4)
  | (have _g:=H5.out;go_at_call 60;refine rdK (H5.out.txt) HD5 (fun q6 r6 u6 HD6 H6=>?_) fun _ hbad hf=>?_;clear H5 HD5;have hzb:=z5b (w:=u6) ZI;have H0x:=hd_ ((H6.out.grow hzb).add (z5m u6.heap.size 41 ZIc) (z6a u6 ZI _ _ rfl) (fun p hp e=>by have:=(H6.out.cur p hp).lt';have:p.1 = u6.heap.size:=e;omega));have HXl:=hd_ (show w.heap.size ≤ u6.heap.size∧B ≤ u6.heap.size∧(∀ t ∈ [z5m w.heap.size 41 ZIc,z5m E 44 [.int .i64 0]],¬ t.blk u6.heap.size) from ⟨H6.out.gr.size,H6.out.hB,fun t ht hk=>by have:=t.lt (H6.out.thg t ht) _ hk;omega⟩);clear hzb H6)
  | (have _g:=H0x.out;refine z7c (by rfl) 41 #[(0,.tmp 30),(1,.tmp 32),(2,.tmp 34)] rfl [.int .i64 q2,.int .i64 q3,.int .i64 q4,.int .i64 q5,.string q6,.int .i64 0,.int .i64 0,.int .i64 0,.string ByteArray.empty,.slice none 0 0,.int .i64 0,.int .i64 0,.bool false,.slice none 0 0,.int .i64 0,.int .i64 0,.slice none 0 0,.int .i64 0,.int .i64 0,.int .i64 0,.int .i64 0,.string ByteArray.empty,.int .i64 0,.int .i64 0,.int .i64 0,.bool false,.int .i64 0,.slice none 0 0,.int .i64 0,.int .i64 0,.int .i64 0,.int .i64 0] [(0,.agg #[.int .i64 q2,.int .i64 q3,.int .i64 q4]),(1,.int .i64 q5),(2,.string q6)] rfl (by kernel_rfl) ?_)
  | (have _g:=H0x.out;refine z4a rfl 41 (.tmp 7) (.tmp 35) rfl u6.heap.size [.int .i64 q2,.int .i64 q3,.int .i64 q4,.int .i64 q5,.string q6,.int .i64 0,.int .i64 0,.int .i64 0,.string ByteArray.empty,.slice none 0 0,.int .i64 0,.int .i64 0,.bool false,.slice none 0 0,.int .i64 0,.int .i64 0,.slice none 0 0,.int .i64 0,.int .i64 0,.int .i64 0,.int .i64 0,.string ByteArray.empty,.int .i64 0,.int .i64 0,.int .i64 0,.bool false,.int .i64 0,.slice none 0 0,.int .i64 0,.int .i64 0,.int .i64 0,.int .i64 0] rfl rfl 41 ZIc (H0x.out.thg _ List.mem_cons_self) rfl (by kernel_rfl) (by intro u hu;simp only [mC,nM,or_false] at hu;rcases hu with rfl | rfl | rfl | rfl | rfl | rfl | rfl | rfl | rfl | rfl | rfl | rfl | rfl | rfl | rfl | rfl | rfl | rfl | rfl | rfl | rfl | rfl | rfl | rfl | rfl | rfl | rfl | rfl | rfl | rfl | rfl | rfl <;> rfl) (fun w6 HC6 HG6 HS6=>?_);have hx:=DX.set (yc:=[.int .i64 q2,.int .i64 q3,.int .i64 q4,.int .i64 q5,.string q6,.int .i64 0,.int .i64 0,.int .i64 0,.string ByteArray.empty,.slice none 0 0,.int .i64 0,.int .i64 0,.bool false,.slice none 0 0,.int .i64 0,.int .i64 0,.slice none 0 0,.int .i64 0,.int .i64 0,.int .i64 0,.int .i64 0,.string ByteArray.empty,.int .i64 0,.int .i64 0,.int .i64 0,.bool false,.int .i64 0,.slice none 0 0,.int .i64 0,.int .i64 0,.int .i64 0,.int .i64 0]) (DX.mk H0x.out HXl.out.2.2 HXl.out.1 HXl.out.2.1) HG6.out HC6.out;have H6:=hd_ hx;clear hx H0x HC6 HG6 HS6))
 all_goals (try exact x0b hf Hne HDF HK3 hbad)
 generalize u6.heap.size = X at *
 go_upto_region 9 with (first
  | (have _g:=H6.out;go_at_call 58;refine lsX H6 (fun h=>h) HD6 (fun q7 p7 r7 u7 HD7 H7=>?_) fun _ hbad hf=>?_;clear H6 HD6))
 all_goals (try exact x0b hf Hne HDF HK3 hbad)
 go_upto_region 10 with (first
  | (have _g:=H7.out;go_at_call 59;refine rdX H7 (H7.out.d.num) HD7 (fun q8 r8 u8 HD8 H8=>?_) fun _ hbad hf=>?_;clear H7 HD7)
  | (have _g:=H8.out;go_at_call 59;refine rdX H8 (H8.out.d.num) HD8 (fun q9 r9 u9 HD9 H9=>?_) fun _ hbad hf=>?_;clear H8 HD8)
  | (have _g:=H9.out;go_at_call 59;refine rdX H9 (H9.out.d.num) HD9 (fun q10 r10 u10 HD10 H10=>?_) fun _ hbad hf=>?_;clear H9 HD9)
  | (have _g:=H10.out;go_at_call 60;refine rdX H10 (H10.out.d.txt) HD10 (fun q11 r11 u11 HD11 H11=>?_) fun _ hbad hf=>?_;clear H10 HD10)
  | (have _g:=H11.out;go_at_call 61;refine (H11.out.d.nss).mono ?_;rintro e u12 (⟨q12,r12,oa12,cap12,hN,rfl,hs,hb⟩ | ⟨hN,rfl,hf⟩);rotate_left;(have hbad:=hd_ (HD11.out.trans (z0l hN));clear H11);rotate_left;have HD12:=hd_ (HD11.out.trans (z9k hN));have H12:=hd_ (H11.out.own hs hb);clear hN hs hb H11 HD11)
  | (have _g:=H12.out;go_at_call 62;refine rdX H12 (H12.out.d.spn) HD12 (fun q13 r13 u13 HD13 H13=>?_) fun _ hbad hf=>?_;clear H12 HD12;obtain ⟨q13a,q13b⟩:=q13)
  | (have _g:=H13.out;go_at_call 63;refine rdX H13 (H13.out.d.flg) HD13 (fun q14 r14 u14 HD14 H14=>?_) fun _ hbad hf=>?_;clear H13 HD13)
  | (have _g:=H14.out;refine z7c (by rfl) 28 #[(0,.tmp 39),(1,.tmp 41),(2,.tmp 43),(3,.tmp 45),(4,.tmp 47),(5,.tmp 49),(6,.tmp 51)] rfl [.int .i64 q8,.int .i64 q9,.int .i64 q10,.string q11,.slice oa12 q12.length cap12,.int .i64 q13a,.int .i64 q13b,.bool q14] [(0,.int .i64 q8),(1,.int .i64 q9),(2,.int .i64 q10),(3,.string q11),(4,.slice oa12 q12.length cap12),(5,.agg #[.int .i64 q13a,.int .i64 q13b]),(6,.bool q14)] rfl (by kernel_rfl) ?_)
  | (have _g:=H14.out;refine z0b rfl 28 (.tmp 53) (.tmp 52) rfl X 5 [.int .i64 q8,.int .i64 q9,.int .i64 q10,.string q11,.slice oa12 q12.length cap12,.int .i64 q13a,.int .i64 q13b,.bool q14] rfl rfl 41 [.int .i64 q2,.int .i64 q3,.int .i64 q4,.int .i64 q5,.string q6,.int .i64 0,.int .i64 0,.int .i64 0,.string ByteArray.empty,.slice none 0 0,.int .i64 0,.int .i64 0,.bool false,.slice none 0 0,.int .i64 0,.int .i64 0,.slice none 0 0,.int .i64 0,.int .i64 0,.int .i64 0,.int .i64 0,.string ByteArray.empty,.int .i64 0,.int .i64 0,.int .i64 0,.bool false,.int .i64 0,.slice none 0 0,.int .i64 0,.int .i64 0,.int .i64 0,.int .i64 0] H14.out.box (Nat.le_of_ble_eq_true rfl) (by kernel_rfl) (by intro u hu;simp only [mC,nM,or_false] at hu;rcases hu with rfl | rfl | rfl | rfl | rfl | rfl | rfl | rfl <;> rfl) (fun w6 HC6 HG6=>?_);have hx:=DX.set (yc:=[.int .i64 q2,.int .i64 q3,.int .i64 q4,.int .i64 q5,.string q6,.int .i64 q8,.int .i64 q9,.int .i64 q10,.string q11,.slice oa12 q12.length cap12,.int .i64 q13a,.int .i64 q13b,.bool q14,.slice none 0 0,.int .i64 0,.int .i64 0,.slice none 0 0,.int .i64 0,.int .i64 0,.int .i64 0,.int .i64 0,.string ByteArray.empty,.int .i64 0,.int .i64 0,.int .i64 0,.bool false,.int .i64 0,.slice none 0 0,.int .i64 0,.int .i64 0,.int .i64 0,.int .i64 0]) H14.out HG6.out HC6.out;clear H14 HC6 HG6;have H14:=hd_ hx;clear hx))
 all_goals (try exact x0b hf Hne HDF HK3 hbad)
 go_upto_region 11 with (first
  | (have _g:=H14.out;go_at_call 64;refine (H14.out.d.drop.tre).mono ?_;rintro e u15 (⟨q15,r15,oa15,cap15,rl15,hN,rfl,hs,hb⟩ | ⟨hN,rfl,hf⟩);rotate_left;(have hbad:=hd_ (HD14.out.trans (z0l hN));clear H14);rotate_left;have HD15:=hd_ (HD14.out.trans (z9k hN));have H15:=hd_ (H14.out.own hs hb);clear hN hs hb H14 HD14;have xo:u15.cell? ⟨X,13,none⟩ = some (.slice none 0 0):=H15.out.box.cell 13;have xf:u15.frozen? ⟨X,13,none⟩ = false:=H15.out.box.frozen 13))
 all_goals (try exact x0b hf Hne HDF HK3 hbad)
 change Code.wp _ _ _ _ (u15.setCell ⟨X,13,none⟩ (.slice oa15 q15.length cap15))
 have hx:=DX.set (yc:=[.int .i64 q2,.int .i64 q3,.int .i64 q4,.int .i64 q5,.string q6,.int .i64 q8,.int .i64 q9,.int .i64 q10,.string q11,.slice oa12 q12.length cap12,.int .i64 q13a,.int .i64 q13b,.bool q14,.slice oa15 q15.length cap15,.int .i64 0,.int .i64 0,.slice none 0 0,.int .i64 0,.int .i64 0,.int .i64 0,.int .i64 0,.string ByteArray.empty,.int .i64 0,.int .i64 0,.int .i64 0,.bool false,.int .i64 0,.slice none 0 0,.int .i64 0,.int .i64 0,.int .i64 0,.int .i64 0]) H15.out (z8b u15 X 13 (.slice oa15 q15.length cap15)) (H15.out.box.set 13 (.slice oa15 q15.length cap15))
 clear H15 xo xf
 have H15:=hd_ hx
 clear hx
 generalize u15.setCell ⟨X,13,none⟩ (.slice oa15 q15.length cap15) = us15 at *
 go_upto_region 12 with (first
  | (have _g:=H15.out;go_at_call 58;refine lsX H15 (fun h=>h) HD15 (fun q16 p16 r16 u16 HD16 H16=>?_) fun _ hbad hf=>?_;clear H15 HD15))
 all_goals (try exact x0b hf Hne HDF HK3 hbad)
 go_upto_region 13 with (first
  | (have _g:=H16.out;go_at_call 59;refine rdX H16 (H16.out.d.num) HD16 (fun q17 r17 u17 HD17 H17=>?_) fun _ hbad hf=>?_;clear H16 HD16)
  | (have _g:=H17.out;go_at_call 59;refine rdX H17 (H17.out.d.num) HD17 (fun q18 r18 u18 HD18 H18=>?_) fun _ hbad hf=>?_;clear H17 HD17)
  | (have _g:=H18.out;go_at_call 61;refine (H18.out.d.nss).mono ?_;rintro e u19 (⟨q19,r19,oa19,cap19,hN,rfl,hs,hb⟩ | ⟨hN,rfl,hf⟩);rotate_left;(have hbad:=hd_ (HD18.out.trans (z0l hN));clear H18);rotate_left;have HD19:=hd_ (HD18.out.trans (z9k hN));have H19:=hd_ (H18.out.own hs hb);clear hN hs hb H18 HD18)
  | (have _g:=H19.out;refine z7c (by rfl) 31 #[(0,.tmp 60),(1,.tmp 62),(2,.tmp 64)] rfl [.int .i64 q17,.int .i64 q18,.slice oa19 q19.length cap19] [(0,.int .i64 q17),(1,.int .i64 q18),(2,.slice oa19 q19.length cap19)] rfl (by kernel_rfl) ?_)
  | (have _g:=H19.out;refine z0b rfl 31 (.tmp 66) (.tmp 65) rfl X 14 [.int .i64 q17,.int .i64 q18,.slice oa19 q19.length cap19] rfl rfl 41 [.int .i64 q2,.int .i64 q3,.int .i64 q4,.int .i64 q5,.string q6,.int .i64 q8,.int .i64 q9,.int .i64 q10,.string q11,.slice oa12 q12.length cap12,.int .i64 q13a,.int .i64 q13b,.bool q14,.slice oa15 q15.length cap15,.int .i64 0,.int .i64 0,.slice none 0 0,.int .i64 0,.int .i64 0,.int .i64 0,.int .i64 0,.string ByteArray.empty,.int .i64 0,.int .i64 0,.int .i64 0,.bool false,.int .i64 0,.slice none 0 0,.int .i64 0,.int .i64 0,.int .i64 0,.int .i64 0] H19.out.box (Nat.le_of_ble_eq_true rfl) (by kernel_rfl) (by intro u hu;simp only [mC,nM,or_false] at hu;rcases hu with rfl | rfl | rfl <;> rfl) (fun w6 HC6 HG6=>?_);have hx:=DX.set (yc:=[.int .i64 q2,.int .i64 q3,.int .i64 q4,.int .i64 q5,.string q6,.int .i64 q8,.int .i64 q9,.int .i64 q10,.string q11,.slice oa12 q12.length cap12,.int .i64 q13a,.int .i64 q13b,.bool q14,.slice oa15 q15.length cap15,.int .i64 q17,.int .i64 q18,.slice oa19 q19.length cap19,.int .i64 0,.int .i64 0,.int .i64 0,.int .i64 0,.string ByteArray.empty,.int .i64 0,.int .i64 0,.int .i64 0,.bool false,.int .i64 0,.slice none 0 0,.int .i64 0,.int .i64 0,.int .i64 0,.int .i64 0]) H19.out HG6.out HC6.out;clear H19 HC6 HG6;have H19:=hd_ hx;clear hx))
 all_goals (try exact x0b hf Hne HDF HK3 hbad)
 go_upto_region 14 with (first
  | (have _g:=H19.out;go_at_call 58;refine lsX H19 (fun h=>h.drop) HD19 (fun q20 p20 r20 u20 HD20 H20=>?_) fun _ hbad hf=>?_;clear H19 HD19))
 all_goals (try exact x0b hf Hne HDF HK3 hbad)
 go_upto_region 15 with (first
  | (have _g:=H20.out;go_at_call 59;refine rdX H20 (H20.out.d.num) HD20 (fun q21 r21 u21 HD21 H21=>?_) fun _ hbad hf=>?_;clear H20 HD20)
  | (have _g:=H21.out;go_at_call 59;refine rdX H21 (H21.out.d.num) HD21 (fun q22 r22 u22 HD22 H22=>?_) fun _ hbad hf=>?_;clear H21 HD21)
  | (have _g:=H22.out;go_at_call 59;refine rdX H22 (H22.out.d.num) HD22 (fun q23 r23 u23 HD23 H23=>?_) fun _ hbad hf=>?_;clear H22 HD22)
  | (have _g:=H23.out;go_at_call 59;refine rdX H23 (H23.out.d.num) HD23 (fun q24 r24 u24 HD24 H24=>?_) fun _ hbad hf=>?_;clear H23 HD23)
  | (have _g:=H24.out;go_at_call 60;refine rdX H24 (H24.out.d.txt) HD24 (fun q25 r25 u25 HD25 H25=>?_) fun _ hbad hf=>?_;clear H24 HD24)
  | (have _g:=H25.out;go_at_call 59;refine rdX H25 (H25.out.d.num) HD25 (fun q26 r26 u26 HD26 H26=>?_) fun _ hbad hf=>?_;clear H25 HD25)
  | (have _g:=H26.out;refine z7c (by rfl) 33 #[(0,.tmp 70),(1,.tmp 72),(2,.tmp 74),(3,.tmp 76),(4,.tmp 78),(5,.tmp 80)] rfl [.int .i64 q21,.int .i64 q22,.int .i64 q23,.int .i64 q24,.string q25,.int .i64 q26] [(0,.int .i64 q21),(1,.int .i64 q22),(2,.int .i64 q23),(3,.int .i64 q24),(4,.string q25),(5,.int .i64 q26)] rfl (by kernel_rfl) ?_)
  | (have _g:=H26.out;refine z0b rfl 33 (.tmp 82) (.tmp 81) rfl X 17 [.int .i64 q21,.int .i64 q22,.int .i64 q23,.int .i64 q24,.string q25,.int .i64 q26] rfl rfl 41 [.int .i64 q2,.int .i64 q3,.int .i64 q4,.int .i64 q5,.string q6,.int .i64 q8,.int .i64 q9,.int .i64 q10,.string q11,.slice oa12 q12.length cap12,.int .i64 q13a,.int .i64 q13b,.bool q14,.slice oa15 q15.length cap15,.int .i64 q17,.int .i64 q18,.slice oa19 q19.length cap19,.int .i64 0,.int .i64 0,.int .i64 0,.int .i64 0,.string ByteArray.empty,.int .i64 0,.int .i64 0,.int .i64 0,.bool false,.int .i64 0,.slice none 0 0,.int .i64 0,.int .i64 0,.int .i64 0,.int .i64 0] H26.out.box (Nat.le_of_ble_eq_true rfl) (by kernel_rfl) (by intro u hu;simp only [mC,nM,or_false] at hu;rcases hu with rfl | rfl | rfl | rfl | rfl | rfl <;> rfl) (fun w6 HC6 HG6=>?_);have hx:=DX.set (yc:=[.int .i64 q2,.int .i64 q3,.int .i64 q4,.int .i64 q5,.string q6,.int .i64 q8,.int .i64 q9,.int .i64 q10,.string q11,.slice oa12 q12.length cap12,.int .i64 q13a,.int .i64 q13b,.bool q14,.slice oa15 q15.length cap15,.int .i64 q17,.int .i64 q18,.slice oa19 q19.length cap19,.int .i64 q21,.int .i64 q22,.int .i64 q23,.int .i64 q24,.string q25,.int .i64 q26,.int .i64 0,.int .i64 0,.bool false,.int .i64 0,.slice none 0 0,.int .i64 0,.int .i64 0,.int .i64 0,.int .i64 0]) H26.out HG6.out HC6.out;clear H26 HC6 HG6;have H26:=hd_ hx;clear hx))
 all_goals (try exact x0b hf Hne HDF HK3 hbad)
 go_upto_region 16 with (first
  | (have _g:=H26.out;go_at_call 58;refine lsX H26 (fun h=>h.drop) HD26 (fun q27 p27 r27 u27 HD27 H27=>?_) fun _ hbad hf=>?_;clear H26 HD26))
 all_goals (try exact x0b hf Hne HDF HK3 hbad)
 go_upto_region 17 with (first
  | (have _g:=H27.out;go_at_call 59;refine rdX H27 (H27.out.d.num) HD27 (fun q28 r28 u28 HD28 H28=>?_) fun _ hbad hf=>?_;clear H27 HD27)
  | (have _g:=H28.out;go_at_call 59;refine rdX H28 (H28.out.d.num) HD28 (fun q29 r29 u29 HD29 H29=>?_) fun _ hbad hf=>?_;clear H28 HD28)
  | (have _g:=H29.out;go_at_call 63;refine rdX H29 (H29.out.d.flg) HD29 (fun q30 r30 u30 HD30 H30=>?_) fun _ hbad hf=>?_;clear H29 HD29)
  | (have _g:=H30.out;refine z7c (by rfl) 35 #[(0,.tmp 86),(1,.tmp 88),(2,.tmp 90)] rfl [.int .i64 q28,.int .i64 q29,.bool q30] [(0,.int .i64 q28),(1,.int .i64 q29),(2,.bool q30)] rfl (by kernel_rfl) ?_)
  | (have _g:=H30.out;refine z0b rfl 35 (.tmp 92) (.tmp 91) rfl X 23 [.int .i64 q28,.int .i64 q29,.bool q30] rfl rfl 41 [.int .i64 q2,.int .i64 q3,.int .i64 q4,.int .i64 q5,.string q6,.int .i64 q8,.int .i64 q9,.int .i64 q10,.string q11,.slice oa12 q12.length cap12,.int .i64 q13a,.int .i64 q13b,.bool q14,.slice oa15 q15.length cap15,.int .i64 q17,.int .i64 q18,.slice oa19 q19.length cap19,.int .i64 q21,.int .i64 q22,.int .i64 q23,.int .i64 q24,.string q25,.int .i64 q26,.int .i64 0,.int .i64 0,.bool false,.int .i64 0,.slice none 0 0,.int .i64 0,.int .i64 0,.int .i64 0,.int .i64 0] H30.out.box (Nat.le_of_ble_eq_true rfl) (by kernel_rfl) (by intro u hu;simp only [mC,nM,or_false] at hu;rcases hu with rfl | rfl | rfl <;> rfl) (fun w6 HC6 HG6=>?_);have hx:=DX.set (yc:=[.int .i64 q2,.int .i64 q3,.int .i64 q4,.int .i64 q5,.string q6,.int .i64 q8,.int .i64 q9,.int .i64 q10,.string q11,.slice oa12 q12.length cap12,.int .i64 q13a,.int .i64 q13b,.bool q14,.slice oa15 q15.length cap15,.int .i64 q17,.int .i64 q18,.slice oa19 q19.length cap19,.int .i64 q21,.int .i64 q22,.int .i64 q23,.int .i64 q24,.string q25,.int .i64 q26,.int .i64 q28,.int .i64 q29,.bool q30,.int .i64 0,.slice none 0 0,.int .i64 0,.int .i64 0,.int .i64 0,.int .i64 0]) H30.out HG6.out HC6.out;clear H30 HC6 HG6;have H30:=hd_ hx;clear hx))
 all_goals (try exact x0b hf Hne HDF HK3 hbad)
 go_upto_region 18 with (first
  | (have _g:=H30.out;go_at_call 59;refine rdX H30 (H30.out.d.drop.num) HD30 (fun q31 r31 u31 HD31 H31=>?_) fun _ hbad hf=>?_;clear H30 HD30;have xo:u31.cell? ⟨X,26,none⟩ = some (.int .i64 0):=H31.out.box.cell 26;have xf:u31.frozen? ⟨X,26,none⟩ = false:=H31.out.box.frozen 26))
 all_goals (try exact x0b hf Hne HDF HK3 hbad)
 change Code.wp _ _ _ _ (u31.setCell ⟨X,26,none⟩ (.int .i64 q31))
 have hx:=DX.set (yc:=[.int .i64 q2,.int .i64 q3,.int .i64 q4,.int .i64 q5,.string q6,.int .i64 q8,.int .i64 q9,.int .i64 q10,.string q11,.slice oa12 q12.length cap12,.int .i64 q13a,.int .i64 q13b,.bool q14,.slice oa15 q15.length cap15,.int .i64 q17,.int .i64 q18,.slice oa19 q19.length cap19,.int .i64 q21,.int .i64 q22,.int .i64 q23,.int .i64 q24,.string q25,.int .i64 q26,.int .i64 q28,.int .i64 q29,.bool q30,.int .i64 q31,.slice none 0 0,.int .i64 0,.int .i64 0,.int .i64 0,.int .i64 0]) H31.out (z8b u31 X 26 (.int .i64 q31)) (H31.out.box.set 26 (.int .i64 q31))
 clear H31 xo xf
 have H31:=hd_ hx
 clear hx
 generalize u31.setCell ⟨X,26,none⟩ (.int .i64 q31) = us31 at *
 go_upto_region 19 with (first
  | (have _g:=H31.out;go_at_call 58;refine lsX H31 (fun h=>h) HD31 (fun q32 p32 r32 u32 HD32 H32=>?_) fun _ hbad hf=>?_;clear H31 HD31))
 all_goals (try exact x0b hf Hne HDF HK3 hbad)
 go_upto_region 20 with (first
  | (have _g:=H32.out;go_at_call 61;refine (H32.out.d.nss).mono ?_;rintro e u33 (⟨q33,r33,oa33,cap33,hN,rfl,hs,hb⟩ | ⟨hN,rfl,hf⟩);rotate_left;(have hbad:=hd_ (HD32.out.trans (z0l hN));clear H32);rotate_left;have HD33:=hd_ (HD32.out.trans (z9k hN));have H33:=hd_ (H32.out.own hs hb);clear hN hs hb H32 HD32)
  | (have _g:=H33.out;go_at_call 59;refine rdX H33 (H33.out.d.num) HD33 (fun q34 r34 u34 HD34 H34=>?_) fun _ hbad hf=>?_;clear H33 HD33)
  | (have _g:=H34.out;go_at_call 59;refine rdX H34 (H34.out.d.num) HD34 (fun q35 r35 u35 HD35 H35=>?_) fun _ hbad hf=>?_;clear H34 HD34)
  | (have _g:=H35.out;refine z7c (by rfl) 37 #[(0,.tmp 99),(1,.tmp 101),(2,.tmp 103)] rfl [.slice oa33 q33.length cap33,.int .i64 q34,.int .i64 q35] [(0,.slice oa33 q33.length cap33),(1,.int .i64 q34),(2,.int .i64 q35)] rfl (by kernel_rfl) ?_)
  | (have _g:=H35.out;refine z0b rfl 37 (.tmp 105) (.tmp 104) rfl X 27 [.slice oa33 q33.length cap33,.int .i64 q34,.int .i64 q35] rfl rfl 41 [.int .i64 q2,.int .i64 q3,.int .i64 q4,.int .i64 q5,.string q6,.int .i64 q8,.int .i64 q9,.int .i64 q10,.string q11,.slice oa12 q12.length cap12,.int .i64 q13a,.int .i64 q13b,.bool q14,.slice oa15 q15.length cap15,.int .i64 q17,.int .i64 q18,.slice oa19 q19.length cap19,.int .i64 q21,.int .i64 q22,.int .i64 q23,.int .i64 q24,.string q25,.int .i64 q26,.int .i64 q28,.int .i64 q29,.bool q30,.int .i64 q31,.slice none 0 0,.int .i64 0,.int .i64 0,.int .i64 0,.int .i64 0] H35.out.box (Nat.le_of_ble_eq_true rfl) (by kernel_rfl) (by intro u hu;simp only [mC,nM,or_false] at hu;rcases hu with rfl | rfl | rfl <;> rfl) (fun w6 HC6 HG6=>?_);have hx:=DX.set (yc:=[.int .i64 q2,.int .i64 q3,.int .i64 q4,.int .i64 q5,.string q6,.int .i64 q8,.int .i64 q9,.int .i64 q10,.string q11,.slice oa12 q12.length cap12,.int .i64 q13a,.int .i64 q13b,.bool q14,.slice oa15 q15.length cap15,.int .i64 q17,.int .i64 q18,.slice oa19 q19.length cap19,.int .i64 q21,.int .i64 q22,.int .i64 q23,.int .i64 q24,.string q25,.int .i64 q26,.int .i64 q28,.int .i64 q29,.bool q30,.int .i64 q31,.slice oa33 q33.length cap33,.int .i64 q34,.int .i64 q35,.int .i64 0,.int .i64 0]) H35.out HG6.out HC6.out;clear H35 HC6 HG6;have H35:=hd_ hx;clear hx))
 all_goals (try exact x0b hf Hne HDF HK3 hbad)
 go_upto_region 21 with (first
  | (have _g:=H35.out;go_at_call 58;refine lsX H35 (fun h=>h.drop) HD35 (fun q36 p36 r36 u36 HD36 H36=>?_) fun _ hbad hf=>?_;clear H35 HD35))
 all_goals (try exact x0b hf Hne HDF HK3 hbad)
 go_upto_region 22 with (first
  | (have _g:=H36.out;go_at_call 59;refine rdX H36 (H36.out.d.num) HD36 (fun q37 r37 u37 HD37 H37=>?_) fun _ hbad hf=>?_;clear H36 HD36)
  | (have _g:=H37.out;go_at_call 59;refine rdX H37 (H37.out.d.num) HD37 (fun q38 r38 u38 HD38 H38=>?_) fun _ hbad hf=>?_;clear H37 HD37)
  | (have _g:=H38.out;refine z7c (by rfl) 39 #[(0,.tmp 109),(1,.tmp 111)] rfl [.int .i64 q37,.int .i64 q38] [(0,.int .i64 q37),(1,.int .i64 q38)] rfl (by kernel_rfl) ?_)
  | (have _g:=H38.out;refine z0b rfl 39 (.tmp 113) (.tmp 112) rfl X 30 [.int .i64 q37,.int .i64 q38] rfl rfl 41 [.int .i64 q2,.int .i64 q3,.int .i64 q4,.int .i64 q5,.string q6,.int .i64 q8,.int .i64 q9,.int .i64 q10,.string q11,.slice oa12 q12.length cap12,.int .i64 q13a,.int .i64 q13b,.bool q14,.slice oa15 q15.length cap15,.int .i64 q17,.int .i64 q18,.slice oa19 q19.length cap19,.int .i64 q21,.int .i64 q22,.int .i64 q23,.int .i64 q24,.string q25,.int .i64 q26,.int .i64 q28,.int .i64 q29,.bool q30,.int .i64 q31,.slice oa33 q33.length cap33,.int .i64 q34,.int .i64 q35,.int .i64 0,.int .i64 0] H38.out.box (Nat.le_of_ble_eq_true rfl) (by kernel_rfl) (by intro u hu;simp only [mC,nM,or_false] at hu;rcases hu with rfl | rfl <;> rfl) (fun w6 HC6 HG6=>?_);have hx:=DX.set (yc:=[.int .i64 q2,.int .i64 q3,.int .i64 q4,.int .i64 q5,.string q6,.int .i64 q8,.int .i64 q9,.int .i64 q10,.string q11,.slice oa12 q12.length cap12,.int .i64 q13a,.int .i64 q13b,.bool q14,.slice oa15 q15.length cap15,.int .i64 q17,.int .i64 q18,.slice oa19 q19.length cap19,.int .i64 q21,.int .i64 q22,.int .i64 q23,.int .i64 q24,.string q25,.int .i64 q26,.int .i64 q28,.int .i64 q29,.bool q30,.int .i64 q31,.slice oa33 q33.length cap33,.int .i64 q34,.int .i64 q35,.int .i64 q37,.int .i64 q38]) H38.out HG6.out HC6.out;clear H38 HC6 HG6;have H38:=hd_ hx;clear hx))
 all_goals (try exact x0b hf Hne HDF HK3 hbad)
 have hfin:j4d x.l = some (⟨q2,q3,q4,q5,q6,⟨q8,q9,q10,q11,q12,q13a,q13b,q14⟩,q15,⟨q17,q18,q19⟩,⟨q21,q22,q23,q24,q25,q26⟩,⟨q28,q29,q30⟩,q31,⟨q33,q34,q35⟩,q37,q38⟩:Inp):=HD38.out
 have hi:=j9i HK3.out hfin
 obtain ⟨-,-,hok,hsz⟩:=y4j HDF.out (by have:=Hl.out;unfold maxLen;omega)
 have hkeep:=j9f hi hok
 have HI:=hd_ hkeep.1
 have HS:=hd_ (show sz (lV (z6e (⟨q2,q3,q4,q5,q6,⟨q8,q9,q10,q11,q12,q13a,q13b,q14⟩,q15,⟨q17,q18,q19⟩,⟨q21,q22,q23,q24,q25,q26⟩,⟨q28,q29,q30⟩,q31,⟨q33,q34,q35⟩,q37,q38⟩:Inp))) ≤ 60000 by have:=hkeep.2;have:=Hl4.out;omega)
 have HLs:=hd_ (InpL.of HS.out)
 have HDI:=hd_ hi
 have t1:=H38.out.d.thg _ (mG (i:=1) rfl)
 have t2:=H38.out.d.thg _ (mG (i:=2) rfl)
 have t3:=H38.out.d.thg _ (mG (i:=3) rfl)
 have t4:=H38.out.d.thg _ (mG (i:=4) rfl)
 have HO4:=hd_ (show j8u (⟨q2,q3,q4,q5,q6,⟨q8,q9,q10,q11,q12,q13a,q13b,q14⟩,q15,⟨q17,q18,q19⟩,⟨q21,q22,q23,q24,q25,q26⟩,⟨q28,q29,q30⟩,q31,⟨q33,q34,q35⟩,q37,q38⟩:Inp) (⟨.slice oa12 q12.length cap12,.slice oa15 q15.length cap15,.slice oa19 q19.length cap19,.slice oa33 q33.length cap33⟩:Slc) w6 from ⟨_,_,_,_,_,t4,t3,t2,t1⟩)
 have HXw:=hd_ (show CB w6 X 41 ((⟨q2,q3,q4,q5,q6,⟨q8,q9,q10,q11,q12,q13a,q13b,q14⟩,q15,⟨q17,q18,q19⟩,⟨q21,q22,q23,q24,q25,q26⟩,⟨q28,q29,q30⟩,q31,⟨q33,q34,q35⟩,q37,q38⟩:Inp).cells (⟨.slice oa12 q12.length cap12,.slice oa15 q15.length cap15,.slice oa19 q19.length cap19,.slice oa33 q33.length cap33⟩:Slc)) from H38.out.box)
 have HYo:=hd_ (show ∀ u ∈ ([.int .i64 q2,.int .i64 q3,.int .i64 q4,.int .i64 q5,.string q6,.int .i64 q8,.int .i64 q9,.int .i64 q10,.string q11,.slice oa12 q12.length cap12,.int .i64 q13a,.int .i64 q13b,.bool q14,.slice oa15 q15.length cap15,.int .i64 q17,.int .i64 q18,.slice oa19 q19.length cap19,.int .i64 q21,.int .i64 q22,.int .i64 q23,.int .i64 q24,.string q25,.int .i64 q26,.int .i64 q28,.int .i64 q29,.bool q30,.int .i64 q31,.slice oa33 q33.length cap33,.int .i64 q34,.int .i64 q35,.int .i64 q37,.int .i64 q38]:List Value),u.oneCell' = true from (by intro u hu;simp only [mC,nM,or_false] at hu;rcases hu with rfl | rfl | rfl | rfl | rfl | rfl | rfl | rfl | rfl | rfl | rfl | rfl | rfl | rfl | rfl | rfl | rfl | rfl | rfl | rfl | rfl | rfl | rfl | rfl | rfl | rfl | rfl | rfl | rfl | rfl | rfl | rfl <;> rfl))
 replace HYo:=hd_ (show ∀ u ∈ (⟨q2,q3,q4,q5,q6,⟨q8,q9,q10,q11,q12,q13a,q13b,q14⟩,q15,⟨q17,q18,q19⟩,⟨q21,q22,q23,q24,q25,q26⟩,⟨q28,q29,q30⟩,q31,⟨q33,q34,q35⟩,q37,q38⟩:Inp).cells (⟨.slice oa12 q12.length cap12,.slice oa15 q15.length cap15,.slice oa19 q19.length cap19,.slice oa33 q33.length cap33⟩:Slc),u.oneCell' = true from HYo.out)
 have HNw:=hd_ (show CB w6 w.heap.size 41 ZIc from H38.out.d.thg (z5m w.heap.size 41 ZIc) (mG (i:=5) rfl))
 have HEw:=hd_ (show CB w6 E 44 [.int .i64 0] from H38.out.d.thg (z5m E 44 [.int .i64 0]) (mG (i:=6) rfl))
 have HGw:=hd_ H38.out.d.gr
 clear H38 HD38 t1 t2 t3 t4 hfin hi hok hsz hkeep
 generalize (⟨q2,q3,q4,q5,q6,⟨q8,q9,q10,q11,q12,q13a,q13b,q14⟩,q15,⟨q17,q18,q19⟩,⟨q21,q22,q23,q24,q25,q26⟩,⟨q28,q29,q30⟩,q31,⟨q33,q34,q35⟩,q37,q38⟩:Inp) = y at *
 generalize (⟨.slice oa12 q12.length cap12,.slice oa15 q15.length cap15,.slice oa19 q19.length cap19,.slice oa33 q33.length cap33⟩:Slc) = sl at *
 have HbW:=hd_ (HWb.out.ext (z0f HGw.out))
 obtain ⟨bo,hbo⟩:∃ bo,okI y = bo:=⟨_,rfl⟩
 have Hok:=hd_ hbo
 clear hbo
 cases bo
 case false =>
  have hdec:Hid (y9g z7x l = (zP,490)):=hd_ (by rw [y3g HDF.out HDI.out,Hok.out];rfl)
  go_upto_region 23 with (first
   | (have _g:=HXw.out;refine z3a (by rfl) 41 (.tmp 7) rfl X (y.cells sl) rfl 41 _ HXw.out Tryz.underlying41 rfl (by kernel_rfl) ?_;clear HXw)
   | (go_at_call 14;refine (z9q y sl _ HO4.out.rd HI.out HLs.out HS.out).mono ?_;unfold k5t;rw [Hok.out];simp only [Bool.false_eq_true,if_false];go_loud (rintro e w7 ⟨u,rfl,hbt,hb7⟩;obtain ⟨ou,cu,rfl⟩:=hbt.shape;have HN7:=hd_ (HNw.out.ext hb7);have HE7:=hd_ (HEw.out.ext hb7);have HG7:=hd_ (z2a HGw.out (z0d hb7) (.inr fun q e=>by cases e));clear hbt hb7)))
  clear HNw HEw HGw
  go_wp2_with fail
  exact y5q rfl rfl HN7.out HE7.out Hne.out.1 (fun w'' hc=>y6q hdec.out HG7.out (lR _) Hne.out.2 hc)
 case true =>
  obtain ⟨sa,hsa⟩:∃ sa,(⟨(y6e y).toArray⟩:ByteArray) = sa:=⟨_,rfl⟩
  obtain ⟨sb,hsb⟩:∃ sb,(⟨l.toArray⟩:ByteArray) = sb:=⟨_,rfl⟩
  have hab:(sa = sb)↔y6e y = l:=by
   rw [← hsa,← hsb]
   constructor
   · intro h;injection h with h;exact List.toArray_inj h
   · intro h;rw [h]
  have hlen:(y6e y).length ≤ 9223372036854775807:=by
   have h1:=y9h (lV (z6e y));have:=HS.out;unfold y6e;omega
  have Hlen:=hd_ hlen
  clear hlen
  go_upto_region 23 with (first
   | (have _g:=HXw.out;refine z3a (by rfl) 41 (.tmp 7) rfl X (y.cells sl) rfl 41 _ HXw.out Tryz.underlying41 rfl (by kernel_rfl) ?_;have HXv:=hd_ HXw.out;clear HXw)
   | (go_at_call 14;refine (z9q y sl _ HO4.out.rd HI.out HLs.out HS.out).mono ?_;unfold k5t;rw [Hok.out];simp only [if_true];go_loud (rintro e w7 ⟨u,rfl,hbt,hb7⟩;obtain ⟨ou,cu,rfl⟩:=hbt.shape;have HN7:=hd_ (HNw.out.ext hb7);have HE7:=hd_ (HEw.out.ext hb7);have HX7:=hd_ (HXv.out.ext hb7);have HO7:=hd_ (HO4.out.ext hb7);have HG7:=hd_ (z2a HGw.out (z0d hb7) (.inr fun q e=>by cases e));have k1:=x8i hbt;have k2:=x8i (HbW.out.ext hb7);rw [hsa] at k1;rw [hsb] at k2;clear hbt hb7)))
  clear HNw HEw HGw HXv HO4 HbW
  generalize (y6e y).length = ne at *
  by_cases he:y6e y = l
  · have hdec:Hid (y9g z7x l = (y,0)):=hd_ (by rw [y3g HDF.out HDI.out,Hok.out,he,decide_eq_true rfl];rfl)
    have kq:(sa.toList == sb.toList) = true:=by rw [j0b];exact decide_eq_true (hab.2 he)
    clear hab hsa hsb he
    go_wp2_with (first
     | (have _g:=HX7.out;refine z3a (by rfl) 41 (.tmp 7) rfl X (y.cells sl) rfl 41 _ HX7.out Tryz.underlying41 rfl (by kernel_rfl) ?_;clear HX7)
     | (have _g:=HYo.out;refine z4a rfl 41 (.tmp 2) (.tmp 129) rfl w.heap.size (y.cells sl) rfl rfl 41 ZIc HN7.out rfl (by kernel_rfl) HYo.out (fun w8 HC8 HG8 HS8=>?_);have HE8:=hd_ (HE7.out.keep (HG8.out.block _ HE7.out.lt (fun e=>Hne.out.1 (by injection e with e;exact e.symm))));have x0:w8.cell? ⟨E,0,none⟩ = some (.int .i64 0):=HE8.out.cell 0;have xf:w8.frozen? ⟨E,0,none⟩ = false:=HE8.out.frozen 0;have HO8:=hd_ (HO7.out.row HN7.out (by decide) HG8.out);have HG9:=hd_ (y1b HG7.out HG8.out (lR _));clear HYo HO7 HN7 HE7 HG7))
    have hE9:=HE8.out.set 0 (.int .i64 0)
    have hN9:=HC8.out.far (p:=⟨E,0,none⟩) Hne.out.1 (.int .i64 0)
    have hO9:=HO8.out.row HE8.out (by decide) (z8b w8 E 0 (.int .i64 0))
    have hG9:=y1b HG9.out (z8b w8 E 0 (.int .i64 0)) Hne.out.2
    exact k1u rfl rfl hN9 rfl hE9 (by rw [hdec.out];exact ⟨sl,rfl,hO9.rd,z0f hG9⟩)
  · have hdec:Hid (y9g z7x l = (zP,490)):=hd_ (by rw [y3g HDF.out HDI.out,decide_eq_false he,Bool.and_false];rfl)
    have kq:(sa.toList == sb.toList) = false:=by rw [j0b];exact decide_eq_false (fun h=>he (hab.1 h))
    clear hab hsa hsb he
    go_wp2_with fail
    exact y5q rfl rfl HN7.out HE7.out Hne.out.1 (fun w'' hc=>y6q hdec.out HG7.out (lR _) Hne.out.2 hc)
theorem z5z (l:List UInt8) (hl:l.length ≤ 1000000) (hz:∀ x,x5a l = some x→sz x ≤ 60000) (v:Value) (w:World) (hb:z9c w.heap.size w l v):Calls Tryz.prog 21 #[v] w (k1f (y9g z7x l) w):=by
 cases hd:x5a l with
 | none =>
  have h:y9g z7x l = (zP,10):=by unfold y9g;rw [hd]
  rw [h]
  exact y7q l hl v w hb hd
 | some x=>exact y8q l hl v w x (hz x hd) hb hd
theorem x2a (l:List UInt8) (hl:l.length ≤ 4000) (v:Value) (w:World) (hb:z9c w.heap.size w l v):Calls Tryz.prog 21 #[v] w (k1f (y9g z7x l) w) :=
 z5z l (by omega) (fun x h=>by have:=(y4j h (by unfold maxLen;omega)).2.2.2;omega) v w hb
theorem x3a (x:Inp) (hI:InpI x) (hL:InpL x) (hz:sz (lV (z6e x)) ≤ 60000) (hk:okI x = true) (v:Value) (w:World) (hb:z9c w.heap.size w (y6e x) v):Calls Tryz.prog 21 #[v] w fun e w'=>∃ sl,e = .returned (.tuple #[.agg (x.cells sl).toArray,.int .i64 0])∧InpR w' x sl∧Below w.heap.size w w':=by
 have h:=z5z (y6e x) (by have:=y9h (lV (z6e x));unfold y6e;omega) (fun y h=>by
  unfold y6e at h
  rw [y3n (x9g x) (j3g hI hL)] at h
  injection h with h
  rw [← h];exact hz) v w hb
 rw [j0o hI hL hk] at h
 exact h
def z6m (x:Inp) (r s:Int):Inp:={ x with sr:=r,ss:=s }
theorem j5q (x:Inp) (r s:Int):z4i (z6m x r s) = z6m (z4i x) r s:=by
 obtain ⟨a1,a2,a3,k,a5,a6,a7,a8,a9,b1,b2,b3,b4,b5⟩:=x
 unfold z4i z6m z0e
 dsimp only
 repeat' split
 all_goals rfl
theorem k5d (x:Inp):(z4i x).sr = x.sr∧(z4i x).ss = x.ss:=by
 obtain ⟨a1,a2,a3,k,a5,a6,a7,a8,a9,b1,b2,b3,b4,b5⟩:=x
 unfold z4i z0e
 dsimp only
 repeat' split
 all_goals exact ⟨rfl,rfl⟩
theorem k6d (x:Inp) (r s:Int):okI (z6m x r s) = okI x:=by
 have h:decide (z4i (z6m x r s) = z6m x r s) = decide (z4i x = x):=by
  rw [j5q]
  refine decide_eq_decide.2 ⟨fun h=>?_,fun h=>by rw [h]⟩
  have h2:=congrArg (fun y=>z6m y x.sr x.ss) h
  have h3:z6m (z6m (z4i x) r s) x.sr x.ss = z4i x:=by
   have:=k5d x
   show z6m (z4i x) x.sr x.ss = z4i x
   rw [← this.1,← this.2];rfl
  rw [← h3];exact h2
 show (y9d (z6m x r s) && inB (z6m x r s).kind 1 10 && decide (z4i (z6m x r s) = z6m x r s) && z6q (z6m x r s)) = _
 rw [h];rfl
theorem k7d {x k c p R S m:Nat} {l:List UInt8} (hR:pw 4 k = R) (hp:pw 4 x = p) (hc:y2q R p l = c) (hm:c * x % cQ = m) (hS:(k + m) % cQ = S) :
 z6l (p:Int) (R:Int) (S:Int) 0 0 0 l true:=by
 refine .inr ⟨rfl,rfl,rfl,p,R,S,pw 4 S,pw p c,c,R * pw p c % cP,rfl,rfl,rfl,hp ▸ x1b z2r x,hR ▸ x1b z2r k,by rw [← hS];exact Nat.mod_lt _ (by decide),hc,rfl,rfl,rfl,?_⟩
 have h:=k3n k c x
 have hs:k5p k c x = S:=by unfold k5p;rw [hm,hS]
 rw [hs,hp,hR] at h
 rw [h];simp
theorem j1j {n:Nat} (h:z4t n):ElE (n:Int) 0:=.inl ⟨k9c h,rfl⟩
theorem k8d {n:Nat} (h:n < cQ):ScE (n:Int) 0:=.inl ⟨k0d h,rfl⟩
theorem j6q:ElE 0 30:=.inr ⟨fun h=>absurd h.1 (by decide),rfl⟩
theorem k6y:ScE 0 0:=.inl ⟨⟨by decide,by decide⟩,rfl⟩
theorem j2j {k:Int} {l:List UInt8} {R S e:Int} (hk:ZPr k) (h:x2v k l R S e):e = 0∧(∃ r:Nat,R = (r:Int)∧z4t r)∧(∃ s:Nat,S = (s:Int)∧s < cQ)∧∀ P,k7p k P 0→ElE P 0∧ElE R 0∧ScE S 0∧z6l P R S 0 0 0 l true:=by
 rcases h with ⟨n,kk,r,c,p,m,s,rfl,h1,h2,h3,h4,h5,h6,h7,rfl,rfl,rfl⟩ | ⟨h1,_⟩
 · have hr:z4t r:=h3 ▸ x1b z2r kk
   have hs:s < cQ:=by rw [← h7];exact Nat.mod_lt _ (by decide)
   refine ⟨rfl,⟨r,rfl,hr⟩,⟨s,rfl,hs⟩,fun P hP=>?_⟩
   rcases hP with ⟨n',p',e1,_,h8,rfl,_⟩ | ⟨h8,_⟩
   · have e1:n = n':=by exact_mod_cast e1
     subst e1
     rw [h4] at h8
     subst h8
     exact ⟨j1j (h4 ▸ x1b z2r n),j1j hr,k8d hs,k7d h3 h4 h5 h6 h7⟩
   · exact absurd h1 h8
 · exact absurd hk h1
theorem x4v {k:Int} {l:List UInt8} {R S e:Int} (hk:¬ ZPr k) (h:x2v k l R S e):R = 0∧S = 0∧e = 40:=by
 rcases h with ⟨n,kk,r,c,p,m,s,rfl,h1,_⟩ | ⟨_,h2,h3,h4⟩
 · exact absurd h1 hk
 · exact ⟨h2,h3,h4⟩
theorem j7q {k P e:Int} (hk:ZPr k) (h:k7p k P e):e = 0:=by
 rcases h with ⟨_,_,_,_,_,_,h⟩ | ⟨h,_⟩
 · exact h
 · exact absurd hk h
theorem z4r (x:Inp) (h1:x.flt.ways = []) (h2:x.tree = []) (h3:x.chg.modes = []) (h4:x.stn.vols = []) (w:World):InpR w x z1g:=by
 refine ⟨?_,?_,?_,?_⟩
 · rw [h1];exact z9f.nil _ _ _ _
 · rw [h2];exact z6j.nil _ _ _
 · rw [h3];exact z9f.nil _ _ _ _
 · rw [h4];exact z9f.nil _ _ _ _
theorem z1i {x:Inp} {s:Slc} {w:World} (hr:InpR w x s):∀ u ∈ x.cells s,u.oneCell' = true:=by
 obtain ⟨a,ca,ha,-⟩:=hr.ways.shape
 obtain ⟨b,cb,hb,-⟩:=hr.tree.shape
 obtain ⟨c,cc,hc,-⟩:=hr.modes.shape
 obtain ⟨d,cd,hd,-⟩:=hr.vols.shape
 have:=z2u x s a b c d _ _ _ _ ca cb cc cd ha hb hc hd
 exact fun u hu=>Array.all_eq_true_iff_forall_mem.1 this u (by simpa using hu)
def n0:Inp:=⟨3,1,2,5,ByteArray.empty,j0z,[],⟨0,0,[]⟩,rpZ,⟨0,0,false⟩,31,⟨[],0,0⟩,0,0⟩
def nf:Inp:=⟨3,1,2,5,ByteArray.empty,j0z,[],⟨0,0,[]⟩,rpZ,⟨0,0,false⟩,32,⟨[],0,0⟩,0,0⟩
def nt:Inp:=⟨3,1,2,10,ByteArray.empty,j0z,[],⟨0,0,[]⟩,rpZ,⟨0,0,false⟩,1,⟨[],0,0⟩,0,0⟩
theorem j3j:okI n0 = true:=by decide +kernel
theorem k2u:okI nf = false:=by decide +kernel
theorem k3u:okI nt = false:=by decide +kernel
theorem k4u:okI zP = false:=by decide +kernel
theorem j4j:InpI n0:=by
 have h:∀ z:Int,-100 ≤ z→z ≤ 100→I64 z:=fun z h1 h2=>by unfold I64;omega
 have hs:(ByteArray.empty).size ≤ maxLen:=by unfold maxLen;decide
 refine ⟨h _ (by decide) (by decide),h _ (by decide) (by decide),h _ (by decide) (by decide),h _ (by decide) (by decide),hs,⟨h _ (by decide) (by decide),h _ (by decide) (by decide),h _ (by decide) (by decide),h _ (by decide) (by decide),h _ (by decide) (by decide),fun x hx=>absurd hx nM,hs⟩,fun x hx=>absurd hx nM,h _ (by decide) (by decide),h _ (by decide) (by decide),fun x hx=>absurd hx nM,h _ (by decide) (by decide),h _ (by decide) (by decide),h _ (by decide) (by decide),h _ (by decide) (by decide),hs,h _ (by decide) (by decide),h _ (by decide) (by decide),h _ (by decide) (by decide),h _ (by decide) (by decide),fun x hx=>absurd hx nM,h _ (by decide) (by decide),h _ (by decide) (by decide),h _ (by decide) (by decide),h _ (by decide) (by decide)⟩
theorem x3i (x:Inp) (h:x.mi = 3∨x.mi = 0) (h2:x.ce = 1∨x.ce = 0) (h3:x.no = 2∨x.no = 0) (h4:0 ≤ x.kind∧x.kind ≤ 10) (h5:0 ≤ x.n∧x.n ≤ 100) (h6:x = { n0 with mi:=x.mi,ce:=x.ce,no:=x.no,kind:=x.kind,n:=x.n }):InpI x:=by
 rw [h6]
 have hh:=j4j
 have i3:I64 3:=by unfold I64;omega
 have i0:I64 0:=by unfold I64;omega
 have i1:I64 1:=by unfold I64;omega
 have i2:I64 2:=by unfold I64;omega
 refine ⟨?_,?_,?_,by unfold I64;dsimp only;omega,hh.text,hh.flt,hh.tree,hh.cfrm,hh.cfg,hh.modes,hh.rst,hh.rno,hh.rmi,hh.rar,hh.rcl,hh.rvo,hh.sst,hh.sfr,by unfold I64;dsimp only;omega,hh.vols,hh.sh,hh.fa,hh.sr,hh.ss⟩
 · rcases h with h | h <;> (dsimp only;rw [h];assumption)
 · rcases h2 with h | h <;> (dsimp only;rw [h];assumption)
 · rcases h3 with h | h <;> (dsimp only;rw [h];assumption)
theorem k7y:InpI nf:=x3i nf (.inl rfl) (.inl rfl) (.inl rfl) (by decide) (by decide) rfl
theorem k8y:InpI nt:=x3i nt (.inl rfl) (.inl rfl) (.inl rfl) (by decide) (by decide) rfl
theorem k5u:InpI zP:=x3i zP (.inr rfl) (.inr rfl) (.inr rfl) (by decide) (by decide) rfl
theorem InpI.sig {x:Inp} (h:InpI x) {R S:Int} (hR:I64 R) (hS:I64 S):InpI (z6m x R S):=⟨h.mi,h.ce,h.no,h.kind,h.text,h.flt,h.tree,h.cfrm,h.cfg,h.modes,h.rst,h.rno,h.rmi,h.rar,h.rcl,h.rvo,h.sst,h.sfr,h.n,h.vols,h.sh,h.fa,hR,hS⟩
theorem k9y (R S:Int) (hR:I64 R) (hS:I64 S):InpI (z6m n0 R S):=j4j.sig hR hS
theorem k6u:FewI n0:=⟨by decide,by decide,by decide,by decide,by decide,by decide,by decide,fun n hn=>absurd hn nM⟩
theorem FewI.sig {x:Inp} (h:FewI x) (R S:Int):FewI (z6m x R S):=⟨h.h0,h.h1,h.h2,h.h3,h.h4,h.h5,h.h6,h.cu⟩
theorem j9u (R S:Int):FewI (z6m n0 R S):=k6u.sig R S
theorem k0z (R S:Int):InpL (z6m n0 R S):=InpL.of (j9u R S).sz
theorem k0o:y9g z7x [3,0] = (zP,490):=by
 have h:enc (lV []) = [3,0]:=by decide +kernel
 have hd:x5a [3,0] = some (lV []):=by rw [← h];exact y3n (by decide +kernel) (z4u trivial (by unfold maxLen;simp))
 exact y2g hd rfl
theorem k9d:y9g z7x [] = (zP,10):=by
 have:x5a [] = none:=rfl
 unfold y9g;rw [this]
theorem k1o:y5g 1 0 9 3 1 2 = -1:=by decide
theorem k5w:ZPr 5:=⟨by decide,by decide⟩
theorem k1z:¬ ZPr 0:=fun h=>absurd h.1 (by decide)
end Go.Proofs.YtdblnbnofjggnaaGreatDoor
