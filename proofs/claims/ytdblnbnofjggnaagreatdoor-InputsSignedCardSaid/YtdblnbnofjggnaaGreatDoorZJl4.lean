/- chapter 49's law: InputsSigned (printed by gen49ao.py). -/
import Derived.Test.YtdblnbnofjggnaaGreatDoorK50
import Derived.Test.YtdblnbnofjggnaaGreatDoorZJsk
namespace Go.Proofs.YtdblnbnofjggnaaGreatDoor
open Go.RowKit
theorem nil_at {w w' : World} {y : Inp} (h : InpR w' y nilS) : InpR w y nilS := by
 obtain ⟨_, _, e1, -⟩ := h.ways.shape
 obtain ⟨_, _, e2, -⟩ := h.tree.shape
 obtain ⟨_, _, e3, -⟩ := h.modes.shape
 obtain ⟨_, _, e4, -⟩ := h.vols.shape
 injection e1 with _ e1 _; injection e2 with _ e2 _; injection e3 with _ e3 _; injection e4 with _ e4 _
 exact nil_rd y (List.length_eq_zero_iff.1 e1.symm) (List.length_eq_zero_iff.1 e2.symm) (List.length_eq_zero_iff.1 e3.symm) (List.length_eq_zero_iff.1 e4.symm) w
theorem InpR.sig {w : World} {x : Inp} {s : Slc} (h : InpR w x s) (R S : Int) : InpR w (sigI x R S) s := ⟨h.ways, h.tree, h.modes, h.vols⟩
theorem sgn_old {x : Inp} {s : Slc} {w W : World} {k R S : Int} (hw : InpR w x s) (hb : Below w.heap.size w W) (hi : InpI x) (hf : FewI x) (hL : Laid W) (hk : okI x = true) (hs : SigE k (msgI x) R S 0) : Calls Tryz.prog 23 #[.agg (x.cells s).toArray, .int .i64 k] W fun e W' => ∃ sl, e = .returned (.tuple #[.agg ((sigI x R S).cells sl).toArray, .int .i64 0]) ∧ InpR w (sigI x R S) sl ∧ Below W.heap.size W W' :=
 (sign49_str k R S 0 x s W (hw.ext hb) hi (InpL.of hf.sz) hf.sz hL (Lib.hid hs)).mono fun e W' h => by
  obtain ⟨sl, h0, h1, h2, h3⟩ := h
  unfold sgnI sgnE at h1
  unfold sgnI at h2
  rw [hk] at h1 h2
  refine ⟨sl, h1, ?_, h3⟩
  rcases h0 with rfl | rfl
  · exact hw.sig R S
  · exact nil_at h2
set_option maxRecDepth 100000 in
set_option maxHeartbeats 16000000 in
theorem sgdA (x : Inp) (s : Slc) (k a b : Int) (w : World) (hx : InpR w x s) (hi : InpI x) (hL : Laid w) (hfw : fewB x = false) : Calls Tryz.prog 9 #[x.v s, .int .i64 k, .agg #[.int .i64 a, .int .i64 b]] w (TrueP w) := by
 have hb0 : Below w.heap.size w ((w.alloc (bI x s)).alloc (.cells #[.int .i64 a, .int .i64 b] 39)) := (b_al (w := w) (bI x s)).alloc (b_al (w := w) (bI x s)).size _
 have HI : Hid (CB ((w.alloc (bI x s)).alloc (.cells #[.int .i64 a, .int .i64 b] 39)) w.heap.size 41 (x.cells s)) := (cb_one w (bI x s) _ _ rfl).alloc _
 have HS : Hid (CB ((w.alloc (bI x s)).alloc (.cells #[.int .i64 a, .int .i64 b] 39)) (w.heap.size + 1) 39 [.int .i64 a, .int .i64 b]) := cb_two w (bI x s) _ _
 have HB := Lib.hid hb0; have RX := Lib.hid (hx.ext hb0); have HX0 := Lib.hid hx; have Hi := Lib.hid hi; have HL := Lib.hid hL
 clear hb0 hx hi hL
 change Calls Tryz.prog 9 #[.agg (x.cells s).toArray, .int .i64 k, .agg #[.int .i64 a, .int .i64 b]] w _
 go_enter Tryz.func9, Tryz.ntmps9
 go_upto_region 1 with fail
 change Code.wp _ _ _ _ ((w.alloc (bI x s)).alloc (.cells #[.int .i64 a, .int .i64 b] 39))
 generalize ((w.alloc (bI x s)).alloc (.cells #[.int .i64 a, .int .i64 b] 39)) = w0 at *
 have Hf := Lib.hid hfw; clear hfw
 have T0 := Lib.hid (Nat.le_refl 0)
 go_wp2_with (first
  | (have _g := T0.out; go_at_call 11; refine (sane49_any _ (HL.out.ext HB.out)).mono ?_; go_loud (rintro e w1 ⟨rfl, hb⟩; replace HI := Lib.hid (HI.out.ext hb); replace HS := Lib.hid (HS.out.ext hb); replace RX := Lib.hid (RX.out.ext hb); replace HB := Lib.hid (below_ext HB.out hb); clear hb; clear T0; have T1 := Lib.hid (Nat.le_refl 1)))
  | (have _g := T1.out; refine wpList_load_cs (by rfl) 41 (.tmp 3) rfl w.heap.size (x.cells s) rfl 41 _ HI.out Tryz.underlying41 rfl (by kernel_rfl) ?_; clear T1; have T2 := Lib.hid (Nat.le_refl 2))
  | (have _g := T2.out; go_at_call 12; refine (few49 RX.out Hi.out Hf.out).mono ?_; go_loud (rintro e w2 ⟨rfl, hb⟩; replace HI := Lib.hid (HI.out.ext hb); replace HS := Lib.hid (HS.out.ext hb); replace RX := Lib.hid (RX.out.ext hb); replace HB := Lib.hid (below_ext HB.out hb); clear hb; clear T2; have T3 := Lib.hid (Nat.le_refl 3))))
 go_ret
 exact ⟨rfl, HB.out⟩
set_option maxRecDepth 100000 in
set_option maxHeartbeats 16000000 in
theorem sgdB (x : Inp) (s : Slc) (k a b : Int) (w : World) (hx : InpR w x s) (hi : InpI x) (hL : Laid w) (hfw : fewB x = true) (hok : okI x = false) : Calls Tryz.prog 9 #[x.v s, .int .i64 k, .agg #[.int .i64 a, .int .i64 b]] w (TrueP w) := by
 have hb0 : Below w.heap.size w ((w.alloc (bI x s)).alloc (.cells #[.int .i64 a, .int .i64 b] 39)) := (b_al (w := w) (bI x s)).alloc (b_al (w := w) (bI x s)).size _
 have HI : Hid (CB ((w.alloc (bI x s)).alloc (.cells #[.int .i64 a, .int .i64 b] 39)) w.heap.size 41 (x.cells s)) := (cb_one w (bI x s) _ _ rfl).alloc _
 have HS : Hid (CB ((w.alloc (bI x s)).alloc (.cells #[.int .i64 a, .int .i64 b] 39)) (w.heap.size + 1) 39 [.int .i64 a, .int .i64 b]) := cb_two w (bI x s) _ _
 have HB := Lib.hid hb0; have RX := Lib.hid (hx.ext hb0); have HX0 := Lib.hid hx; have Hi := Lib.hid hi; have HL := Lib.hid hL
 clear hb0 hx hi hL
 change Calls Tryz.prog 9 #[.agg (x.cells s).toArray, .int .i64 k, .agg #[.int .i64 a, .int .i64 b]] w _
 go_enter Tryz.func9, Tryz.ntmps9
 go_upto_region 1 with fail
 change Code.wp _ _ _ _ ((w.alloc (bI x s)).alloc (.cells #[.int .i64 a, .int .i64 b] 39))
 generalize ((w.alloc (bI x s)).alloc (.cells #[.int .i64 a, .int .i64 b] 39)) = w0 at *
 have Hf := Lib.hid hfw; have Hk := Lib.hid hok; clear hfw hok
 have T0 := Lib.hid (Nat.le_refl 0)
 go_wp2_with (first
  | (have _g := T0.out; go_at_call 11; refine (sane49_any _ (HL.out.ext HB.out)).mono ?_; go_loud (rintro e w1 ⟨rfl, hb⟩; replace HI := Lib.hid (HI.out.ext hb); replace HS := Lib.hid (HS.out.ext hb); replace RX := Lib.hid (RX.out.ext hb); replace HB := Lib.hid (below_ext HB.out hb); clear hb; clear T0; have T1 := Lib.hid (Nat.le_refl 1)))
  | (have _g := T1.out; refine wpList_load_cs (by rfl) 41 (.tmp 3) rfl w.heap.size (x.cells s) rfl 41 _ HI.out Tryz.underlying41 rfl (by kernel_rfl) ?_; clear T1; have T2 := Lib.hid (Nat.le_refl 2))
  | (have _g := T2.out; go_at_call 12; refine (few49 RX.out Hi.out Hf.out).mono ?_; go_loud (rintro e w2 ⟨rfl, hb⟩; replace HI := Lib.hid (HI.out.ext hb); replace HS := Lib.hid (HS.out.ext hb); replace RX := Lib.hid (RX.out.ext hb); replace HB := Lib.hid (below_ext HB.out hb); clear hb; clear T2; have T3 := Lib.hid (Nat.le_refl 3)))
  | (have _g := T3.out; refine wpList_load_cs (by rfl) 41 (.tmp 3) rfl w.heap.size (x.cells s) rfl 41 _ HI.out Tryz.underlying41 rfl (by kernel_rfl) ?_; clear T3; have T4 := Lib.hid (Nat.le_refl 4))
  | (have _g := T4.out; go_at_call 13; refine (chk_no RX.out Hi.out Hk.out).mono ?_; go_loud (rintro e w3 ⟨rfl, hb⟩; replace HI := Lib.hid (HI.out.ext hb); replace HS := Lib.hid (HS.out.ext hb); replace RX := Lib.hid (RX.out.ext hb); replace HB := Lib.hid (below_ext HB.out hb); clear hb; clear T4; have T5 := Lib.hid (Nat.le_refl 5))))
 go_ret
 exact ⟨rfl, HB.out⟩
set_option maxRecDepth 100000 in
set_option maxHeartbeats 16000000 in
theorem sgdC (x : Inp) (s : Slc) (k a b : Int) (w : World) (hx : InpR w x s) (hi : InpI x) (hL : Laid w) (hfw : fewB x = true) (hok : okI x = true) (hz : ¬ ZPr k) : Calls Tryz.prog 9 #[x.v s, .int .i64 k, .agg #[.int .i64 a, .int .i64 b]] w (TrueP w) := by
 obtain ⟨R, S, e, hs⟩ := sigE_ex k (msgI x)
 obtain ⟨rfl, rfl, rfl⟩ := sign_bad49 hz hs
 obtain ⟨P, e, hp⟩ := pubE_ex k
 obtain ⟨rfl, rfl⟩ := pub_bad49 hz hp
 have Hs := Lib.hid hs; have Hp := Lib.hid hp
 clear hs hp hz
 have hb0 : Below w.heap.size w ((w.alloc (bI x s)).alloc (.cells #[.int .i64 a, .int .i64 b] 39)) := (b_al (w := w) (bI x s)).alloc (b_al (w := w) (bI x s)).size _
 have HI : Hid (CB ((w.alloc (bI x s)).alloc (.cells #[.int .i64 a, .int .i64 b] 39)) w.heap.size 41 (x.cells s)) := (cb_one w (bI x s) _ _ rfl).alloc _
 have HS : Hid (CB ((w.alloc (bI x s)).alloc (.cells #[.int .i64 a, .int .i64 b] 39)) (w.heap.size + 1) 39 [.int .i64 a, .int .i64 b]) := cb_two w (bI x s) _ _
 have HB := Lib.hid hb0; have RX := Lib.hid (hx.ext hb0); have HX0 := Lib.hid hx; have Hi := Lib.hid hi; have HL := Lib.hid hL
 clear hb0 hx hi hL
 change Calls Tryz.prog 9 #[.agg (x.cells s).toArray, .int .i64 k, .agg #[.int .i64 a, .int .i64 b]] w _
 go_enter Tryz.func9, Tryz.ntmps9
 go_upto_region 1 with fail
 change Code.wp _ _ _ _ ((w.alloc (bI x s)).alloc (.cells #[.int .i64 a, .int .i64 b] 39))
 generalize ((w.alloc (bI x s)).alloc (.cells #[.int .i64 a, .int .i64 b] 39)) = w0 at *
 have Hf := Lib.hid hfw; have Hk := Lib.hid hok; have HF := Lib.hid (fewB_I hfw); clear hfw hok
 have T0 := Lib.hid (Nat.le_refl 0)
 go_upto_region 5 with (first
  | (have _g := T0.out; go_at_call 11; refine (sane49_any _ (HL.out.ext HB.out)).mono ?_; go_loud (rintro e w1 ⟨rfl, hb⟩; replace HI := Lib.hid (HI.out.ext hb); replace HS := Lib.hid (HS.out.ext hb); replace RX := Lib.hid (RX.out.ext hb); replace HB := Lib.hid (below_ext HB.out hb); clear hb; clear T0; have T1 := Lib.hid (Nat.le_refl 1)))
  | (have _g := T1.out; refine wpList_load_cs (by rfl) 41 (.tmp 3) rfl w.heap.size (x.cells s) rfl 41 _ HI.out Tryz.underlying41 rfl (by kernel_rfl) ?_; clear T1; have T2 := Lib.hid (Nat.le_refl 2))
  | (have _g := T2.out; go_at_call 12; refine (few49 RX.out Hi.out Hf.out).mono ?_; go_loud (rintro e w2 ⟨rfl, hb⟩; replace HI := Lib.hid (HI.out.ext hb); replace HS := Lib.hid (HS.out.ext hb); replace RX := Lib.hid (RX.out.ext hb); replace HB := Lib.hid (below_ext HB.out hb); clear hb; clear T2; have T3 := Lib.hid (Nat.le_refl 3)))
  | (have _g := T3.out; refine wpList_load_cs (by rfl) 41 (.tmp 3) rfl w.heap.size (x.cells s) rfl 41 _ HI.out Tryz.underlying41 rfl (by kernel_rfl) ?_; clear T3; have T4 := Lib.hid (Nat.le_refl 4))
  | (have _g := T4.out; go_at_call 13; refine (chk_ok RX.out Hi.out Hk.out).mono ?_; go_loud (rintro e w3 ⟨rfl, hb⟩; replace HI := Lib.hid (HI.out.ext hb); replace HS := Lib.hid (HS.out.ext hb); replace RX := Lib.hid (RX.out.ext hb); replace HB := Lib.hid (below_ext HB.out hb); clear hb; clear T4; have T5 := Lib.hid (Nat.le_refl 5))))
 go_upto_region 6 with (first
  | (have _g := T5.out; go_at_call 25; refine (public_val k 0 40 Hp _).mono ?_; go_loud (rintro e w4 ⟨rfl, hb⟩; replace HI := Lib.hid (HI.out.ext hb); replace HS := Lib.hid (HS.out.ext hb); replace RX := Lib.hid (RX.out.ext hb); replace HB := Lib.hid (below_ext HB.out hb); clear hb; clear T5; have T6 := Lib.hid (Nat.le_refl 6))))
 go_wp2_with (first
  | (have _g := T6.out; refine wpList_load_cs (by rfl) 41 (.tmp 3) rfl w.heap.size (x.cells s) rfl 41 _ HI.out Tryz.underlying41 rfl (by kernel_rfl) ?_; clear T6; have T7 := Lib.hid (Nat.le_refl 7))
  | (have _g := T7.out; go_at_call 23; refine (sgn_no RX.out Hi.out HF.out.sz (HL.out.ext HB.out) Hk.out Hs.out (by decide)).mono ?_; go_loud (rintro e w5 ⟨sl, rfl, hI, hb⟩; replace HI := Lib.hid (HI.out.ext hb); replace HS := Lib.hid (HS.out.ext hb); replace RX := Lib.hid (RX.out.ext hb); replace HB := Lib.hid (below_ext HB.out hb); have R1 := Lib.hid hI; clear hI; have HZ : Hid (CB (w5.alloc ZI) w5.heap.size 41 ZIc) := Lib.hid (cb_one w5 ZI _ _ rfl); clear hb; clear T7; have T8 := Lib.hid (Nat.le_refl 8)))
  | (have _g := T8.out; have _h := HZ.out; refine wpList_store_cs rfl 41 (.tmp 9) (.tmp 33) rfl w5.heap.size (zP.cells sl) rfl rfl 41 ZIc HZ.out rfl (by kernel_rfl) (inpR_one R1.out) (fun w6 HC HG HS_ => ?_); have hbs : Below w5.heap.size w5 w6 := (b_al (w := w5) ZI).grown HG.out (b_al (w := w5) ZI).size (fun q e => by injection e with e; omega); replace HI := Lib.hid (HI.out.ext hbs); replace HS := Lib.hid (HS.out.ext hbs); replace RX := Lib.hid (RX.out.ext hbs); replace R1 := Lib.hid (R1.out.ext hbs); replace HB := Lib.hid (below_ext HB.out hbs); have B1 := HC; clear hbs HC HG HS_ HZ _h; clear T8; have T9 := Lib.hid (Nat.le_refl 9)))
 go_ret
 exact ⟨rfl, HB.out⟩
set_option maxRecDepth 100000 in
set_option maxHeartbeats 16000000 in
theorem sgdD (x : Inp) (s : Slc) (k a b : Int) (w : World) (hx : InpR w x s) (hi : InpI x) (hL : Laid w) (hab : I64 a ∧ I64 b) (hfw : fewB x = true) (hok : okI x = true) (hz : ZPr k) : Calls Tryz.prog 9 #[x.v s, .int .i64 k, .agg #[.int .i64 a, .int .i64 b]] w (TrueP w) := by
 obtain ⟨R', S', e, hs⟩ := sigE_ex k (msgI x)
 obtain ⟨rfl, ⟨r, rfl, hr⟩, ⟨t, rfl, ht⟩, hv⟩ := sign_good hz hs
 obtain ⟨P, e, hp⟩ := pubE_ex k
 obtain rfl := pub_good hz hp
 have hv := hv P hp
 have Hs := Lib.hid hs; have Hp := Lib.hid hp; have HV := Lib.hid hv
 have hrl : 0 < r ∧ r < cP := ⟨hr.1, hr.2.1⟩
 have HXI : Hid (InpI (sigI x (r : Int) (t : Int))) := Lib.hid (hi.sig (by unfold I64; have := hrl.2; unfold cP at this; omega) (by unfold I64; unfold cQ at ht; omega))
 have HF := Lib.hid (fewB_I hfw)
 have HXz : Hid (sz (lV (fullL (sigI x (r : Int) (t : Int)))) ≤ 60000) := Lib.hid (HF.out.sig _ _).sz
 have HXk : Hid (okI (sigI x (r : Int) (t : Int)) = true) := Lib.hid (by rw [okI_sig]; exact hok)
 have HAI := Lib.hid hab
 have HAB : Hid (∀ u ∈ ([.int .i64 a, .int .i64 b] : List Value), u.oneCell' = true) := Lib.hid (by intro u hu; simp only [List.mem_cons, List.not_mem_nil, or_false] at hu; rcases hu with rfl | rfl <;> rfl)
 clear hs hp hv hr ht hrl hz hab
 have hb0 : Below w.heap.size w ((w.alloc (bI x s)).alloc (.cells #[.int .i64 a, .int .i64 b] 39)) := (b_al (w := w) (bI x s)).alloc (b_al (w := w) (bI x s)).size _
 have HI : Hid (CB ((w.alloc (bI x s)).alloc (.cells #[.int .i64 a, .int .i64 b] 39)) w.heap.size 41 (x.cells s)) := (cb_one w (bI x s) _ _ rfl).alloc _
 have HS : Hid (CB ((w.alloc (bI x s)).alloc (.cells #[.int .i64 a, .int .i64 b] 39)) (w.heap.size + 1) 39 [.int .i64 a, .int .i64 b]) := cb_two w (bI x s) _ _
 have HB := Lib.hid hb0; have RX := Lib.hid (hx.ext hb0); have HX0 := Lib.hid hx; have Hi := Lib.hid hi; have HL := Lib.hid hL
 clear hb0 hx hi hL
 change Calls Tryz.prog 9 #[.agg (x.cells s).toArray, .int .i64 k, .agg #[.int .i64 a, .int .i64 b]] w _
 go_enter Tryz.func9, Tryz.ntmps9
 go_upto_region 1 with fail
 change Code.wp _ _ _ _ ((w.alloc (bI x s)).alloc (.cells #[.int .i64 a, .int .i64 b] 39))
 generalize ((w.alloc (bI x s)).alloc (.cells #[.int .i64 a, .int .i64 b] 39)) = w0 at *
 have Hf := Lib.hid hfw; have Hk := Lib.hid hok; clear hfw hok RX
 have T0 := Lib.hid (Nat.le_refl 0)
 go_upto_region 5 with (first
  | (have _g := T0.out; go_at_call 11; refine (sane49_any _ (HL.out.ext HB.out)).mono ?_; go_loud (rintro e w1 ⟨rfl, hb⟩; replace HI := Lib.hid (HI.out.ext hb); replace HS := Lib.hid (HS.out.ext hb); replace HB := Lib.hid (below_ext HB.out hb); clear hb; clear T0; have T1 := Lib.hid (Nat.le_refl 1)))
  | (have _g := T1.out; refine wpList_load_cs (by rfl) 41 (.tmp 3) rfl w.heap.size (x.cells s) rfl 41 _ HI.out Tryz.underlying41 rfl (by kernel_rfl) ?_; clear T1; have T2 := Lib.hid (Nat.le_refl 2))
  | (have _g := T2.out; go_at_call 12; refine (few49 (HX0.out.ext HB.out) Hi.out Hf.out).mono ?_; go_loud (rintro e w2 ⟨rfl, hb⟩; replace HI := Lib.hid (HI.out.ext hb); replace HS := Lib.hid (HS.out.ext hb); replace HB := Lib.hid (below_ext HB.out hb); clear hb; clear T2; have T3 := Lib.hid (Nat.le_refl 3)))
  | (have _g := T3.out; refine wpList_load_cs (by rfl) 41 (.tmp 3) rfl w.heap.size (x.cells s) rfl 41 _ HI.out Tryz.underlying41 rfl (by kernel_rfl) ?_; clear T3; have T4 := Lib.hid (Nat.le_refl 4))
  | (have _g := T4.out; go_at_call 13; refine (chk_ok (HX0.out.ext HB.out) Hi.out Hk.out).mono ?_; go_loud (rintro e w3 ⟨rfl, hb⟩; replace HI := Lib.hid (HI.out.ext hb); replace HS := Lib.hid (HS.out.ext hb); replace HB := Lib.hid (below_ext HB.out hb); clear hb; clear T4; have T5 := Lib.hid (Nat.le_refl 5))))
 go_upto_region 6 with (first
  | (have _g := T5.out; go_at_call 25; refine (public_val k P 0 Hp _).mono ?_; go_loud (rintro e w4 ⟨rfl, hb⟩; replace HI := Lib.hid (HI.out.ext hb); replace HS := Lib.hid (HS.out.ext hb); replace HB := Lib.hid (below_ext HB.out hb); clear hb; clear T5; have T6 := Lib.hid (Nat.le_refl 6))))
 go_upto_region 9 with (first
  | (have _g := T6.out; refine wpList_load_cs (by rfl) 41 (.tmp 3) rfl w.heap.size (x.cells s) rfl 41 _ HI.out Tryz.underlying41 rfl (by kernel_rfl) ?_; clear T6; have T7 := Lib.hid (Nat.le_refl 7))
  | (have _g := T7.out; go_at_call 23; refine (sgn_old HX0.out HB.out Hi.out HF.out (HL.out.ext HB.out) Hk.out Hs.out).mono ?_; go_loud (rintro e w5 ⟨sl, rfl, hI, hb⟩; replace HI := Lib.hid (HI.out.ext hb); replace HS := Lib.hid (HS.out.ext hb); replace HB := Lib.hid (below_ext HB.out hb); have R1 := Lib.hid hI; have HS5 := Lib.hid HS.out.lt; clear hI; have HZ : Hid (CB (w5.alloc ZI) w5.heap.size 41 ZIc) := Lib.hid (cb_one w5 ZI _ _ rfl); clear hb; clear T7; have T8 := Lib.hid (Nat.le_refl 8)))
  | (have _g := T8.out; have _h := HZ.out; refine wpList_store_cs rfl 41 (.tmp 9) (.tmp 33) rfl w5.heap.size ((sigI x (r : Int) (t : Int)).cells sl) rfl rfl 41 ZIc HZ.out rfl (by kernel_rfl) (inpR_one R1.out) (fun w6 HC HG HS_ => ?_); have hbs : Below w5.heap.size w5 w6 := (b_al (w := w5) ZI).grown HG.out (b_al (w := w5) ZI).size (fun q e => by injection e with e; omega); replace HI := Lib.hid (HI.out.ext hbs); replace HS := Lib.hid (HS.out.ext hbs); replace HB := Lib.hid (below_ext HB.out hbs); have B1 := HC; have HB6 := Lib.hid B1.out.lt; clear hbs HC HG HS_ HZ _h; clear T8; have T9 := Lib.hid (Nat.le_refl 9)))
 have HZ : Hid (CB (w6.alloc ZI) w6.heap.size 41 ZIc) := Lib.hid (cb_one w6 ZI _ _ rfl)
 go_upto_region 10 with (first
  | (have _g := T9.out; refine wpList_load_cs (by rfl) 41 (.tmp 9) rfl w5.heap.size ((sigI x (r : Int) (t : Int)).cells sl) rfl 41 _ B1.out Tryz.underlying41 rfl (by kernel_rfl) ?_; clear T9; have T10 := Lib.hid (Nat.le_refl 10))
  | (have _g := T10.out; have _h := HZ.out; refine wpList_store_cs rfl 41 (.tmp 11) (.tmp 40) rfl w6.heap.size ((sigI x (r : Int) (t : Int)).cells sl) rfl rfl 41 ZIc HZ.out rfl (by kernel_rfl) (inpR_one R1.out) (fun w7 HC HG HS_ => ?_); have hbs : Below w6.heap.size w6 w7 := (b_al (w := w6) ZI).grown HG.out (b_al (w := w6) ZI).size (fun q e => by injection e with e; omega); replace HI := Lib.hid (HI.out.ext hbs); replace HS := Lib.hid (HS.out.ext hbs); replace B1 := Lib.hid (B1.out.ext hbs); replace HB := Lib.hid (below_ext HB.out hbs); have B2 := HC; clear hbs HC HG HS_ HZ _h; clear T10; have T11 := Lib.hid (Nat.le_refl 11)))
 skip
 have HG1 : Hid (w.heap.size + 1 < w5.heap.size) := Lib.hid HS5.out
 have HG2 : Hid (w5.heap.size < w6.heap.size) := Lib.hid HB6.out
 have HG3 : Hid (w6.heap.size < w7.heap.size) := Lib.hid B2.out.lt
 go_upto_region 11 with (first
  | (have _g := T11.out; refine wpList_load_cs (by rfl) 39 (.tmp 5) rfl (w.heap.size + 1) [.int .i64 a, .int .i64 b] rfl 39 _ HS.out Tryz.underlying39 rfl (by kernel_rfl) ?_; clear T11; have T12 := Lib.hid (Nat.le_refl 12))
  | (have _g := T12.out; refine wpList_store_part rfl 39 (.tmp 42) (.tmp 41) rfl w.heap.size 30 [.int .i64 a, .int .i64 b] rfl rfl _ _ HI.out (show 30 + 2 ≤ 32 by decide) (by kernel_rfl) HAB.out (fun w8 HC HW => ?_); have hC : Hid (CB w8 w.heap.size 41 ((sigI x a b).cells s)) := HC.out; replace HI := hC; clear hC; replace HS := Lib.hid (HS.out.keep (HW.out.block _ HS.out.lt (fun e => by injection e with e; have := HG1.out; have := HG2.out; have := HG3.out; omega))); replace B1 := Lib.hid (B1.out.keep (HW.out.block _ B1.out.lt (fun e => by injection e with e; have := HG1.out; have := HG2.out; have := HG3.out; omega))); replace B2 := Lib.hid (B2.out.keep (HW.out.block _ B2.out.lt (fun e => by injection e with e; have := HG1.out; have := HG2.out; have := HG3.out; omega))); replace HB := Lib.hid (HB.out.grown HW.out HB.out.size (fun q e => by injection e with e; omega)); clear HC HW; clear T12; have T13 := Lib.hid (Nat.le_refl 13)))
 go_upto_region 12 with (first
  | (have _g := T13.out; refine wpList_load_cs (by rfl) 41 (.tmp 3) rfl w.heap.size ((sigI x a b).cells s) rfl 41 _ HI.out Tryz.underlying41 rfl (by kernel_rfl) ?_; clear T13; have T14 := Lib.hid (Nat.le_refl 14))
  | (have _g := T14.out; go_at_call 23; refine (sgn_old (HX0.out.sig a b) HB.out (Hi.out.sig HAI.out.1 HAI.out.2) (HF.out.sig a b) (HL.out.ext HB.out) ((okI_sig x a b).trans Hk.out) Hs.out).mono ?_; go_loud (rintro e w9 ⟨sm, rfl, hI, hb⟩; replace HI := Lib.hid (HI.out.ext hb); replace HS := Lib.hid (HS.out.ext hb); replace B1 := Lib.hid (B1.out.ext hb); replace B2 := Lib.hid (B2.out.ext hb); replace HB := Lib.hid (below_ext HB.out hb); have R2 := Lib.hid hI; have HG9 := Lib.hid B2.out.lt; clear hI; have HZ : Hid (CB (w9.alloc ZI) w9.heap.size 41 ZIc) := Lib.hid (cb_one w9 ZI _ _ rfl); clear hb; clear T14; have T15 := Lib.hid (Nat.le_refl 15)))
  | (have _g := T15.out; have _h := HZ.out; refine wpList_store_cs rfl 41 (.tmp 12) (.tmp 47) rfl w9.heap.size ((sigI (sigI x a b) (r : Int) (t : Int)).cells sm) rfl rfl 41 ZIc HZ.out rfl (by kernel_rfl) (inpR_one R2.out) (fun wa HC HG HS_ => ?_); have hbs : Below w9.heap.size w9 wa := (b_al (w := w9) ZI).grown HG.out (b_al (w := w9) ZI).size (fun q e => by injection e with e; omega); replace HI := Lib.hid (HI.out.ext hbs); replace HS := Lib.hid (HS.out.ext hbs); replace B1 := Lib.hid (B1.out.ext hbs); replace B2 := Lib.hid (B2.out.ext hbs); replace HB := Lib.hid (below_ext HB.out hbs); have B3 := HC; clear hbs HC HG HS_ HZ _h; clear T15; have T16 := Lib.hid (Nat.le_refl 16)))
 have HG4 : Hid (w6.heap.size < w9.heap.size) := Lib.hid HG9.out
 go_upto_region 13 with (first
  | (have _g := T16.out; refine wpList_load_cs (by rfl) 39 (.tmp 5) rfl (w.heap.size + 1) [.int .i64 a, .int .i64 b] rfl 39 _ HS.out Tryz.underlying39 rfl (by kernel_rfl) ?_; clear T16; have T17 := Lib.hid (Nat.le_refl 17))
  | (have _g := T17.out; refine wpList_store_part rfl 39 (.tmp 50) (.tmp 49) rfl w6.heap.size 30 [.int .i64 a, .int .i64 b] rfl rfl _ _ B2.out (show 30 + 2 ≤ 32 by decide) (by kernel_rfl) HAB.out (fun wb HC HW => ?_); have hC : Hid (CB wb w6.heap.size 41 ((sigI (sigI x (r : Int) (t : Int)) a b).cells sl)) := HC.out; replace B2 := hC; clear hC; replace HI := Lib.hid (HI.out.keep (HW.out.block _ HI.out.lt (fun e => by injection e with e; have := HG1.out; have := HG2.out; have := HG3.out; have := HG4.out; omega))); replace B1 := Lib.hid (B1.out.keep (HW.out.block _ B1.out.lt (fun e => by injection e with e; have := HG1.out; have := HG2.out; have := HG3.out; have := HG4.out; omega))); replace B3 := Lib.hid (B3.out.keep (HW.out.block _ B3.out.lt (fun e => by injection e with e; have := HG1.out; have := HG2.out; have := HG3.out; have := HG4.out; omega))); replace HB := Lib.hid (HB.out.grown HW.out HB.out.size (fun q e => by injection e with e; have := HG1.out; have := HG2.out; omega)); clear HC HW; clear T17; have T18 := Lib.hid (Nat.le_refl 18)))
 go_wp2_with (first
  | (have _g := T18.out; refine wpList_load_cs (by rfl) 41 (.tmp 9) rfl w5.heap.size ((sigI x (r : Int) (t : Int)).cells sl) rfl 41 _ B1.out Tryz.underlying41 rfl (by kernel_rfl) ?_; clear T18; have T19 := Lib.hid (Nat.le_refl 19))
  | (have _g := T19.out; go_at_call 26; refine (ver_tt (R1.out.ext HB.out) HXI.out HXz.out (HL.out.ext HB.out) HXk.out HV.out.1 HV.out.2.1 HV.out.2.2.1 HV.out.2.2.2).mono ?_; go_loud (rintro e wc ⟨rfl, hb⟩; replace HI := Lib.hid (HI.out.ext hb); replace B1 := Lib.hid (B1.out.ext hb); replace B2 := Lib.hid (B2.out.ext hb); replace B3 := Lib.hid (B3.out.ext hb); replace HB := Lib.hid (below_ext HB.out hb); clear hb; clear T19; have T20 := Lib.hid (Nat.le_refl 20)))
  | (have _g := T20.out; refine wpList_load_cs (by rfl) 41 (.tmp 9) rfl w5.heap.size ((sigI x (r : Int) (t : Int)).cells sl) rfl 41 _ B1.out Tryz.underlying41 rfl (by kernel_rfl) ?_; clear T20; have T21 := Lib.hid (Nat.le_refl 21))
  | (have _g := T21.out; refine wpList_load_cs (by rfl) 41 (.tmp 12) rfl w9.heap.size ((sigI (sigI x a b) (r : Int) (t : Int)).cells sm) rfl 41 _ B3.out Tryz.underlying41 rfl (by kernel_rfl) ?_; clear T21; have T22 := Lib.hid (Nat.le_refl 22))
  | (have _g := T22.out; go_at_call 18; refine (rsam_eq (R1.out.ext HB.out) (R2.out.ext HB.out) true (decide_eq_true rfl)).mono ?_; go_loud (rintro e wd ⟨rfl, hb⟩; replace HI := Lib.hid (HI.out.ext hb); replace B1 := Lib.hid (B1.out.ext hb); replace B2 := Lib.hid (B2.out.ext hb); replace B3 := Lib.hid (B3.out.ext hb); replace HB := Lib.hid (below_ext HB.out hb); clear hb; clear T22; have T23 := Lib.hid (Nat.le_refl 23)))
  | (have _g := T23.out; refine wpList_load_cs (by rfl) 41 (.tmp 11) rfl w6.heap.size ((sigI (sigI x (r : Int) (t : Int)) a b).cells sl) rfl 41 _ B2.out Tryz.underlying41 rfl (by kernel_rfl) ?_; clear T23; have T24 := Lib.hid (Nat.le_refl 24))
  | (have _g := T24.out; refine wpList_load_cs (by rfl) 41 (.tmp 3) rfl w.heap.size ((sigI x a b).cells s) rfl 41 _ HI.out Tryz.underlying41 rfl (by kernel_rfl) ?_; clear T24; have T25 := Lib.hid (Nat.le_refl 25))
  | (have _g := T25.out; go_at_call 18; refine (rsam_eq ((R1.out.sig a b).ext HB.out) ((HX0.out.sig a b).ext HB.out) true (decide_eq_true rfl)).mono ?_; go_loud (rintro e we ⟨rfl, hb⟩; replace HI := Lib.hid (HI.out.ext hb); replace B1 := Lib.hid (B1.out.ext hb); replace B2 := Lib.hid (B2.out.ext hb); replace B3 := Lib.hid (B3.out.ext hb); replace HB := Lib.hid (below_ext HB.out hb); clear hb; clear T25; have T26 := Lib.hid (Nat.le_refl 26))))
 go_ret
 exact ⟨rfl, HB.out⟩
theorem lawsigned_any (x : Inp) (s : Slc) (k a b : Int) (w : World) (hx : InpR w x s) (hi : InpI x) (hL : Laid w) (hab : I64 a ∧ I64 b) : Calls Tryz.prog 9 #[x.v s, .int .i64 k, .agg #[.int .i64 a, .int .i64 b]] w (TrueP w) := by
 cases hf : fewB x with
 | false => exact sgdA x s k a b w hx hi hL hf
 | true =>
  cases hk : okI x with
  | false => exact sgdB x s k a b w hx hi hL hf hk
  | true =>
   by_cases hz : ZPr k
   · exact sgdD x s k a b w hx hi hL hab hf hk hz
   · exact sgdC x s k a b w hx hi hL hf hk hz
end Go.Proofs.YtdblnbnofjggnaaGreatDoor
