/- chapter 49's law: InputsParts: valid, and its closure (printed by gen49ao.py). -/
import Derived.Test.YtdblnbnofjggnaaGreatDoorK50
namespace Go.Proofs.YtdblnbnofjggnaaGreatDoor
open Go.RowKit
set_option maxRecDepth 100000 in
set_option maxHeartbeats 16000000 in
theorem valid49 (z : Inp) (w : World) : Calls Tryz.prog 29 #[.agg (stC z).toArray] w fun e w' => e = .returned (.bool (stampB z)) ∧ Below w.heap.size w w' := by
 obtain ⟨b1, h1⟩ : ∃ b, decide ((0 : Int) ≤ z.mi) = b := ⟨_, rfl⟩
 have g1 : decide (z.mi ≥ 0) = b1 := h1
 obtain ⟨b2, h2⟩ : ∃ b, decide (z.mi < 1440) = b := ⟨_, rfl⟩
 obtain ⟨b3, h3⟩ : ∃ b, decide ((0 : Int) ≤ z.ce) = b := ⟨_, rfl⟩
 have g3 : decide (z.ce ≥ 0) = b3 := h3
 obtain ⟨b4, h4⟩ : ∃ b, decide (z.ce < 4) = b := ⟨_, rfl⟩
 obtain ⟨b5, h5⟩ : ∃ b, decide ((1 : Int) ≤ z.no) = b := ⟨_, rfl⟩
 have g5 : decide (z.no ≥ 1) = b5 := h5
 obtain ⟨b6, h6⟩ : ∃ b, decide (z.no ≤ 1048576) = b := ⟨_, rfl⟩
 have hS : stampB z = (b1 && b2 && b3 && b4 && b5 && b6) := by
  rw [← h1, ← h2, ← h3, ← h4, ← h5, ← h6]
  unfold stampB inB
  rw [Bool.eq_iff_iff]
  simp only [Bool.and_eq_true, decide_eq_true_eq]
  omega
 have HS := Lib.hid hS
 have hcb := cb_one w (.cells (stC z).toArray 23) 23 (stC z) rfl
 have HB := Lib.hid (b_al (w := w) (.cells (stC z).toArray 23))
 have c0 : (w.alloc (.cells (stC z).toArray 23)).cell? ⟨w.heap.size, 0, none⟩ = some (.int .i64 z.mi) := hcb.cell 0
 have c1 : (w.alloc (.cells (stC z).toArray 23)).cell? ⟨w.heap.size, 1, none⟩ = some (.int .i64 z.ce) := hcb.cell 1
 have c2 : (w.alloc (.cells (stC z).toArray 23)).cell? ⟨w.heap.size, 2, none⟩ = some (.int .i64 z.no) := hcb.cell 2
 clear hS hcb
 cases b1
 case false =>
  go_enter Tryz.func29, Tryz.ntmps29
  go_wp2_with fail
  go_ret
  exact ⟨by rw [HS.out]; rfl, HB.out⟩
 case true =>
 cases b2
 case false =>
  go_enter Tryz.func29, Tryz.ntmps29
  go_wp2_with fail
  go_ret
  exact ⟨by rw [HS.out]; rfl, HB.out⟩
 case true =>
 cases b3
 case false =>
  go_enter Tryz.func29, Tryz.ntmps29
  go_wp2_with fail
  go_ret
  exact ⟨by rw [HS.out]; rfl, HB.out⟩
 case true =>
 cases b4
 case false =>
  go_enter Tryz.func29, Tryz.ntmps29
  go_wp2_with fail
  go_ret
  exact ⟨by rw [HS.out]; rfl, HB.out⟩
 case true =>
 cases b5
 case false =>
  go_enter Tryz.func29, Tryz.ntmps29
  go_wp2_with fail
  go_ret
  exact ⟨by rw [HS.out]; rfl, HB.out⟩
 case true =>
 cases b6
 case false =>
  go_enter Tryz.func29, Tryz.ntmps29
  go_wp2_with fail
  go_ret
  exact ⟨by rw [HS.out]; rfl, HB.out⟩
 case true =>
  go_enter Tryz.func29, Tryz.ntmps29
  go_wp2_with fail
  go_ret
  exact ⟨by rw [HS.out]; rfl, HB.out⟩
theorem chk_lit {x : Inp} {s : Slc} {W : World} {n : Int} (hx : InpR W x s) (h1 : x.text.size ≤ 9223372036854775807) (h2 : x.flt.call.size ≤ 9223372036854775807) (h3 : x.rep.cl.size ≤ 9223372036854775807) (hn : (if okI x then (0 : Int) else 490) = n) : Calls Tryz.prog 13 #[.agg (x.cells s).toArray] W fun e W' => e = .returned (.int .i64 n) ∧ Below W.heap.size W W' :=
 (check_any49 x s W hx h1 h2 h3).mono fun e W' h => by unfold ChkP at h; rw [hn] at h; exact h
theorem valid_lit {z : Inp} {b : Bool} (W : World) (hb : stampB z = b) : Calls Tryz.prog 29 #[.agg (stC z).toArray] W fun e W' => e = .returned (.bool b) ∧ Below W.heap.size W W' :=
 (valid49 z W).mono fun e W' h => by rw [hb] at h; exact h
set_option maxRecDepth 100000 in
set_option maxHeartbeats 16000000 in
theorem prtA (x z : Inp) (s : Slc) (E : Int) (g : Nat) (w : World) (hx : InpR w x s) (hz : CB w g 23 (stC z)) (i1 : x.text.size ≤ 9223372036854775807) (i2 : x.flt.call.size ≤ 9223372036854775807) (i3 : x.rep.cl.size ≤ 9223372036854775807) (hk : okI x = false) (hs : stampB z = false) : Calls Tryz.prog 28 #[.agg (x.cells s).toArray, .int .i64 E, .pointer (some ⟨g, 0, none⟩)] w fun e w' => e = .returned (.bool true) ∧ Below w.heap.size w w' := by
 have HI : Hid (CB (w.alloc (bI x s)) w.heap.size 41 (x.cells s)) := cb_one w (bI x s) _ _ rfl
 have HB := Lib.hid (b_al (w := w) (bI x s)); have RX := Lib.hid (hx.ext (b_al (w := w) (bI x s))); have HZ3 := Lib.hid (hz.ext (b_al (w := w) (bI x s)))
 have H1 := Lib.hid i1; have H2 := Lib.hid i2; have H3 := Lib.hid i3
 have Hn : Hid ((if okI x then (0 : Int) else 490) = 490) := Lib.hid (by rw [hk]; rfl)
 have Hs := Lib.hid hs
 clear hk hs
 clear hx hz i1 i2 i3
 go_enter Tryz.func28, Tryz.ntmps28
 go_upto_region 1 with fail
 change Code.wp _ _ _ _ (w.alloc (bI x s))
 generalize w.alloc (bI x s) = w0 at *
 refine wp_region_late_drew (S := fun w' => CB w' w.heap.size 41 (x.cells s) ∧ CB w' g 23 (stC z)) (late := fun _ => false) (by kernel_rfl) ⟨HI.out.ext (Below.refl w0.heap.size w0).drew, HZ3.out.ext (Below.refl w0.heap.size w0).drew⟩ (fun hHeld => ?_)
 have hdr := (Below.refl w0.heap.size w0).drew
 replace HI := Lib.hid (HI.out.ext hdr); replace HZ3 := Lib.hid (HZ3.out.ext hdr); replace RX := Lib.hid (RX.out.ext hdr); replace HB := Lib.hid (below_ext HB.out hdr)
 clear hdr
 generalize w0.drew = W1 at *
 refine tkLy (some 6) 0 rfl (.agg (x.cells s).toArray) (yieldsIf_load_mid (by rfl) 41 _ rfl w.heap.size 0 rfl (x.cells s) _ (fun wS hSw => cb_rng0 hSw.1) Tryz.underlying41 rfl (by kernel_rfl)) ?_
 refine tkLy (some 9) 3 rfl (.agg (stC z).toArray) (yieldsIf_load_mid (by rfl) 23 _ rfl g 0 rfl (stC z) _ (fun wS hSw => cb_rng0 hSw.2) Tryz.underlying23 rfl (by kernel_rfl)) ?_
 refine rdL 1 fun K hK => ?_
 go_simp
 go_at_call 13
 refine (chk_lit RX.out H1.out H2.out H3.out Hn.out).mono ?_
 rintro e W2 ⟨rfl, hb⟩
 replace HI := Lib.hid (HI.out.ext hb); replace HZ3 := Lib.hid (HZ3.out.ext hb); replace RX := Lib.hid (RX.out.ext hb); replace HB := Lib.hid (below_ext HB.out hb)
 clear hb
 refine goLc hK ⟨HI.out, HZ3.out⟩ fun hHeld => ?_
 clear hK K
 refine tkL (some 8) 2 ?_ (hy := fun wS hSw => by (obtain ⟨s1, s2⟩ := hSw); go_simp; first | done | with_reducible rfl)
 refine rdL 4 fun K hK => ?_
 go_simp
 go_at_call 29
 refine (valid_lit _ Hs.out).mono ?_
 rintro e W3 ⟨rfl, hb⟩
 replace HI := Lib.hid (HI.out.ext hb); replace HZ3 := Lib.hid (HZ3.out.ext hb); replace RX := Lib.hid (RX.out.ext hb); replace HB := Lib.hid (below_ext HB.out hb)
 clear hb
 refine goLc hK ⟨HI.out, HZ3.out⟩ fun hHeld => ?_
 clear hK K
 refine tkL (some 11) 5 ?_ (hy := fun wS hSw => by (obtain ⟨s1, s2⟩ := hSw); go_simp; first | done | with_reducible rfl)
 refine tkLu (some 12) 6 ?_
 refine tkLu (some 13) 7 ?_
 refine tkL (some 14) 8 ?_ (hy := fun wS hSw => by (obtain ⟨s1, s2⟩ := hSw); go_simp; first | done | with_reducible rfl)
 refine tkL (some 15) 9 ?_ (hy := fun wS hSw => by (obtain ⟨s1, s2⟩ := hSw); go_simp; first | done | with_reducible rfl)
 refine tkL (some 5) 10 ?_ (hy := fun wS hSw => by (obtain ⟨s1, s2⟩ := hSw); go_simp; first | done | with_reducible rfl)
 refine wpAnyL_done (by kernel_rfl) ?_ _
 go_wp2_with fail
 go_ret
 exact ⟨rfl, HB.out⟩
set_option maxRecDepth 100000 in
set_option maxHeartbeats 16000000 in
theorem prtB (x z : Inp) (s : Slc) (E : Int) (g : Nat) (w : World) (hx : InpR w x s) (hz : CB w g 23 (stC z)) (i1 : x.text.size ≤ 9223372036854775807) (i2 : x.flt.call.size ≤ 9223372036854775807) (i3 : x.rep.cl.size ≤ 9223372036854775807) (hk : okI x = false) (hs : stampB z = true) (he : (E == 0) = false) : Calls Tryz.prog 28 #[.agg (x.cells s).toArray, .int .i64 E, .pointer (some ⟨g, 0, none⟩)] w fun e w' => e = .returned (.bool true) ∧ Below w.heap.size w w' := by
 have HI : Hid (CB (w.alloc (bI x s)) w.heap.size 41 (x.cells s)) := cb_one w (bI x s) _ _ rfl
 have HB := Lib.hid (b_al (w := w) (bI x s)); have RX := Lib.hid (hx.ext (b_al (w := w) (bI x s))); have HZ3 := Lib.hid (hz.ext (b_al (w := w) (bI x s)))
 have H1 := Lib.hid i1; have H2 := Lib.hid i2; have H3 := Lib.hid i3
 have Hn : Hid ((if okI x then (0 : Int) else 490) = 490) := Lib.hid (by rw [hk]; rfl)
 have Hs := Lib.hid hs
 clear hk hs
 clear hx hz i1 i2 i3
 go_enter Tryz.func28, Tryz.ntmps28
 go_upto_region 1 with fail
 change Code.wp _ _ _ _ (w.alloc (bI x s))
 generalize w.alloc (bI x s) = w0 at *
 refine wp_region_late_drew (S := fun w' => CB w' w.heap.size 41 (x.cells s) ∧ CB w' g 23 (stC z)) (late := fun _ => false) (by kernel_rfl) ⟨HI.out.ext (Below.refl w0.heap.size w0).drew, HZ3.out.ext (Below.refl w0.heap.size w0).drew⟩ (fun hHeld => ?_)
 have hdr := (Below.refl w0.heap.size w0).drew
 replace HI := Lib.hid (HI.out.ext hdr); replace HZ3 := Lib.hid (HZ3.out.ext hdr); replace RX := Lib.hid (RX.out.ext hdr); replace HB := Lib.hid (below_ext HB.out hdr)
 clear hdr
 generalize w0.drew = W1 at *
 refine tkLy (some 6) 0 rfl (.agg (x.cells s).toArray) (yieldsIf_load_mid (by rfl) 41 _ rfl w.heap.size 0 rfl (x.cells s) _ (fun wS hSw => cb_rng0 hSw.1) Tryz.underlying41 rfl (by kernel_rfl)) ?_
 refine tkLy (some 9) 3 rfl (.agg (stC z).toArray) (yieldsIf_load_mid (by rfl) 23 _ rfl g 0 rfl (stC z) _ (fun wS hSw => cb_rng0 hSw.2) Tryz.underlying23 rfl (by kernel_rfl)) ?_
 refine rdL 1 fun K hK => ?_
 go_simp
 go_at_call 13
 refine (chk_lit RX.out H1.out H2.out H3.out Hn.out).mono ?_
 rintro e W2 ⟨rfl, hb⟩
 replace HI := Lib.hid (HI.out.ext hb); replace HZ3 := Lib.hid (HZ3.out.ext hb); replace RX := Lib.hid (RX.out.ext hb); replace HB := Lib.hid (below_ext HB.out hb)
 clear hb
 refine goLc hK ⟨HI.out, HZ3.out⟩ fun hHeld => ?_
 clear hK K
 refine tkL (some 8) 2 ?_ (hy := fun wS hSw => by (obtain ⟨s1, s2⟩ := hSw); go_simp; first | done | with_reducible rfl)
 refine rdL 4 fun K hK => ?_
 go_simp
 go_at_call 29
 refine (valid_lit _ Hs.out).mono ?_
 rintro e W3 ⟨rfl, hb⟩
 replace HI := Lib.hid (HI.out.ext hb); replace HZ3 := Lib.hid (HZ3.out.ext hb); replace RX := Lib.hid (RX.out.ext hb); replace HB := Lib.hid (below_ext HB.out hb)
 clear hb
 refine goLc hK ⟨HI.out, HZ3.out⟩ fun hHeld => ?_
 clear hK K
 refine tkL (some 11) 5 ?_ (hy := fun wS hSw => by (obtain ⟨s1, s2⟩ := hSw); go_simp; first | done | with_reducible rfl)
 refine tkL (some 12) 6 ?_ (hy := fun wS hSw => by (obtain ⟨s1, s2⟩ := hSw); go_simp; first | done | with_reducible rfl)
 refine tkL (some 13) 7 ?_ (hy := fun wS hSw => by (obtain ⟨s1, s2⟩ := hSw); go_simp; first | done | with_reducible rfl)
 refine tkL (some 14) 8 ?_ (hy := fun wS hSw => by (obtain ⟨s1, s2⟩ := hSw); go_simp; first | done | with_reducible rfl)
 refine tkL (some 15) 9 ?_ (hy := fun wS hSw => by (obtain ⟨s1, s2⟩ := hSw); go_simp; first | done | with_reducible rfl)
 refine tkL (some 5) 10 ?_ (hy := fun wS hSw => by (obtain ⟨s1, s2⟩ := hSw); go_simp; first | done | with_reducible rfl)
 refine wpAnyL_done (by kernel_rfl) ?_ _
 go_wp2_with fail
 go_ret
 exact ⟨rfl, HB.out⟩
set_option maxRecDepth 100000 in
set_option maxHeartbeats 16000000 in
theorem prtC (x z : Inp) (s : Slc) (E : Int) (g : Nat) (w : World) (hx : InpR w x s) (hz : CB w g 23 (stC z)) (i1 : x.text.size ≤ 9223372036854775807) (i2 : x.flt.call.size ≤ 9223372036854775807) (i3 : x.rep.cl.size ≤ 9223372036854775807) (hk : okI x = true) (hs : stampB z = true) (he : (E == 0) = true) : Calls Tryz.prog 28 #[.agg (x.cells s).toArray, .int .i64 E, .pointer (some ⟨g, 0, none⟩)] w fun e w' => e = .returned (.bool true) ∧ Below w.heap.size w w' := by
 have HI : Hid (CB (w.alloc (bI x s)) w.heap.size 41 (x.cells s)) := cb_one w (bI x s) _ _ rfl
 have HB := Lib.hid (b_al (w := w) (bI x s)); have RX := Lib.hid (hx.ext (b_al (w := w) (bI x s))); have HZ3 := Lib.hid (hz.ext (b_al (w := w) (bI x s)))
 have H1 := Lib.hid i1; have H2 := Lib.hid i2; have H3 := Lib.hid i3
 have Hn : Hid ((if okI x then (0 : Int) else 490) = 0) := Lib.hid (by rw [hk]; rfl)
 have Hs := Lib.hid hs
 clear hk hs
 clear hx hz i1 i2 i3
 go_enter Tryz.func28, Tryz.ntmps28
 go_upto_region 1 with fail
 change Code.wp _ _ _ _ (w.alloc (bI x s))
 generalize w.alloc (bI x s) = w0 at *
 refine wp_region_late_drew (S := fun w' => CB w' w.heap.size 41 (x.cells s) ∧ CB w' g 23 (stC z)) (late := fun _ => false) (by kernel_rfl) ⟨HI.out.ext (Below.refl w0.heap.size w0).drew, HZ3.out.ext (Below.refl w0.heap.size w0).drew⟩ (fun hHeld => ?_)
 have hdr := (Below.refl w0.heap.size w0).drew
 replace HI := Lib.hid (HI.out.ext hdr); replace HZ3 := Lib.hid (HZ3.out.ext hdr); replace RX := Lib.hid (RX.out.ext hdr); replace HB := Lib.hid (below_ext HB.out hdr)
 clear hdr
 generalize w0.drew = W1 at *
 refine tkLy (some 6) 0 rfl (.agg (x.cells s).toArray) (yieldsIf_load_mid (by rfl) 41 _ rfl w.heap.size 0 rfl (x.cells s) _ (fun wS hSw => cb_rng0 hSw.1) Tryz.underlying41 rfl (by kernel_rfl)) ?_
 refine tkLy (some 9) 3 rfl (.agg (stC z).toArray) (yieldsIf_load_mid (by rfl) 23 _ rfl g 0 rfl (stC z) _ (fun wS hSw => cb_rng0 hSw.2) Tryz.underlying23 rfl (by kernel_rfl)) ?_
 refine rdL 1 fun K hK => ?_
 go_simp
 go_at_call 13
 refine (chk_lit RX.out H1.out H2.out H3.out Hn.out).mono ?_
 rintro e W2 ⟨rfl, hb⟩
 replace HI := Lib.hid (HI.out.ext hb); replace HZ3 := Lib.hid (HZ3.out.ext hb); replace RX := Lib.hid (RX.out.ext hb); replace HB := Lib.hid (below_ext HB.out hb)
 clear hb
 refine goLc hK ⟨HI.out, HZ3.out⟩ fun hHeld => ?_
 clear hK K
 refine tkL (some 8) 2 ?_ (hy := fun wS hSw => by (obtain ⟨s1, s2⟩ := hSw); go_simp; first | done | with_reducible rfl)
 refine rdL 4 fun K hK => ?_
 go_simp
 go_at_call 29
 refine (valid_lit _ Hs.out).mono ?_
 rintro e W3 ⟨rfl, hb⟩
 replace HI := Lib.hid (HI.out.ext hb); replace HZ3 := Lib.hid (HZ3.out.ext hb); replace RX := Lib.hid (RX.out.ext hb); replace HB := Lib.hid (below_ext HB.out hb)
 clear hb
 refine goLc hK ⟨HI.out, HZ3.out⟩ fun hHeld => ?_
 clear hK K
 refine tkL (some 11) 5 ?_ (hy := fun wS hSw => by (obtain ⟨s1, s2⟩ := hSw); go_simp; first | done | with_reducible rfl)
 refine tkL (some 12) 6 ?_ (hy := fun wS hSw => by (obtain ⟨s1, s2⟩ := hSw); go_simp; first | done | with_reducible rfl)
 refine tkL (some 13) 7 ?_ (hy := fun wS hSw => by (obtain ⟨s1, s2⟩ := hSw); go_simp; first | done | with_reducible rfl)
 refine tkL (some 14) 8 ?_ (hy := fun wS hSw => by (obtain ⟨s1, s2⟩ := hSw); go_simp; first | done | with_reducible rfl)
 refine tkL (some 15) 9 ?_ (hy := fun wS hSw => by (obtain ⟨s1, s2⟩ := hSw); go_simp; first | done | with_reducible rfl)
 refine tkL (some 5) 10 ?_ (hy := fun wS hSw => by (obtain ⟨s1, s2⟩ := hSw); go_simp; first | done | with_reducible rfl)
 refine wpAnyL_done (by kernel_rfl) ?_ _
 go_wp2_with fail
 go_ret
 exact ⟨rfl, HB.out⟩
theorem part49 (x z : Inp) (s : Slc) (E : Int) (g : Nat) (w : World) (hx : InpR w x s) (hz : CB w g 23 (stC z)) (i1 : x.text.size ≤ 9223372036854775807) (i2 : x.flt.call.size ≤ 9223372036854775807) (i3 : x.rep.cl.size ≤ 9223372036854775807) (hq : okI x = (stampB z && (E == 0))) : Calls Tryz.prog 28 #[.agg (x.cells s).toArray, .int .i64 E, .pointer (some ⟨g, 0, none⟩)] w fun e w' => e = .returned (.bool true) ∧ Below w.heap.size w w' := by
 cases hs : stampB z with
 | false => exact prtA x z s E g w hx hz i1 i2 i3 (by rw [hq, hs]; rfl) hs
 | true =>
  cases he : (E == 0) with
  | false => exact prtB x z s E g w hx hz i1 i2 i3 (by rw [hq, hs, he]; rfl) hs he
  | true => exact prtC x z s E g w hx hz i1 i2 i3 (by rw [hq, hs, he]; rfl) hs he
end Go.Proofs.YtdblnbnofjggnaaGreatDoor
