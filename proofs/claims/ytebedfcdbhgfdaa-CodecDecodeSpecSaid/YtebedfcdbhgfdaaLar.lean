/- CodecRoundTrip: the walk. -/
import Derived.Test.YtebedfcdbhgfdaaPla
import Derived.Test.YtebedfcdbhgfdaaLae
namespace Go.Proofs.Ytebedfcdbhgfdaa
open Go.RowKit

theorem BtsAt.ext {w w' : World} {l : List UInt8} {v : Value} (h : BtsAt w.heap.size w l v) (hb : Below w.heap.size w w') : BtsAt w'.heap.size w' l v := h.keep hb.size hb.block
theorem conv_bts {B : Nat} {w : World} {v : Value} {l : List UInt8} (h : BtsAt B w l v) : (convert 27 9 v).run Try.prog w = .ok (.string ⟨l.toArray⟩) w := run_conv_bts Try.underlying27 Try.underlying5 Try.underlying9 h
set_option maxRecDepth 100000 in
set_option maxHeartbeats 4000000 in
theorem roundTrip_walk (x : V) (u : Value) (raw : List UInt8) (v : Value) (w : World) (hr : RdV w.heap.size w x u) (hr2 : BtsAt w.heap.size w raw v) : Calls Try.prog 6 #[u, v] w (BoolPost true w) := by
  have HR := Lib.hid hr
  have HW := Lib.hid hr2
  have hok := Lib.hid hr.ok
  obtain ⟨oa, cap, rfl, _⟩ := hr.form
  obtain ⟨ob, cap2, rfl, hbc, hbm⟩ := hr2.form
  have hrl : raw.length ≤ 9223372036854775807 := by unfold maxLen at hbm; omega
  clear hr hr2 hbc hbm
  have hall : [x].all fewB = fewB x := by simp
  have Hall := Lib.hid hall; clear hall
  cases hfx : fewB x with
  | false =>
    go_enter Try.func6, Try.ntmps6
    go_wp2_with fail
    refine (sane_any _).mono ?_
    rintro e w1 ⟨rfl, hb1⟩
    obtain ⟨c0, c1, c2, c3⟩ := box_ext hb1
    go_wp2_with fail
    refine (fewl_any [x] _ _ _ (sl_one (HR.out.ext (below_after hb1)))).mono ?_
    rw [Hall.out, hfx]
    rintro e w2 ⟨rfl, hb2⟩
    go_wp2_with fail
    go_ret
    exact ⟨rfl, below_ext (below_after hb1) (below_after hb2)⟩
  | true =>
  have hsz := few_sz hfx
  by_cases h2000 : 2000 < raw.length
  · go_enter Try.func6, Try.ntmps6
    go_wp2_with fail
    refine (sane_any _).mono ?_
    rintro e w1 ⟨rfl, hb1⟩
    obtain ⟨c0, c1, c2, c3⟩ := box_ext hb1
    go_wp2_with fail
    refine (fewl_any [x] _ _ _ (sl_one (HR.out.ext (below_after hb1)))).mono ?_
    rw [Hall.out, hfx]
    rintro e w2 ⟨rfl, hb2⟩
    go_wp2_with fail
    go_ret
    exact ⟨rfl, below_ext (below_after hb1) (below_after hb2)⟩
  have hle : raw.length ≤ 2000 := by omega
  clear h2000
  obtain ⟨o, ho⟩ : ∃ o, decF raw = o := ⟨_, rfl⟩
  have HO := Lib.hid ho; clear ho
  by_cases hck : ck x = 0
  case pos =>
    have Hck := Lib.hid hck; clear hck
    go_enter Try.func6, Try.ntmps6
    go_wp2_with fail
    refine (sane_any _).mono ?_
    rintro e w1 ⟨rfl, hb1⟩
    have hB1 := below_after hb1
    have HC1 := Lib.hid (C4.of_box hb1)
    clear hb1
    obtain ⟨c0, c1, c2, c3⟩ := HC1.out
    go_wp2_with fail
    refine (fewl_any [x] _ _ _ (sl_one (HR.out.ext hB1))).mono ?_
    rw [Hall.out, hfx]
    rintro e w2 ⟨rfl, hb2⟩
    have hB2 := below_ext hB1 (below_after hb2)
    have HC2 := Lib.hid (HC1.out.ext (below_after hb2))
    clear hB1 hb2 HC1 c0 c1 c2 c3
    obtain ⟨c0, c1, c2, c3⟩ := HC2.out
    go_wp2_with fail
    refine (encode_any x hsz _ _ (HR.out.ext hB2)).mono ?_
    rintro e w3 ⟨v3, rfl, hv3, hb3⟩
    rw [Hck.out] at hv3 ⊢
    rw [if_pos rfl] at hv3
    obtain ⟨oa3, cap3, rfl⟩ := hv3.form
    have Hv3 := Lib.hid hv3
    have HC3 := Lib.hid (HC2.out.ext hb3)
    have hB3 := below_ext hB2 hb3
    clear hB2 hb3 hv3 HC2 c0 c1 c2 c3
    obtain ⟨c0, c1, c2, c3⟩ := HC3.out
    go_wp2_with fail
    refine (check_any x (by omega) _ _ (HR.out.ext hB3)).mono ?_
    rw [Hck.out]
    rintro e w4 ⟨rfl, hb4⟩
    have HC4 := Lib.hid (HC3.out.ext hb4)
    have hB4 := below_ext hB3 hb4
    have Hv4 := Lib.hid (Hv3.out.ext hb4)
    clear hB3 hb4 HC3 Hv3 c0 c1 c2 c3
    obtain ⟨c0, c1, c2, c3⟩ := HC4.out
    go_wp2_with fail
    refine (decode_rd (enc x) (by have := enc_sz x; omega) _ _ Hv4.out.bts).mono ?_
    rw [decF_enc Hck.out hok.out]
    rintro e w5 ⟨oa5, cap5, rfl, hv5, hb5⟩
    have HC5 := Lib.hid (HC4.out.ext hb5)
    have hB5 := below_ext hB4 hb5
    have HV5 := Lib.hid hv5
    have hlt : w.heap.size < w5.heap.size := World.block_lt_of_cell? w5 _ HC5.out.c0
    clear hB4 hb5 HC4 Hv4 c0 c1 c2 c3 hv5
    obtain ⟨c0, c1, c2, c3⟩ := HC5.out
    go_wp2_with fail
    refine (same_any 60000 (by decide) x x hsz _ _ _ ((HR.out.ext hB5).alloc _) (HV5.out.alloc _)).mono ?_
    rw [sm_refl]
    rintro e w6 ⟨rfl, hb6⟩
    have HD6 := Lib.hid (C4.of_box hb6)
    have HC6 := Lib.hid (HC5.out.ext (below_after hb6))
    have hB6 := below_ext hB5 (below_after hb6)
    have HV6 := Lib.hid (HV5.out.ext (below_after hb6))
    clear hB5 hb6 HC5 HV5 c0 c1 c2 c3 hlt
    obtain ⟨c0, c1, c2, c3⟩ := HC6.out
    obtain ⟨d0, d1, d2, d3⟩ := HD6.out
    go_wp2_with fail
    refine (rsame_any 60000 (by decide) x x hsz _ _ _ (HR.out.ext hB6) HV6.out).mono ?_
    rw [sm_refl]
    rintro e wq ⟨rfl, hb7⟩
    have hBq := below_ext hB6 hb7
    clear hB6 hb7 HC6 HD6 HV6 c0 c1 c2 c3 d0 d1 d2 d3 Hck
    go_wp2_with fail
    refine (decode_rd raw (by omega) _ _ (HW.out.ext hBq)).mono ?_
    rw [HO.out]
    cases o with
    | none =>
      rintro e w8 ⟨rfl, hb8⟩
      have hB8 := below_ext hBq hb8
      clear hBq hb8
      go_wp2_with fail
      refine (same_any 60000 (by decide) vZ vZ (by decide +kernel) _ _ _ (rd_vZ _ _) (rd_vZ _ _)).mono ?_
      rw [sm_refl]
      rintro e w9 ⟨rfl, hb9⟩
      go_wp2_with fail
      go_ret
      exact ⟨rfl, below_ext hB8 (below_after hb9)⟩
    | some z =>
      have hz4 := (decF_sound HO.out (by unfold maxLen; omega)).2.2.2
      have Hz := Lib.hid (decF_sound HO.out (by unfold maxLen; omega))
      have hzs : sz z ≤ 60000 := by omega
      clear hz4
      rintro e w8 ⟨oa8, cap8, rfl, hv8, hb8⟩
      have hB8 := below_ext hBq hb8
      have HV8 := Lib.hid hv8
      clear hBq hb8 hv8
      go_wp2_with fail
      refine (encode_any z hzs _ _ (HV8.out.alloc _)).mono ?_
      rintro e w9 ⟨v9, rfl, hv9, hb9⟩
      rw [Hz.out.2.1] at hv9 ⊢
      rw [if_pos rfl, Hz.out.1] at hv9
      obtain ⟨oa9, cap9, rfl⟩ := hv9.form
      have hB9 := below_ext hB8 (below_after hb9)
      have k1 := conv_B hv9
      have k2 := conv_bts (HW.out.ext hB9)
      have HV9 := Lib.hid (HV8.out.ext (below_after hb9))
      obtain ⟨d0, d1, d2, d3⟩ := box_ext hb9
      clear hB8 hb9 hv9 HV8
      go_wp2_with fail
      refine (check_any z (by omega) _ _ HV9.out).mono ?_
      rw [Hz.out.2.1]
      rintro e w10 ⟨rfl, hb10⟩
      go_wp2_with fail
      go_ret
      exact ⟨rfl, below_ext hB9 hb10⟩
  case neg =>
    have hne : (ck x == 0) = false := by rw [beq_eq_false_iff_ne]; exact hck
    have Hck := Lib.hid hck; clear hck
    go_enter Try.func6, Try.ntmps6
    go_wp2_with fail
    refine (sane_any _).mono ?_
    rintro e w1 ⟨rfl, hb1⟩
    have hB1 := below_after hb1
    have HC1 := Lib.hid (C4.of_box hb1)
    clear hb1
    obtain ⟨c0, c1, c2, c3⟩ := HC1.out
    go_wp2_with fail
    refine (fewl_any [x] _ _ _ (sl_one (HR.out.ext hB1))).mono ?_
    rw [Hall.out, hfx]
    rintro e w2 ⟨rfl, hb2⟩
    have hB2 := below_ext hB1 (below_after hb2)
    have HC2 := Lib.hid (HC1.out.ext (below_after hb2))
    clear hB1 hb2 HC1 c0 c1 c2 c3
    obtain ⟨c0, c1, c2, c3⟩ := HC2.out
    go_wp2_with fail
    refine (encode_any x hsz _ _ (HR.out.ext hB2)).mono ?_
    rintro e w3 ⟨v3, rfl, hv3, hb3⟩
    obtain ⟨oa3, cap3, rfl⟩ := hv3.form
    have HC3 := Lib.hid (HC2.out.ext hb3)
    have hB3 := below_ext hB2 hb3
    clear hB2 hb3 hv3 HC2 c0 c1 c2 c3
    obtain ⟨c0, c1, c2, c3⟩ := HC3.out
    go_wp2_with fail
    refine (check_any x (by omega) _ _ (HR.out.ext hB3)).mono ?_
    rintro e wq ⟨rfl, hb4⟩
    have hBq := below_ext hB3 hb4
    clear hB3 hb4 HC3 c0 c1 c2 c3 Hck
    go_wp2_with fail
    refine (decode_rd raw (by omega) _ _ (HW.out.ext hBq)).mono ?_
    rw [HO.out]
    cases o with
    | none =>
      rintro e w8 ⟨rfl, hb8⟩
      have hB8 := below_ext hBq hb8
      clear hBq hb8
      go_wp2_with fail
      refine (same_any 60000 (by decide) vZ vZ (by decide +kernel) _ _ _ (rd_vZ _ _) (rd_vZ _ _)).mono ?_
      rw [sm_refl]
      rintro e w9 ⟨rfl, hb9⟩
      go_wp2_with fail
      go_ret
      exact ⟨rfl, below_ext hB8 (below_after hb9)⟩
    | some z =>
      have hz4 := (decF_sound HO.out (by unfold maxLen; omega)).2.2.2
      have Hz := Lib.hid (decF_sound HO.out (by unfold maxLen; omega))
      have hzs : sz z ≤ 60000 := by omega
      clear hz4
      rintro e w8 ⟨oa8, cap8, rfl, hv8, hb8⟩
      have hB8 := below_ext hBq hb8
      have HV8 := Lib.hid hv8
      clear hBq hb8 hv8
      go_wp2_with fail
      refine (encode_any z hzs _ _ (HV8.out.alloc _)).mono ?_
      rintro e w9 ⟨v9, rfl, hv9, hb9⟩
      rw [Hz.out.2.1] at hv9 ⊢
      rw [if_pos rfl, Hz.out.1] at hv9
      obtain ⟨oa9, cap9, rfl⟩ := hv9.form
      have hB9 := below_ext hB8 (below_after hb9)
      have k1 := conv_B hv9
      have k2 := conv_bts (HW.out.ext hB9)
      have HV9 := Lib.hid (HV8.out.ext (below_after hb9))
      obtain ⟨d0, d1, d2, d3⟩ := box_ext hb9
      clear hB8 hb9 hv9 HV8
      go_wp2_with fail
      refine (check_any z (by omega) _ _ HV9.out).mono ?_
      rw [Hz.out.2.1]
      rintro e w10 ⟨rfl, hb10⟩
      go_wp2_with fail
      go_ret
      exact ⟨rfl, below_ext hB9 hb10⟩
end Go.Proofs.Ytebedfcdbhgfdaa
