/- CodecEncodeSpec: the walk. -/
import Derived.Test.YtebedfcdbhgfdaaFew
namespace Go.Proofs.Ytebedfcdbhgfdaa
open Go.RowKit

theorem conv_B {w : World} {v : Value} {l : List UInt8} (h : RdB w v l) : (convert 27 9 v).run Try.prog w = .ok (.string ⟨l.toArray⟩) w := run_conv_rd Try.underlying27 Try.underlying5 Try.underlying9 h
theorem encS_ext {w w' : World} (hb : Below w.heap.size w w') {T : Nat} {a b c d v v' : Value} {l l' : List UInt8} (hc : C4 w T a b c d) (hv : RdB w v l) (hv' : RdB w v' l') :
    w'.cell? ⟨T, 0, none⟩ = some a ∧ w'.cell? ⟨T, 1, none⟩ = some b ∧ w'.cell? ⟨T, 2, none⟩ = some c ∧ w'.cell? ⟨T, 3, none⟩ = some d ∧ (convert 27 9 v).run Try.prog w' = .ok (.string ⟨l.toArray⟩) w' ∧ (convert 27 9 v').run Try.prog w' = .ok (.string ⟨l'.toArray⟩) w' :=
  ⟨cell_ext hb hc.c0, cell_ext hb hc.c1, cell_ext hb hc.c2, cell_ext hb hc.c3, conv_B (hv.ext hb), conv_B (hv'.ext hb)⟩
set_option maxRecDepth 100000 in
set_option maxHeartbeats 2000000 in
theorem encodeSpec_walk (x : V) (v : Value) (w : World) (hr : RdV w.heap.size w x v) : Calls Try.prog 3 #[v] w (BoolPost true w) := by
  have HR := Lib.hid hr
  obtain ⟨oa, cap, rfl, _⟩ := hr.form
  clear hr
  have hall : [x].all fewB = fewB x := by simp
  have Hall := Lib.hid hall; clear hall
  cases hfx : fewB x with
  | false =>
    go_enter Try.func3, Try.ntmps3
    go_wp2_with fail
    refine (sane_any _).mono ?_
    rintro e w1 ⟨rfl, hb1⟩
    obtain ⟨c0, c1, c2, c3⟩ := box_ext hb1
    go_wp2_with fail
    refine (fewl_any [x] _ _ _ (sl_one (HR.out.ext (below_after hb1)))).mono ?_
    rw [Hall.out, hfx]
    rintro e w2 ⟨rfl, hb2⟩
    go_wp2_with fail
    go_ret
    exact ⟨rfl, below_ext (below_after hb1) (below_after hb2)⟩
  | true =>
    have hsz := few_sz hfx
    go_enter Try.func3, Try.ntmps3
    go_wp2_with fail
    refine (sane_any _).mono ?_
    rintro e w1 ⟨rfl, hb1⟩
    have hB1 := below_after hb1
    have HC1 := Lib.hid (C4.of_box hb1)
    clear hb1
    obtain ⟨c0, c1, c2, c3⟩ := HC1.out
    go_wp2_with fail
    refine (fewl_any [x] _ _ _ (sl_one (HR.out.ext hB1))).mono ?_
    rw [Hall.out, hfx]
    rintro e w2 ⟨rfl, hb2⟩
    have hB2 := below_ext hB1 (below_after hb2)
    have HC2 := Lib.hid (HC1.out.ext (below_after hb2))
    clear hB1 hb2 HC1 c0 c1 c2 c3
    obtain ⟨c0, c1, c2, c3⟩ := HC2.out
    go_wp2_with fail
    refine (encode_any x hsz _ _ (HR.out.ext hB2)).mono ?_
    have hsp : ∃ eb, (if ck x = 0 then enc x else []) = eb := ⟨_, rfl⟩
    obtain ⟨eb, heb⟩ := hsp
    have hsn : ∃ nb : Int, (if ck x = 0 then ((enc x).length : Int) else 0) = nb := ⟨_, rfl⟩
    obtain ⟨nb, hnb⟩ := hsn
    have Heb := Lib.hid heb; have Hnb := Lib.hid hnb; clear heb hnb
    rintro e w3 ⟨v3, rfl, hv3, hb3⟩
    rw [Heb.out] at hv3
    obtain ⟨oa3, cap3, rfl⟩ := hv3.form
    have Hv3 := Lib.hid hv3
    have HC3 := Lib.hid (HC2.out.ext hb3)
    have hB3 := below_ext hB2 hb3
    clear hB2 hb3 hv3 HC2 c0 c1 c2 c3
    obtain ⟨c0, c1, c2, c3⟩ := HC3.out
    go_wp2_with fail
    refine (rEncode_any x hsz _ _ (HR.out.ext hB3)).mono ?_
    rintro e w4 ⟨v4, rfl, hv4, hb4⟩
    rw [Heb.out] at hv4
    obtain ⟨oa4, cap4, rfl⟩ := hv4.form
    have Hv4 := Lib.hid hv4
    have HC4 := Lib.hid (HC3.out.ext hb4)
    have hB4 := below_ext hB3 hb4
    have Hv34 := Lib.hid (Hv3.out.ext hb4)
    clear hB3 hb4 hv4 HC3 Hv3 c0 c1 c2 c3
    obtain ⟨c0, c1, c2, c3⟩ := HC4.out
    go_wp2_with fail
    refine (size_any x hsz _ _ (HR.out.ext hB4)).mono ?_
    rintro e w5 ⟨rfl, hb5⟩
    rw [Hnb.out]
    have Hv5 := Lib.hid (Hv4.out.ext hb5)
    have HC5 := Lib.hid (HC4.out.ext hb5)
    have hB5 := below_ext hB4 hb5
    have Hv35 := Lib.hid (Hv34.out.ext hb5)
    clear hB4 hb5 HC4 Hv4 Hv34 c0 c1 c2 c3
    obtain ⟨c0, c1, c2, c3⟩ := HC5.out
    go_wp2_with fail
    refine (rsize_any x hsz _ _ (HR.out.ext hB5)).mono ?_
    rintro e w6 ⟨rfl, hb6⟩
    rw [Hnb.out]
    have Hv6 := Lib.hid (Hv5.out.ext hb6)
    have HC6 := Lib.hid (HC5.out.ext hb6)
    have hB6 := below_ext hB5 hb6
    have Hv36 := Lib.hid (Hv35.out.ext hb6)
    clear hB5 hb6 HC5 Hv5 Hv35 c0 c1 c2 c3 Heb Hnb
    have HR6 := Lib.hid (HR.out.ext hB6)
    go_wp2_with fail
    have hS := encS_ext ((Below.refl _ w6).drew) HC6.out Hv36.out Hv6.out
    go_region_held3 (fun w' => w'.cell? ⟨w.heap.size, 0, none⟩ = some (.int .i64 x.kind) ∧ w'.cell? ⟨w.heap.size, 1, none⟩ = some (.int .i64 x.n) ∧ w'.cell? ⟨w.heap.size, 2, none⟩ = some (.string x.s) ∧ w'.cell? ⟨w.heap.size, 3, none⟩ = some (.slice oa x.l.length cap) ∧ (convert 27 9 (.slice oa3 eb.length cap3)).run Try.prog w' = .ok (.string ⟨eb.toArray⟩) w' ∧ (convert 27 9 (.slice oa4 eb.length cap4)).run Try.prog w' = .ok (.string ⟨eb.toArray⟩) w')
      (first | go_keep | exact encS_ext hbS HC6.out Hv36.out Hv6.out)
      (first
       | (go_at_call 16; refine (check_any x (by omega) _ _ (by first | exact HR6.out.ext hbS | exact HR6.out.drew | exact HR6.out)).mono ?_; rintro e w7 ⟨rfl, hb7⟩; have hbS : Below w6.heap.size w6 w7 := by first | exact below_ext hbS hb7 | exact below_undrew hb7 | exact hb7)
       | (go_at_call 17; refine (rcheck_any x hsz _ _ (by first | exact HR6.out.ext hbS | exact HR6.out.drew | exact HR6.out)).mono ?_; rintro e w8 ⟨rfl, hb8⟩; have hbS : Below w6.heap.size w6 w8 := by first | exact below_ext hbS hb8 | exact below_undrew hb8 | exact hb8))
    all_goals
      go_wp2
      go_ret
      exact ⟨rfl, below_ext hB6 hbS⟩
end Go.Proofs.Ytebedfcdbhgfdaa
