/- the reference's Check, Encode, Size. -/
import Derived.Test.YtebedfcdbhgfdaaRenc
import Derived.Test.YtebedfcdbhgfdaaRfm
import Derived.Test.YtebedfcdbhgfdaaRdp
import Derived.Test.YtebedfcdbhgfdaaEco
namespace Go.Proofs.Ytebedfcdbhgfdaa
open Go.RowKit

theorem box_cells {w w' : World} {a b c d : Value} {t : TypeId} (h : Below (w.heap.size + 1) (w.alloc (.cells #[a, b, c, d] t)) w') :
    w'.cell? ⟨w.heap.size, 0, none⟩ = some a ∧ w'.cell? ⟨w.heap.size, 1, none⟩ = some b ∧ w'.cell? ⟨w.heap.size, 2, none⟩ = some c ∧ w'.cell? ⟨w.heap.size, 3, none⟩ = some d :=
  ⟨(h.cell (p := ⟨w.heap.size, 0, none⟩) (by simp)).trans (by simp), (h.cell (p := ⟨w.heap.size, 1, none⟩) (by simp)).trans (by simp), (h.cell (p := ⟨w.heap.size, 2, none⟩) (by simp)).trans (by simp), (h.cell (p := ⟨w.heap.size, 3, none⟩) (by simp)).trans (by simp)⟩
theorem to_box {w w' : World} {ob : Obj} (h : Below (w.alloc ob).heap.size (w.alloc ob) w') : Below (w.heap.size + 1) (w.alloc ob) w' := h.mono (by simp)

set_option maxRecDepth 100000 in
set_option maxHeartbeats 1000000 in
theorem rcheck_any (x : V) (hx : sz x ≤ 60000) (v : Value) (w : World) (hr : RdV w.heap.size w x v) : Calls Try.prog 17 #[v] w (IntPost (ck x) w) := by
  have HR := Lib.hid (fun ob => hr.alloc ob)
  obtain ⟨oa, cap, rfl, hl⟩ := hr.form
  have hd := dp_sz x
  clear hr hl
  rcases Bool.eq_false_or_eq_true (fm x) with hfx | hfx
  · by_cases h16 : 16 < dp x
    all_goals
      have hck := Lib.hid (show ck x = (if 16 < dp x then 2 else 0) from by simp [ck, hfx])
      go_enter Try.func17, Try.ntmps17
      go_wp2_with (first
        | (go_at_call 29; refine (rformed_any 60000 (by decide) x hx _ _ (HR.out _)).mono ?_; rintro e w1 ⟨rfl, hb1⟩; obtain ⟨b0, b1, b2, b3⟩ := box_cells (to_box hb1))
        | (go_at_call 30; refine (rdepth_any 60000 (by decide) x hx _ _ ((HR.out _).ext hb1)).mono ?_; rintro e w2 ⟨rfl, hb2⟩))
      go_ret
      exact ⟨by rw [hck.out]; first | rw [if_pos h16]; rfl | rw [if_neg h16]; rfl, below_after (hb1.trans (hb2.mono hb1.size))⟩
  · have hck := Lib.hid (show ck x = 1 from by simp [ck, hfx])
    go_enter Try.func17, Try.ntmps17
    go_wp2_with (go_at_call 29; refine (rformed_any 60000 (by decide) x hx _ _ (HR.out _)).mono ?_; rintro e w1 ⟨rfl, hb1⟩)
    go_ret
    exact ⟨by rw [hck.out]; rfl, below_after hb1⟩

set_option maxRecDepth 100000 in
set_option maxHeartbeats 1000000 in
theorem rEncode_any (x : V) (hx : sz x ≤ 60000) (v : Value) (w : World) (hr : RdV w.heap.size w x v) : Calls Try.prog 13 #[v] w (EncPost x w) := by
  have HR := Lib.hid (fun ob => hr.alloc ob)
  obtain ⟨oa, cap, rfl, hl⟩ := hr.form
  clear hr hl
  by_cases hck : ck x = 0
  case neg =>
    have hne : (ck x != 0) = true := by rw [bne_iff_ne]; exact hck
    have Hck := Lib.hid hck; clear hck
    go_enter Try.func13, Try.ntmps13
    go_wp2_with (go_at_call 17; refine (rcheck_any x hx _ _ (HR.out _)).mono ?_; rintro e w' ⟨rfl, hb'⟩)
    go_ret2
    exact ⟨_, rfl, by rw [if_neg Hck.out]; exact .inl ⟨rfl, rfl⟩, below_after hb'⟩
  case pos =>
    have hfm := ck_fm hck
    have heq : (ck x != 0) = false := by rw [hck]; rfl
    have Hck := Lib.hid hck; clear hck
    go_enter Try.func13, Try.ntmps13
    go_wp2_with (first
      | (go_at_call 17; refine (rcheck_any x hx _ _ (HR.out _)).mono ?_; rintro e w1 ⟨rfl, hb1⟩; obtain ⟨b0, b1, b2, b3⟩ := box_cells (to_box hb1))
      | (go_at_call 27; refine (rencode_any 60000 (by decide) x hfm hx _ _ ((HR.out _).ext hb1)).mono ?_; rintro e w2 ⟨v2, rfl, ho2, hb2⟩))
    go_ret2
    exact ⟨_, by rw [Hck.out]; rfl, by rw [if_pos Hck.out]; exact ho2.rd, below_after (hb1.trans (hb2.mono hb1.size))⟩

set_option maxRecDepth 100000 in
set_option maxHeartbeats 1000000 in
theorem rsize_any (x : V) (hx : sz x ≤ 60000) (v : Value) (w : World) (hr : RdV w.heap.size w x v) : Calls Try.prog 15 #[v] w (SizePost x w) := by
  have HR := Lib.hid (fun ob => hr.alloc ob)
  obtain ⟨oa, cap, rfl, hl⟩ := hr.form
  clear hr hl
  have hlen : Hid ((if ck x = 0 then enc x else []).length = if ck x = 0 then (enc x).length else 0) := by show _ = _; split <;> rfl
  go_enter Try.func15, Try.ntmps15
  go_wp2_with fail
  refine (rEncode_any x hx _ _ (HR.out _)).mono ?_
  rintro e w' ⟨v', rfl, hv, hb'⟩
  obtain ⟨oa', cap', rfl⟩ := hv.form
  rw [hlen.out]
  clear hv
  generalize hN : (if ck x = 0 then (enc x).length else 0) = N
  have HN := Lib.hid hN; clear hN
  go_wp2
  go_ret2
  exact ⟨by rw [← HN.out]; split <;> rfl, below_after hb'⟩
end Go.Proofs.Ytebedfcdbhgfdaa
