/- the reference's Formed. -/
import Derived.Test.YtebedfcdbhgfdaaChk
namespace Go.Proofs.Ytebedfcdbhgfdaa
open Go.RowKit

def RFormRel (B : Nat) (w : World) (l : List V) (i : Value) (wr : World) : Prop := ∃ k : Nat, k ≤ l.length ∧ i = .int .i64 k ∧ fms (l.take k) = true ∧ Below B w wr

set_option maxRecDepth 100000 in
set_option maxHeartbeats 1000000 in
theorem rformed_any (N : Nat) (hN : N ≤ 1000000000) : ∀ (x : V) (_ : sz x ≤ N) (v : Value) (w : World) (_ : RdV w.heap.size w x v), Calls Try.prog 29 #[v] w (BoolPost (fm x) w) := by
  induction N with
  | zero => intro x hx; obtain ⟨k, n, s, l⟩ := x; simp [sz] at hx
  | succ N ih =>
  have IH := Lib.hid (ih (by omega)); clear ih
  intro x hx v w hr
  obtain ⟨k, n, s, l⟩ := x
  obtain ⟨oa, cap, rfl, hl⟩ := hr.form
  clear hr
  simp only [V.kind, V.n, V.s, V.l] at *
  have HL := Lib.hid hl; clear hl
  obtain ⟨le, hle⟩ : ∃ b, (((l.length : Nat) : Int) == 0) = b := ⟨_, rfl⟩
  have Hle : Hid (l.isEmpty = le) := by
    show l.isEmpty = le
    rw [← hle]; cases l <;> simp <;> omega
  obtain ⟨bn, hbn⟩ : ∃ b, (n == 0) = b := ⟨_, rfl⟩
  obtain ⟨bs, hbs⟩ : ∃ b, s.toList.isEmpty = b := ⟨_, rfl⟩
  have Hn : Hid ((n == 0) = bn) := hbn
  have Hs : Hid (s.toList.isEmpty = bs) := hbs
  have hszl : szs l ≤ N := by have := hx; simp only [sz] at this; omega
  have hll : l.length ≤ 1000000000 := by have := szs_len l; omega
  have hc : k = 1 ∨ k = 2 ∨ k = 3 ∨ (k < 1 ∨ 3 < k) := by omega
  rcases hc with rfl | rfl | rfl | hc
  · have HF := Lib.hid (fm_1 n s l bs Hs.out)
    cases bs <;> cases le
    all_goals
      go_enter Try.func29, Try.ntmps29
      go_wp2
      go_ret
      exact ⟨by rw [HF.out, Hle.out]; rfl, by repeat (first | exact Below.refl _ _ | refine Below.alloc ?_ (by simp) _)⟩
  · have HF := Lib.hid (fm_2 n s l bn Hn.out)
    cases bn <;> cases le
    all_goals
      go_enter Try.func29, Try.ntmps29
      go_wp2
      go_ret
      exact ⟨by rw [HF.out, Hle.out]; rfl, by repeat (first | exact Below.refl _ _ | refine Below.alloc ?_ (by simp) _)⟩
  · go_enter Try.func29, Try.ntmps29
    go_wp2
    go_loopw [2, 3] (fun r i wr => r = .bool false ∧ RFormRel (w.heap.size + 1) (w.alloc (.cells #[.int .i64 3, .int .i64 n, .string s, .slice oa l.length cap] 24)) l i wr) (fun _ i _ => l.length - (intOf i).toNat)
    case atStart => exact ⟨rfl, 0, Nat.zero_le _, rfl, rfl, Below.refl _ _⟩
    case round =>
      obtain ⟨rfl, k, hkl, rfl, hfm, hb⟩ := hrel
      have Hfm := Lib.hid hfm; clear hfm
      have hbox := fun o => hb.cell (p := ⟨w.heap.size, o, none⟩) (by simp)
      have hbw : Below w.heap.size w wr := below_box hb
      by_cases hlt : k < l.length
      case neg =>
        have HF := Lib.hid (fm_3 n s l bn bs Hn.out Hs.out)
        have hkk : Hid (l.take k = l) := List.take_of_length_le (by omega)
        cases bn <;> cases bs
        all_goals
          go_wp2
          go_ret
          exact ⟨by rw [HF.out, ← hkk.out, Hfm.out]; rfl, hbw⟩
      case pos =>
        obtain ⟨x, hx'⟩ : ∃ x, l[k]? = some x := ⟨l[k], by simp [hlt]⟩
        have Hx := Lib.hid hx'; clear hx'
        obtain ⟨c, o, xo, xc, rfl, hcb, c0, c1, c2, c3, hrd⟩ := HL.out.elem hbw.block hbw.size Hx.out
        have hsx := szs_get Hx.out
        rcases Bool.eq_false_or_eq_true (fm x) with hfx | hfx
        · go_wp2_with (go_at_call 29; refine (IH.out x (by omega) _ _ hrd).mono ?_; rintro e w' ⟨rfl, hb'⟩)
          go_roundw
          case rel => exact ⟨rfl, k + 1, by omega, by go_num, by rw [fms_take Hx.out, Hfm.out, hfx]; rfl, hb.trans (hb'.mono (by have := hb.size; simpa using this))⟩
          case measure => simp [intOf]; omega
        · go_wp2_with (go_at_call 29; refine (IH.out x (by omega) _ _ hrd).mono ?_; rintro e w' ⟨rfl, hb'⟩)
          have HF := Lib.hid (fm_3 n s l bn bs Hn.out Hs.out)
          have hfl := fms_false Hx.out hfx
          go_ret
          exact ⟨by rw [HF.out, hfl]; simp, below_ext hbw hb'⟩
  · have HF := Lib.hid (fm_bad k n s l (by omega))
    have n1 : (k == 1) = false := by rw [beq_eq_false_iff_ne]; omega
    have n2 : (k == 2) = false := by rw [beq_eq_false_iff_ne]; omega
    have n3 : (k == 3) = false := by rw [beq_eq_false_iff_ne]; omega
    clear hc
    go_enter Try.func29, Try.ntmps29
    go_wp2
    go_ret
    exact ⟨by rw [HF.out]; rfl, by repeat (first | exact Below.refl _ _ | refine Below.alloc ?_ (by simp) _)⟩
end Go.Proofs.Ytebedfcdbhgfdaa
