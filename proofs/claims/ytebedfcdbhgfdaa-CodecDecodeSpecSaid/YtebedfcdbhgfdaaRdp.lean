/- the reference's Depth. -/
import Derived.Test.YtebedfcdbhgfdaaChk
namespace Go.Proofs.Ytebedfcdbhgfdaa
open Go.RowKit

def RDepRel (B : Nat) (w : World) (l : List V) (d i : Value) (wr : World) : Prop := ∃ k : Nat, k ≤ l.length ∧ i = .int .i64 k ∧ d = .int .i64 (dps (l.take k)) ∧ dps (l.take k) ≤ 1000000000 ∧ Below B w wr

set_option maxRecDepth 100000 in
set_option maxHeartbeats 1000000 in
theorem rdepth_any (N : Nat) (hN : N ≤ 1000000000) : ∀ (x : V) (_ : sz x ≤ N) (v : Value) (w : World) (_ : RdV w.heap.size w x v), Calls Try.prog 30 #[v] w (IntPost (dp x) w) := by
  induction N with
  | zero => intro x hx; obtain ⟨k, n, s, l⟩ := x; simp [sz] at hx
  | succ N ih =>
  have IH := Lib.hid (ih (by omega)); clear ih
  intro x hx v w hr
  obtain ⟨k, n, s, l⟩ := x
  obtain ⟨oa, cap, rfl, hl⟩ := hr.form
  clear hr
  simp only [V.kind, V.n, V.s, V.l] at *
  have HL := Lib.hid hl; clear hl
  have hszl : szs l ≤ N := by have := hx; simp only [sz] at this; omega
  have hll : l.length ≤ 1000000000 := by have := szs_len l; omega
  by_cases hk3 : k = 3
  · subst hk3
    have HD := Lib.hid (dp_3 n s l)
    go_enter Try.func30, Try.ntmps30
    go_wp2
    go_loopw [3, 4] (fun d i wr => RDepRel (w.heap.size + 1) (w.alloc (.cells #[.int .i64 3, .int .i64 n, .string s, .slice oa l.length cap] 24)) l d i wr) (fun _ i _ => l.length - (intOf i).toNat)
    case atStart => exact ⟨0, Nat.zero_le _, rfl, rfl, by simp [dps], Below.refl _ _⟩
    case round =>
      obtain ⟨k, hkl, rfl, rfl, hdp, hb⟩ := hrel
      have hbox := fun o => hb.cell (p := ⟨w.heap.size, o, none⟩) (by simp)
      have hbw : Below w.heap.size w wr := below_box hb
      by_cases hlt : k < l.length
      case neg =>
        have hkk : Hid (l.take k = l) := List.take_of_length_le (by omega)
        go_wp2
        go_ret
        exact ⟨by rw [HD.out, hkk.out]; simp, hbw⟩
      case pos =>
        obtain ⟨x, hx'⟩ : ∃ x, l[k]? = some x := ⟨l[k], by simp [hlt]⟩
        have Hx := Lib.hid hx'; clear hx'
        obtain ⟨c, o, xo, xc, rfl, hcb, c0, c1, c2, c3, hrd⟩ := HL.out.elem hbw.block hbw.size Hx.out
        have hsx := szs_get Hx.out
        have hdx := dp_sz x
        go_wp2_with (go_at_call 30; refine (IH.out x (by omega) _ _ hrd).mono ?_; rintro e w' ⟨rfl, hb'⟩)
        go_roundw
        case rel =>
          refine ⟨k + 1, by omega, by go_num, ?_, ?_, hb.trans (hb'.mono (by have := hb.size; simpa using this))⟩
          · rw [dps_take Hx.out]; congr 1; split <;> omega
          · rw [dps_take Hx.out]; omega
        case measure => simp [intOf]; omega
  · have HD : Hid (dp (.mk k n s l) = 0) := by show dp (.mk k n s l) = 0; rw [dp, if_neg hk3]
    have n3 : (k != 3) = true := by rw [bne_iff_ne]; exact hk3
    clear hk3
    go_enter Try.func30, Try.ntmps30
    go_wp2
    go_ret
    exact ⟨by rw [HD.out]; rfl, by repeat (first | exact Below.refl _ _ | refine Below.alloc ?_ (by simp) _)⟩

set_option maxRecDepth 100000 in
set_option maxHeartbeats 1000000 in
theorem rdepth_test (x : V) (hx : sz x ≤ 1000000000) (v : Value) (w : World) (hr : RdV w.heap.size w x v) : Calls Try.prog 30 #[v] w (IntPost (dp x) w) := rdepth_any 1000000000 (by decide) x hx v w hr
end Go.Proofs.Ytebedfcdbhgfdaa
