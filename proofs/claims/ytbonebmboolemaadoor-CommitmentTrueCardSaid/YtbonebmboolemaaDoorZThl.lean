/- the law's own half. -/
import Derived.Test.YtbonebmboolemaaDoorK23
namespace Go.Proofs.YtbonebmboolemaaDoor
open Go.RowKit
set_option maxHeartbeats 1000000 in
theorem lhalf_any (n : Nat) (w : World) (h0 : 2 ≤ n) (h : n ≤ 64) : Calls Tryd.prog 64 #[.int .i64 (n : Int)] w fun e w' => e = .returned (.int .i64 ((halfN n : Nat) : Int)) ∧ w = w' := by
  have b0 : (2 : Int) ≤ (n : Int) := by omega
  have b1 : (n : Int) ≤ 64 := by omega
  go_enter Tryd.func64, Tryd.ntmps64
  go_wp2_with fail
  go_loop [3] (fun v => HfR n v) (fun v => n - (intOf v).toNat)
  case atStart => exact ⟨⟨0, by omega, by rw [Nat.pow_zero]; omega, rfl⟩⟩
  case round =>
    obtain ⟨j, hj, hlt, rfl⟩ := hrel.h
    clear hrel
    have hpos := Nat.two_pow_pos j
    have hsucc : 2 ^ (j + 1) = 2 * 2 ^ j := by rw [Nat.pow_succ, Nat.mul_comm]
    have hof := @half_of n j hlt
    have Hs := Lib.hid hsucc; have Ho := Lib.hid hof
    clear hsucc hof
    generalize hm : 2 ^ j = m at *
    have Hm := Lib.hid hm
    clear hm
    have bm : (m : Int) ≤ 64 := by omega
    have bm0 : (1 : Int) ≤ (m : Int) := by omega
    by_cases hc : 2 * m < n
    · have t1 : decide (2 * (m : Int) < (n : Int)) = true := by simp; omega
      go_wp2
      go_round
      case rel => exact ⟨⟨j + 1, by
        by_cases e : j = 6
        · subst e; have := Hm.out; omega
        · omega, by rw [Hs.out]; exact hc, by rw [Hs.out]; go_num⟩⟩
      case measure => simp [intOf]; omega
    · have t1 : decide (2 * (m : Int) < (n : Int)) = false := by simp; omega
      go_wp2
      go_ret
      exact ⟨by rw [Ho.out (by omega)]; rfl, rfl⟩
end Go.Proofs.YtbonebmboolemaaDoor
