/- Merged: Thf. -/
import Derived.Test.YtbonebmboolemaaDoorK01
import Derived.Test.YtbonebmboolemaaDoorK15
/- the greatest power of two below a number: digest's, the reference's. -/
namespace Go.Proofs.YtbonebmboolemaaDoor
open Go.RowKit
theorem bitLen_is : ∀ n : Fin 65, Lib.bitLen n.val = if n.val = 0 then 0 else Nat.log2 n.val + 1 := by decide +kernel
set_option maxHeartbeats 1000000 in
theorem len_any (n : Nat) (w : World) (h0 : 1 ≤ n) (h : n ≤ 64) : Calls Tryd.prog 70 #[.int .u64 (n : Int)] w fun e w' => e = .returned (.int .i64 ((Nat.log2 n + 1 : Nat) : Int)) ∧ w = w' := by
  have hl : Lib.bitLen n = Nat.log2 n + 1 := by have := bitLen_is ⟨n, by omega⟩; rw [if_neg (by simp only; omega)] at this; exact this
  obtain ⟨m, hm⟩ : ∃ m, Nat.log2 n + 1 = m := ⟨_, rfl⟩
  rw [hm] at hl ⊢
  have Hl := Lib.hid hl
  have b0 : (0 : Int) ≤ (n : Int) := by omega
  have b1 : (n : Int) ≤ 64 := by omega
  clear hl hm h0 h
  go_enter Tryd.func70, Tryd.ntmps70
  go_wp2_with (go_at_call 85; refine (bits_Len64 _ _ (by omega) (by omega)).mono ?_; rintro e w' ⟨rfl, rfl⟩)
  go_ret
  refine ⟨?_, rfl⟩
  show Ending.returned (.int .i64 (Lib.bitLen (Int.toNat (n : Int)))) = _
  rw [Int.toNat_natCast, Hl.out]
set_option maxHeartbeats 1000000 in
theorem half_any (n : Nat) (w : World) (h0 : 2 ≤ n) (h : n ≤ 64) : Calls Tryd.prog 51 #[.int .i64 (n : Int)] w fun e w' => e = .returned (.int .i64 ((halfN n : Nat) : Int)) ∧ w = w' := by
  obtain ⟨m, hm⟩ : ∃ m, n = m + 1 := ⟨n - 1, by omega⟩
  subst hm
  obtain ⟨j, hj⟩ : ∃ j, Nat.log2 m = j := ⟨_, rfl⟩
  have hh : halfN (m + 1) = 2 ^ j := by unfold halfN; rw [Nat.add_sub_cancel, hj]
  have hj6 : j ≤ 5 := by rw [← hj]; have := (Nat.log2_lt (n := m) (k := 6) (by omega)).2 (by omega); omega
  have hcall := Lib.hid (len_any m w (by omega) (by omega))
  rw [hj] at hcall
  have Hh := Lib.hid hh
  have b0 : (1 : Int) ≤ (m : Int) := by omega
  have b1 : (m : Int) ≤ 64 := by omega
  have b2 : (0 : Int) ≤ (j : Int) := by omega
  have b3 : (j : Int) ≤ 5 := by omega
  have e1 : IntKind.i64.wrap ((m + 1 : Nat) - 1 : Int) = (m : Int) := by rw [IntWalk.i64_in _ (by omega)]; omega
  have e2 : (((m + 1 : Nat) : Int) - 1) = (m : Int) := by omega
  clear h0 h hj hj6 hh
  go_enter Tryd.func51, Tryd.ntmps51
  have e3 : (((j + 1 : Nat) : Int) - 1) = (j : Int) := by omega
  go_wp2_with (go_at_call 70; refine hcall.out.mono ?_; rintro e w' ⟨rfl, rfl⟩)
  go_ret
  refine ⟨?_, rfl⟩
  have hp : 2 ^ j ≤ 2 ^ 5 := Nat.pow_le_pow_right (by omega) (by omega)
  have hc : (2 : Int) ^ j = ((2 ^ j : Nat) : Int) := by rw [Int.natCast_pow]; rfl
  show Ending.returned (.int .i64 (wrap64 (2 ^ j))) = _
  rw [Hh.out, hc]
  generalize 2 ^ j = p at *
  rw [IntWalk.wrap64_in _ ⟨by omega, by omega⟩]
def HfRel (n : Nat) (v : Value) : Prop := ∃ j : Nat, j ≤ 6 ∧ 2 ^ j < n ∧ v = .int .i64 ((2 ^ j : Nat) : Int)
structure HfR (n : Nat) (v : Value) : Prop where
  h : HfRel n v
set_option maxHeartbeats 1000000 in
theorem rhalf_any (n : Nat) (w : World) (h0 : 2 ≤ n) (h : n ≤ 64) : Calls Tryd.prog 55 #[.int .i64 (n : Int)] w fun e w' => e = .returned (.int .i64 ((halfN n : Nat) : Int)) ∧ w = w' := by
  have b0 : (2 : Int) ≤ (n : Int) := by omega
  have b1 : (n : Int) ≤ 64 := by omega
  go_enter Tryd.func55, Tryd.ntmps55
  go_wp2_with fail
  go_loop [3] (fun v => HfR n v) (fun v => n - (intOf v).toNat)
  case atStart => exact ⟨⟨0, by omega, by rw [Nat.pow_zero]; omega, rfl⟩⟩
  case round =>
    obtain ⟨j, hj, hlt, rfl⟩ := hrel.h
    clear hrel
    have hpos := Nat.two_pow_pos j
    have hsucc : 2 ^ (j + 1) = 2 * 2 ^ j := by rw [Nat.pow_succ, Nat.mul_comm]
    have hof := @half_of n j hlt
    have Hs := Lib.hid hsucc; have Ho := Lib.hid hof
    clear hsucc hof
    generalize hm : 2 ^ j = m at *
    have Hm := Lib.hid hm
    clear hm
    have bm : (m : Int) ≤ 64 := by omega
    have bm0 : (1 : Int) ≤ (m : Int) := by omega
    by_cases hc : 2 * m < n
    · have t1 : decide (2 * (m : Int) < (n : Int)) = true := by simp; omega
      go_wp2
      go_round
      case rel => exact ⟨⟨j + 1, by
        by_cases e : j = 6
        · subst e; have := Hm.out; omega
        · omega, by rw [Hs.out]; exact hc, by rw [Hs.out]; go_num⟩⟩
      case measure => simp [intOf]; omega
    · have t1 : decide (2 * (m : Int) < (n : Int)) = false := by simp; omega
      go_wp2
      go_ret
      exact ⟨by rw [Ho.out (by omega)]; rfl, rfl⟩
end Go.Proofs.YtbonebmboolemaaDoor
