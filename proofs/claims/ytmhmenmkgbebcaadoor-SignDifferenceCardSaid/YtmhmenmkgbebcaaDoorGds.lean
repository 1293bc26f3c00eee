/- math/bits.Div64, for whatever it is handed. -/
import Derived.Test.YtmhmenmkgbebcaaDoorGdv
namespace Go.Proofs.YtmhmenmkgbebcaaDoor
open Go.RowKit

theorem mask32 (a : Nat) (ha : a < 18446744073709551616) : bits .and .u64 (a : Int) 4294967295 = ((a % cW : Nat) : Int) := Go.Proofs.Mul64.maskN a ha
set_option maxRecDepth 100000 in
set_option maxHeartbeats 1000000 in
theorem div64_small (lo y : Nat) (hy : 0 < y) (hlo : Hid (lo < 18446744073709551616)) (w : World) :
    Calls Tryd.prog 50 #[.int .u64 0, .int .u64 lo, .int .u64 y] w fun e w' => e = .returned (.tuple #[.int .u64 ((lo / y : Nat) : Int), .int .u64 ((lo % y : Nat) : Int)]) ∧ Below w.heap.size w w' := by
  have t1 : ((y : Int) == 0) = false := by rw [beq_eq_false_iff_ne]; omega
  have t3 : decide ((y : Int) ≤ 0) = false := by simp; omega
  obtain ⟨qd, hqd⟩ : ∃ qd, lo / y = qd := ⟨_, rfl⟩
  obtain ⟨rd, hrd⟩ : ∃ rd, lo % y = rd := ⟨_, rfl⟩
  rw [hqd, hrd]
  have d3 : (lo : Int) / (y : Int) = (qd : Int) := by rw [← hqd]; rfl
  have d4 : (lo : Int) % (y : Int) = (rd : Int) := by rw [← hrd]; rfl
  have d5 : (lo : Int).tmod (y : Int) = (rd : Int) := by rw [Int.tmod_eq_emod_of_nonneg (by omega), ← hrd]; rfl
  have d1 : IntKind.u64.wrap (qd : Int) = (qd : Int) := Go.Proofs.Mul64.wrapN _ (by have := Nat.div_le_self lo y; have := hlo.out; omega)
  have d2 : IntKind.u64.wrap (rd : Int) = (rd : Int) := Go.Proofs.Mul64.wrapN _ (by have := Nat.mod_le lo y; have := hlo.out; omega)
  clear hqd hrd
  have y1 : (1 : Int) ≤ (y : Int) := by omega
  go_enter Tryd.func50, Tryd.ntmps50
  go_wp2
  go_region_held3 (fun _ => True) (trivial) (fail)
  all_goals
    go_wp2
    go_ret2
    exact ⟨rfl, (Below.refl _ _).drew⟩
theorem or_add (H L s : Nat) (hi : Nat) (hH : H = hi * 2 ^ s) (hL : L < 2 ^ s) : H ||| L = H + L := by
  have h := Nat.shiftLeft_add_eq_or_of_lt hL hi
  rw [Nat.shiftLeft_eq] at h
  rw [hH, ← h]
/-- Div64 by a number that is a multiple of 2^s below 2^64 once it is shifted -/
theorem div64_any (hi lo y s : Nat) (hs : Hid (Lib.bitLen y + s = 64)) (hs1 : 1 ≤ s) (hs2 : s ≤ 63) (hn1 : 9223372036854775808 ≤ y * 2 ^ s) (hn2 : y * 2 ^ s < 18446744073709551616) (hh : hi < y) (hlo : lo < 18446744073709551616) (w : World) :
    Calls Tryd.prog 50 #[.int .u64 hi, .int .u64 lo, .int .u64 y] w fun e w' => e = .returned (.tuple #[.int .u64 (((hi * 18446744073709551616 + lo) / y : Nat) : Int), .int .u64 (((hi * 18446744073709551616 + lo) % y : Nat) : Int)]) ∧ Below w.heap.size w w' := by
  have hp : 0 < 2 ^ s := Nat.two_pow_pos s
  have hy64 : y < 18446744073709551616 := Nat.lt_of_le_of_lt (Nat.le_mul_of_pos_right y hp) hn2
  by_cases h0 : hi = 0
  · subst h0
    have := div64_small lo y (by omega) hlo w
    simpa using this
  · have hk : 2 ^ s * 2 ^ (64 - s) = 18446744073709551616 := by rw [← Nat.pow_add, show s + (64 - s) = 64 from by omega]
    have hH : hi * 2 ^ s < y * 2 ^ s := Nat.mul_lt_mul_of_pos_right hh hp
    have hL : lo / 2 ^ (64 - s) < 2 ^ s := by
      refine (Nat.div_lt_iff_lt_mul (Nat.two_pow_pos _)).2 ?_
      rw [hk]; exact hlo
    have hdv : ∀ Y : Nat, (Y : Int) / 4294967296 = ((Y / cW : Nat) : Int) := fun Y => rfl
    have hor := or_add (hi * 2 ^ s) (lo / 2 ^ (64 - s)) s hi rfl hL
    have hsum : hi * 2 ^ s + lo / 2 ^ (64 - s) < y * 2 ^ s := by
      have : (hi + 1) * 2 ^ s ≤ y * 2 ^ s := Nat.mul_le_mul_right _ hh
      rw [Nat.add_mul, Nat.one_mul] at this; omega
    have cast2 : ∀ a : Nat, (a : Int) * 2 ^ s = ((a * 2 ^ s : Nat) : Int) := fun a => by rw [Int.natCast_mul, Int.natCast_pow]; rfl
    have N : DivNums hi lo y s (y * 2 ^ s) (y * 2 ^ s / cW) (y * 2 ^ s % cW) (hi * 2 ^ s) (lo / 2 ^ (64 - s)) (hi * 2 ^ s + lo / 2 ^ (64 - s)) (lo * 2 ^ s % 18446744073709551616) (lo * 2 ^ s % 18446744073709551616 / cW) (lo * 2 ^ s % 18446744073709551616 % cW) := by
      refine ⟨?_, hdv _, mask32 _ hn2, ?_, ?_, ?_, ?_, hdv _, mask32 _ (Nat.mod_lt _ (by decide))⟩
      · rw [cast2]; exact Go.Proofs.Mul64.wrapN _ hn2
      · rw [cast2]; exact Go.Proofs.Mul64.wrapN _ (by omega)
      · rw [Int.natCast_ediv, Int.natCast_pow]; rfl
      · rw [bits_or_u64_nat _ _ (by omega) (by omega), hor]
      · rw [cast2]; exact wrap_nat _
    have hy1 : 2147483648 ≤ y * 2 ^ s / cW := (Nat.le_div_iff_mul_le (by decide)).2 (by unfold cW; omega)
    have hy2 : y * 2 ^ s / cW < cW := (Nat.div_lt_iff_lt_mul (by decide)).2 (by unfold cW; omega)
    have hD := Dg.mk0 (y := y * 2 ^ s) (u1 := lo * 2 ^ s % 18446744073709551616 / cW) (by have := Nat.div_add_mod (y * 2 ^ s) cW; rw [Nat.mul_comm cW] at this; exact this.symm) hy1 hy2 (Nat.mod_lt (y * 2 ^ s) (by decide : 0 < cW)) hsum ((Nat.div_lt_iff_lt_mul (by decide)).2 (by have := Nat.mod_lt (lo * 2 ^ s) (by decide : 0 < 18446744073709551616); unfold cW; omega))
    have hfin := div_two (hi := hi) (lo := lo) (y := y) (s := s) rfl rfl rfl rfl rfl (by omega) (by omega)
    refine (div64_core hi lo y s _ _ _ _ _ _ _ _ _ N hy64 (by omega) hh hs hs1 hs2 hD hn2 (Nat.mod_lt _ (by decide)) w).mono ?_
    rintro e w' ⟨rfl, rfl⟩
    rw [hfin.1, hfin.2]
    exact ⟨rfl, Below.refl _ _⟩
end Go.Proofs.YtmhmenmkgbebcaaDoor
