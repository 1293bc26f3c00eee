/- group: times, digits. -/
import Derived.Test.YtmhmenmkgbebcaaDoorGds
import Derived.Test.YtmhmenmkgbebcaaDoorNbit
import Derived.Test.YtmhmenmkgbebcaaDoorBas
import Derived.RangeFuncFrom
import Derived.RangeFuncNested
import Derived.RangeFuncBound
import Derived.RangeFuncCalls
import Derived.RangeFuncLeaves
import Derived.Shelf.Abstract
import Derived.Shelf.RegionOpen
import Derived.OwnWalkIn
import Derived.TacticsInMore
import Derived.LoopNIn
import Derived.LoopIn
namespace Go.Proofs.YtmhmenmkgbebcaaDoor
open Go.RowKit Go.Shelf

theorem keepsOthers_of_below {w w' : World} (h : Below w.heap.size w w') : KeepsOthers w w' :=
  KeepsOthers.of_grownBy (row := none) ⟨h.os, h.tape, h.output, h.size, fun k hk _ => h.block k hk⟩ (by simp)

theorem bitLen_P : Lib.bitLen cP + 2 = 64 := by decide +kernel
theorem bitLen_Q : Lib.bitLen cQ + 3 = 64 := by decide +kernel
theorem divP_any (hi lo : Nat) (yi : Int) (hyi : yi = (cP : Int)) (hh : hi < cP) (hlo : Hid (lo < 18446744073709551616)) (w : World) :
    Calls Tryd.prog 50 #[.int .u64 hi, .int .u64 lo, .int .u64 yi] w fun e w' => e = .returned (.tuple #[.int .u64 (((hi * 18446744073709551616 + lo) / cP : Nat) : Int), .int .u64 (((hi * 18446744073709551616 + lo) % cP : Nat) : Int)]) ∧ Below w.heap.size w w' := by
  subst hyi
  exact div64_any hi lo cP 2 bitLen_P (by decide) (by decide) (by decide) (by decide) hh hlo w
theorem divQ_any (hi lo : Nat) (yi : Int) (hyi : yi = (cQ : Int)) (hh : hi < cQ) (hlo : Hid (lo < 18446744073709551616)) (w : World) :
    Calls Tryd.prog 50 #[.int .u64 hi, .int .u64 lo, .int .u64 yi] w fun e w' => e = .returned (.tuple #[.int .u64 (((hi * 18446744073709551616 + lo) / cQ : Nat) : Int), .int .u64 (((hi * 18446744073709551616 + lo) % cQ : Nat) : Int)]) ∧ Below w.heap.size w w' := by
  subst hyi
  exact div64_any hi lo cQ 3 bitLen_Q (by decide) (by decide) (by decide) (by decide) hh hlo w
theorem prod_hi {x y m : Nat} (hx : x < m) (hy : y < m) (hm : m ≤ 18446744073709551616) : x * y / 18446744073709551616 < m := by
  refine (Nat.div_lt_iff_lt_mul (by decide)).2 ?_
  have h1 : x * y < m * m := Nat.mul_lt_mul'' hx hy
  have h2 : m * m ≤ m * 18446744073709551616 := Nat.mul_le_mul_left _ hm
  omega
set_option maxRecDepth 100000 in
set_option maxHeartbeats 1000000 in
theorem times_any (x y : Nat) (hx : Hid (x < cP)) (hy : Hid (y < cP)) (w : World) : Calls Tryd.prog 48 #[.int .u64 x, .int .u64 y] w fun e w' => e = .returned (.int .u64 ((x * y % cP : Nat) : Int)) ∧ Below w.heap.size w w' := by
  have hP : cP ≤ 18446744073709551616 := by decide
  have hhi := Lib.hid (prod_hi hx.out hy.out hP)
  have hlo : Hid (x * y % 18446744073709551616 < 18446744073709551616) := Nat.mod_lt _ (by decide)
  have hdm : Hid (x * y / 18446744073709551616 * 18446744073709551616 + x * y % 18446744073709551616 = x * y) := by show _ = _; rw [Nat.mul_comm]; exact Nat.div_add_mod _ _
  clear hP
  go_enter Tryd.func48, Tryd.ntmps48
  go_wp2_with fail
  refine (mul64_any x y (Nat.lt_trans hx.out (by decide)) (Nat.lt_trans hy.out (by decide)) _).mono ?_
  rintro e w1 ⟨rfl, rfl⟩
  generalize x * y / 18446744073709551616 = hi at *
  generalize x * y % 18446744073709551616 = lo at *
  go_wp2_with fail
  refine (divP_any hi lo _ rfl hhi.out hlo _).mono ?_
  rw [hdm.out]
  rintro e w2 ⟨rfl, hb⟩
  generalize x * y / cP = qq
  generalize hR : x * y % cP = R
  have HR := Lib.hid hR; clear hR
  go_wp2_with fail
  go_ret
  exact ⟨by rw [HR.out]; rfl, hb⟩
theorem bitLen_lt (k : Nat) (h : k < 18446744073709551616) : k < 2 ^ Lib.bitLen k ∧ Lib.bitLen k ≤ 64 := by
  refine ⟨?_, Lib.bitLen_le k 64 (Nat.le_refl _) (by simpa using h)⟩
  induction k using Nat.strongRecOn with
  | ind k ih =>
    by_cases h0 : k = 0
    · subst h0; exact Nat.two_pow_pos _
    · have hk := Lib.bitLen_half k h0 (by simpa using h)
      have := ih (k / 2) (by omega) (by omega)
      rw [hk, Nat.add_comm, Nat.pow_succ]; omega
end Go.Proofs.YtmhmenmkgbebcaaDoor
