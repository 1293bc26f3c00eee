/- group: Check. -/
import Derived.Test.YtmhmenmkgbebcaaDoorGpo
import Derived.Test.YtmhmenmkgbebcaaDoorNel
namespace Go.Proofs.YtmhmenmkgbebcaaDoor
open Go.RowKit Go.Shelf

theorem power_isP (a r : Nat) (hr : Hid (pw a cQ = r)) (ha : Hid (a < cP)) (yi : Int) (hy : yi = (cQ : Int)) (w : World) : Calls Tryd.prog 46 #[.int .u64 a, .int .u64 yi] w fun e w' => e = .returned (.int .u64 (r : Int)) ∧ Below w.heap.size w w' := by
  subst hy
  have h := power_any a cQ ha (Lib.hid (by decide)) w
  rw [hr.out] at h; exact h
theorem power_is (a k r : Nat) (hr : Hid (pw a k = r)) (ha : Hid (a < cP)) (hk : Hid (k < 18446744073709551616)) (w : World) : Calls Tryd.prog 46 #[.int .u64 a, .int .u64 k] w fun e w' => e = .returned (.int .u64 (r : Int)) ∧ Below w.heap.size w w' := by
  have h := power_any a k ha hk w
  rw [hr.out] at h; exact h

theorem check_low (a : Int) (ha : Hid (a < 1)) (w : World) : Calls Tryd.prog 21 #[.int .i64 a] w fun e w' => e = .returned (.int .i64 30) ∧ Below w.heap.size w w' := by
  have t1 : decide (a < 1) = true := decide_eq_true ha.out
  go_enter Tryd.func21, Tryd.ntmps21
  go_wp2
  go_ret
  exact ⟨rfl, Below.refl _ w⟩
theorem check_high (a : Int) (ha : Hid ((cP : Int) ≤ a)) (w : World) : Calls Tryd.prog 21 #[.int .i64 a] w fun e w' => e = .returned (.int .i64 30) ∧ Below w.heap.size w w' := by
  have h := ha.out
  have t1 : decide (a < 1) = false := by rw [decide_eq_false_iff_not]; have : (1 : Int) ≤ (cP : Int) := by decide
                                         omega
  have t2 : decide ((4611686018427377339 : Int) ≤ a) = true := decide_eq_true h
  clear h
  go_enter Tryd.func21, Tryd.ntmps21
  go_wp2
  go_ret
  exact ⟨rfl, Below.refl _ w⟩
theorem check_mid (a r : Nat) (h1 : Hid (1 ≤ a)) (h2 : Hid (a < cP)) (hr : Hid (pw a cQ = r)) (w : World) : Calls Tryd.prog 21 #[.int .i64 a] w fun e w' => e = .returned (.int .i64 (if r = 1 then 0 else 30)) ∧ Below w.heap.size w w' := by
  have t1 : decide ((a : Int) < 1) = false := by rw [decide_eq_false_iff_not]; have := h1.out; omega
  have t2 : decide ((4611686018427377339 : Int) ≤ (a : Int)) = false := by rw [decide_eq_false_iff_not]; have h : (a : Int) < (cP : Int) := Int.ofNat_lt.2 h2.out
                                                                           exact Int.not_le.2 h
  have e1 : IntKind.u64.wrap (a : Int) = (a : Int) := Go.Proofs.Mul64.wrapN _ (Nat.lt_trans h2.out (by decide))
  go_enter Tryd.func21, Tryd.ntmps21
  go_wp2_with fail
  refine (power_isP a r hr h2 _ rfl _).mono ?_
  rintro e w1 ⟨rfl, hb⟩
  by_cases hr1 : r = 1
  · subst hr1
    go_wp2_with fail
    go_ret
    exact ⟨rfl, hb⟩
  · have t3 : ((r : Int) == 1) = false := by rw [beq_eq_false_iff_ne]; omega
    go_wp2_with fail
    go_ret
    exact ⟨rfl, hb⟩
theorem check_ok (a : Nat) (h : Hid (isEl a)) (w : World) : Calls Tryd.prog 21 #[.int .i64 a] w fun e w' => e = .returned (.int .i64 0) ∧ Below w.heap.size w w' :=
  check_mid a 1 (Lib.hid h.out.1) (Lib.hid h.out.2.1) (Lib.hid h.out.2.2) w
/-- the statements' numbers: a group's element, as the program's int -/
def ZEl (a : Int) : Prop := 1 ≤ a ∧ isEl a.toNat
theorem check_bad (a : Int) (h : Hid (¬ ZEl a)) (w : World) : Calls Tryd.prog 21 #[.int .i64 a] w fun e w' => e = .returned (.int .i64 30) ∧ Below w.heap.size w w' := by
  by_cases h1 : a < 1
  · exact check_low a (Lib.hid h1) w
  · by_cases h2 : (cP : Int) ≤ a
    · exact check_high a (Lib.hid h2) w
    · obtain ⟨n, rfl⟩ : ∃ n : Nat, a = (n : Int) := ⟨a.toNat, by omega⟩
      have hn1 : 1 ≤ n := by omega
      have hn2 : n < cP := by omega
      have hne : pw n cQ ≠ 1 := fun hh => h.out ⟨by omega, hn1, hn2, hh⟩
      have := check_mid n _ (Lib.hid hn1) (Lib.hid hn2) (Lib.hid rfl) w
      rw [if_neg hne] at this
      exact this
theorem check_dec (a : Int) (w : World) : Calls Tryd.prog 21 #[.int .i64 a] w fun e w' => (ZEl a ∧ e = .returned (.int .i64 0) ∨ ¬ ZEl a ∧ e = .returned (.int .i64 30)) ∧ Below w.heap.size w w' := by
  by_cases h : ZEl a
  · obtain ⟨n, rfl⟩ : ∃ n : Nat, a = (n : Int) := ⟨a.toNat, by have := h.1; omega⟩
    refine (check_ok n (Lib.hid h.2) w).mono ?_
    rintro e w' ⟨he, hb⟩; exact ⟨.inl ⟨h, he⟩, hb⟩
  · refine (check_bad a (Lib.hid h) w).mono ?_
    rintro e w' ⟨he, hb⟩; exact ⟨.inr ⟨h, he⟩, hb⟩
end Go.Proofs.YtmhmenmkgbebcaaDoor
