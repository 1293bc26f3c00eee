/- group: scalars, Sum, Product, Exp, Inv, Base. -/
import Derived.Test.YtmhmenmkgbebcaaDoorGch
import Derived.LoopN
namespace Go.Proofs.YtmhmenmkgbebcaaDoor
open Go.RowKit Go.Shelf

/-- a test of one of scalars' numbers -/
theorem sc_tests {x : Int} (h : 0 ≤ x ∧ x < (cQ : Int)) : decide (x < 0) = false ∧ decide ((2305843009213688669 : Int) ≤ x) = false := by
  refine ⟨decide_eq_false (by omega), decide_eq_false ?_⟩
  have : x < (2305843009213688669 : Int) := h.2
  omega
theorem scalars_one (x : Int) (b cap : Nat) (h : Hid (0 ≤ x ∧ x < (cQ : Int))) (w : World) (hc : w.cell? ⟨b, 0, none⟩ = some (.int .i64 x)) :
    Calls Tryd.prog 47 #[.slice (some ⟨b, 0, none⟩) 1 cap] w fun e w' => e = .returned (.bool true) ∧ w = w' := by
  obtain ⟨t1, t2⟩ := sc_tests h.out
  go_enter Tryd.func47, Tryd.ntmps47
  go_wp2
  refine wp_loop_rounds 2 ?_
  rw [rounds_succ]; go_wp2
  rw [rounds_succ]; go_wp2
  go_ret
  exact ⟨rfl, rfl⟩
theorem scalars_neg (x : Int) (b cap : Nat) (h : Hid (x < 0)) (w : World) (hc : w.cell? ⟨b, 0, none⟩ = some (.int .i64 x)) :
    Calls Tryd.prog 47 #[.slice (some ⟨b, 0, none⟩) 1 cap] w fun e w' => e = .returned (.bool false) ∧ w = w' := by
  have t1 : decide (x < 0) = true := decide_eq_true h.out
  go_enter Tryd.func47, Tryd.ntmps47
  go_wp2
  refine wp_loop_rounds 2 ?_
  rw [rounds_succ]; go_wp2
  go_ret
  exact ⟨rfl, rfl⟩
theorem scalars_big (x : Int) (b n cap : Nat) (hn : Hid (1 ≤ n)) (h : Hid ((cQ : Int) ≤ x)) (w : World) (hc : w.cell? ⟨b, 0, none⟩ = some (.int .i64 x)) :
    Calls Tryd.prog 47 #[.slice (some ⟨b, 0, none⟩) n cap] w fun e w' => e = .returned (.bool false) ∧ w = w' := by
  have t2 : decide ((2305843009213688669 : Int) ≤ x) = true := decide_eq_true h.out
  have t1 : decide (x < 0) = false := decide_eq_false (Int.not_lt.2 (Int.le_trans (by decide : (0 : Int) ≤ (cQ : Int)) h.out))
  have t3 : decide ((0 : Int) < (n : Int)) = true := decide_eq_true (by have := hn.out; omega)
  have t4 : 0 < n := hn.out
  go_enter Tryd.func47, Tryd.ntmps47
  go_wp2
  refine wp_loop_rounds 2 ?_
  rw [rounds_succ]; go_wp2
  go_ret
  exact ⟨rfl, rfl⟩
theorem scalars_two (x y : Int) (b cap : Nat) (h : Hid (0 ≤ x ∧ x < (cQ : Int))) (h2 : Hid (0 ≤ y ∧ y < (cQ : Int))) (w : World) (hc : w.cell? ⟨b, 0, none⟩ = some (.int .i64 x)) (hc2 : w.cell? ⟨b, 1, none⟩ = some (.int .i64 y)) :
    Calls Tryd.prog 47 #[.slice (some ⟨b, 0, none⟩) 2 cap] w fun e w' => e = .returned (.bool true) ∧ w = w' := by
  obtain ⟨t1, t2⟩ := sc_tests h.out
  obtain ⟨t3, t4⟩ := sc_tests h2.out
  go_enter Tryd.func47, Tryd.ntmps47
  go_wp2
  refine wp_loop_rounds 3 ?_
  rw [rounds_succ]; go_wp2
  rw [rounds_succ]; go_wp2
  rw [rounds_succ]; go_wp2
  go_ret
  exact ⟨rfl, rfl⟩

theorem sum_any (x y r : Nat) (hx : Hid (x < cQ)) (hy : Hid (y < cQ)) (hr : Hid ((x + y) % cQ = r)) (w : World) :
    Calls Tryd.prog 36 #[.int .i64 x, .int .i64 y] w fun e w' => e = .returned (.tuple #[.int .i64 r, .int .i64 0]) ∧ Below w.heap.size w w' := by
  obtain ⟨s, hs⟩ : ∃ s, x + y = s := ⟨_, rfl⟩
  have e1 : IntKind.i64.wrap ((x : Int) + (y : Int)) = (s : Int) := by
    have h1 : x < 2305843009213688669 := hx.out
    have h2 : y < 2305843009213688669 := hy.out
    rw [show (x : Int) + (y : Int) = (s : Int) from by omega]; simp only [IntKind.wrap_i64]; omega
  have e2 : (s : Int).tmod 2305843009213688669 = (r : Int) := by
    rw [← hr.out, hs, Int.ofNat_tmod]; rfl
  have hxx : Hid (0 ≤ (x : Int) ∧ (x : Int) < (cQ : Int)) := ⟨by omega, Int.ofNat_lt.2 hx.out⟩
  have hyy : Hid (0 ≤ (y : Int) ∧ (y : Int) < (cQ : Int)) := ⟨by omega, Int.ofNat_lt.2 hy.out⟩
  clear hs
  go_enter Tryd.func36, Tryd.ntmps36
  go_wp2_with fail
  refine (scalars_two x y _ _ hxx hyy _ (by simp) (by simp)).mono ?_
  rintro e w1 ⟨rfl, rfl⟩
  go_wp2
  go_ret2
  exact ⟨rfl, (Below.refl _ w).alloc (Nat.le_refl _) _⟩
end Go.Proofs.YtmhmenmkgbebcaaDoor
