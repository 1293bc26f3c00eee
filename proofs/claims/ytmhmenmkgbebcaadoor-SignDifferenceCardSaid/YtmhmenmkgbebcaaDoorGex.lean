/- group: Product, Exp, Inv, Base, Mul. -/
import Derived.Test.YtmhmenmkgbebcaaDoorGsc
namespace Go.Proofs.YtmhmenmkgbebcaaDoor
open Go.RowKit Go.Shelf

theorem prod_any (x y r : Nat) (hx : Hid (x < cQ)) (hy : Hid (y < cQ)) (hr : Hid (x * y % cQ = r)) (w : World) :
    Calls Tryd.prog 26 #[.int .i64 x, .int .i64 y] w fun e w' => e = .returned (.tuple #[.int .i64 r, .int .i64 0]) ∧ Below w.heap.size w w' := by
  have hxx : Hid (0 ≤ (x : Int) ∧ (x : Int) < (cQ : Int)) := ⟨by omega, Int.ofNat_lt.2 hx.out⟩
  have hyy : Hid (0 ≤ (y : Int) ∧ (y : Int) < (cQ : Int)) := ⟨by omega, Int.ofNat_lt.2 hy.out⟩
  have e1 : IntKind.u64.wrap (x : Int) = (x : Int) := Go.Proofs.Mul64.wrapN _ (Nat.lt_trans hx.out (by decide))
  have e2 : IntKind.u64.wrap (y : Int) = (y : Int) := Go.Proofs.Mul64.wrapN _ (Nat.lt_trans hy.out (by decide))
  have hrl : r < cQ := by rw [← hr.out]; exact Nat.mod_lt _ (by decide)
  have e3 : IntKind.i64.wrap (r : Int) = (r : Int) := by
    have h : r < 2305843009213688669 := hrl
    simp only [IntKind.wrap_i64]; omega
  have hhi := Lib.hid (prod_hi hx.out hy.out (by decide : cQ ≤ 18446744073709551616))
  have hlo : Hid (x * y % 18446744073709551616 < 18446744073709551616) := Nat.mod_lt _ (by decide)
  have hdm : Hid (x * y / 18446744073709551616 * 18446744073709551616 + x * y % 18446744073709551616 = x * y) := by show _ = _; rw [Nat.mul_comm]; exact Nat.div_add_mod _ _
  clear hrl
  go_enter Tryd.func26, Tryd.ntmps26
  go_wp2_with fail
  refine (scalars_two x y _ _ hxx hyy _ (by simp) (by simp)).mono ?_
  rintro e w1 ⟨rfl, rfl⟩
  go_wp2_with fail
  refine (mul64_any x y (Nat.lt_trans hx.out (by decide)) (Nat.lt_trans hy.out (by decide)) _).mono ?_
  rintro e w1 ⟨rfl, rfl⟩
  generalize x * y / 18446744073709551616 = hi at *
  generalize x * y % 18446744073709551616 = lo at *
  go_wp2_with fail
  refine (divQ_any hi lo _ rfl hhi.out hlo _).mono ?_
  rw [hdm.out, hr.out]
  rintro e w2 ⟨rfl, hb⟩
  generalize x * y / cQ = qq
  go_wp2_with fail
  go_ret2
  exact ⟨rfl, below_after hb⟩

theorem exp_ok (a k r : Nat) (ha : Hid (isEl a)) (hk : Hid (k < cQ)) (hr : Hid (pw a k = r)) (w : World) :
    Calls Tryd.prog 23 #[.int .i64 a, .int .i64 k] w fun e w' => e = .returned (.tuple #[.int .i64 r, .int .i64 0]) ∧ Below w.heap.size w w' := by
  have hkk : Hid (0 ≤ (k : Int) ∧ (k : Int) < (cQ : Int)) := ⟨by omega, Int.ofNat_lt.2 hk.out⟩
  have hal : Hid (a < cP) := ha.out.2.1
  have hk2 : Hid (k < 18446744073709551616) := Nat.lt_trans hk.out (by decide)
  have e1 : IntKind.u64.wrap (a : Int) = (a : Int) := Go.Proofs.Mul64.wrapN _ (Nat.lt_trans hal.out (by decide))
  have e2 : IntKind.u64.wrap (k : Int) = (k : Int) := Go.Proofs.Mul64.wrapN _ hk2.out
  have hrl : r < cP := by rw [← hr.out]; exact pw_lt _ _
  have e3 : IntKind.i64.wrap (r : Int) = (r : Int) := by
    have h : r < 4611686018427377339 := hrl
    simp only [IntKind.wrap_i64]; omega
  clear hrl
  go_enter Tryd.func23, Tryd.ntmps23
  go_wp2_with fail
  refine (check_ok a ha _).mono ?_
  rintro e w1 ⟨rfl, hb1⟩
  go_wp2_with fail
  refine (scalars_one k _ _ hkk _ (by simp)).mono ?_
  rintro e w2 ⟨rfl, rfl⟩
  go_wp2_with fail
  refine (power_is a k r hr hal hk2 _).mono ?_
  rintro e w3 ⟨rfl, hb3⟩
  go_wp2_with fail
  go_ret2
  exact ⟨rfl, below_ext hb1 (below_after hb3)⟩
theorem exp_bad (a k : Int) (ha : Hid (¬ ZEl a)) (w : World) :
    Calls Tryd.prog 23 #[.int .i64 a, .int .i64 k] w fun e w' => e = .returned (.tuple #[.int .i64 0, .int .i64 30]) ∧ Below w.heap.size w w' := by
  go_enter Tryd.func23, Tryd.ntmps23
  go_wp2_with fail
  refine (check_bad a ha _).mono ?_
  rintro e w1 ⟨rfl, hb1⟩
  go_wp2_with fail
  go_ret2
  exact ⟨rfl, hb1⟩
theorem exp_neg (a : Nat) (k : Int) (ha : Hid (isEl a)) (hk : Hid (k < 0)) (w : World) :
    Calls Tryd.prog 23 #[.int .i64 a, .int .i64 k] w fun e w' => e = .returned (.tuple #[.int .i64 0, .int .i64 1]) ∧ Below w.heap.size w w' := by
  go_enter Tryd.func23, Tryd.ntmps23
  go_wp2_with fail
  refine (check_ok a ha _).mono ?_
  rintro e w1 ⟨rfl, hb1⟩
  go_wp2_with fail
  refine (scalars_neg k _ _ hk _ (by simp)).mono ?_
  rintro e w2 ⟨rfl, rfl⟩
  go_wp2_with fail
  go_ret2
  exact ⟨rfl, below_ext hb1 ((Below.refl _ _).alloc (Nat.le_refl _) _)⟩
theorem exp_big (a : Nat) (k : Int) (ha : Hid (isEl a)) (hk : Hid ((cQ : Int) ≤ k)) (w : World) :
    Calls Tryd.prog 23 #[.int .i64 a, .int .i64 k] w fun e w' => e = .returned (.tuple #[.int .i64 0, .int .i64 1]) ∧ Below w.heap.size w w' := by
  go_enter Tryd.func23, Tryd.ntmps23
  go_wp2_with fail
  refine (check_ok a ha _).mono ?_
  rintro e w1 ⟨rfl, hb1⟩
  go_wp2_with fail
  refine (scalars_big k _ 1 _ (Lib.hid (Nat.le_refl _)) hk _ (by simp)).mono ?_
  rintro e w2 ⟨rfl, rfl⟩
  go_wp2_with fail
  go_ret2
  exact ⟨rfl, below_ext hb1 ((Below.refl _ _).alloc (Nat.le_refl _) _)⟩
theorem sum_big (x y : Int) (hx : Hid ((cQ : Int) ≤ x)) (w : World) :
    Calls Tryd.prog 36 #[.int .i64 x, .int .i64 y] w fun e w' => e = .returned (.tuple #[.int .i64 0, .int .i64 1]) ∧ Below w.heap.size w w' := by
  go_enter Tryd.func36, Tryd.ntmps36
  go_wp2_with fail
  refine (scalars_big x _ 2 _ (Lib.hid (by decide)) hx _ (by simp)).mono ?_
  rintro e w2 ⟨rfl, rfl⟩
  go_wp2_with fail
  go_ret2
  exact ⟨rfl, (Below.refl _ _).alloc (Nat.le_refl _) _⟩
theorem inv_ok (a r : Nat) (ha : Hid (isEl a)) (hr : Hid (pw a (cQ - 1) = r)) (w : World) :
    Calls Tryd.prog 30 #[.int .i64 a] w fun e w' => e = .returned (.tuple #[.int .i64 r, .int .i64 0]) ∧ Below w.heap.size w w' := by
  go_enter Tryd.func30, Tryd.ntmps30
  go_wp2_with fail
  refine (exp_ok a 2305843009213688668 r ha (Lib.hid (by decide)) hr _).mono ?_
  rintro e w1 ⟨rfl, hb1⟩
  go_wp2_with fail
  go_ret2
  exact ⟨rfl, hb1⟩
theorem el_four : isEl 4 := ⟨by decide, by decide, by rw [← powM_eq cP 64 4 cQ (by decide)]; decide +kernel⟩
theorem base_ok (k r : Nat) (hk : Hid (k < cQ)) (hr : Hid (pw 4 k = r)) (w : World) :
    Calls Tryd.prog 22 #[.int .i64 k] w fun e w' => e = .returned (.tuple #[.int .i64 r, .int .i64 0]) ∧ Below w.heap.size w w' := by
  go_enter Tryd.func22, Tryd.ntmps22
  go_wp2_with fail
  refine (exp_ok 4 k r (Lib.hid el_four) hk hr _).mono ?_
  rintro e w1 ⟨rfl, hb1⟩
  go_wp2_with fail
  go_ret2
  exact ⟨rfl, hb1⟩
theorem mul_ok (a b r : Nat) (ha : Hid (isEl a)) (hb : Hid (isEl b)) (hr : Hid (a * b % cP = r)) (w : World) :
    Calls Tryd.prog 25 #[.int .i64 a, .int .i64 b] w fun e w' => e = .returned (.tuple #[.int .i64 r, .int .i64 0]) ∧ Below w.heap.size w w' := by
  have hal : Hid (a < cP) := ha.out.2.1
  have hbl : Hid (b < cP) := hb.out.2.1
  have e1 : IntKind.u64.wrap (a : Int) = (a : Int) := Go.Proofs.Mul64.wrapN _ (Nat.lt_trans hal.out (by decide))
  have e2 : IntKind.u64.wrap (b : Int) = (b : Int) := Go.Proofs.Mul64.wrapN _ (Nat.lt_trans hbl.out (by decide))
  have hrl : r < cP := by rw [← hr.out]; exact Nat.mod_lt _ (by decide)
  have e3 : IntKind.i64.wrap (r : Int) = (r : Int) := by
    have h : r < 4611686018427377339 := hrl
    simp only [IntKind.wrap_i64]; omega
  clear hrl
  have i0 : ∀ w : World, (Instr.index 54 (.agg #[.int .i64 a, .int .i64 b]) (.int .i64 0)).run Tryd.prog w = .ok (.int .i64 a) w := fun _ => by kernel_rfl
  have i1 : ∀ w : World, (Instr.index 54 (.agg #[.int .i64 a, .int .i64 b]) (.int .i64 1)).run Tryd.prog w = .ok (.int .i64 b) w := fun _ => by kernel_rfl
  go_enter Tryd.func25, Tryd.ntmps25
  go_wp2_with fail
  refine wp_loop_rounds 3 ?_
  rw [rounds_succ]; go_wp2_with fail
  refine (check_ok a ha _).mono ?_
  rintro e w1 ⟨rfl, hb1⟩
  go_wp2_with fail
  rw [rounds_succ]; go_wp2_with fail
  refine (check_ok b hb _).mono ?_
  rintro e w2 ⟨rfl, hb2⟩
  go_wp2_with fail
  rw [rounds_succ]; go_wp2_with fail
  refine (times_is a b r hr hal hbl _).mono ?_
  rintro e w3 ⟨rfl, hb3⟩
  go_wp2_with fail
  go_ret2
  exact ⟨rfl, below_ext (below_ext hb1 hb2) hb3⟩
end Go.Proofs.YtmhmenmkgbebcaaDoor
