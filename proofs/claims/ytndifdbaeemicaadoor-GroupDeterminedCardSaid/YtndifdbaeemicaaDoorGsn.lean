/- chapter 03's law: its helpers and its sane. -/
import Derived.Test.YtndifdbaeemicaaDoorGre
namespace Go.Proofs.YtndifdbaeemicaaDoor
open Go.RowKit Go.Shelf

theorem is_ok (a : Int) (w : World) : Calls Tryd.prog 18 #[.int .i64 a, .int .i64 0, .int .i64 a] w fun e w' => e = .returned (.bool true) ∧ w = w' := by
  go_enter Tryd.func18, Tryd.ntmps18
  go_wp2
  go_ret
  exact ⟨by simp, rfl⟩
theorem pw_is (a k r : Nat) (hk : k < 2 ^ 64) (h : powM cP 64 a k = r) : pw a k = r := by
  unfold pw; rw [← powM_eq cP 64 a k hk]; exact h
theorem el_pw (n : Nat) (h1 : 1 ≤ n) (h2 : n < cP) (h : powM cP 64 n cQ = 1) : isEl n := ⟨h1, h2, pw_is n cQ 1 (by decide) h⟩
theorem nel_pw (n : Nat) (h : powM cP 64 n cQ ≠ 1) : ¬ ZEl (n : Int) := fun hz => h (by
  rw [powM_eq cP 64 n cQ (by decide)]
  have := hz.2.2.2
  rw [Int.toNat_natCast] at this; exact this)
theorem el_one : isEl 1 := el_pw 1 (by decide) (by decide) (by decide +kernel)
theorem el_16 : isEl 16 := el_pw 16 (by decide) (by decide) (by decide +kernel)
theorem nel_2 : ¬ ZEl 2 := nel_pw 2 (by decide +kernel)
theorem nel_m : ¬ ZEl 4611686018427377338 := nel_pw 4611686018427377338 (by decide +kernel)
theorem nel_P : ¬ ZEl 4611686018427377339 := fun h => absurd h.2.2.1 (by decide)
theorem nel_0 : ¬ ZEl 0 := fun h => absurd h.1 (by decide)
theorem nel_4 : ¬ ZEl (-4) := fun h => absurd h.1 (by decide)
theorem sane_nums : Hid (4 * 4 % cP = 16) ∧ Hid (pw 4 3 = 64) ∧ Hid (pw 4 (cQ - 1) = 1152921504606844335) ∧ Hid ((2305843009213688668 + 2) % cQ = 1) ∧ Hid (2305843009213688668 * 2305843009213688668 % cQ = 1) := by
  refine ⟨(by decide : 4 * 4 % cP = 16), ?_, ?_, (by decide : (2305843009213688668 + 2) % cQ = 1), (by decide : 2305843009213688668 * 2305843009213688668 % cQ = 1)⟩
  · exact pw_is 4 3 64 (by decide) (by decide +kernel)
  · exact pw_is 4 (cQ - 1) _ (by decide) (by decide +kernel)
set_option maxRecDepth 100000 in
set_option maxHeartbeats 2000000 in
theorem sane_any (w : World) : Calls Tryd.prog 5 #[] w fun e w' => e = .returned (.bool true) ∧ Below w.heap.size w w' := by
  obtain ⟨n1, n2, n3, n4, n5⟩ := sane_nums
  go_enter Tryd.func5, Tryd.ntmps5
  go_wp2_with fail
  refine (mul_ok 4 4 16 (Lib.hid el_four) (Lib.hid el_four) n1 _).mono ?_
  rintro e w1 ⟨rfl, hb1⟩
  go_wp2_with fail
  refine (base_ok 3 64 (Lib.hid (by decide)) n2 _).mono ?_
  rintro e w2 ⟨rfl, hb⟩
  replace hb1 := below_ext hb1 hb; clear hb
  go_wp2_with fail
  refine (exp_neg 4 (-1) (Lib.hid el_four) (Lib.hid (by decide)) _).mono ?_
  rintro e w3 ⟨rfl, hb⟩
  replace hb1 := below_ext hb1 hb; clear hb
  go_wp2_with fail
  refine (exp_big 4 2305843009213688669 (Lib.hid el_four) (Lib.hid (by decide)) _).mono ?_
  rintro e w4 ⟨rfl, hb⟩
  replace hb1 := below_ext hb1 hb; clear hb
  go_wp2_with fail
  refine (inv_ok 4 _ (Lib.hid el_four) n3 _).mono ?_
  rintro e w5 ⟨rfl, hb⟩
  replace hb1 := below_ext hb1 hb; clear hb
  go_wp2_with fail
  refine (sum_any 2305843009213688668 2 1 (Lib.hid (by decide)) (Lib.hid (by decide)) n4 _).mono ?_
  rintro e w6 ⟨rfl, hb⟩
  replace hb1 := below_ext hb1 hb; clear hb
  go_wp2_with fail
  refine (prod_any 2305843009213688668 2305843009213688668 1 (Lib.hid (by decide)) (Lib.hid (by decide)) n5 _).mono ?_
  rintro e w7 ⟨rfl, hb⟩
  replace hb1 := below_ext hb1 hb; clear hb
  go_wp2_with fail
  refine (sum_big 2305843009213688669 0 (Lib.hid (by decide)) _).mono ?_
  rintro e w8 ⟨rfl, hb⟩
  replace hb1 := below_ext hb1 hb; clear hb
  go_wp2_with fail
  obtain ⟨W, hW⟩ : ∃ W, w8.alloc (.cells #[.int .i64 0, .int .i64 4611686018427377339, .int .i64 4611686018427377338, .int .i64 2, .int .i64 (-4)] 3) = W := ⟨_, rfl⟩
  have k0 : W.cell? ⟨w8.heap.size, 0, none⟩ = some (.int .i64 0) := by rw [← hW]; simp
  have k1 : W.cell? ⟨w8.heap.size, 1, none⟩ = some (.int .i64 4611686018427377339) := by rw [← hW]; simp
  have k2 : W.cell? ⟨w8.heap.size, 2, none⟩ = some (.int .i64 4611686018427377338) := by rw [← hW]; simp
  have k3 : W.cell? ⟨w8.heap.size, 3, none⟩ = some (.int .i64 2) := by rw [← hW]; simp
  have k4 : W.cell? ⟨w8.heap.size, 4, none⟩ = some (.int .i64 (-4)) := by rw [← hW]; simp
  replace hb1 : Below w.heap.size w W := by rw [← hW]; exact hb1.alloc hb1.size _
  rw [hW]; clear hW
  refine wp_loop_rounds 6 ?_
  rw [rounds_succ]; go_wp2_with fail
  refine (check_bad 0 (Lib.hid nel_0) _).mono ?_
  rintro e w9 ⟨rfl, hb⟩
  replace hb1 := below_ext hb1 hb; replace k1 := cell_ext hb k1; replace k2 := cell_ext hb k2; replace k3 := cell_ext hb k3; replace k4 := cell_ext hb k4; clear hb k0
  go_wp2_with fail
  rw [rounds_succ]; go_wp2_with fail
  refine (check_bad _ (Lib.hid nel_P) _).mono ?_
  rintro e w10 ⟨rfl, hb⟩
  replace hb1 := below_ext hb1 hb; replace k2 := cell_ext hb k2; replace k3 := cell_ext hb k3; replace k4 := cell_ext hb k4; clear hb k1
  go_wp2_with fail
  rw [rounds_succ]; go_wp2_with fail
  refine (check_bad _ (Lib.hid nel_m) _).mono ?_
  rintro e w11 ⟨rfl, hb⟩
  replace hb1 := below_ext hb1 hb; replace k3 := cell_ext hb k3; replace k4 := cell_ext hb k4; clear hb k2
  go_wp2_with fail
  rw [rounds_succ]; go_wp2_with fail
  refine (check_bad _ (Lib.hid nel_2) _).mono ?_
  rintro e w12 ⟨rfl, hb⟩
  replace hb1 := below_ext hb1 hb; replace k4 := cell_ext hb k4; clear hb k3
  go_wp2_with fail
  rw [rounds_succ]; go_wp2_with fail
  refine (check_bad _ (Lib.hid nel_4) _).mono ?_
  rintro e w13 ⟨rfl, hb⟩
  replace hb1 := below_ext hb1 hb; clear hb k4
  go_wp2_with fail
  rw [rounds_succ]; go_wp2_with fail
  refine (is_ok 16 _).mono ?_
  rintro e w14 ⟨rfl, rfl⟩
  go_wp2_with fail
  refine (is_ok 64 _).mono ?_
  rintro e w14 ⟨rfl, rfl⟩
  go_wp2_with fail
  refine (is_ok 1152921504606844335 _).mono ?_
  rintro e w14 ⟨rfl, rfl⟩
  go_wp2_with fail
  refine (is_ok 1 _).mono ?_
  rintro e w14 ⟨rfl, rfl⟩
  go_wp2_with fail
  refine (is_ok 1 _).mono ?_
  rintro e w14 ⟨rfl, rfl⟩
  go_wp2_with fail
  refine (check_ok 1 (Lib.hid el_one) _).mono ?_
  rintro e w14 ⟨rfl, hb⟩
  replace hb1 := below_ext hb1 hb; clear hb
  go_wp2_with fail
  refine (check_ok 4 (Lib.hid el_four) _).mono ?_
  rintro e w15 ⟨rfl, hb⟩
  replace hb1 := below_ext hb1 hb; clear hb
  go_wp2_with fail
  refine (check_ok 16 (Lib.hid el_16) _).mono ?_
  rintro e w16 ⟨rfl, hb⟩
  replace hb1 := below_ext hb1 hb; clear hb
  go_wp2_with fail
  go_ret
  exact ⟨rfl, hb1⟩
end Go.Proofs.YtndifdbaeemicaaDoor
