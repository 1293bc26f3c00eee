/- chapter 03: GroupPowers' walk. -/
import Derived.Test.YtglojhkdabngdaaGla
namespace Go.Proofs.Ytglojhkdabngdaa
open Go.RowKit Go.Shelf

structure PowNums (r j k A B S D C E I : Nat) : Prop where
  er : isEl r
  eA : isEl A
  eB : isEl B
  lj : j < cQ
  lk : k < cQ
  lS : S < cQ
  lD : D < cQ
  h1 : pw r j = A
  h2 : pw r k = B
  h3 : (j + k) % cQ = S
  h4 : j * k % cQ = D
  h5 : A * B % cP = C
  h6 : pw r S = C
  h7 : pw r D = E
  h8 : pw A k = E
  h9 : pw r 0 = 1
  h10 : pw r 1 = r
  h11 : pw r (cQ - 1) = I
theorem pow_nums {r j k : Nat} (hr : isEl r) (hj : j < cQ) (hk : k < cQ) : ∃ A B S D C E I, PowNums r j k A B S D C E I := by
  have q : 0 < cQ := by decide
  refine ⟨pw r j, pw r k, (j + k) % cQ, j * k % cQ, pw r (j + k), pw r (j * k), pw r (cQ - 1), ?_⟩
  exact { er := hr, eA := pw_el hr j, eB := pw_el hr k, lj := hj, lk := hk, lS := Nat.mod_lt _ q, lD := Nat.mod_lt _ q
          h1 := rfl, h2 := rfl, h3 := rfl, h4 := rfl, h5 := pw_add r j k, h6 := pw_mod hr _, h7 := pw_mod hr _, h8 := pw_mul r j k
          h9 := pw_zero r, h10 := pw_one hr, h11 := rfl }
set_option maxRecDepth 100000 in
set_option maxHeartbeats 4000000 in
theorem powers_walk (n : Nat) (b c : Int) (w : World) : Calls Try.prog 4 #[.int .u64 n, .int .i64 b, .int .i64 c] w fun e w' => e = .returned (.bool true) ∧ Below w.heap.size w w' := by
  obtain ⟨r, hr⟩ : ∃ r, n % cP * (n % cP) % cP = r := ⟨_, rfl⟩
  have Hr := Lib.hid hr
  clear hr
  go_enter Try.func4, Try.ntmps4
  go_wp2_with fail
  refine (sane_any _).mono ?_
  rintro e w1 ⟨rfl, hb1⟩
  go_wp2_with fail
  refine (elem_any n r Hr _).mono ?_
  rintro e w2 ⟨rfl, rfl⟩
  by_cases za : r = 0
  · subst za
    go_wp2_with fail
    go_ret
    exact ⟨rfl, hb1⟩
  have hel := Lib.hid (sq_isEl Hr.out za)
  have t1 := nz za
  clear za
  go_wp2_with fail
  obtain ⟨j, hj, cx⟩ := of_any b w1
  refine cx.mono ?_
  clear cx
  rintro e w2 ⟨rfl, rfl⟩
  go_wp2_with fail
  obtain ⟨k, hk, cx⟩ := of_any c w1
  refine cx.mono ?_
  clear cx
  rintro e w2 ⟨rfl, rfl⟩
  obtain ⟨A, B, S, D, C, E, I, N0⟩ := pow_nums hel.out hj.out hk.out
  have N := Lib.hid N0; clear N0
  go_wp2_with fail
  refine (exp_ok r j A (Lib.hid N.out.er) (Lib.hid N.out.lj) (Lib.hid N.out.h1) _).mono ?_
  rintro e w2 ⟨rfl, hb⟩
  replace hb1 := below_ext hb1 hb; clear hb
  go_wp2_with fail
  refine (exp_ok r k B (Lib.hid N.out.er) (Lib.hid N.out.lk) (Lib.hid N.out.h2) _).mono ?_
  rintro e w3 ⟨rfl, hb⟩
  replace hb1 := below_ext hb1 hb; clear hb
  go_wp2_with fail
  refine (sum_any j k S (Lib.hid N.out.lj) (Lib.hid N.out.lk) (Lib.hid N.out.h3) _).mono ?_
  rintro e w4 ⟨rfl, hb⟩
  replace hb1 := below_ext hb1 hb; clear hb
  go_wp2_with fail
  refine (prod_any j k D (Lib.hid N.out.lj) (Lib.hid N.out.lk) (Lib.hid N.out.h4) _).mono ?_
  rintro e w5 ⟨rfl, hb⟩
  replace hb1 := below_ext hb1 hb; clear hb
  go_wp2_with fail
  refine (mul_ok A B C (Lib.hid N.out.eA) (Lib.hid N.out.eB) (Lib.hid N.out.h5) _).mono ?_
  rintro e w6 ⟨rfl, hb⟩
  replace hb1 := below_ext hb1 hb; clear hb
  go_wp2_with fail
  refine (exp_ok r S C (Lib.hid N.out.er) (Lib.hid N.out.lS) (Lib.hid N.out.h6) _).mono ?_
  rintro e w7 ⟨rfl, hb⟩
  replace hb1 := below_ext hb1 hb; clear hb
  go_wp2_with fail
  refine (exp_ok r D E (Lib.hid N.out.er) (Lib.hid N.out.lD) (Lib.hid N.out.h7) _).mono ?_
  rintro e w8 ⟨rfl, hb⟩
  replace hb1 := below_ext hb1 hb; clear hb
  go_wp2_with fail
  refine (exp_ok A k E (Lib.hid N.out.eA) (Lib.hid N.out.lk) (Lib.hid N.out.h8) _).mono ?_
  rintro e w9 ⟨rfl, hb⟩
  replace hb1 := below_ext hb1 hb; clear hb
  go_wp2_with fail
  refine (exp_ok r 0 1 (Lib.hid N.out.er) (Lib.hid (by decide)) (Lib.hid N.out.h9) _).mono ?_
  rintro e w10 ⟨rfl, hb⟩
  replace hb1 := below_ext hb1 hb; clear hb
  go_wp2_with fail
  refine (exp_ok r 1 r (Lib.hid N.out.er) (Lib.hid (by decide)) (Lib.hid N.out.h10) _).mono ?_
  rintro e w11 ⟨rfl, hb⟩
  replace hb1 := below_ext hb1 hb; clear hb
  go_wp2_with fail
  refine (exp_ok r 2305843009213688668 I (Lib.hid N.out.er) (Lib.hid (by decide)) (Lib.hid N.out.h11) _).mono ?_
  rintro e w12 ⟨rfl, hb⟩
  replace hb1 := below_ext hb1 hb; clear hb
  go_wp2_with fail
  refine (inv_ok r I (Lib.hid N.out.er) (Lib.hid N.out.h11) _).mono ?_
  rintro e w13 ⟨rfl, hb⟩
  replace hb1 := below_ext hb1 hb; clear hb
  go_wp2_with fail
  go_ret
  exact ⟨by simp, hb1⟩
theorem powers_row (a b c : Int) (w : World) (h1 : (Lit.int .u64 a).wf = true) (_ : (Lit.int .i64 b).wf = true) (_ : (Lit.int .i64 c).wf = true) : Calls Try.prog 4 #[.int .u64 a, .int .i64 b, .int .i64 c] w fun e w' => e = .returned (.bool true) ∧ Below w.heap.size w w' := by
  obtain ⟨k1, rfl⟩ := u64_nat h1
  exact powers_walk k1 b c w
end Go.Proofs.Ytglojhkdabngdaa
