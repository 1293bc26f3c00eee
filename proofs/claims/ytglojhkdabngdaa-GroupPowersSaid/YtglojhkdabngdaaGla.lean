/- chapter 03: GroupAxioms' walk. -/
import Derived.Test.YtglojhkdabngdaaGsn
namespace Go.Proofs.Ytglojhkdabngdaa
open Go.RowKit Go.Shelf

theorem u64_nat {n : Int} (h : (Lit.int .u64 n).wf = true) : ∃ k : Nat, n = (k : Int) := by
  simp only [Lit.wf, Bool.and_eq_true, decide_eq_true_eq] at h
  have : (0 : Int) ≤ n := by simpa [IntKind.min, IntKind.signed] using h.1
  exact ⟨n.toNat, by omega⟩
theorem sq_isEl {n r : Nat} (hr : n % cP * (n % cP) % cP = r) (h : r ≠ 0) : isEl r := by
  rw [← hr]
  refine sq_el fun hd => h ?_
  rw [← hr]; exact sq_zero hd
structure AxNums (a b c ab bc abc i : Nat) : Prop where
  ea : isEl a
  eb : isEl b
  ec : isEl c
  eab : isEl ab
  ebc : isEl bc
  ei : isEl i
  h1 : a * b % cP = ab
  h2 : b * a % cP = ab
  h3 : b * c % cP = bc
  h4 : ab * c % cP = abc
  h5 : a * bc % cP = abc
  h6 : a * 1 % cP = a
  h7 : pw a (cQ - 1) = i
  h8 : a * i % cP = 1
theorem ax_nums {a b c : Nat} (ha : isEl a) (hb : isEl b) (hc : isEl c) : ∃ ab bc abc i, AxNums a b c ab bc abc i := by
  refine ⟨a * b % cP, b * c % cP, a * b * c % cP, pw a (cQ - 1), ?_⟩
  exact { ea := ha, eb := hb, ec := hc, eab := mul_el ha hb, ebc := mul_el hb hc, ei := pw_el ha _
          h1 := rfl, h2 := by rw [Nat.mul_comm], h3 := rfl, h4 := by rw [Nat.mod_mul_mod], h5 := by rw [Nat.mul_mod_mod, Nat.mul_assoc]
          h6 := by rw [Nat.mul_one]; exact Nat.mod_eq_of_lt ha.2.1, h7 := rfl, h8 := inv_el ha }
theorem nz {r : Nat} (h : ¬ r = 0) : ((r : Int) == 0) = false := by rw [beq_eq_false_iff_ne]; omega
set_option maxRecDepth 100000 in
set_option maxHeartbeats 4000000 in
theorem axioms_walk (n1 n2 n3 : Nat) (w : World) : Calls Try.prog 3 #[.int .u64 n1, .int .u64 n2, .int .u64 n3] w fun e w' => e = .returned (.bool true) ∧ Below w.heap.size w w' := by
  obtain ⟨a, ha⟩ : ∃ a, n1 % cP * (n1 % cP) % cP = a := ⟨_, rfl⟩
  obtain ⟨b, hb⟩ : ∃ b, n2 % cP * (n2 % cP) % cP = b := ⟨_, rfl⟩
  obtain ⟨c, hc⟩ : ∃ c, n3 % cP * (n3 % cP) % cP = c := ⟨_, rfl⟩
  have Ha := Lib.hid ha; have Hb := Lib.hid hb; have Hc := Lib.hid hc
  clear ha hb hc
  go_enter Try.func3, Try.ntmps3
  go_wp2_with fail
  refine (sane_any _).mono ?_
  rintro e w1 ⟨rfl, hb1⟩
  go_wp2_with fail
  refine (elem_any n1 a Ha _).mono ?_
  rintro e w2 ⟨rfl, rfl⟩
  go_wp2_with fail
  refine (elem_any n2 b Hb _).mono ?_
  rintro e w2 ⟨rfl, rfl⟩
  go_wp2_with fail
  refine (elem_any n3 c Hc _).mono ?_
  rintro e w2 ⟨rfl, rfl⟩
  by_cases za : a = 0
  · subst za
    go_wp2_with fail
    go_ret
    exact ⟨rfl, hb1⟩
  by_cases zb : b = 0
  · have t1 := nz za
    subst zb; clear za
    go_wp2_with fail
    go_ret
    exact ⟨rfl, hb1⟩
  by_cases zc : c = 0
  · have t1 := nz za
    have t2 := nz zb
    subst zc; clear za zb
    go_wp2_with fail
    go_ret
    exact ⟨rfl, hb1⟩
  obtain ⟨ab, bc, abc, i, N0⟩ := ax_nums (sq_isEl Ha.out za) (sq_isEl Hb.out zb) (sq_isEl Hc.out zc)
  have N := Lib.hid N0; clear N0
  have t1 := nz za
  have t2 := nz zb
  have t3 := nz zc
  clear za zb zc
  go_wp2_with fail
  refine (mul_ok a b ab (Lib.hid N.out.ea) (Lib.hid N.out.eb) (Lib.hid N.out.h1) _).mono ?_
  rintro e w2 ⟨rfl, hb⟩
  replace hb1 := below_ext hb1 hb; clear hb
  go_wp2_with fail
  refine (mul_ok b a ab (Lib.hid N.out.eb) (Lib.hid N.out.ea) (Lib.hid N.out.h2) _).mono ?_
  rintro e w3 ⟨rfl, hb⟩
  replace hb1 := below_ext hb1 hb; clear hb
  go_wp2_with fail
  refine (mul_ok b c bc (Lib.hid N.out.eb) (Lib.hid N.out.ec) (Lib.hid N.out.h3) _).mono ?_
  rintro e w4 ⟨rfl, hb⟩
  replace hb1 := below_ext hb1 hb; clear hb
  go_wp2_with fail
  refine (mul_ok ab c abc (Lib.hid N.out.eab) (Lib.hid N.out.ec) (Lib.hid N.out.h4) _).mono ?_
  rintro e w5 ⟨rfl, hb⟩
  replace hb1 := below_ext hb1 hb; clear hb
  go_wp2_with fail
  refine (mul_ok a bc abc (Lib.hid N.out.ea) (Lib.hid N.out.ebc) (Lib.hid N.out.h5) _).mono ?_
  rintro e w6 ⟨rfl, hb⟩
  replace hb1 := below_ext hb1 hb; clear hb
  go_wp2_with fail
  refine (mul_ok a 1 a (Lib.hid N.out.ea) (Lib.hid el_one) (Lib.hid N.out.h6) _).mono ?_
  rintro e w7 ⟨rfl, hb⟩
  replace hb1 := below_ext hb1 hb; clear hb
  go_wp2_with fail
  refine (inv_ok a i (Lib.hid N.out.ea) (Lib.hid N.out.h7) _).mono ?_
  rintro e w8 ⟨rfl, hb⟩
  replace hb1 := below_ext hb1 hb; clear hb
  go_wp2_with fail
  refine (mul_ok a i 1 (Lib.hid N.out.ea) (Lib.hid N.out.ei) (Lib.hid N.out.h8) _).mono ?_
  rintro e w9 ⟨rfl, hb⟩
  replace hb1 := below_ext hb1 hb; clear hb
  go_wp2_with fail
  refine (check_ok ab (Lib.hid N.out.eab) _).mono ?_
  rintro e w10 ⟨rfl, hb⟩
  replace hb1 := below_ext hb1 hb; clear hb
  go_wp2_with fail
  refine (check_ok i (Lib.hid N.out.ei) _).mono ?_
  rintro e w11 ⟨rfl, hb⟩
  replace hb1 := below_ext hb1 hb; clear hb
  go_wp2_with fail
  go_ret
  exact ⟨by simp, hb1⟩
theorem axioms_row (a b c : Int) (w : World) (h1 : (Lit.int .u64 a).wf = true) (h2 : (Lit.int .u64 b).wf = true) (h3 : (Lit.int .u64 c).wf = true) : Calls Try.prog 3 #[.int .u64 a, .int .u64 b, .int .u64 c] w fun e w' => e = .returned (.bool true) ∧ Below w.heap.size w w' := by
  obtain ⟨k1, rfl⟩ := u64_nat h1
  obtain ⟨k2, rfl⟩ := u64_nat h2
  obtain ⟨k3, rfl⟩ := u64_nat h3
  exact axioms_walk k1 k2 k3 w
end Go.Proofs.Ytglojhkdabngdaa
