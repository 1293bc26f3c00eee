/- chapter 03: GroupRing's walk. -/
import Derived.Test.YtglojhkdabngdaaGsn
namespace Go.Proofs.Ytglojhkdabngdaa
open Go.RowKit Go.Shelf

structure RingNums (x y z s1 s2 s3 p1 p2 p3 p4 t1 : Nat) : Prop where
  a1 : (x + y) % cQ = s1
  a2 : (y + x) % cQ = s1
  a3 : (s1 + z) % cQ = s2
  a4 : (y + z) % cQ = s3
  a5 : (x + s3) % cQ = s2
  b1 : x * y % cQ = p1
  b2 : y * x % cQ = p1
  b3 : p1 * z % cQ = p2
  b4 : y * z % cQ = p3
  b5 : x * p3 % cQ = p2
  c1 : x * s3 % cQ = t1
  c2 : x * z % cQ = p4
  c3 : (p1 + p4) % cQ = t1
  d1 : (x + 0) % cQ = x
  d2 : x * 1 % cQ = x
  d3 : x * 0 % cQ = 0
  l1 : s1 < cQ
  l3 : s3 < cQ
  m1 : p1 < cQ
  m3 : p3 < cQ
  m4 : p4 < cQ
theorem ring_nums (x y z : Nat) (hx : x < cQ) : ∃ s1 s2 s3 p1 p2 p3 p4 t1, RingNums x y z s1 s2 s3 p1 p2 p3 p4 t1 := by
  have q : 0 < cQ := by decide
  refine ⟨(x + y) % cQ, (x + y + z) % cQ, (y + z) % cQ, x * y % cQ, x * y * z % cQ, y * z % cQ, x * z % cQ, x * (y + z) % cQ, ?_⟩
  exact { a1 := rfl, a2 := by rw [Nat.add_comm], a3 := by rw [Nat.mod_add_mod], a4 := rfl, a5 := by rw [Nat.add_mod_mod, Nat.add_assoc]
          b1 := rfl, b2 := by rw [Nat.mul_comm], b3 := by rw [Nat.mod_mul_mod], b4 := rfl, b5 := by rw [Nat.mul_mod_mod, Nat.mul_assoc]
          c1 := by rw [Nat.mul_mod_mod], c2 := rfl, c3 := by rw [← Nat.add_mod, Nat.mul_add]
          d1 := Nat.mod_eq_of_lt hx, d2 := by rw [Nat.mul_one]; exact Nat.mod_eq_of_lt hx, d3 := by rw [Nat.mul_zero]; exact Nat.zero_mod _
          l1 := Nat.mod_lt _ q, l3 := Nat.mod_lt _ q, m1 := Nat.mod_lt _ q, m3 := Nat.mod_lt _ q, m4 := Nat.mod_lt _ q }
set_option maxRecDepth 100000 in
set_option maxHeartbeats 2000000 in
theorem ring_walk (a b c : Int) (w : World) : Calls Try.prog 5 #[.int .i64 a, .int .i64 b, .int .i64 c] w fun e w' => e = .returned (.bool true) ∧ Below w.heap.size w w' := by
  go_enter Try.func5, Try.ntmps5
  go_wp2_with fail
  refine (sane_any _).mono ?_
  rintro e w1 ⟨rfl, hb1⟩
  go_wp2_with fail
  obtain ⟨x, hx, cx⟩ := of_any a w1
  refine cx.mono ?_
  clear cx
  rintro e w2 ⟨rfl, rfl⟩
  go_wp2_with fail
  obtain ⟨y, hy, cx⟩ := of_any b w1
  refine cx.mono ?_
  clear cx
  rintro e w2 ⟨rfl, rfl⟩
  go_wp2_with fail
  obtain ⟨z, hz, cx⟩ := of_any c w1
  refine cx.mono ?_
  clear cx
  rintro e w2 ⟨rfl, rfl⟩
  obtain ⟨s1, s2, s3, p1, p2, p3, p4, t1, N0⟩ := ring_nums x y z hx.out
  have N := Lib.hid N0; clear N0
  go_wp2_with fail
  refine (add_any x y s1 hx hy (Lib.hid N.out.a1) _).mono ?_
  rintro e w2 ⟨rfl, hb⟩
  replace hb1 := below_ext hb1 hb; clear hb
  go_wp2_with fail
  refine (add_any y x s1 hy hx (Lib.hid N.out.a2) _).mono ?_
  rintro e w3 ⟨rfl, hb⟩
  replace hb1 := below_ext hb1 hb; clear hb
  go_wp2_with fail
  refine (add_any x y s1 hx hy (Lib.hid N.out.a1) _).mono ?_
  rintro e w4 ⟨rfl, hb⟩
  replace hb1 := below_ext hb1 hb; clear hb
  go_wp2_with fail
  refine (add_any s1 z s2 (Lib.hid N.out.l1) hz (Lib.hid N.out.a3) _).mono ?_
  rintro e w5 ⟨rfl, hb⟩
  replace hb1 := below_ext hb1 hb; clear hb
  go_wp2_with fail
  refine (add_any y z s3 hy hz (Lib.hid N.out.a4) _).mono ?_
  rintro e w6 ⟨rfl, hb⟩
  replace hb1 := below_ext hb1 hb; clear hb
  go_wp2_with fail
  refine (add_any x s3 s2 hx (Lib.hid N.out.l3) (Lib.hid N.out.a5) _).mono ?_
  rintro e w7 ⟨rfl, hb⟩
  replace hb1 := below_ext hb1 hb; clear hb
  go_wp2_with fail
  refine (tms_any x y p1 hx hy (Lib.hid N.out.b1) _).mono ?_
  rintro e w8 ⟨rfl, hb⟩
  replace hb1 := below_ext hb1 hb; clear hb
  go_wp2_with fail
  refine (tms_any y x p1 hy hx (Lib.hid N.out.b2) _).mono ?_
  rintro e w9 ⟨rfl, hb⟩
  replace hb1 := below_ext hb1 hb; clear hb
  go_wp2_with fail
  refine (tms_any x y p1 hx hy (Lib.hid N.out.b1) _).mono ?_
  rintro e w10 ⟨rfl, hb⟩
  replace hb1 := below_ext hb1 hb; clear hb
  go_wp2_with fail
  refine (tms_any p1 z p2 (Lib.hid N.out.m1) hz (Lib.hid N.out.b3) _).mono ?_
  rintro e w11 ⟨rfl, hb⟩
  replace hb1 := below_ext hb1 hb; clear hb
  go_wp2_with fail
  refine (tms_any y z p3 hy hz (Lib.hid N.out.b4) _).mono ?_
  rintro e w12 ⟨rfl, hb⟩
  replace hb1 := below_ext hb1 hb; clear hb
  go_wp2_with fail
  refine (tms_any x p3 p2 hx (Lib.hid N.out.m3) (Lib.hid N.out.b5) _).mono ?_
  rintro e w13 ⟨rfl, hb⟩
  replace hb1 := below_ext hb1 hb; clear hb
  go_wp2_with fail
  refine (add_any y z s3 hy hz (Lib.hid N.out.a4) _).mono ?_
  rintro e w14 ⟨rfl, hb⟩
  replace hb1 := below_ext hb1 hb; clear hb
  go_wp2_with fail
  refine (tms_any x s3 t1 hx (Lib.hid N.out.l3) (Lib.hid N.out.c1) _).mono ?_
  rintro e w15 ⟨rfl, hb⟩
  replace hb1 := below_ext hb1 hb; clear hb
  go_wp2_with fail
  refine (tms_any x y p1 hx hy (Lib.hid N.out.b1) _).mono ?_
  rintro e w16 ⟨rfl, hb⟩
  replace hb1 := below_ext hb1 hb; clear hb
  go_wp2_with fail
  refine (tms_any x z p4 hx hz (Lib.hid N.out.c2) _).mono ?_
  rintro e w17 ⟨rfl, hb⟩
  replace hb1 := below_ext hb1 hb; clear hb
  go_wp2_with fail
  refine (add_any p1 p4 t1 (Lib.hid N.out.m1) (Lib.hid N.out.m4) (Lib.hid N.out.c3) _).mono ?_
  rintro e w18 ⟨rfl, hb⟩
  replace hb1 := below_ext hb1 hb; clear hb
  go_wp2_with fail
  refine (add_any x 0 x hx (Lib.hid (by decide)) (Lib.hid N.out.d1) _).mono ?_
  rintro e w19 ⟨rfl, hb⟩
  replace hb1 := below_ext hb1 hb; clear hb
  go_wp2_with fail
  refine (tms_any x 1 x hx (Lib.hid (by decide)) (Lib.hid N.out.d2) _).mono ?_
  rintro e w20 ⟨rfl, hb⟩
  replace hb1 := below_ext hb1 hb; clear hb
  go_wp2_with fail
  refine (tms_any x 0 0 hx (Lib.hid (by decide)) (Lib.hid N.out.d3) _).mono ?_
  rintro e w21 ⟨rfl, hb⟩
  replace hb1 := below_ext hb1 hb; clear hb
  go_wp2_with fail
  go_ret
  exact ⟨rfl, hb1⟩
theorem ring_row (a b c : Int) (w : World) (_ : (Lit.int .i64 a).wf = true) (_ : (Lit.int .i64 b).wf = true) (_ : (Lit.int .i64 c).wf = true) : Calls Try.prog 5 #[.int .i64 a, .int .i64 b, .int .i64 c] w fun e w' => e = .returned (.bool true) ∧ Below w.heap.size w w' := ring_walk a b c w
end Go.Proofs.Ytglojhkdabngdaa
