/- the reference's group: Power, Check, Exp, Base, Mul, at every input that is asked of them. -/
import Derived.Test.YtmhmenmkgbebcaaDoorGre
import Derived.Test.YtmhmenmkgbebcaaDoorFsp
namespace Go.Proofs.YtmhmenmkgbebcaaDoor
open Go.RowKit Go.Shelf

theorem rp_step1 {a k c m : Nat} (h : k % 2 = 1) : (c * a % m) * (a * a % m) ^ (k / 2) % m = c * a ^ k % m := by
  have e : k = 2 * (k / 2) + 1 := by omega
  conv => rhs; rw [e]
  rw [Nat.pow_succ, Nat.pow_mul, Nat.pow_two, Nat.mul_mod, Nat.mod_mod, ← Nat.pow_mod, ← Nat.mul_mod]
  congr 1
  rw [Nat.mul_assoc, Nat.mul_comm a]
theorem rp_step0 {a k c m : Nat} (h : k % 2 = 0) : c * (a * a % m) ^ (k / 2) % m = c * a ^ k % m := by
  have e : k = 2 * (k / 2) := by omega
  conv => rhs; rw [e]
  rw [Nat.pow_mul, Nat.pow_two, Nat.mul_mod, ← Nat.pow_mod, ← Nat.mul_mod]
/-- Power's round: c * a ^ k stays what it was, modulo P -/
structure PwR (t a k c : Nat) : Prop where
  ha : a < cP
  hc : c < cP
  hk : k ≤ 4611686018427387904
  ht : c * a ^ k % cP = t
theorem cP_le : Hid (cP ≤ 4611686018427387904) := (by decide : cP ≤ 4611686018427387904)
set_option maxHeartbeats 1000000 in
theorem rpower_any (a k r : Nat) (ki : Int) (hki : ki = (k : Int)) (ha : Hid (a < cP)) (hk : Hid (k ≤ 4611686018427387904)) (hr : Hid (pw a k = r)) (w : World) :
    Calls Tryd.prog 58 #[.int .i64 a, .int .i64 ki] w fun e w' => e = .returned (.int .i64 r) ∧ w = w' := by
  subst hki
  have hS : Hid (PwR r a k 1) := ⟨ha.out, by decide, hk.out, by rw [Nat.one_mul]; exact hr.out⟩
  go_enter Tryd.func58, Tryd.ntmps58
  go_wp2_with fail
  go_loopw [0, 1, 5] (fun va vb vc wr => ∃ x y z : Nat, va = .int .i64 (x : Int) ∧ vb = .int .i64 (y : Int) ∧ vc = .int .i64 (z : Int) ∧ PwR r x y z ∧ w = wr) (fun _ vb _ _ => (intOf vb).toNat)
  case atStart => exact ⟨a, k, 1, rfl, rfl, rfl, hS.out, rfl⟩
  case round =>
    obtain ⟨x, y, z, rfl, rfl, rfl, hR, rfl⟩ := hrel
    have HR := Lib.hid hR; clear hR
    by_cases hy : y = 0
    · subst hy
      go_wp2_with fail
      have hzr : z = r := by have h1 := HR.out.ht; rw [Nat.pow_zero, Nat.mul_one, Nat.mod_eq_of_lt HR.out.hc] at h1; exact h1
      go_wp2_with fail
      go_ret
      exact ⟨by rw [← hzr]; rfl, rfl⟩
    · have ty : decide (0 < y) = true := decide_eq_true (by omega)
      obtain ⟨y2, hy2⟩ : ∃ y2, y / 2 = y2 := ⟨_, rfl⟩
      have e2 : (y : Int).tdiv 2 = (y2 : Int) := by rw [← hy2]; rw [Int.ofNat_tdiv]; rfl
      have e4 : wrap64 (y2 : Int) = (y2 : Int) := by
        have h1 := HR.out.hk
        unfold wrap64; omega
      obtain ⟨yb, hyb⟩ : ∃ yb, y % 2 = yb := ⟨_, rfl⟩
      have e3 : (y : Int).tmod 2 = (yb : Int) := by rw [← hyb]; rw [Int.ofNat_tmod]; rfl
      have hlt : Hid ((intOf (.int .i64 (y2 : Int))).toNat < (intOf (.int .i64 (y : Int))).toNat) := by show _ < _; simp [intOf]; omega
      obtain ⟨x2, hx2⟩ : ∃ x2, x * x % cP = x2 := ⟨_, rfl⟩
      obtain ⟨z2, hz2⟩ : ∃ z2, z * x % cP = z2 := ⟨_, rfl⟩
      have Hx : Hid (x < cP) := HR.out.ha
      have Hz : Hid (z < cP) := HR.out.hc
      have Hx2 := Lib.hid hx2; have Hz2 := Lib.hid hz2
      by_cases hb1 : y % 2 = 1
      · have hN : Hid (PwR r x2 y2 z2) := ⟨by rw [← hx2]; exact Nat.mod_lt _ cP_pos, by rw [← hz2]; exact Nat.mod_lt _ cP_pos, by have := HR.out.hk; omega, by rw [← hx2, ← hy2, ← hz2, rp_step1 hb1]; exact HR.out.ht⟩
        obtain rfl : yb = 1 := by omega
        clear hy hy2 hyb hx2 hz2 hb1
        go_wp2_with fail
        refine (modular_any z x 4611686018427377339 z2 Hz Hx cP_le Hz2 _).mono ?_
        rintro e w1 ⟨rfl, rfl⟩
        go_wp2_with fail
        refine (modular_any x x 4611686018427377339 x2 Hx Hx cP_le Hx2 _).mono ?_
        rintro e w1 ⟨rfl, rfl⟩
        go_wp2_with fail
        go_roundw
        case rel => exact ⟨x2, y2, z2, rfl, by rw [e4], rfl, hN.out, trivial⟩
        case measure => rw [e4]; exact hlt.out
      · have hN : Hid (PwR r x2 y2 z) := ⟨by rw [← hx2]; exact Nat.mod_lt _ cP_pos, HR.out.hc, by have := HR.out.hk; omega, by rw [← hx2, ← hy2, rp_step0 (by omega)]; exact HR.out.ht⟩
        obtain rfl : yb = 0 := by omega
        clear hy hy2 hyb hx2 hz2 hb1
        go_wp2_with fail
        refine (modular_any x x 4611686018427377339 x2 Hx Hx cP_le Hx2 _).mono ?_
        rintro e w1 ⟨rfl, rfl⟩
        go_wp2_with fail
        go_roundw
        case rel => exact ⟨x2, y2, z, rfl, by rw [e4], rfl, hN.out, trivial⟩
        case measure => rw [e4]; exact hlt.out

/-- what a check answers -/
def ChkPost (a : Int) (w : World) (e : Ending) (w' : World) : Prop := (ZEl a ∧ e = .returned (.int .i64 0) ∨ ¬ ZEl a ∧ e = .returned (.int .i64 30)) ∧ w = w'
theorem rcheck_mid (a r : Nat) (h1 : Hid (1 ≤ a)) (h2 : Hid (a < cP)) (hr : Hid (pw a cQ = r)) (w : World) : Calls Tryd.prog 43 #[.int .i64 a] w fun e w' => e = .returned (.int .i64 (if r = 1 then 0 else 30)) ∧ w = w' := by
  have t1 : decide ((a : Int) < 1) = false := by rw [decide_eq_false_iff_not]; have := h1.out; omega
  have t2 : decide ((4611686018427377339 : Int) ≤ (a : Int)) = false := by rw [decide_eq_false_iff_not]; have h : (a : Int) < (cP : Int) := Int.ofNat_lt.2 h2.out
                                                                           exact Int.not_le.2 h
  go_enter Tryd.func43, Tryd.ntmps43
  go_wp2_with fail
  refine (rpower_any a cQ r _ rfl h2 (Lib.hid (by decide)) hr _).mono ?_
  rintro e w1 ⟨rfl, rfl⟩
  by_cases hr1 : r = 1
  · subst hr1
    go_wp2_with fail
    go_ret
    exact ⟨rfl, rfl⟩
  · have t3 : ((r : Int) == 1) = false := by rw [beq_eq_false_iff_ne]; omega
    go_wp2_with fail
    go_ret
    exact ⟨rfl, rfl⟩
theorem rcheck_ok (a : Nat) (h : Hid (isEl a)) (w : World) : Calls Tryd.prog 43 #[.int .i64 a] w fun e w' => e = .returned (.int .i64 0) ∧ w = w' :=
  rcheck_mid a 1 (Lib.hid h.out.1) (Lib.hid h.out.2.1) (Lib.hid h.out.2.2) w
theorem rcheck_low (a : Int) (ha : Hid (a < 1)) (w : World) : Calls Tryd.prog 43 #[.int .i64 a] w fun e w' => e = .returned (.int .i64 30) ∧ w = w' := by
  have t1 : decide (a < 1) = true := decide_eq_true ha.out
  go_enter Tryd.func43, Tryd.ntmps43
  go_wp2
  go_ret
  exact ⟨rfl, rfl⟩
theorem rcheck_high (a : Int) (ha : Hid ((cP : Int) ≤ a)) (w : World) : Calls Tryd.prog 43 #[.int .i64 a] w fun e w' => e = .returned (.int .i64 30) ∧ w = w' := by
  have h := ha.out
  have t1 : decide (a < 1) = false := by rw [decide_eq_false_iff_not]; have : (1 : Int) ≤ (cP : Int) := by decide
                                         omega
  have t2 : decide ((4611686018427377339 : Int) ≤ a) = true := decide_eq_true h
  clear h
  go_enter Tryd.func43, Tryd.ntmps43
  go_wp2
  go_ret
  exact ⟨rfl, rfl⟩
theorem rcheck_bad (a : Int) (h : Hid (¬ ZEl a)) (w : World) : Calls Tryd.prog 43 #[.int .i64 a] w fun e w' => e = .returned (.int .i64 30) ∧ w = w' := by
  by_cases h1 : a < 1
  · exact rcheck_low a (Lib.hid h1) w
  · by_cases h2 : (cP : Int) ≤ a
    · exact rcheck_high a (Lib.hid h2) w
    · obtain ⟨n, rfl⟩ : ∃ n : Nat, a = (n : Int) := ⟨a.toNat, by omega⟩
      have hn1 : 1 ≤ n := by omega
      have hn2 : n < cP := by omega
      have hne : pw n cQ ≠ 1 := fun hh => h.out ⟨by omega, hn1, hn2, hh⟩
      have := rcheck_mid n _ (Lib.hid hn1) (Lib.hid hn2) (Lib.hid rfl) w
      rw [if_neg hne] at this
      exact this
theorem rexp_ok (a k r : Nat) (ha : Hid (isEl a)) (hk : Hid (k < cQ)) (hr : Hid (pw a k = r)) (w : World) :
    Calls Tryd.prog 44 #[.int .i64 a, .int .i64 k] w fun e w' => e = .returned (.tuple #[.int .i64 r, .int .i64 0]) ∧ w = w' := by
  have hkk : Hid (ZSc (k : Int)) := ⟨by omega, Int.ofNat_lt.2 hk.out⟩
  have hal : Hid (a < cP) := ha.out.2.1
  have hk2 : Hid (k ≤ 4611686018427387904) := Nat.le_of_lt (Nat.lt_trans hk.out (by decide))
  go_enter Tryd.func44, Tryd.ntmps44
  go_wp2_with fail
  refine (rcheck_ok a ha _).mono ?_
  rintro e w1 ⟨rfl, rfl⟩
  go_wp2_with fail
  refine (issc_yes k hkk _).mono ?_
  rintro e w1 ⟨rfl, rfl⟩
  go_wp2_with fail
  refine (rpower_any a k r _ rfl hal hk2 hr _).mono ?_
  rintro e w1 ⟨rfl, rfl⟩
  go_wp2_with fail
  go_ret2
  exact ⟨rfl, rfl⟩
theorem rbase_ok (k r : Nat) (hk : Hid (k < cQ)) (hr : Hid (pw 4 k = r)) (w : World) :
    Calls Tryd.prog 34 #[.int .i64 k] w fun e w' => e = .returned (.tuple #[.int .i64 r, .int .i64 0]) ∧ w = w' := by
  go_enter Tryd.func34, Tryd.ntmps34
  go_wp2_with fail
  refine (rexp_ok 4 k r (Lib.hid el_four) hk hr _).mono ?_
  rintro e w1 ⟨rfl, rfl⟩
  go_wp2_with fail
  go_ret2
  exact ⟨rfl, rfl⟩
theorem rmul_ok (a b r : Nat) (ha : Hid (isEl a)) (hb : Hid (isEl b)) (hr : Hid (a * b % cP = r)) (w : World) :
    Calls Tryd.prog 45 #[.int .i64 a, .int .i64 b] w fun e w' => e = .returned (.tuple #[.int .i64 r, .int .i64 0]) ∧ w = w' := by
  have hal : Hid (a < cP) := ha.out.2.1
  have hbl : Hid (b < cP) := hb.out.2.1
  go_enter Tryd.func45, Tryd.ntmps45
  go_wp2_with fail
  refine (rcheck_ok a ha _).mono ?_
  rintro e w1 ⟨rfl, rfl⟩
  go_wp2_with fail
  refine (rcheck_ok b hb _).mono ?_
  rintro e w1 ⟨rfl, rfl⟩
  go_wp2_with fail
  refine (modular_any a b 4611686018427377339 r hal hbl cP_le hr _).mono ?_
  rintro e w1 ⟨rfl, rfl⟩
  go_wp2_with fail
  go_ret2
  exact ⟨rfl, rfl⟩
end Go.Proofs.YtmhmenmkgbebcaaDoor
