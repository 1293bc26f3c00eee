/- chapter 03's reference: sum, Modular, Square, Of; the law's own helpers. -/
import Derived.Test.YtmhmenmkgbebcaaDoorGex
namespace Go.Proofs.YtmhmenmkgbebcaaDoor
open Go.RowKit Go.Shelf

theorem refsum_any (a b m r : Nat) (ha : Hid (a < m)) (hb : Hid (b < m)) (hm : Hid (m ≤ 4611686018427387904)) (hr : Hid ((a + b) % m = r)) (w : World) :
    Calls Tryd.prog 57 #[.int .i64 a, .int .i64 b, .int .i64 m] w fun e w' => e = .returned (.int .i64 r) ∧ w = w' := by
  obtain ⟨c, hc⟩ : ∃ c, a + b = c := ⟨_, rfl⟩
  have e1 : IntKind.i64.wrap ((a : Int) + (b : Int)) = (c : Int) := by
    have h1 := ha.out; have h2 := hb.out; have h3 := hm.out
    rw [show (a : Int) + (b : Int) = (c : Int) from by omega]; simp only [IntKind.wrap_i64]; omega
  by_cases h : m ≤ c
  · have t : decide (m ≤ c) = true := decide_eq_true h
    have e2 : IntKind.i64.wrap ((c : Int) - (m : Int)) = (r : Int) := by
      have h1 := ha.out; have h2 := hb.out; have h3 := hm.out; have h4 := hr.out
      have h5 : (a + b) % m = c - m := by rw [hc, Nat.mod_eq_sub_mod h, Nat.mod_eq_of_lt (by omega)]
      rw [show (c : Int) - (m : Int) = (r : Int) from by omega]; simp only [IntKind.wrap_i64]; omega
    clear hc h
    go_enter Tryd.func57, Tryd.ntmps57
    go_wp2
    go_ret
    exact ⟨rfl, rfl⟩
  · have t : decide (m ≤ c) = false := decide_eq_false h
    have e2 : Hid (c = r) := by
      have h4 := hr.out
      rw [hc, Nat.mod_eq_of_lt (by omega)] at h4; exact h4
    clear hc h
    go_enter Tryd.func57, Tryd.ntmps57
    go_wp2
    go_ret
    exact ⟨by rw [← e2.out]; rfl, rfl⟩

theorem md_step1 {a b c m : Nat} (h : b % 2 = 1) : ((c + a) % m + (a + a) % m * (b / 2)) % m = (c + a * b) % m := by
  rw [Nat.add_mod, Nat.mod_mod, Nat.mul_mod, Nat.mod_mod, ← Nat.mul_mod, ← Nat.add_mod]
  congr 1
  have : b = 2 * (b / 2) + 1 := by omega
  conv => rhs; rw [this]
  rw [Nat.mul_add, Nat.mul_one, ← Nat.mul_assoc, Nat.mul_two]; omega
theorem md_step0 {a b c m : Nat} (h : b % 2 = 0) : (c + (a + a) % m * (b / 2)) % m = (c + a * b) % m := by
  rw [Nat.add_mod, Nat.mul_mod, Nat.mod_mod, ← Nat.mul_mod, ← Nat.add_mod]
  congr 1
  have : b = 2 * (b / 2) := by omega
  conv => rhs; rw [this]
  rw [← Nat.mul_assoc, Nat.mul_two]
/-- Modular's round: c + a * b stays what it was, modulo m -/
structure MdR (m t a b c : Nat) : Prop where
  ha : a < m
  hc : c < m
  hb : b < m
  ht : (c + a * b) % m = t
set_option maxHeartbeats 1000000 in
theorem modular_any (a b m r : Nat) (ha : Hid (a < m)) (hb : Hid (b < m)) (hm : Hid (m ≤ 4611686018427387904)) (hr : Hid (a * b % m = r)) (w : World) :
    Calls Tryd.prog 56 #[.int .i64 a, .int .i64 b, .int .i64 m] w fun e w' => e = .returned (.int .i64 r) ∧ w = w' := by
  have hS : Hid (MdR m r a b 0) := ⟨ha.out, Nat.lt_of_le_of_lt (Nat.zero_le _) ha.out, hb.out, by rw [Nat.zero_add]; exact hr.out⟩
  go_enter Tryd.func56, Tryd.ntmps56
  go_wp2_with fail
  go_loopw [0, 1, 7] (fun va vb vc wr => ∃ x y z : Nat, va = .int .i64 (x : Int) ∧ vb = .int .i64 (y : Int) ∧ vc = .int .i64 (z : Int) ∧ MdR m r x y z ∧ w = wr) (fun _ vb _ _ => (intOf vb).toNat)
  case atStart => exact ⟨a, b, 0, rfl, rfl, rfl, hS.out, rfl⟩
  case round =>
    obtain ⟨x, y, z, rfl, rfl, rfl, hR, rfl⟩ := hrel
    have HR := Lib.hid hR; clear hR
    by_cases hy : y = 0
    · subst hy
      go_wp2_with fail
      have hzr : z = r := by have h1 := HR.out.ht; rw [Nat.mul_zero, Nat.add_zero, Nat.mod_eq_of_lt HR.out.hc] at h1; exact h1
      go_wp2_with fail
      go_ret
      exact ⟨by rw [← hzr]; rfl, rfl⟩
    · have ty : decide (0 < y) = true := decide_eq_true (by omega)
      obtain ⟨y2, hy2⟩ : ∃ y2, y / 2 = y2 := ⟨_, rfl⟩
      have e2 : (y : Int).tdiv 2 = (y2 : Int) := by rw [← hy2]; rw [Int.ofNat_tdiv]; rfl
      have e4 : wrap64 (y2 : Int) = (y2 : Int) := by
        have h1 := HR.out.hb; have h2 := hm.out
        unfold wrap64; omega
      obtain ⟨yb, hyb⟩ : ∃ yb, y % 2 = yb := ⟨_, rfl⟩
      have e3 : (y : Int).tmod 2 = (yb : Int) := by rw [← hyb]; rw [Int.ofNat_tmod]; rfl
      have hlt : Hid ((intOf (.int .i64 (y2 : Int))).toNat < (intOf (.int .i64 (y : Int))).toNat) := by show _ < _; simp [intOf]; omega
      obtain ⟨x2, hx2⟩ : ∃ x2, (x + x) % m = x2 := ⟨_, rfl⟩
      obtain ⟨z2, hz2⟩ : ∃ z2, (z + x) % m = z2 := ⟨_, rfl⟩
      have hmp : 0 < m := by have := HR.out.ha; omega
      have Hx : Hid (x < m) := HR.out.ha
      have Hz : Hid (z < m) := HR.out.hc
      have Hx2 := Lib.hid hx2; have Hz2 := Lib.hid hz2
      by_cases hb1 : y % 2 = 1
      · have hN : Hid (MdR m r x2 y2 z2) := ⟨by rw [← hx2]; exact Nat.mod_lt _ hmp, by rw [← hz2]; exact Nat.mod_lt _ hmp, by have := HR.out.hb; omega, by rw [← hx2, ← hy2, ← hz2, md_step1 hb1]; exact HR.out.ht⟩
        obtain rfl : yb = 1 := by omega
        clear hy hy2 hyb hx2 hz2 hmp hb1
        go_wp2_with fail
        refine (refsum_any z x m z2 Hz Hx hm Hz2 _).mono ?_
        rintro e w1 ⟨rfl, rfl⟩
        go_wp2_with fail
        refine (refsum_any x x m x2 Hx Hx hm Hx2 _).mono ?_
        rintro e w1 ⟨rfl, rfl⟩
        go_wp2_with fail
        go_roundw
        case rel => exact ⟨x2, y2, z2, rfl, by rw [e4], rfl, hN.out, trivial⟩
        case measure => rw [e4]; exact hlt.out
      · have hN : Hid (MdR m r x2 y2 z) := ⟨by rw [← hx2]; exact Nat.mod_lt _ hmp, HR.out.hc, by have := HR.out.hb; omega, by rw [← hx2, ← hy2, md_step0 (by omega)]; exact HR.out.ht⟩
        obtain rfl : yb = 0 := by omega
        clear hy hy2 hyb hx2 hz2 hmp hb1
        go_wp2_with fail
        refine (refsum_any x x m x2 Hx Hx hm Hx2 _).mono ?_
        rintro e w1 ⟨rfl, rfl⟩
        go_wp2_with fail
        go_roundw
        case rel => exact ⟨x2, y2, z, rfl, by rw [e4], rfl, hN.out, trivial⟩
        case measure => rw [e4]; exact hlt.out
end Go.Proofs.YtmhmenmkgbebcaaDoor
