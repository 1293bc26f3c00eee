/- sign.Public, the reference's, Key; challenges; differences. -/
import Derived.Test.YtmhmenmkgbebcaaDoorShs
import Derived.Test.YtmhmenmkgbebcaaDoorRpo
import Derived.Test.YtmhmenmkgbebcaaDoorSla
namespace Go.Proofs.YtmhmenmkgbebcaaDoor
open Go.RowKit Go.Shelf
/-- a private key -/
def ZPr (x : Int) : Prop := 1 ≤ x ∧ x < (cQ : Int)
theorem zpr_not {x : Int} (h : ¬ ZPr x) : x < 1 ∨ (cQ : Int) ≤ x := by unfold ZPr at h; omega
theorem pr_nat {x : Int} (h : ZPr x) : ∃ n : Nat, x = (n : Int) ∧ 1 ≤ n ∧ n < cQ := ⟨x.toNat, by have := h.1; omega, by have := h.1; omega, by have := h.1; have := h.2; omega⟩
theorem valid_yes (x : Int) (h : Hid (ZPr x)) (w : World) : Calls Tryd.prog 31 #[.int .i64 x] w fun e w' => e = .returned (.bool true) ∧ w = w' := by
  have t1 : decide (1 ≤ x) = true := decide_eq_true h.out.1
  have t2 : decide (x < (2305843009213688669 : Int)) = true := decide_eq_true h.out.2
  go_enter Tryd.func31, Tryd.ntmps31
  go_wp2
  go_ret
  exact ⟨rfl, rfl⟩
theorem valid_no (x : Int) (h : Hid (¬ ZPr x)) (w : World) : Calls Tryd.prog 31 #[.int .i64 x] w fun e w' => e = .returned (.bool false) ∧ w = w' := by
  rcases zpr_not h.out with hx | hx
  · have t1 : decide (1 ≤ x) = false := decide_eq_false (by omega)
    clear hx
    go_enter Tryd.func31, Tryd.ntmps31
    go_wp2
    go_ret
    exact ⟨rfl, rfl⟩
  · have t1 : decide (1 ≤ x) = true := decide_eq_true (Int.le_trans (by decide : (1 : Int) ≤ (cQ : Int)) hx)
    have t2 : decide (x < (2305843009213688669 : Int)) = false := decide_eq_false (Int.not_lt.2 hx)
    clear hx
    go_enter Tryd.func31, Tryd.ntmps31
    go_wp2
    go_ret
    exact ⟨rfl, rfl⟩
theorem ispr_yes (x : Int) (h : Hid (ZPr x)) (w : World) : Calls Tryd.prog 33 #[.int .i64 x] w fun e w' => e = .returned (.bool true) ∧ w = w' := by
  have t1 : decide (1 ≤ x) = true := decide_eq_true h.out.1
  have t2 : decide (x < (2305843009213688669 : Int)) = true := decide_eq_true h.out.2
  go_enter Tryd.func33, Tryd.ntmps33
  go_wp2
  go_ret
  exact ⟨rfl, rfl⟩
theorem ispr_no (x : Int) (h : Hid (¬ ZPr x)) (w : World) : Calls Tryd.prog 33 #[.int .i64 x] w fun e w' => e = .returned (.bool false) ∧ w = w' := by
  rcases zpr_not h.out with hx | hx
  · have t1 : decide (1 ≤ x) = false := decide_eq_false (by omega)
    clear hx
    go_enter Tryd.func33, Tryd.ntmps33
    go_wp2
    go_ret
    exact ⟨rfl, rfl⟩
  · have t1 : decide (1 ≤ x) = true := decide_eq_true (Int.le_trans (by decide : (1 : Int) ≤ (cQ : Int)) hx)
    have t2 : decide (x < (2305843009213688669 : Int)) = false := decide_eq_false (Int.not_lt.2 hx)
    clear hx
    go_enter Tryd.func33, Tryd.ntmps33
    go_wp2
    go_ret
    exact ⟨rfl, rfl⟩
theorem keypub_any (n r : Nat) (hn : Hid (n < cQ)) (hr : Hid (pw 4 n = r)) (w : World) : Calls Tryd.prog 32 #[.int .i64 n] w fun e w' => e = .returned (.int .i64 r) ∧ Below w.heap.size w w' := by
  go_enter Tryd.func32, Tryd.ntmps32
  go_wp2_with fail
  refine (base_ok n r hn hr _).mono ?_
  rintro e w1 ⟨rfl, hb⟩
  go_wp2_with fail
  go_ret
  exact ⟨rfl, hb⟩
theorem public_ok (n r : Nat) (hn : Hid (ZPr (n : Int))) (hr : Hid (pw 4 n = r)) (w : World) : Calls Tryd.prog 13 #[.int .i64 n] w fun e w' => e = .returned (.tuple #[.int .i64 r, .int .i64 0]) ∧ Below w.heap.size w w' := by
  have hnl : Hid (n < cQ) := Int.ofNat_lt.1 hn.out.2
  go_enter Tryd.func13, Tryd.ntmps13
  go_wp2_with fail
  refine (valid_yes n hn _).mono ?_
  rintro e w1 ⟨rfl, rfl⟩
  go_wp2_with fail
  refine (keypub_any n r hnl hr _).mono ?_
  rintro e w1 ⟨rfl, hb⟩
  go_wp2_with fail
  go_ret2
  exact ⟨rfl, hb⟩
theorem public_bad (x : Int) (hx : Hid (¬ ZPr x)) (w : World) : Calls Tryd.prog 13 #[.int .i64 x] w fun e w' => e = .returned (.tuple #[.int .i64 0, .int .i64 40]) ∧ w = w' := by
  go_enter Tryd.func13, Tryd.ntmps13
  go_wp2_with fail
  refine (valid_no x hx _).mono ?_
  rintro e w1 ⟨rfl, rfl⟩
  go_wp2_with fail
  go_ret2
  exact ⟨rfl, rfl⟩
theorem rpublic_ok (n r : Nat) (hn : Hid (ZPr (n : Int))) (hr : Hid (pw 4 n = r)) (w : World) : Calls Tryd.prog 14 #[.int .i64 n] w fun e w' => e = .returned (.tuple #[.int .i64 r, .int .i64 0]) ∧ w = w' := by
  have hnl : Hid (n < cQ) := Int.ofNat_lt.1 hn.out.2
  go_enter Tryd.func14, Tryd.ntmps14
  go_wp2_with fail
  refine (ispr_yes n hn _).mono ?_
  rintro e w1 ⟨rfl, rfl⟩
  go_wp2_with fail
  refine (rbase_ok n r hnl hr _).mono ?_
  rintro e w1 ⟨rfl, rfl⟩
  go_wp2_with fail
  go_ret2
  exact ⟨rfl, rfl⟩
theorem rpublic_bad (x : Int) (hx : Hid (¬ ZPr x)) (w : World) : Calls Tryd.prog 14 #[.int .i64 x] w fun e w' => e = .returned (.tuple #[.int .i64 0, .int .i64 40]) ∧ w = w' := by
  go_enter Tryd.func14, Tryd.ntmps14
  go_wp2_with fail
  refine (ispr_no x hx _).mono ?_
  rintro e w1 ⟨rfl, rfl⟩
  go_wp2_with fail
  go_ret2
  exact ⟨rfl, rfl⟩
theorem scalar_yes (x : Int) (hx : Hid (ZSc x)) (w : World) : Calls Tryd.prog 42 #[.int .i64 x] w fun e w' => e = .returned (.int .i64 0) ∧ Below w.heap.size w w' := by
  obtain ⟨n, rfl⟩ : ∃ n : Nat, x = (n : Int) := ⟨x.toNat, by have := hx.out.1; omega⟩
  have hn : Hid (n < cQ) := Int.ofNat_lt.1 hx.out.2
  have hn0 : Hid ((n + 0) % cQ = n) := Nat.mod_eq_of_lt hn.out
  go_enter Tryd.func42, Tryd.ntmps42
  go_wp2_with fail
  refine (sum_any n 0 n hn (Lib.hid (by decide)) hn0 _).mono ?_
  rintro e w1 ⟨rfl, hb⟩
  go_wp2_with fail
  go_ret
  exact ⟨rfl, hb⟩
theorem scalar_no (x : Int) (hx : Hid (¬ ZSc x)) (w : World) : Calls Tryd.prog 42 #[.int .i64 x] w fun e w' => e = .returned (.int .i64 1) ∧ Below w.heap.size w w' := by
  go_enter Tryd.func42, Tryd.ntmps42
  go_wp2_with fail
  refine (gsum_any x 0 _).mono ?_
  rintro e w1 ⟨⟨r, k, rfl, hc⟩, hb⟩
  obtain ⟨rfl, rfl⟩ : r = 0 ∧ k = 1 := by
    rcases hc with ⟨h1, _⟩ | ⟨_, h1, h2⟩
    · exact absurd h1 hx.out
    · exact ⟨h1, h2⟩
  clear hc
  go_wp2_with fail
  go_ret
  exact ⟨rfl, hb⟩
theorem and_small4 (n : Int) : ∃ k : Nat, bits .and .i64 n 4611686018427387903 = (k : Int) ∧ k ≤ 4611686018427387903 := by
  refine ⟨(BitVec.ofInt 64 n &&& BitVec.ofInt 64 4611686018427387903).toNat, ?_, ?_⟩
  · show IntKind.i64.wrap ((BitVec.ofInt 64 n &&& BitVec.ofInt 64 4611686018427387903).toNat : Int) = _
    have h : (BitVec.ofInt 64 n &&& BitVec.ofInt 64 4611686018427387903).toNat ≤ 4611686018427387903 := by
      rw [BitVec.toNat_and]; exact Nat.and_le_right
    simp only [IntKind.wrap_i64]; omega
  · rw [BitVec.toNat_and]; exact Nat.and_le_right
theorem key_any (x : Int) : ∃ n : Nat, Hid (ZPr (n : Int)) ∧ ∀ w : World, Calls Tryd.prog 12 #[.int .i64 x] w fun e w' => e = .returned (.int .i64 n) ∧ w = w' := by
  obtain ⟨k, hk, hkl⟩ := and_small4 x
  obtain ⟨r, hr⟩ : ∃ r, k % 2305843009213688668 = r := ⟨_, rfl⟩
  have hrl : r < 2305843009213688668 := by rw [← hr]; exact Nat.mod_lt _ (by decide)
  have e1 : (k : Int).tmod 2305843009213688668 = (r : Int) := by rw [← hr]; rfl
  have e1' : (k : Int) % 2305843009213688668 = (r : Int) := by rw [← hr]; rfl
  have e2 : wrap64 (1 + (r : Int)) = ((1 + r : Nat) : Int) := by unfold wrap64; omega
  have hz : Hid (ZPr (((1 + r : Nat)) : Int)) := by
    show ZPr _
    unfold ZPr
    have : (cQ : Int) = 2305843009213688669 := rfl
    rw [this]; omega
  refine ⟨1 + r, hz, fun w => ?_⟩
  have bk : (k : Int) ≤ 4611686018427387903 := by omega
  have bk0 : (0 : Int) ≤ (k : Int) := by omega
  clear hr hrl hkl
  go_enter Tryd.func12, Tryd.ntmps12
  go_wp2_with fail
  go_ret
  exact ⟨by first | (show Ending.returned (.int .i64 (wrap64 (1 + (r : Int)))) = _; rw [e2]) | (show Ending.returned (.int .i64 (1 + (r : Int))) = _; congr 2), rfl⟩
end Go.Proofs.YtmhmenmkgbebcaaDoor
