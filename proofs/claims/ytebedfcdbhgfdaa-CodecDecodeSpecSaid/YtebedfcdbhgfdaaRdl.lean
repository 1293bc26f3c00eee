/- codec.reader: length; codec.signed. -/
import Derived.Test.YtebedfcdbhgfdaaRdn
import Derived.Laws.DeepNot64
namespace Go.Proofs.Ytebedfcdbhgfdaa
open Go.RowKit

/-- a length that is read: no more than there are bytes left -/
def rdLen (l : List UInt8) : Option (Nat × List UInt8) :=
  match rdNum 0 0 l with
  | some (n, r) => if n ≤ r.length then some (n, r) else none
  | none => none
theorem rdNum_len : ∀ (l : List UInt8) (k x n : Nat) (r : List UInt8), rdNum k x l = some (n, r) → r.length < l.length
  | [], _, _, _, _, h => by simp [rdNum] at h
  | c :: t, k, x, n, r, h => by
    rw [rdNum] at h
    split at h
    · split at h
      · simp at h; obtain ⟨_, rfl⟩ := h; simp
      · have := rdNum_len t _ _ n r h; simp; omega
    · cases h
theorem rdNum_lt : ∀ (l : List UInt8) (k x n : Nat) (r : List UInt8), k ≤ 9 → x < 2 ^ (7 * k) → rdNum k x l = some (n, r) → n < 18446744073709551616
  | [], _, _, _, _, _, _, h => by simp [rdNum] at h
  | c :: t, k, x, n, r, hk, hx, h => by
    rw [rdNum] at h
    split at h
    · rename_i hg
      split at h
      · simp at h; obtain ⟨rfl, _⟩ := h
        by_cases h9 : k = 9
        · subst h9; have := hg.2; have h1 : c.toNat ≤ 1 := by omega
          have h2 : c.toNat * 2 ^ (7 * 9) ≤ 1 * 2 ^ (7 * 9) := Nat.mul_le_mul_right _ h1
          simp at hx h2 ⊢; omega
        · have h2 : (2 : Nat) ^ (7 * k) ≤ 2 ^ 56 := Nat.pow_le_pow_right (by decide) (by omega)
          have h3 : c.toNat * 2 ^ (7 * k) ≤ 255 * 2 ^ 56 := Nat.mul_le_mul (by have := c.toNat_lt; omega) h2
          omega
      · rename_i hc
        have := c.toNat_lt
        have h1 : (c.toNat - 128) * 2 ^ (7 * k) ≤ 127 * 2 ^ (7 * k) := Nat.mul_le_mul_right _ (by omega)
        have h2 : (2 : Nat) ^ (7 * (k + 1)) = 128 * 2 ^ (7 * k) := by rw [show 7 * (k + 1) = 7 + 7 * k from by omega, Nat.pow_add]
        exact rdNum_lt t (k + 1) _ n r (by have := hg.2; omega) (by omega) h
    · cases h

set_option maxRecDepth 100000 in
set_option maxHeartbeats 1000000 in
theorem length_any (B R : Nat) (l : List UInt8) (hl : l.length ≤ 1000000) (w : World) (hr : RdrAt B w R l) :
    Calls Try.prog 47 #[.pointer (some ⟨R, 0, none⟩)] w (ReadPost B R ((rdLen l).map fun p => (.int .i64 (p.1 : Int), p.2)) w) := by
  cases hN : rdNum 0 0 l with
  | none =>
    have hn : Hid (rdLen l = none) := by show _ = _; unfold rdLen; rw [hN]
    have HN := Lib.hid hN; clear hN
    go_enter Try.func47, Try.ntmps47
    go_wp2_with fail
    refine (number_any B R l hl w hr).mono ?_
    rw [HN.out]
    rintro e w1 ⟨rfl, hg⟩
    exact ⟨rfl, by rw [hn.out]; exact And.intro rfl hg⟩
  | some p =>
    obtain ⟨n, r⟩ := p
    have hn64 := Lib.hid (rdNum_lt l 0 0 n r (by decide) (by simp) hN)
    have hlen := rdNum_len l 0 0 n r hN
    have HN := Lib.hid hN; clear hN
    have hwr : IntKind.u64.wrap (r.length : Int) = (r.length : Int) := by rw [IntKind.wrap_u64]; omega
    by_cases hnr : n ≤ r.length
    · have hn : Hid (rdLen l = some (n, r)) := by show _ = _; unfold rdLen; rw [HN.out]; simp [hnr]
      go_enter Try.func47, Try.ntmps47
      go_wp2_with fail
      refine (number_any B R l hl w hr).mono ?_
      rw [HN.out]
      rintro e w1 ⟨rfl, hrd, hg⟩
      obtain ⟨hle, hfr, v, hv, hb⟩ := id hrd
      obtain ⟨oa, cap, rfl, hlc, hcm⟩ := hb.form
      clear hb hlc hcm
      go_wp2_with (go_at_call 33; refine (want_true _ _).mono ?_; rintro e w' ⟨rfl, rfl⟩)
      go_ret
      rw [hn.out]
      exact And.intro rfl (And.intro hrd hg)
    · have hn : Hid (rdLen l = none) := by show _ = _; unfold rdLen; rw [HN.out]; simp [hnr]
      have hd : decide (n ≤ r.length) = false := by simpa using hnr
      go_enter Try.func47, Try.ntmps47
      go_wp2_with fail
      refine (number_any B R l hl w hr).mono ?_
      rw [HN.out]
      rintro e w1 ⟨rfl, hrd, hg⟩
      obtain ⟨hle, hfr, v, hv, hb⟩ := id hrd
      obtain ⟨oa, cap, rfl, hlc, hcm⟩ := hb.form
      clear hb hlc hcm
      go_wp2_with (go_at_call 33; refine (want_false _ _).mono ?_; rintro e w' ⟨rfl, rfl⟩)
      exact ⟨rfl, by rw [hn.out]; exact And.intro rfl hg⟩

/-- the integer with an unsigned form -/
def sgn (u : Nat) : Int := if u % 2 = 0 then ((u / 2 : Nat) : Int) else -((u / 2 : Nat) : Int) - 1
theorem xor_comm_i64 (x y : Int) : bits BinOp.xor IntKind.i64 x y = bits BinOp.xor IntKind.i64 y x := by
  show IntKind.i64.wrap _ = IntKind.i64.wrap _
  simp only [BitVec.xor_comm]
theorem xor_zero_i64 (a : Nat) (ha : a < 9223372036854775808) : bits BinOp.xor IntKind.i64 (a : Int) 0 = (a : Int) := by
  show IntKind.i64.wrap ((BitVec.ofInt 64 (a : Int) ^^^ BitVec.ofInt 64 0).toNat : Int) = _
  have h1 : (BitVec.ofInt 64 (a : Int)).toNat = a := by
    rw [BitVec.ofInt_natCast, BitVec.toNat_ofNat]; exact Nat.mod_eq_of_lt (by omega)
  have h2 : BitVec.ofInt 64 0 = 0#64 := by decide
  rw [h2, BitVec.xor_zero, h1, IntKind.wrap_i64]; omega
theorem sgn_eq (u : Nat) (hu : u < 18446744073709551616) : bits BinOp.xor IntKind.i64 (wrap64 ((u : Int) / 2)) (wrap64 (-wrap64 (bits BinOp.and IntKind.u64 (u : Int) 1))) = sgn u := by
  have h1 : bits BinOp.and IntKind.u64 (u : Int) 1 = ((u % 2 : Nat) : Int) := by
    have := bits_and_u64_nat u 1 hu (by omega)
    rw [show ((1 : Nat) : Int) = 1 from rfl] at this
    rw [this, Nat.and_one_is_mod]
  have h2 : wrap64 ((u : Int) / 2) = ((u / 2 : Nat) : Int) := by unfold wrap64; omega
  rw [h1, h2]
  unfold sgn
  rcases Nat.mod_two_eq_zero_or_one u with h | h
  · rw [h, if_pos rfl]
    rw [show wrap64 (-wrap64 ((0 : Nat) : Int)) = 0 from by unfold wrap64; omega]
    exact xor_zero_i64 _ (by omega)
  · rw [h, if_neg (by omega)]
    rw [show wrap64 (-wrap64 ((1 : Nat) : Int)) = -1 from by unfold wrap64; omega, xor_comm_i64, i64_not _ (by omega)]
    omega
set_option maxHeartbeats 1000000 in
theorem signed_any (u : Nat) (hu : Hid (u < 18446744073709551616)) (w : World) : Calls Try.prog 45 #[.int .u64 u] w fun e w' => e = .returned (.int .i64 (sgn u)) ∧ w = w' := by
  go_enter Try.func45, Try.ntmps45
  go_wp2
  go_ret
  refine ⟨congrArg (fun z => Ending.returned (.int .i64 z)) (sgn_eq u hu.out), rfl⟩
end Go.Proofs.Ytebedfcdbhgfdaa
