/- The encoding as a Lean function; codec.unsigned and the reference's unsigned. -/
import Derived.Test.YtebedfcdbhgfdaaChk
import Derived.Test.YtebedfcdbhgfdaaApp
namespace Go.Proofs.Ytebedfcdbhgfdaa
open Go.RowKit

theorem OwnB.drew {e : TypeId} {w : World} {base : Nat} {v : Value} {l : List UInt8} (h : OwnB e w base v l) : OwnB e w.drew base v l := h
theorem grown_drew {w w1 : World} {G : Option Nat} (h : w.grownBy w1 G) : w.grownBy w1.drew G := ⟨h.os, h.tape, h.output, h.size, h.block⟩
theorem cell_grown {w w' : World} {row : Option Nat} (hg : w.grownBy w' row) {a : Addr} {v : Value} (h : w.cell? a = some v) (hne : some a.block ≠ row) : w'.cell? a = some v := hg.cell h hne
/-- the unsigned form of a number -/
def uns (n : Int) : Nat := if 0 ≤ n then (2 * n).toNat else (2 * (-(n + 1)) + 1).toNat
theorem uns_lt (n : Int) (h : I64 n) : uns n < 18446744073709551616 := by unfold I64 at h; unfold uns; split <;> omega
/-- the bytes of a text -/
def sbytes (s : ByteArray) : List UInt8 := s.toList
mutual
/-- the encoding of a value -/
def enc : V → List UInt8
  | .mk k n s l => if k = 1 then 1 :: num (uns n) else if k = 2 then 2 :: (num s.size ++ s.data.toList) else 3 :: (num l.length ++ encs l)
def encs : List V → List UInt8
  | [] => []
  | x :: r => enc x ++ encs r
end
theorem enc_1 (n : Int) (s : ByteArray) (l : List V) : enc (.mk 1 n s l) = [1] ++ num (uns n) := by simp [enc]
theorem enc_2 (n : Int) (s : ByteArray) (l : List V) : enc (.mk 2 n s l) = [2] ++ num s.size ++ s.data.toList := by simp [enc]
theorem enc_3 (n : Int) (s : ByteArray) (l : List V) : enc (.mk 3 n s l) = [3] ++ num l.length ++ encs l := by simp [enc]
mutual
theorem enc_sz : ∀ x : V, (enc x).length ≤ sz x
  | .mk k n s l => by
    have h1 := numF_len 9 (uns n); have h2 := numF_len 9 s.size; have h3 := numF_len 9 l.length; have h4 := encs_sz l
    have h5 : s.data.toList.length = s.size := by simp
    simp only [enc, sz]
    split
    · simp only [List.length_cons, num]; omega
    · split
      · simp only [List.length_cons, List.length_append, num, h5]; omega
      · simp only [List.length_cons, List.length_append, num]; omega
theorem encs_sz : ∀ l : List V, (encs l).length ≤ szs l
  | [] => by simp [encs]
  | x :: r => by have := enc_sz x; have := encs_sz r; simp only [encs, szs, List.length_append]; omega
end
theorem encs_take {l : List V} {i : Nat} {x : V} (h : l[i]? = some x) : encs (l.take (i + 1)) = encs (l.take i) ++ enc x := by
  induction l generalizing i with
  | nil => simp at h
  | cons y r ih => cases i with
    | zero => simp at h; subst h; simp [encs]
    | succ i => simp only [List.take_succ_cons, encs]; rw [ih (by simpa using h), List.append_assoc]

theorem uns_pos (n : Int) (h0 : 0 ≤ n) (hn : I64 n) : bits BinOp.xor IntKind.u64 (IntKind.u64.wrap (IntKind.u64.wrap n * 2)) (IntKind.u64.wrap (n / 9223372036854775808)) = (uns n : Int) := by
  unfold I64 at hn
  obtain ⟨m, rfl⟩ := Int.eq_ofNat_of_zero_le h0
  rw [IntKind.wrap_u64, IntKind.wrap_u64, IntKind.wrap_u64]
  rw [show (m : Int) % 18446744073709551616 * 2 % 18446744073709551616 = ((2 * m : Nat) : Int) from by omega, show (m : Int) / 9223372036854775808 % 18446744073709551616 = ((0 : Nat) : Int) from by omega,
    bits_xor_u64_nat _ _ (by omega) (by omega), Nat.xor_zero]
  unfold uns; rw [if_pos h0]; omega
theorem xor_ones (a : Nat) (h : a < 18446744073709551616) : a ^^^ 18446744073709551615 = 18446744073709551615 - a := by
  have h1 : (BitVec.ofNat 64 a ^^^ BitVec.allOnes 64).toNat = (~~~ BitVec.ofNat 64 a).toNat := by rw [BitVec.xor_allOnes]
  rw [BitVec.toNat_xor, BitVec.toNat_not, BitVec.toNat_allOnes, BitVec.toNat_ofNat, Nat.mod_eq_of_lt (by simpa using h)] at h1
  simpa using h1
theorem uns_neg (n : Int) (h0 : n < 0) (hn : I64 n) : bits BinOp.xor IntKind.u64 (IntKind.u64.wrap (IntKind.u64.wrap n * 2)) (IntKind.u64.wrap (n / 9223372036854775808)) = (uns n : Int) := by
  unfold I64 at hn
  rw [IntKind.wrap_u64, IntKind.wrap_u64, IntKind.wrap_u64]
  obtain ⟨m, rfl⟩ : ∃ m : Nat, n = -(m : Int) - 1 := ⟨(-n - 1).toNat, by omega⟩
  rw [show (-(m : Int) - 1) % 18446744073709551616 * 2 % 18446744073709551616 = ((18446744073709551614 - 2 * m : Nat) : Int) from by omega, show (-(m : Int) - 1) / 9223372036854775808 % 18446744073709551616 = ((18446744073709551615 : Nat) : Int) from by omega,
    bits_xor_u64_nat _ _ (by omega) (by omega), xor_ones _ (by omega)]
  unfold uns; rw [if_neg (by omega)]; omega

set_option maxHeartbeats 1000000 in
theorem unsigned_any (n : Int) (hn : Hid (I64 n)) (w : World) : Calls Try.prog 39 #[.int .i64 n] w fun e w' => e = .returned (.int .u64 (uns n)) ∧ w = w' := by
  go_enter Try.func39, Try.ntmps39
  go_wp2
  go_ret
  refine ⟨?_, rfl⟩
  rcases Int.lt_or_le n 0 with h | h
  · exact congrArg (fun z => Ending.returned (.int .u64 z)) (uns_neg n h hn.out)
  · exact congrArg (fun z => Ending.returned (.int .u64 z)) (uns_pos n h hn.out)

set_option maxHeartbeats 1000000 in
theorem runsigned_any (n : Int) (hn : Hid (I64 n)) (w : World) : Calls Try.prog 43 #[.int .i64 n] w fun e w' => e = .returned (.int .u64 (uns n)) ∧ w = w' := by
  go_enter Try.func43, Try.ntmps43
  go_wp2
  all_goals go_ret
  all_goals refine ⟨?_, rfl⟩
  all_goals
    have h := hn.out; unfold I64 at h
    refine congrArg (fun z => Ending.returned (.int .u64 z)) ?_
  · have h0 : 0 ≤ n := by assumption
    simp only [IntKind.wrap_u64, uns, if_pos h0]; omega
  · have h0 : n < 0 := by assumption
    simp only [IntKind.wrap_u64, uns, if_neg (show ¬ 0 ≤ n by omega), wrap64]; omega
end Go.Proofs.Ytebedfcdbhgfdaa
