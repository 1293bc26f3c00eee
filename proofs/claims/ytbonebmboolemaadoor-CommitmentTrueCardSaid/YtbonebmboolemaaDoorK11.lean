/- Merged: Enc Rui Rnum. -/
import Derived.Test.YtbonebmboolemaaDoorK04
import Derived.Test.YtbonebmboolemaaDoorK09
/- The encoding as a Lean function; codec.unsigned and the reference's unsigned. -/
namespace Go.Proofs.YtbonebmboolemaaDoor
open Go.RowKit

theorem OwnB.drew {e : TypeId} {w : World} {base : Nat} {v : Value} {l : List UInt8} (h : OwnB e w base v l) : OwnB e w.drew base v l := h
theorem grown_drew {w w1 : World} {G : Option Nat} (h : w.grownBy w1 G) : w.grownBy w1.drew G := ⟨h.os, h.tape, h.output, h.size, h.block⟩
theorem cell_grown {w w' : World} {row : Option Nat} (hg : w.grownBy w' row) {a : Addr} {v : Value} (h : w.cell? a = some v) (hne : some a.block ≠ row) : w'.cell? a = some v := hg.cell h hne
/-- the unsigned form of a number -/
def uns (n : Int) : Nat := if 0 ≤ n then (2 * n).toNat else (2 * (-(n + 1)) + 1).toNat
theorem uns_lt (n : Int) (h : I64 n) : uns n < 18446744073709551616 := by unfold I64 at h; unfold uns; split <;> omega
/-- the bytes of a text -/
def sbytes (s : ByteArray) : List UInt8 := s.toList
mutual
/-- the encoding of a value -/
def enc : V → List UInt8
  | .mk k n s l => if k = 1 then 1 :: num (uns n) else if k = 2 then 2 :: (num s.size ++ s.data.toList) else 3 :: (num l.length ++ encs l)
def encs : List V → List UInt8
  | [] => []
  | x :: r => enc x ++ encs r
end
theorem enc_1 (n : Int) (s : ByteArray) (l : List V) : enc (.mk 1 n s l) = [1] ++ num (uns n) := by simp [enc]
theorem enc_2 (n : Int) (s : ByteArray) (l : List V) : enc (.mk 2 n s l) = [2] ++ num s.size ++ s.data.toList := by simp [enc]
theorem enc_3 (n : Int) (s : ByteArray) (l : List V) : enc (.mk 3 n s l) = [3] ++ num l.length ++ encs l := by simp [enc]
mutual
theorem enc_sz : ∀ x : V, (enc x).length ≤ sz x
  | .mk k n s l => by
    have h1 := numF_len 9 (uns n); have h2 := numF_len 9 s.size; have h3 := numF_len 9 l.length; have h4 := encs_sz l
    have h5 : s.data.toList.length = s.size := by simp
    simp only [enc, sz]
    split
    · simp only [List.length_cons, num]; omega
    · split
      · simp only [List.length_cons, List.length_append, num, h5]; omega
      · simp only [List.length_cons, List.length_append, num]; omega
theorem encs_sz : ∀ l : List V, (encs l).length ≤ szs l
  | [] => by simp [encs]
  | x :: r => by have := enc_sz x; have := encs_sz r; simp only [encs, szs, List.length_append]; omega
end
theorem encs_take {l : List V} {i : Nat} {x : V} (h : l[i]? = some x) : encs (l.take (i + 1)) = encs (l.take i) ++ enc x := by
  induction l generalizing i with
  | nil => simp at h
  | cons y r ih => cases i with
    | zero => simp at h; subst h; simp [encs]
    | succ i => simp only [List.take_succ_cons, encs]; rw [ih (by simpa using h), List.append_assoc]

theorem uns_pos (n : Int) (h0 : 0 ≤ n) (hn : I64 n) : bits BinOp.xor IntKind.u64 (IntKind.u64.wrap (IntKind.u64.wrap n * 2)) (IntKind.u64.wrap (n / 9223372036854775808)) = (uns n : Int) := by
  unfold I64 at hn
  obtain ⟨m, rfl⟩ := Int.eq_ofNat_of_zero_le h0
  rw [IntKind.wrap_u64, IntKind.wrap_u64, IntKind.wrap_u64]
  rw [show (m : Int) % 18446744073709551616 * 2 % 18446744073709551616 = ((2 * m : Nat) : Int) from by omega, show (m : Int) / 9223372036854775808 % 18446744073709551616 = ((0 : Nat) : Int) from by omega,
    bits_xor_u64_nat _ _ (by omega) (by omega), Nat.xor_zero]
  unfold uns; rw [if_pos h0]; omega
theorem xor_ones (a : Nat) (h : a < 18446744073709551616) : a ^^^ 18446744073709551615 = 18446744073709551615 - a := by
  have h1 : (BitVec.ofNat 64 a ^^^ BitVec.allOnes 64).toNat = (~~~ BitVec.ofNat 64 a).toNat := by rw [BitVec.xor_allOnes]
  rw [BitVec.toNat_xor, BitVec.toNat_not, BitVec.toNat_allOnes, BitVec.toNat_ofNat, Nat.mod_eq_of_lt (by simpa using h)] at h1
  simpa using h1
theorem uns_neg (n : Int) (h0 : n < 0) (hn : I64 n) : bits BinOp.xor IntKind.u64 (IntKind.u64.wrap (IntKind.u64.wrap n * 2)) (IntKind.u64.wrap (n / 9223372036854775808)) = (uns n : Int) := by
  unfold I64 at hn
  rw [IntKind.wrap_u64, IntKind.wrap_u64, IntKind.wrap_u64]
  obtain ⟨m, rfl⟩ : ∃ m : Nat, n = -(m : Int) - 1 := ⟨(-n - 1).toNat, by omega⟩
  rw [show (-(m : Int) - 1) % 18446744073709551616 * 2 % 18446744073709551616 = ((18446744073709551614 - 2 * m : Nat) : Int) from by omega, show (-(m : Int) - 1) / 9223372036854775808 % 18446744073709551616 = ((18446744073709551615 : Nat) : Int) from by omega,
    bits_xor_u64_nat _ _ (by omega) (by omega), xor_ones _ (by omega)]
  unfold uns; rw [if_neg (by omega)]; omega

set_option maxHeartbeats 1000000 in
theorem unsigned_any (n : Int) (hn : Hid (I64 n)) (w : World) : Calls Tryd.prog 81 #[.int .i64 n] w fun e w' => e = .returned (.int .u64 (uns n)) ∧ w = w' := by
  go_enter Tryd.func81, Tryd.ntmps81
  go_wp2
  go_ret
  refine ⟨?_, rfl⟩
  rcases Int.lt_or_le n 0 with h | h
  · exact congrArg (fun z => Ending.returned (.int .u64 z)) (uns_neg n h hn.out)
  · exact congrArg (fun z => Ending.returned (.int .u64 z)) (uns_pos n h hn.out)

end Go.Proofs.YtbonebmboolemaaDoor
/- the reference's small functions of the codec: Int, unsigned. -/
namespace Go.Proofs.YtbonebmboolemaaDoor
open Go.RowKit
set_option maxHeartbeats 1000000 in
theorem rInt_any (n : Int) (w : World) : Calls Tryd.prog 90 #[.int .i64 n] w fun e w' => e = .returned (.agg #[.int .i64 1, .int .i64 n, .string ⟨#[]⟩, .slice none 0 0]) ∧ Below w.heap.size w w' := by
  go_enter Tryd.func90, Tryd.ntmps90
  go_wp2
  refine bodyPost_ret (v := .agg #[.int .i64 1, .int .i64 n, .string ⟨#[]⟩, .slice none 0 0]) (by simp [results, Tryd.results90, go_sem]) rfl ⟨rfl, by repeat (first | exact Below.refl _ _ | refine Below.alloc ?_ (by simp) _)⟩
set_option maxHeartbeats 1000000 in
theorem runsigned_any (n : Int) (hn : Hid (I64 n)) (w : World) : Calls Tryd.prog 97 #[.int .i64 n] w fun e w' => e = .returned (.int .u64 (uns n)) ∧ w = w' := by
  go_enter Tryd.func97, Tryd.ntmps97
  go_wp2
  all_goals go_ret
  all_goals refine ⟨?_, rfl⟩
  all_goals
    have h := hn.out; unfold I64 at h
    refine congrArg (fun z => Ending.returned (.int .u64 z)) ?_
  · have h0 : 0 ≤ n := by assumption
    simp only [IntKind.wrap_u64, uns, if_pos h0]; omega
  · have h0 : n < 0 := by assumption
    simp only [IntKind.wrap_u64, uns, if_neg (show ¬ 0 ≤ n by omega), wrap64]; omega
end Go.Proofs.YtbonebmboolemaaDoor
/- the reference's numeral. -/
namespace Go.Proofs.YtbonebmboolemaaDoor
open Go.RowKit

/-- bytes that the call has made, in new blocks -/
def MadePost (l : List UInt8) (w : World) (e : Ending) (w' : World) : Prop := ∃ v, e = .returned v ∧ OwnB 5 w' w.heap.size v l ∧ Below w.heap.size w w'

theorem OwnB.lit1 {e : TypeId} (w : World) (base : Nat) (x : Int) (c : UInt8) (hx : x = (c.toNat : Int)) (hb : base ≤ w.heap.size) : OwnB e (w.alloc (.cells #[.int .u8 x] e)) base (.slice (some ⟨w.heap.size, 0, none⟩) 1 1) [c] := by
  subst hx
  exact World.ownsRow_lit (w := w) (base := base) (e := e) (size := 1) #[.int .u8 (c.toNat : Int)] 1 hb (by unfold maxLen; omega) rfl
theorem OwnB.lit1' {e : TypeId} (w : World) (base B : Nat) (x : Int) (c : UInt8) (hx : x = (c.toNat : Int)) (hB : w.heap.size = B) (hb : base ≤ B) : OwnB e (w.alloc (.cells #[.int .u8 x] e)) base (.slice (some ⟨B, 0, none⟩) 1 1) [c] := by
  subst hB; exact OwnB.lit1 w base x c hx hb
theorem OwnB.mono {e : TypeId} {w : World} {base base' : Nat} {v : Value} {l : List UInt8} (h : OwnB e w base v l) (hb : base' ≤ base) : OwnB e w base' v l := by
  refine ⟨h.1, ?_⟩
  rcases h.2 with h | ⟨g, cap, cur, h1, h2, h3⟩
  · exact .inl h
  · exact .inr ⟨g, cap, cur, h1, Nat.le_trans hb h2, h3⟩
theorem OwnB.below {e : TypeId} {w w' : World} {base : Nat} {v : Value} {l : List UInt8} (h : OwnB e w base v l) (hb : Below w.heap.size w w') : OwnB e w' base v l := by
  refine h.kept (row := none) ⟨hb.os, hb.tape, hb.output, hb.size, fun k hk _ => hb.block k hk⟩ ?_
  cases v.ownBlock <;> simp

set_option maxRecDepth 100000 in
set_option maxHeartbeats 1000000 in
theorem rnumeral_any (f : Nat) : ∀ (u : Nat) (ui : Int) (_ : ui = (u : Int)) (_ : Hid (u < 128 ^ (f + 1))) (_ : f ≤ 9) (w : World), Calls Tryd.prog 96 #[.int .u64 ui] w (MadePost (numF f u) w) := by
  induction f with
  | zero =>
    intro u ui hui hu _ w
    subst hui
    have h : u < 128 := by have := hu.out; simpa using this
    have hn := Lib.hid (numF_end 0 u h)
    go_enter Tryd.func96, Tryd.ntmps96
    go_wp2
    go_ret
    refine ⟨_, rfl, ?_, (Below.refl _ _).alloc (Nat.le_refl _) _⟩
    rw [hn.out]
    exact OwnB.lit1 w _ _ _ (by rw [lo_cast]; omega) (Nat.le_refl _)
  | succ f ih =>
    have IH := Lib.hid ih; clear ih
    intro u ui hui hu hf w
    subst hui
    by_cases h : u < 128
    · have hn := Lib.hid (numF_end (f + 1) u h)
      go_enter Tryd.func96, Tryd.ntmps96
      go_wp2
      go_ret
      refine ⟨_, rfl, ?_, (Below.refl _ _).alloc (Nat.le_refl _) _⟩
      rw [hn.out]
      exact OwnB.lit1 w _ _ _ (by rw [lo_cast]; omega) (Nat.le_refl _)
    · have hn := Lib.hid (numF_more f u h)
      have hp : Hid (u / 128 < 128 ^ (f + 1)) := by
        have := hu.out; rw [Nat.pow_succ] at this; exact Nat.div_lt_of_lt_mul (by omega)
      have hb : Hid (u / 128 < 18446744073709551616) := by
        have h1 := hp.out
        have h2 : (128 : Nat) ^ (f + 1) ≤ 128 ^ 9 := Nat.pow_le_pow_right (by decide) (by omega)
        have h3 : (128 : Nat) ^ 9 = 9223372036854775808 := by decide
        show _ < _; omega
      go_enter Tryd.func96, Tryd.ntmps96
      go_wp2_with (first
        | (go_at_call 96; refine (IH.out (u / 128) _ ?hui hp (by omega) _).mono ?_
           case hui => have := hb.out; rw [IntKind.wrap_u64]; omega
           rintro e w1 ⟨v1, rfl, ho1, hb1⟩)
        | (at_builtin; refine wpList_append_B (e := 5) Tryd.underlying50 (by kernel_rfl) rfl _ _ rfl w.heap.size _ [hiDig u] rfl ?own _ (numF f (u / 128)) rfl ?c1 ?c2 ?c3 ?_))
      case own => exact (OwnB.lit1 w _ _ _ (by rw [hi_cast]; omega) (Nat.le_refl _)).below hb1
      case c1 => exact SrcB.ofRd Tryd.underlying50 ho1.rd
      case c2 => have := numF_len f (u / 128); simp; omega
      case c3 => have := hb1.size; simp at this; omega
      intro v2 w2 ho2 hg2 hn2
      go_wp2
      go_ret
      refine ⟨_, rfl, ?_, ?_⟩
      · rw [hn.out]; exact ho2
      · exact (below_after hb1).grown hg2 (by have := hb1.size; simp at this; omega) (fun k hk => by simp [Value.ownBlock] at hk; omega)
end Go.Proofs.YtbonebmboolemaaDoor
