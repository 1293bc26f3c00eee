/- words of 32 bits: the model's arithmetic on them; RotateLeft32, rotated. -/
import Derived.Test.YtmhmenmkgbebcaaDoorBas
namespace Go.Proofs.YtmhmenmkgbebcaaDoor
open Go.RowKit

abbrev W32 := BitVec 32
/-- a word as the model's integer -/
def iw (x : W32) : Int := (x.toNat : Int)
theorem iw_lt (x : W32) : 0 ≤ iw x ∧ iw x < 4294967296 := ⟨by unfold iw; omega, by have := x.isLt; unfold iw; omega⟩
theorem wrap_iw (x : W32) : IntKind.u32.wrap (iw x) = iw x := by have := iw_lt x; rw [IntKind.wrap_u32]; omega
theorem ofInt_iw (x : W32) : BitVec.ofInt 32 (iw x) = x := by unfold iw; simp
theorem bxor (x y : W32) : bits BinOp.xor .u32 (iw x) (iw y) = iw (x ^^^ y) := by
  have h : bits BinOp.xor .u32 (iw x) (iw y) = IntKind.u32.wrap (iw (BitVec.ofInt 32 (iw x) ^^^ BitVec.ofInt 32 (iw y))) := rfl
  rw [h, wrap_iw, ofInt_iw, ofInt_iw]
theorem band (x y : W32) : bits BinOp.and .u32 (iw x) (iw y) = iw (x &&& y) := by
  have h : bits BinOp.and .u32 (iw x) (iw y) = IntKind.u32.wrap (iw (BitVec.ofInt 32 (iw x) &&& BitVec.ofInt 32 (iw y))) := rfl
  rw [h, wrap_iw, ofInt_iw, ofInt_iw]
theorem bor (x y : W32) : bits BinOp.or .u32 (iw x) (iw y) = iw (x ||| y) := by
  have h : bits BinOp.or .u32 (iw x) (iw y) = IntKind.u32.wrap (iw (BitVec.ofInt 32 (iw x) ||| BitVec.ofInt 32 (iw y))) := rfl
  rw [h, wrap_iw, ofInt_iw, ofInt_iw]
theorem badd (x y : W32) : (iw x + iw y) % 4294967296 = iw (x + y) := by unfold iw; rw [BitVec.toNat_add]; omega
theorem bshr (x : W32) (n : Nat) : iw x / 2 ^ n = iw (x >>> n) := by
  unfold iw; rw [BitVec.toNat_ushiftRight, Nat.shiftRight_eq_div_pow, Int.natCast_ediv, Int.natCast_pow]; rfl
theorem bshl (x : W32) (n : Nat) : iw x * 2 ^ n % 4294967296 = iw (x <<< n) := by
  unfold iw; rw [BitVec.toNat_shiftLeft, Nat.shiftLeft_eq, Int.natCast_emod, Int.natCast_mul, Int.natCast_pow]; rfl
theorem brot (x : W32) (r : Nat) (h2 : r ≤ 31) : x <<< (32 - r) ||| x >>> r = x.rotateRight r := by
  rw [BitVec.rotateRight_def, Nat.mod_eq_of_lt (by omega), BitVec.or_comm]
theorem and31 : ∀ r : Fin 32, r ≠ 0 → bits BinOp.and IntKind.u64 (IntKind.u64.wrap (-((r.val : Nat) : Int))) 31 = ((32 - r.val : Nat) : Int) := by decide +kernel
def ror (x : W32) (r : Nat) : W32 := x.rotateRight r

set_option maxHeartbeats 400000 in
theorem rot_any (x : W32) (r : Nat) (n : Int) (hn : n = -(r : Int)) (h1 : 1 ≤ r) (h2 : r ≤ 31) (w : World) : Calls Tryd.prog 73 #[.int .u32 (iw x), .int .i64 n] w fun e w' => e = .returned (.int .u32 (iw (ror x r))) ∧ w = w' := by
  obtain ⟨s, hs⟩ : ∃ s, 32 - r = s := ⟨_, rfl⟩
  have e1 : bits BinOp.and IntKind.u64 (IntKind.u64.wrap n) 31 = (s : Int) := by rw [hn, ← hs]; exact and31 ⟨r, by omega⟩ (by intro h; have h2 := congrArg Fin.val h; have h3 : r = 0 := h2; omega)
  have b1 : (1 : Int) ≤ (s : Int) := by omega
  have b2 : (s : Int) ≤ 31 := by omega
  have bx := iw_lt x
  obtain ⟨bx1, bx2⟩ := bx
  have hr := Lib.hid (brot x r h2)
  have hrs := Lib.hid (show 32 - s = r by omega)
  have Hs := Lib.hid hs
  clear hs hn h1 h2
  go_enter Tryd.func73, Tryd.ntmps73
  go_wp2
  rw [hrs.out, bshl, bshr, bor, ← Hs.out, hr.out]
  go_ret
  exact ⟨rfl, rfl⟩

def rot3 (x : W32) (a b c : Nat) : W32 := ror x a ^^^ ror x b ^^^ ror x c
set_option maxHeartbeats 400000 in
theorem rotated_any (x : W32) (a b c : Nat) (ai bi ci : Int) (ha : ai = (a : Int)) (hb : bi = (b : Int)) (hc : ci = (c : Int)) (ha1 : 1 ≤ a) (ha2 : a ≤ 31) (hb1 : 1 ≤ b) (hb2 : b ≤ 31) (hc1 : 1 ≤ c) (hc2 : c ≤ 31) (w : World) :
    Calls Tryd.prog 74 #[.int .u32 (iw x), .int .i64 ai, .int .i64 bi, .int .i64 ci] w fun e w' => e = .returned (.int .u32 (iw (rot3 x a b c))) ∧ w = w' := by
  have e1 : wrap64 (-ai) = -ai := by unfold wrap64; omega
  have e2 : wrap64 (-bi) = -bi := by unfold wrap64; omega
  have e3 : wrap64 (-ci) = -ci := by unfold wrap64; omega
  have x1 := bxor (ror x a) (ror x b)
  have x2 := bxor (ror x a ^^^ ror x b) (ror x c)
  have h1 := Lib.hid ha; have h2 := Lib.hid hb; have h3 := Lib.hid hc
  clear ha hb hc
  go_enter Tryd.func74, Tryd.ntmps74
  go_wp2_with fail
  refine (rot_any x a _ (by rw [h1.out]) ha1 ha2 _).mono ?_
  rintro e w1 ⟨rfl, rfl⟩
  go_wp2_with fail
  refine (rot_any x b _ (by rw [h2.out]) hb1 hb2 _).mono ?_
  rintro e w1 ⟨rfl, rfl⟩
  go_wp2_with fail
  refine (rot_any x c _ (by rw [h3.out]) hc1 hc2 _).mono ?_
  rintro e w1 ⟨rfl, rfl⟩
  go_wp2_with fail
  go_ret
  exact ⟨rfl, rfl⟩
end Go.Proofs.YtmhmenmkgbebcaaDoor
