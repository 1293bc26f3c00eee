/- the reference's digest: ror, word, numbers. -/
import Derived.Test.YtmhmenmkgbebcaaDoorDcc
namespace Go.Proofs.YtmhmenmkgbebcaaDoor
open Go.RowKit

set_option maxHeartbeats 400000 in
theorem rror_any (x : W32) (r : Nat) (ri : Int) (hr : ri = (r : Int)) (h1 : 1 ≤ r) (h2 : r ≤ 31) (w : World) : Calls Tryd.prog 76 #[.int .u32 (iw x), .int .i64 ri] w fun e w' => e = .returned (.int .u32 (iw (ror x r))) ∧ ∃ n, w' = w.drewN n := by
  subst hr
  have b1 : (1 : Int) ≤ (r : Int) := by omega
  have b2 : (r : Int) ≤ 31 := by omega
  have e1 : IntKind.i64.wrap (32 - (r : Int)) = 32 - (r : Int) := IntWalk.i64_in _ (by omega)
  have b3 : (0 : Int) ≤ 32 - (r : Int) := by omega
  have b4 : ((32 : Int) - (r : Int)).toNat = 32 - r := by omega
  have bx := iw_lt x
  obtain ⟨bx1, bx2⟩ := bx
  have hrr := Lib.hid (brot x r h2)
  clear h1 h2
  go_enter Tryd.func76, Tryd.ntmps76
  go_wp2
  go_quiet (fail)
  rw [bshr, bshl, bor, show x >>> r ||| x <<< (32 - r) = ror x r by rw [BitVec.or_comm]; exact hrr.out]
  go_wp2
  go_ret
  exact ⟨rfl, _, rfl⟩
theorem rword_val (c0 c1 c2 c3 : UInt8) (r : List UInt8) : bits BinOp.or .u32 (bits BinOp.or .u32 (bits BinOp.or .u32 ((c0.toNat : Int) % 4294967296 * 16777216 % 4294967296) ((c1.toNat : Int) % 4294967296 * 65536 % 4294967296)) ((c2.toNat : Int) % 4294967296 * 256 % 4294967296)) ((c3.toNat : Int) % 4294967296) = iw (word (c0 :: c1 :: c2 :: c3 :: r)) := by
  have hb : ∀ c : UInt8, (c.toNat : Int) % 4294967296 = iw (BitVec.ofNat 32 c.toNat) := fun c => by unfold iw; rw [BitVec.toNat_ofNat]; have := c.toNat_lt; omega
  have s1 : ∀ x : W32, iw x * (16777216 : Int) % (4294967296 : Int) = iw (x <<< 24) := fun x => bshl x 24
  have s2 : ∀ x : W32, iw x * (65536 : Int) % (4294967296 : Int) = iw (x <<< 16) := fun x => bshl x 16
  have s3 : ∀ x : W32, iw x * (256 : Int) % (4294967296 : Int) = iw (x <<< 8) := fun x => bshl x 8
  rw [hb, hb, hb, hb, s1, s2, s3, bor, bor, bor]
  congr 1
  show _ = ((((0 : W32) <<< 8 ||| BitVec.ofNat 32 c0.toNat) <<< 8 ||| BitVec.ofNat 32 c1.toNat) <<< 8 ||| BitVec.ofNat 32 c2.toNat) <<< 8 ||| BitVec.ofNat 32 c3.toNat
  generalize BitVec.ofNat 32 c0.toNat = a
  generalize BitVec.ofNat 32 c1.toNat = b
  generalize BitVec.ofNat 32 c2.toNat = c
  generalize BitVec.ofNat 32 c3.toNat = d
  simp [BitVec.shiftLeft_or_distrib, ← BitVec.shiftLeft_add]
set_option maxRecDepth 100000 in
set_option maxHeartbeats 1000000 in
theorem rword_any (b off len cap : Nat) (l : List UInt8) (w : World) (hl : 4 ≤ l.length) (hlen : 4 ≤ len) (h : BL w b off l) :
    Calls Tryd.prog 75 #[.slice (some ⟨b, off, none⟩) len cap] w fun e w' => e = .returned (.int .u32 (iw (word l))) ∧ ∃ n, w' = w.drewN n := by
  obtain ⟨c0, c1, c2, c3, r, rfl⟩ : ∃ c0 c1 c2 c3 r, l = c0 :: c1 :: c2 :: c3 :: r := by
    match l, hl with
    | c0 :: c1 :: c2 :: c3 :: r, _ => exact ⟨c0, c1, c2, c3, r, rfl⟩
  have h0 : w.cell? ⟨b, off, none⟩ = some (.int .u8 (c0.toNat : Int)) := h 0 c0 rfl
  have h1 := h 1 c1 rfl
  have h2 := h 2 c2 rfl
  have h3 := h 3 c3 rfl
  have hv := Lib.hid (rword_val c0 c1 c2 c3 r)
  have g1 : (4 : Int) ≤ (len : Int) := by omega
  have g2 : (0 : Int) < (len : Int) := by omega
  have g3 : (1 : Int) < (len : Int) := by omega
  have g4 : (2 : Int) < (len : Int) := by omega
  have g5 : (3 : Int) < (len : Int) := by omega
  have g6 : 0 < len := by omega
  clear h hl
  go_enter Tryd.func75, Tryd.ntmps75
  go_wp2
  go_quiet (fail)
  rw [hv.out]
  go_wp2
  go_ret
  exact ⟨rfl, _, rfl⟩
end Go.Proofs.YtmhmenmkgbebcaaDoor
