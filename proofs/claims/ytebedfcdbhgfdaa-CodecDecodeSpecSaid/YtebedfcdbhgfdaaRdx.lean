/- codec.reader: value, lists and what is none. -/
import Derived.Test.YtebedfcdbhgfdaaRdw
namespace Go.Proofs.Ytebedfcdbhgfdaa
open Go.RowKit

set_option maxRecDepth 100000 in
set_option maxHeartbeats 1000000 in
theorem value_0 (d : Nat) (B R : Nat) (c : UInt8) (r : List UInt8) (di : Int) (hl : (c :: r).length ≤ 1000000) (w : World) (hr : RdrAt B w R (c :: r)) (hRw : R < w.heap.size) (h1 : c ≠ 1) (h2 : c ≠ 2) (h3 : c ≠ 3) :
    Calls Try.prog 32 #[.pointer (some ⟨R, 0, none⟩), .int .i64 di] w (ValPost B R (rdV d (c :: r)) w) := by
  have HR := Lib.hid hr; clear hr
  have hn := Lib.hid (rdV_bad d c r h1 h2 h3)
  have n1 : ((c.toNat : Int) == 1) = false := by rw [beq_eq_false_iff_ne]; intro h; exact h1 (UInt8.toNat_inj.1 (by simpa using (by omega : c.toNat = 1)))
  have n2 : ((c.toNat : Int) == 2) = false := by rw [beq_eq_false_iff_ne]; intro h; exact h2 (UInt8.toNat_inj.1 (by simpa using (by omega : c.toNat = 2)))
  have n3 : ((c.toNat : Int) == 3) = false := by rw [beq_eq_false_iff_ne]; intro h; exact h3 (UInt8.toNat_inj.1 (by simpa using (by omega : c.toNat = 3)))
  clear h1 h2 h3
  have hcb : (c.toNat : Int) ≤ 255 := by have := c.toNat_lt; omega
  go_enter Try.func32, Try.ntmps32
  go_wp2_with (first
    | (go_at_call 44; refine (value_head B R c r hl w HR.out hRw _).mono ?_; rintro e w1 ⟨b, off, cap, v', rfl, rfl, hbR, hbw, hc, hrd⟩))
  refine (want_false _ _).mono ?_
  rintro e w' ⟨rfl, rfl⟩
  exact ⟨rfl, by rw [hn.out]; exact And.intro rfl (grown_alloc (setCell_grown w R v') _)⟩

end Go.Proofs.Ytebedfcdbhgfdaa
