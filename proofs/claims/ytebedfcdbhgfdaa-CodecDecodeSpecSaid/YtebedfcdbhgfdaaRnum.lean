/- the reference's numeral. -/
import Derived.Test.YtebedfcdbhgfdaaEnc
import Derived.Test.YtebedfcdbhgfdaaApp
namespace Go.Proofs.Ytebedfcdbhgfdaa
open Go.RowKit

/-- bytes that the call has made, in new blocks -/
def MadePost (l : List UInt8) (w : World) (e : Ending) (w' : World) : Prop := ∃ v, e = .returned v ∧ OwnB 5 w' w.heap.size v l ∧ Below w.heap.size w w'

theorem OwnB.lit1 {e : TypeId} (w : World) (base : Nat) (x : Int) (c : UInt8) (hx : x = (c.toNat : Int)) (hb : base ≤ w.heap.size) : OwnB e (w.alloc (.cells #[.int .u8 x] e)) base (.slice (some ⟨w.heap.size, 0, none⟩) 1 1) [c] := by
  subst hx
  exact World.ownsRow_lit (w := w) (base := base) (e := e) (size := 1) #[.int .u8 (c.toNat : Int)] 1 hb (by unfold maxLen; omega) rfl
theorem OwnB.lit1' {e : TypeId} (w : World) (base B : Nat) (x : Int) (c : UInt8) (hx : x = (c.toNat : Int)) (hB : w.heap.size = B) (hb : base ≤ B) : OwnB e (w.alloc (.cells #[.int .u8 x] e)) base (.slice (some ⟨B, 0, none⟩) 1 1) [c] := by
  subst hB; exact OwnB.lit1 w base x c hx hb
theorem OwnB.mono {e : TypeId} {w : World} {base base' : Nat} {v : Value} {l : List UInt8} (h : OwnB e w base v l) (hb : base' ≤ base) : OwnB e w base' v l := by
  refine ⟨h.1, ?_⟩
  rcases h.2 with h | ⟨g, cap, cur, h1, h2, h3⟩
  · exact .inl h
  · exact .inr ⟨g, cap, cur, h1, Nat.le_trans hb h2, h3⟩
theorem OwnB.below {e : TypeId} {w w' : World} {base : Nat} {v : Value} {l : List UInt8} (h : OwnB e w base v l) (hb : Below w.heap.size w w') : OwnB e w' base v l := by
  refine h.kept (row := none) ⟨hb.os, hb.tape, hb.output, hb.size, fun k hk _ => hb.block k hk⟩ ?_
  cases v.ownBlock <;> simp

set_option maxRecDepth 100000 in
set_option maxHeartbeats 1000000 in
theorem rnumeral_any (f : Nat) : ∀ (u : Nat) (ui : Int) (_ : ui = (u : Int)) (_ : Hid (u < 128 ^ (f + 1))) (_ : f ≤ 9) (w : World), Calls Try.prog 42 #[.int .u64 ui] w (MadePost (numF f u) w) := by
  induction f with
  | zero =>
    intro u ui hui hu _ w
    subst hui
    have h : u < 128 := by have := hu.out; simpa using this
    have hn := Lib.hid (numF_end 0 u h)
    go_enter Try.func42, Try.ntmps42
    go_wp2
    go_ret
    refine ⟨_, rfl, ?_, (Below.refl _ _).alloc (Nat.le_refl _) _⟩
    rw [hn.out]
    exact OwnB.lit1 w _ _ _ (by rw [lo_cast]; omega) (Nat.le_refl _)
  | succ f ih =>
    have IH := Lib.hid ih; clear ih
    intro u ui hui hu hf w
    subst hui
    by_cases h : u < 128
    · have hn := Lib.hid (numF_end (f + 1) u h)
      go_enter Try.func42, Try.ntmps42
      go_wp2
      go_ret
      refine ⟨_, rfl, ?_, (Below.refl _ _).alloc (Nat.le_refl _) _⟩
      rw [hn.out]
      exact OwnB.lit1 w _ _ _ (by rw [lo_cast]; omega) (Nat.le_refl _)
    · have hn := Lib.hid (numF_more f u h)
      have hp : Hid (u / 128 < 128 ^ (f + 1)) := by
        have := hu.out; rw [Nat.pow_succ] at this; exact Nat.div_lt_of_lt_mul (by omega)
      have hb : Hid (u / 128 < 18446744073709551616) := by
        have h1 := hp.out
        have h2 : (128 : Nat) ^ (f + 1) ≤ 128 ^ 9 := Nat.pow_le_pow_right (by decide) (by omega)
        have h3 : (128 : Nat) ^ 9 = 9223372036854775808 := by decide
        show _ < _; omega
      go_enter Try.func42, Try.ntmps42
      go_wp2_with (first
        | (go_at_call 42; refine (IH.out (u / 128) _ ?hui hp (by omega) _).mono ?_
           case hui => have := hb.out; rw [IntKind.wrap_u64]; omega
           rintro e w1 ⟨v1, rfl, ho1, hb1⟩)
        | (at_builtin; refine wpList_append_B (e := 5) Try.underlying27 (by kernel_rfl) rfl _ _ rfl w.heap.size _ [hiDig u] rfl ?own _ (numF f (u / 128)) rfl ?c1 ?c2 ?c3 ?_))
      case own => exact (OwnB.lit1 w _ _ _ (by rw [hi_cast]; omega) (Nat.le_refl _)).below hb1
      case c1 => exact SrcB.ofRd Try.underlying27 ho1.rd
      case c2 => have := numF_len f (u / 128); simp; omega
      case c3 => have := hb1.size; simp at this; omega
      intro v2 w2 ho2 hg2 hn2
      go_wp2
      go_ret
      refine ⟨_, rfl, ?_, ?_⟩
      · rw [hn.out]; exact ho2
      · exact (below_after hb1).grown hg2 (by have := hb1.size; simp at this; omega) (fun k hk => by simp [Value.ownBlock] at hk; omega)
end Go.Proofs.Ytebedfcdbhgfdaa
