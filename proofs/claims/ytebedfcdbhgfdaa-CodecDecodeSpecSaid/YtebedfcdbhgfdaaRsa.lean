/- the reference's Same. -/
import Derived.Test.YtebedfcdbhgfdaaSam
import Derived.BigQuiet
namespace Go.Proofs.Ytebedfcdbhgfdaa
open Go.RowKit

def RSameSaid (N : Nat) : Prop := ∀ (x y : V), sz x ≤ N → ∀ (u v : Value) (w : World), RdV w.heap.size w x u → RdV w.heap.size w y v → Calls Try.prog 20 #[u, v] w (BoolPost (sm x y) w)

set_option maxRecDepth 100000 in
set_option maxHeartbeats 1000000 in
theorem rsame_head (N : Nat) (x y : V) (hsz : sz x ≤ N + 1) (u v : Value) (w : World) (hr : RdV w.heap.size w x u) (hr2 : RdV w.heap.size w y v) (hf : (x.kind == y.kind && x.n == y.n && x.s.toList == y.s.toList && x.l.length == y.l.length) = false) :
    Calls Try.prog 20 #[u, v] w (BoolPost false w) := by
  obtain ⟨k, n, s, l⟩ := x
  obtain ⟨k2, n2, s2, l2⟩ := y
  obtain ⟨oa, ca, rfl, _⟩ := hr.form
  obtain ⟨ob, cb, rfl, _⟩ := hr2.form
  clear hr hr2
  simp only [V.kind, V.n, V.s, V.l] at *
  obtain ⟨b1, hb1⟩ : ∃ b, (k == k2) = b := ⟨_, rfl⟩
  obtain ⟨b2, hb2⟩ : ∃ b, (n == n2) = b := ⟨_, rfl⟩
  obtain ⟨b3, hb3⟩ : ∃ b, (s.toList == s2.toList) = b := ⟨_, rfl⟩
  obtain ⟨b4, hb4⟩ : ∃ b, (l.length == l2.length) = b := ⟨_, rfl⟩
  rw [hb1, hb2, hb3, hb4] at hf
  have hc1 : (k != k2) = !b1 := by rw [← hb1]; rfl
  have hc2 : (n != n2) = !b2 := by rw [← hb2]; rfl
  have hc3 : (s.toList != s2.toList) = !b3 := by rw [← hb3]; rfl
  have hc4 : (((l.length : Nat) : Int) != ((l2.length : Nat) : Int)) = !b4 := by
    rw [← hb4]
    by_cases h : l.length = l2.length
    · rw [h]; simp
    · have h1 : (l.length == l2.length) = false := by rw [beq_eq_false_iff_ne]; exact h
      rw [h1, Bool.not_false, bne_iff_ne]; omega
  have HF := Lib.hid hf
  clear hf hb4
  cases b1 <;> cases b2 <;> cases b3 <;> cases b4
  all_goals first | (exfalso; exact absurd HF.out (by decide)) | skip
  all_goals
    go_enter Try.func20, Try.ntmps20
    go_wp2
    go_ret
    exact ⟨rfl, by repeat (first | exact Below.refl _ _ | refine Below.alloc ?_ (by simp) _)⟩
theorem str_eq {s t : ByteArray} (h : s.toList = t.toList) : s = t := by
  rw [ByteArray.toList_eq, ByteArray.toList_eq] at h
  exact ByteArray.ext (Array.toList_inj.1 h)
end Go.Proofs.Ytebedfcdbhgfdaa
