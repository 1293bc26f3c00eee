/- codec.Decode. -/
import Derived.Test.YtebedfcdbhgfdaaRdz
import Derived.Defers
import Derived.Recover
import Derived.Laws.EntriesVeiled
namespace Go.Proofs.Ytebedfcdbhgfdaa
open Go.RowKit

set_option maxHeartbeats 1000000 in
theorem catch_idle (V E : Nat) (w : World) :
    CallsD Try.prog 31 #[.pointer (some ⟨V, 0, none⟩), .pointer (some ⟨E, 0, none⟩)] .returning w fun e u' w' => e = .returned (.tuple #[]) ∧ u' = .returning ∧ w' = w := by
  refine callsD_of_wpS Try.func31 rfl fun c₀ cs hu => ?_
  apply wpS_seq
  apply wpS_region
  simp [wpOpsS, go_sem, recoverD, hu, Try.ntmps31, Exit.thenS]
  apply wpS_seq
  apply wpS_region
  simp [wpOpsS, go_sem, Exit.thenS]
  refine wpS_cond (t := false) (by simp [Act.eval, Array.replicate]) ?_
  simp only [Bool.false_eq_true, if_false]
  refine wpS_of_wp (wp_skip ?_)
  cases c₀
  simp_all [bodyPostS, results, Try.results31]

theorem assert_errno (xT : TypeId) (v : Value) (w : World) : (Instr.typeAssert (.iface 28 v) xT 28 false).run Try.prog w = .ok v w := by kernel_rfl
/-- the world behind the closure that has recovered -/
def CatchW (V E : Nat) (w w' : World) : Prop :=
  BoxAt w' V (.int .i64 0) (.int .i64 0) (.string ⟨#[]⟩) (.slice none 0 0) ∧ w'.cell? ⟨E, 0, none⟩ = some (.int .i64 10) ∧ w'.frozen? ⟨E, 0, none⟩ = false ∧ ∀ (base : World) (G : Option Nat), base.grownBy w G → base.heap.size ≤ V → base.heap.size ≤ E → base.grownBy w' G
theorem catchW (V E : Nat) (a b c d x : Value) (w : World) (h : BoxAt w V a b c d) (he : w.cell? ⟨E, 0, none⟩ = some x) (hz : w.frozen? ⟨E, 0, none⟩ = false) (hne : V ≠ E) :
    CatchW V E w (((((w.setCell ⟨V, 0, none⟩ (.int .i64 0)).setCell ⟨V, 1, none⟩ (.int .i64 0)).setCell ⟨V, 2, none⟩ (.string ⟨#[]⟩)).setCell ⟨V, 3, none⟩ (.slice none 0 0)).setCell ⟨E, 0, none⟩ (.int .i64 10)).drew := by
  obtain ⟨x0, x1, x2, x3, xf⟩ := h
  refine ⟨⟨?_, ?_, ?_, ?_, ?_⟩, ?_, ?_, ?_⟩
  · simp [go_sem, x0]
  · simp [go_sem, x1]
  · simp [go_sem, x2]
  · simp [go_sem, x3]
  · intro o; simp [go_sem, xf]
  · simp [go_sem, he]
  · simp [go_sem, hz]
  · intro base G hg hV hE
    exact grown_drew' (grown_set_new (grown_set_new (grown_set_new (grown_set_new (grown_set_new hg hV) hV) hV) hV) hE)
set_option maxHeartbeats 1000000 in
theorem catch_panicking (V E : Nat) (a b c d x : Value) (w : World) (h : BoxAt w V a b c d) (he : w.cell? ⟨E, 0, none⟩ = some x) (hz : w.frozen? ⟨E, 0, none⟩ = false) (hne : V ≠ E) :
    CallsD Try.prog 31 #[.pointer (some ⟨V, 0, none⟩), .pointer (some ⟨E, 0, none⟩)] (.panicking badChain) w fun e u' w' =>
      e = .returned (.tuple #[]) ∧ u' = .panicking [{ v := .iface 28 (.int .i64 10), recovered := true }] ∧ CatchW V E w w' := by
  have hfin := Lib.hid (catchW V E a b c d x w h he hz hne)
  obtain ⟨x0, x1, x2, x3, xf⟩ := h
  unfold badChain
  have hta := assert_errno
  have hVl := World.block_lt_of_cell? w _ x0
  have hEl := World.block_lt_of_cell? w _ he
  refine callsD_of_wpS Try.func31 rfl fun c₀ cs hu => ?_
  apply wpS_seq
  apply wpS_region
  simp [wpOpsS, go_sem, recoverD, hu, Try.ntmps31, Exit.thenS]
  apply wpS_seq
  apply wpS_region
  simp [wpOpsS, go_sem, Exit.thenS]
  refine wpS_cond (t := true) (by simp [Act.eval, Array.replicate]) ?_
  simp only [if_true]
  refine wpS_of_wp ?_
  go_wp2
  go_region
  all_goals
    show bodyPostS _ _ _ _ _ _ _ _ _
    cases c₀
    simp only at hu
    subst hu
    simp [bodyPostS, results, Try.results31]
    try exact hfin.out
  all_goals trace_state
end Go.Proofs.Ytebedfcdbhgfdaa
