/- Parts of the proofs of chapter 49's laws: Cmp. -/
import Derived.Test.YtdblnbnofjggnaaGreatDoorK05
import Derived.Test.YtdblnbnofjggnaaGreatDoorK06
import Derived.Deep.RegionHeld3
import Derived.Deep.QuietTactic
import Derived.BigQuiet
namespace Go.Proofs.YtdblnbnofjggnaaGreatDoor
open Go.RowKit
theorem cb_two (w : World) (o : Obj) (t : TypeId) (cs : List Value) : CB ((w.alloc o).alloc (.cells cs.toArray t)) (w.heap.size + 1) t cs := by
 have h := CB.new (w.alloc o) t cs
 rw [World.size_alloc] at h
 exact h
def cmpZ (a b : Int) : Int := if a < b then -1 else if b < a then 1 else 0
theorem cmpZ_lt {a b : Int} (h : a < b) : cmpZ a b = -1 := by unfold cmpZ; rw [if_pos h]
theorem cmpZ_gt {a b : Int} (h : b < a) : cmpZ a b = 1 := by unfold cmpZ; rw [if_neg (by omega), if_pos h]
theorem cmpZ_eq (a : Int) : cmpZ a a = 0 := by unfold cmpZ; rw [if_neg (by omega), if_neg (by omega)]
theorem isnan_any (a : Int) (w : World) : Calls Tryz.prog 104 #[.int .i64 a] w fun e w' => e = .returned (.bool false) ∧ w = w' := by
 go_enter Tryz.func104, Tryz.ntmps104
 go_wp2
 go_ret
 exact ⟨by simp, rfl⟩
theorem compare_any (a b : Int) (w : World) : Calls Tryz.prog 43 #[.int .i64 a, .int .i64 b] w fun e w' => e = .returned (.int .i64 (cmpZ a b)) ∧ w = w' := by
 rcases (by omega : a < b ∨ b < a ∨ a = b) with h | h | h
 · have Hc := Lib.hid (cmpZ_lt h)
   have t1 : decide (a < b) = true := decide_eq_true h
   clear h
   go_enter Tryz.func43, Tryz.ntmps43
   go_wp2_with (go_at_call 104; refine (isnan_any _ _).mono ?_; rintro e w' ⟨rfl, rfl⟩)
   go_ret
   exact ⟨by rw [Hc.out]; rfl, rfl⟩
 · have Hc := Lib.hid (cmpZ_gt h)
   have t1 : decide (a < b) = false := decide_eq_false (by omega)
   have t2 : decide (b < a) = true := decide_eq_true h
   clear h
   go_enter Tryz.func43, Tryz.ntmps43
   go_wp2_with (go_at_call 104; refine (isnan_any _ _).mono ?_; rintro e w' ⟨rfl, rfl⟩)
   go_ret
   exact ⟨by rw [Hc.out]; rfl, rfl⟩
 · subst h
   have Hc := Lib.hid (cmpZ_eq a)
   have t1 : decide (a < a) = false := decide_eq_false (by omega)
   go_enter Tryz.func43, Tryz.ntmps43
   go_wp2_with (go_at_call 104; refine (isnan_any _ _).mono ?_; rintro e w' ⟨rfl, rfl⟩)
   go_ret
   exact ⟨by rw [Hc.out]; rfl, rfl⟩
end Go.Proofs.YtdblnbnofjggnaaGreatDoor
