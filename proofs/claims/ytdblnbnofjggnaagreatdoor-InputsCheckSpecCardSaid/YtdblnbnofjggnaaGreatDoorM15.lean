/- Parts of the proofs of chapter 49's laws: Cmp. -/
import Derived.Test.YtdblnbnofjggnaaGreatDoorM05
import Derived.Test.YtdblnbnofjggnaaGreatDoorM06
import Derived.Deep.RegionHeld3
import Derived.Deep.QuietTactic
import Derived.BigQuiet
namespace Go.Proofs.YtdblnbnofjggnaaGreatDoor
open Go.RowKit
theorem x9x (w:World) (o:Obj) (t:TypeId) (cs:List Value):CB ((w.alloc o).alloc (.cells cs.toArray t)) (w.heap.size + 1) t cs:=by
 have h:=CB.new (w.alloc o) t cs
 rw [World.size_alloc] at h
 exact h
def x0p (a b:Int):Int:=if a < b then -1 else if b < a then 1 else 0
theorem y1m {a b:Int} (h:a < b):x0p a b = -1:=by unfold x0p;rw [if_pos h]
theorem y2m {a b:Int} (h:b < a):x0p a b = 1:=by unfold x0p;rw [if_neg (by omega),if_pos h]
theorem z4m (a:Int):x0p a a = 0:=by unfold x0p;rw [if_neg (by omega),if_neg (by omega)]
theorem y7c (a:Int) (w:World):Calls Tryz.prog 104 #[.int .i64 a] w fun e w'=>e = .returned (.bool false)∧w = w':=by
 go_enter Tryz.func104,Tryz.ntmps104
 go_wp2
 go_ret
 exact ⟨by simp,rfl⟩
theorem z1u (a b:Int) (w:World):Calls Tryz.prog 43 #[.int .i64 a,.int .i64 b] w fun e w'=>e = .returned (.int .i64 (x0p a b))∧w = w':=by
 rcases (by omega:a < b∨b < a∨a = b) with h | h | h
 · have Hc:=Lib.hid (y1m h)
   have t1:decide (a < b) = true:=decide_eq_true h
   clear h
   go_enter Tryz.func43,Tryz.ntmps43
   go_wp2_with (go_at_call 104;refine (y7c _ _).mono ?_;rintro e w' ⟨rfl,rfl⟩)
   go_ret
   exact ⟨by rw [Hc.out];rfl,rfl⟩
 · have Hc:=Lib.hid (y2m h)
   have t1:decide (a < b) = false:=decide_eq_false (by omega)
   have t2:decide (b < a) = true:=decide_eq_true h
   clear h
   go_enter Tryz.func43,Tryz.ntmps43
   go_wp2_with (go_at_call 104;refine (y7c _ _).mono ?_;rintro e w' ⟨rfl,rfl⟩)
   go_ret
   exact ⟨by rw [Hc.out];rfl,rfl⟩
 · subst h
   have Hc:=Lib.hid (z4m a)
   have t1:decide (a < a) = false:=decide_eq_false (by omega)
   go_enter Tryz.func43,Tryz.ntmps43
   go_wp2_with (go_at_call 104;refine (y7c _ _).mono ?_;rintro e w' ⟨rfl,rfl⟩)
   go_ret
   exact ⟨by rw [Hc.out];rfl,rfl⟩
end Go.Proofs.YtdblnbnofjggnaaGreatDoor
