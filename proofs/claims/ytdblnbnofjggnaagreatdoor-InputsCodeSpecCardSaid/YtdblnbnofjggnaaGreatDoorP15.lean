/- Parts of the proofs of chapter 49's laws. -/
import Derived.Test.YtdblnbnofjggnaaGreatDoorP05
import Derived.Test.YtdblnbnofjggnaaGreatDoorP06
import Derived.Deep.RegionHeld3
import Derived.Deep.QuietTactic
import Derived.BigQuiet
set_option linter.all false
namespace Go.Proofs.YtdblnbnofjggnaaGreatDoor
open Go.Proofs.Tryz
open Go.RowKit
def x1s (a b:Int):Int:=if a<b then -1 else if b<a then 1 else 0
theorem k0c {a b:Int} (h:a<b):x1s a b = -1:=by unfold x1s;rw [if_pos h]
theorem k1c {a b:Int} (h:b<a):x1s a b=1:=by unfold x1s;rw [if_neg (by omega),if_pos h]
theorem k2c (a:Int):x1s a a=0:=by unfold x1s;rw [if_neg (by omega),if_neg (by omega)]
theorem y0g (a:Int) (w:World):Calls prog 104 #[.int .i64 a] w fun e w'=>e=.returned (.bool false)∧w=w':=by
 go_enter func104,ntmps104
 go_wp2
 go_ret
 exact ⟨by simp,rfl⟩
theorem z8v (a b:Int) (w:World):Calls prog 43 #[.int .i64 a,.int .i64 b] w fun e w'=>e=.returned (.int .i64 (x1s a b))∧w=w':=by
 rcases (by omega:a<b∨b<a∨a=b) with h|h|h
 ·have Hc:=Lib.hid (k0c h)
  have t1:decide (a<b)=true:=decide_eq_true h
  clear h
  go_enter func43,ntmps43
  go_wp2_with (go_at_call 104;refine (y0g _ _).mono ?_;rintro e w' ⟨rfl,rfl⟩)
  go_ret
  exact ⟨by rw [Hc.out];rfl,rfl⟩
 ·have Hc:=Lib.hid (k1c h)
  have t1:decide (a<b)=false:=decide_eq_false (by omega)
  have t2:decide (b<a)=true:=decide_eq_true h
  clear h
  go_enter func43,ntmps43
  go_wp2_with (go_at_call 104;refine (y0g _ _).mono ?_;rintro e w' ⟨rfl,rfl⟩)
  go_ret
  exact ⟨by rw [Hc.out];rfl,rfl⟩
 ·subst h
  have Hc:=Lib.hid (k2c a)
  have t1:decide (a<a)=false:=decide_eq_false (by omega)
  go_enter func43,ntmps43
  go_wp2_with (go_at_call 104;refine (y0g _ _).mono ?_;rintro e w' ⟨rfl,rfl⟩)
  go_ret
  exact ⟨by rw [Hc.out];rfl,rfl⟩
end Go.Proofs.YtdblnbnofjggnaaGreatDoor
