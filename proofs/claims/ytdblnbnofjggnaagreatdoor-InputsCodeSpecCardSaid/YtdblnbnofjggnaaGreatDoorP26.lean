/- Parts of the proofs of chapter 49's laws. -/
import Derived.Test.YtdblnbnofjggnaaGreatDoorP14
import Derived.Lib.LaidTab
import Derived.MakeChecks
import Derived.LaidMore
set_option linter.all false
namespace Go.Proofs.YtdblnbnofjggnaaGreatDoor
open Go.Proofs.Tryz
def kZ:List Int:=kL.map iw
theorem x8h {H:Type}:(Rows.laid_overflight_digest_numbers:DataW H)=Lib.tabData .u32 kZ:=by
 unfold Rows.laid_overflight_digest_numbers Lib.tabData kZ kL;rfl
theorem j8d {H:Type}:(Rows.laid_overflight_digest_start:DataW H)=Lib.tabData .u32 (z1n.l.map iw):=by
 unfold Rows.laid_overflight_digest_start Lib.tabData;rfl
theorem v2e : prog.globalNamed "overflight/digest.start" = some 2 := by kernel_rfl
theorem k9w : prog.globalNamed "overflight/digest.numbers" = some 3 := by kernel_rfl
theorem v3e:(prog.globals[2]?).map (·.type)=some 216:=by kernel_rfl
theorem k0x:(prog.globals[3]?).map (·.type)=some 229:=by kernel_rfl
theorem k4d {W : World} (h : laidMetH prog [("overflight/digest.start", Rows.laid_overflight_digest_start), ("overflight/digest.numbers", Rows.laid_overflight_digest_numbers)] W) : Laid W := by
 rw [MakeChecks.laidMetH_plain _ _ _ (by kernel_rfl)] at h
 obtain ⟨ps,⟨g0,t0,cs0,f0,p0,q0,hg0,ht0,hv0,hd0,⟨g1,t1,cs1,f1,p1,q1,aK,ht1,mH,kJ,_,_⟩,_⟩,_,_⟩:=h
 obtain rfl:=Option.some.inj (v2e.symm.trans hg0)
 obtain rfl:=Option.some.inj (k9w.symm.trans aK)
 obtain rfl:=Option.some.inj (v3e.symm.trans ht0)
 obtain rfl:=Option.some.inj (k0x.symm.trans ht1)
 rw [j8d] at hd0
 rw [x8h] at kJ
 have h0:=Lib.cells_of_tab underlying216 underlying215 (by kernel_rfl) (by kernel_rfl) hd0
 have h1:=Lib.cells_of_tab underlying229 underlying215 (by kernel_rfl) (by kernel_rfl) kJ
 refine ⟨fun t ht=>?_,fun t ht=>?_⟩
 ·have:=World.var?_cell aK mH t
  rw [this,← Array.getElem?_toList,h1]
  have hl:kL.length=64:=rfl
  simp [kZ,kK,List.getD,List.getElem?_eq_getElem (show t<kL.length by omega)]
 ·have:=World.var?_cell hg0 hv0 t
  rw [this,← Array.getElem?_toList,h0]
  have hl:z1n.l.length=8:=rfl
  simp [List.getD,List.getElem?_eq_getElem (show t<z1n.l.length by omega)]
end Go.Proofs.YtdblnbnofjggnaaGreatDoor
