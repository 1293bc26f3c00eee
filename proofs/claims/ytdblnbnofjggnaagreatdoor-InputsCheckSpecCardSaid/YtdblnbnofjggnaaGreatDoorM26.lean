/- Parts of the proofs of chapter 49's laws: Flo. -/
import Derived.Test.YtdblnbnofjggnaaGreatDoorM14
import Derived.Test.YtdblnbnofjggnaaGreatDoorRows
import Derived.Lib.LaidTab
import Derived.MakeChecks
import Derived.LaidMore
namespace Go.Proofs.YtdblnbnofjggnaaGreatDoor
def kZ:List Int:=kL.map iw
theorem x3e {H:Type}:(Rows.laid_overflight_digest_numbers:DataW H) = Lib.tabData .u32 kZ:=by
 unfold Rows.laid_overflight_digest_numbers Lib.tabData kZ kL;rfl
theorem j7a {H:Type}:(Rows.laid_overflight_digest_start:DataW H) = Lib.tabData .u32 (z3i.l.map iw):=by
 unfold Rows.laid_overflight_digest_start Lib.tabData;rfl
theorem k2w : Tryz.prog.globalNamed "overflight/digest.start" = some 2 := by kernel_rfl
theorem k0p : Tryz.prog.globalNamed "overflight/digest.numbers" = some 3 := by kernel_rfl
theorem k3w:(Tryz.prog.globals[2]?).map (·.type) = some 216:=by kernel_rfl
theorem k1p:(Tryz.prog.globals[3]?).map (·.type) = some 229:=by kernel_rfl
theorem j8a {W : World} (h : laidMetH Tryz.prog [("overflight/digest.start", Rows.laid_overflight_digest_start), ("overflight/digest.numbers", Rows.laid_overflight_digest_numbers)] W) : Laid W := by
 rw [MakeChecks.laidMetH_plain _ _ _ (by kernel_rfl)] at h
 obtain ⟨ps,⟨g0,t0,cs0,f0,p0,q0,hg0,ht0,hv0,hd0,⟨g1,t1,cs1,f1,p1,q1,hg1,ht1,hv1,hd1,_,_⟩,_⟩,_,_⟩:=h
 obtain rfl:=Option.some.inj (k2w.symm.trans hg0)
 obtain rfl:=Option.some.inj (k0p.symm.trans hg1)
 obtain rfl:=Option.some.inj (k3w.symm.trans ht0)
 obtain rfl:=Option.some.inj (k1p.symm.trans ht1)
 rw [j7a] at hd0
 rw [x3e] at hd1
 have h0:=Lib.cells_of_tab Tryz.underlying216 Tryz.underlying215 (by kernel_rfl) (by kernel_rfl) hd0
 have h1:=Lib.cells_of_tab Tryz.underlying229 Tryz.underlying215 (by kernel_rfl) (by kernel_rfl) hd1
 refine ⟨fun t ht=>?_,fun t ht=>?_⟩
 · have:=World.var?_cell hg1 hv1 t
   rw [this,← Array.getElem?_toList,h1]
   have hl:kL.length = 64:=rfl
   simp [kZ,kK,List.getD,List.getElem?_eq_getElem (show t < kL.length by omega)]
 · have:=World.var?_cell hg0 hv0 t
   rw [this,← Array.getElem?_toList,h0]
   have hl:z3i.l.length = 8:=rfl
   simp [List.getD,List.getElem?_eq_getElem (show t < z3i.l.length by omega)]
end Go.Proofs.YtdblnbnofjggnaaGreatDoor
