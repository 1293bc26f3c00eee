/- Parts of the proofs of chapter 49's laws. -/
import Derived.Test.YtdblnbnofjggnaaGreatDoorP05
import Derived.Deep.Slices
import Derived.ProofKit
set_option maxRecDepth 100000
set_option linter.all false
namespace Go.Proofs.YtdblnbnofjggnaaGreatDoor
open Go.Proofs.Tryz
open Go.RowKit Go.ChangeShapes Go.WideShapes
section
variable {H:Type} {enc:TypeId × Value→H} {w:World}
theorem j1s {n:Int} (h:(Lit.int .u8 n).wf=true):0≤n∧n≤255:=by
 simp only [Lit.wf,Bool.and_eq_true,decide_eq_true_eq] at h
 simpa [IntKind.min,IntKind.max,IntKind.signed,IntKind.bits] using h
theorem k5p {r:Reach} {b0:Nat} {v:Value} {d:DataW H} {p:List MemPlace} (hv:Value.okWide prog w r b0 50 v) (h:DataW.Trod enc prog w 0 (fun _=>true) true 50 v d p):∃ l,z6c w.heap.size w l v:=by
 obtain ⟨a,len,cap,rfl⟩:=okWide_slice underlying50 hv
 obtain ⟨n,hf⟩:=h
 rcases open_ints underlying50 underlying5 (by kernel_rfl) hf with ⟨hcs,_⟩|⟨x,l,c,zs,hcs,_,hl,hm,hz,_,hcell,hwz⟩
 ·simp [Value.cells] at hcs
  obtain ⟨rfl,rfl,rfl⟩:=hcs
  exact ⟨[],.inl ⟨rfl,none,0,rfl,Nat.zero_le _⟩⟩
 ·simp [Value.cells] at hcs
  obtain ⟨rfl,rfl,rfl⟩:=hcs
  have hz':zs.length=cap:=by simpa using hz
  by_cases h0:len=0
  ·subst h0;exact ⟨[],.inl ⟨rfl,some x,cap,rfl,hm⟩⟩
  obtain ⟨b,off,spot⟩:=x
  have hs:=World.cell?_spot (hcell 0 (by omega))
  have hsp:spot=none:=by simpa [Addr.add] using hs
  subst hsp
  have ha:∀ j,(⟨b,off,none⟩:Addr).add j=⟨b,off+j,none⟩:=fun j=>by unfold Addr.add;split <;> simp_all
  refine ⟨(zs.take len).map fun n=>UInt8.ofNat n.toNat,z6c.mk' (by simp;omega) (by simp;omega) hm (World.block_lt_of_cell? w _ (hcell 0 (by omega))) fun j c hj=>?_⟩
  have hjl:j<len:=by have:=(List.getElem?_eq_some_iff.1 hj).1;simp at this;omega
  have hcj:=hcell j (by omega)
  rw [ha] at hcj
  rw [hcj]
  have hb:=j1s (hwz _ (List.getElem_mem (show j<zs.length by omega)))
  simp only [List.getElem?_map,List.getElem?_take,if_pos hjl,List.getElem?_eq_getElem (show j<zs.length by omega),Option.map_some,Option.some.injEq] at hj
  subst hj
  simp [List.getD,List.getElem?_eq_getElem (show j<zs.length by omega)]
  omega
end
end Go.Proofs.YtdblnbnofjggnaaGreatDoor
