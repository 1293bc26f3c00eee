/- Parts of the proofs of chapter 49's laws. -/
import Derived.Test.YtdblnbnofjggnaaGreatDoorP10
import Derived.Deep.Slices
import Derived.ProofKit
set_option maxRecDepth 100000
open List renaming getElem?_eq_getElem → gE
set_option linter.all false
namespace Go.Proofs.YtdblnbnofjggnaaGreatDoor
open Go.RowKit Go.ChangeShapes Go.WideShapes
section
variable {H:Type} {enc:TypeId × Value→H} {w:World} {α:Type} [Inhabited α] {K:EK α}
theorem y8z {sT eT:TypeId} {P:α→Prop} (hT:Tryz.prog.underlying sT=some (.slice eT)) (hc:Tryz.prog.cellsOf eT=K.n)
 (tr:∀ {n:Nat} {cs:List Value} {y:DataW H × List MemPlace},DataW.trod enc Tryz.prog w 0 (fun _=>true) true n eT cs=some y→∃ a,cs=K.cells a∧P a)
 {n:Nat} {cs:List Value} {y:DataW H × List MemPlace} (hf:DataW.trod enc Tryz.prog w 0 (fun _=>true) true n sT cs=some y):∃ v l,cs=[v]∧z4g K w.heap.size w l v∧∀ x∈l,P x:=by
 rcases DataW.trod_slice hT hf with ⟨he,_⟩|⟨ad,ln,cp,elems,rest,n',rfl,he,_,_,hl,hm,hlen,aC,_⟩
 ·exact ⟨_,[],he,.inl ⟨rfl,_,_,rfl⟩,fun x h=>by cases h⟩
 ·refine ⟨.slice (some ad) ln cp,?_⟩
  by_cases h0:ln=0
  ·subst h0;exact ⟨[],he,.inl ⟨rfl,_,_,rfl⟩,fun x h=>by cases h⟩
  obtain ⟨b,off,spot⟩:=ad
  rw [hc] at aC
  have hpos:=K.pos
  have hsp:spot=none:=by
   have key:=aC 0 (by omega)
   rw [gE (by omega)] at key
   obtain ⟨mP,h1,h2⟩:=Option.bind_eq_some_iff.1 key
   obtain ⟨a,rfl,_⟩:=tr h2
   obtain ⟨_,hl1,hc⟩:=World.cells?_some h1
   have c0:=hc 0 hpos
   rw [gE (by rw [hl1];exact hpos)] at c0
   simpa [Addr.add] using World.cell?_spot c0
  subst hsp
  have one:∀ i,i<ln→∃ x:α,(j4p K w b (off+i * K.n) x∧b<w.heap.size)∧P x:=by
   intro i hi
   have key:=aC i hi
   rw [gE (by omega)] at key
   obtain ⟨mP,h1,h2⟩:=Option.bind_eq_some_iff.1 key
   obtain ⟨a,rfl,hs⟩:=tr h2
   obtain ⟨_,hl1,hc⟩:=World.cells?_some h1
   refine ⟨a,⟨fun j u hu=>?_,?_⟩,hs⟩
   ·have hj:j<K.n:=by rw [← K.len a];exact (List.getElem?_eq_some_iff.1 hu).1
    have c0:=hc j hj
    rw [Deep.add_add,k7w,hu,← Nat.add_assoc] at c0
    exact c0
   ·have c0:=hc 0 hpos
    rw [gE (by rw [hl1];exact hpos)] at c0
    rw [Deep.add_add,k7w] at c0
    exact World.block_lt_of_cell? w _ c0
  obtain ⟨X,hX⟩:=Deep.choose_lt (α:=α) (p:=fun i x=>(j4p K w b (off+i * K.n) x∧b<w.heap.size)∧P x) one
  refine ⟨(List.range ln).map X,he,.inr ⟨b,off,cp,by simp,by simpa using hl,hm,(hX 0 (by omega)).1.2,fun j x hj=>?_⟩,fun x hx=>?_⟩
  ·simp only [List.getElem?_map,Option.map_eq_some_iff] at hj
   obtain ⟨i,hi,rfl⟩:=hj
   obtain ⟨hi1,hi2⟩:=List.getElem?_eq_some_iff.1 hi
   simp at hi1 hi2
   subst hi2
   exact (hX _ hi1).1.1
  ·obtain ⟨i,hi,rfl⟩:=List.mem_map.1 hx
   exact (hX i (by simpa using hi)).2
end
end Go.Proofs.YtdblnbnofjggnaaGreatDoor
