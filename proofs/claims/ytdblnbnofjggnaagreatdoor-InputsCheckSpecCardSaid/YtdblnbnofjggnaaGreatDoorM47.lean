/- Parts of the proofs of chapter 49's laws: Jop. -/
import Derived.Test.YtdblnbnofjggnaaGreatDoorM28
import Derived.Test.YtdblnbnofjggnaaGreatDoorM33
import Derived.Test.YtdblnbnofjggnaaGreatDoorM10
import Derived.Deep.Slices
import Derived.WideShapes
import Derived.ChangeArms
import Derived.Carry
import Derived.ProofKit
import Derived.Test.YtdblnbnofjggnaaGreatDoorM05
import Derived.OpenShut
import Derived.ChangeSame
set_option maxRecDepth 100000
open Go
open List renaming getElem?_eq_getElem → gE
namespace Go.Proofs.YtdblnbnofjggnaaGreatDoor
open Go.RowKit Go.ChangeShapes Go.WideShapes
section
variable {H:Type} {enc:TypeId × Value→H} {w:World} {α:Type} [Inhabited α] {K:EK α}
theorem y1x {sT eT:TypeId} {P:α→Prop} (hT:Tryz.prog.underlying sT = some (.slice eT)) (hc:Tryz.prog.cellsOf eT = K.n)
 (tr:∀ {n:Nat} {cs:List Value} {y:DataW H × List MemPlace},DataW.trod enc Tryz.prog w 0 (fun _=>true) true n eT cs = some y→∃ a,cs = K.cells a∧P a)
 {n:Nat} {cs:List Value} {y:DataW H × List MemPlace} (hf:DataW.trod enc Tryz.prog w 0 (fun _=>true) true n sT cs = some y):∃ v l,cs = [v]∧z9f K w.heap.size w l v∧∀ x ∈ l,P x:=by
 rcases DataW.trod_slice hT hf with ⟨he,_⟩ | ⟨ad,ln,cp,elems,rest,n',rfl,he,_,_,hl,hm,hlen,hel,_⟩
 · exact ⟨_,[],he,.inl ⟨rfl,_,_,rfl⟩,fun x h=>by cases h⟩
 · refine ⟨.slice (some ad) ln cp,?_⟩
   by_cases h0:ln = 0
   · subst h0;exact ⟨[],he,.inl ⟨rfl,_,_,rfl⟩,fun x h=>by cases h⟩
   obtain ⟨b,off,spot⟩:=ad
   rw [hc] at hel
   have hpos:=K.pos
   have hsp:spot = none:=by
    have key:=hel 0 (by omega)
    rw [gE (by omega)] at key
    obtain ⟨cs',h1,h2⟩:=Option.bind_eq_some_iff.1 key
    obtain ⟨a,rfl,_⟩:=tr h2
    obtain ⟨_,hl1,hc⟩:=World.cells?_some h1
    have c0:=hc 0 hpos
    rw [gE (by rw [hl1];exact hpos)] at c0
    simpa [Addr.add] using World.cell?_spot c0
   subst hsp
   have one:∀ i,i < ln→∃ x:α,(x5w K w b (off + i * K.n) x∧b < w.heap.size)∧P x:=by
    intro i hi
    have key:=hel i hi
    rw [gE (by omega)] at key
    obtain ⟨cs',h1,h2⟩:=Option.bind_eq_some_iff.1 key
    obtain ⟨a,rfl,hs⟩:=tr h2
    obtain ⟨_,hl1,hc⟩:=World.cells?_some h1
    refine ⟨a,⟨fun j u hu=>?_,?_⟩,hs⟩
    · have hj:j < K.n:=by rw [← K.len a];exact (List.getElem?_eq_some_iff.1 hu).1
      have c0:=hc j hj
      rw [Deep.add_add,k8g,hu,← Nat.add_assoc] at c0
      exact c0
    · have c0:=hc 0 hpos
      rw [gE (by rw [hl1];exact hpos)] at c0
      rw [Deep.add_add,k8g] at c0
      exact World.block_lt_of_cell? w _ c0
   obtain ⟨X,hX⟩:=Deep.choose_lt (α:=α) (p:=fun i x=>(x5w K w b (off + i * K.n) x∧b < w.heap.size)∧P x) one
   refine ⟨(List.range ln).map X,he,.inr ⟨b,off,cp,by simp,by simpa using hl,hm,(hX 0 (by omega)).1.2,fun j x hj=>?_⟩,fun x hx=>?_⟩
   · simp only [List.getElem?_map,Option.map_eq_some_iff] at hj
     obtain ⟨i,hi,rfl⟩:=hj
     obtain ⟨hi1,hi2⟩:=List.getElem?_eq_some_iff.1 hi
     simp at hi1 hi2
     subst hi2
     exact (hX _ hi1).1.1
   · obtain ⟨i,hi,rfl⟩:=List.mem_map.1 hx
     exact (hX i (by simpa using hi)).2
end
end Go.Proofs.YtdblnbnofjggnaaGreatDoor
set_option maxRecDepth 100000
namespace Go.Proofs.YtdblnbnofjggnaaGreatDoor
open Go.RowKit Go.ChangeShapes Go.WideShapes
theorem z4e {n:Int} (h:(Lit.int .i64 n).wf = true):I64 n:=by
 simp only [Lit.wf,Bool.and_eq_true,decide_eq_true_eq] at h
 unfold I64;simpa [IntKind.min,IntKind.max,IntKind.signed,IntKind.bits] using h
theorem pc {cs l m:List Value} {o a b:Nat} (h1:(cs.drop o).take a = l) (h2:(cs.drop (o + a)).take b = m):(cs.drop o).take (a + b) = l ++ m:=by
 rw [← h1,← h2,← List.drop_drop,← List.take_add]
theorem y3f {cs l:List Value} {n:Nat} (h:(cs.drop 0).take n = l) (hn:cs.length = n):cs = l:=by
 rw [List.drop_zero,List.take_of_length_le (by omega)] at h;exact h
instance:Inhabited Cut:=⟨⟨false,0,0,0,0⟩⟩
instance:Inhabited Nb:=⟨⟨0,0,none,0,0⟩⟩
theorem z4c:Tryz.prog.cellsOf 3 = 1:=by kernel_rfl
theorem y4p:Tryz.prog.cellsOf 9 = 1:=by kernel_rfl
theorem y5p:Tryz.prog.cellsOf 4 = 1:=by kernel_rfl
theorem y4f:Tryz.prog.cellsOf 24 = 1:=by kernel_rfl
theorem y5f:Tryz.prog.cellsOf 26 = 2:=by kernel_rfl
theorem y3y:Tryz.prog.cellsOf 39 = 2:=by kernel_rfl
theorem y4y:Tryz.prog.cellsOf 23 = 3:=by kernel_rfl
theorem y5y:Tryz.prog.cellsOf 88 = 5:=by kernel_rfl
theorem j6g:Tryz.prog.cellsOf 46 = 1:=by kernel_rfl
theorem y6y:Tryz.prog.cellsOf 48 = 3:=by kernel_rfl
theorem j7g:Tryz.prog.cellsOf 29 = 1:=by kernel_rfl
theorem y7y:Tryz.prog.cellsOf 28 = 8:=by kernel_rfl
theorem y8y:Tryz.prog.cellsOf 31 = 3:=by kernel_rfl
theorem y9y:Tryz.prog.cellsOf 33 = 6:=by kernel_rfl
theorem y0z:Tryz.prog.cellsOf 35 = 3:=by kernel_rfl
theorem y1z:Tryz.prog.cellsOf 37 = 3:=by kernel_rfl
theorem j8g:Tryz.prog.cellsOf 41 = 32:=by kernel_rfl
section
variable {H:Type} {enc:TypeId × Value→H} {w:World}
theorem fld {t:TypeId} {c o n i:Nat} {cs:List Value} {xs:List (DataW H × List MemPlace)} (hc:Tryz.prog.cellsOf t = c) (h:DataW.trod enc Tryz.prog w 0 (fun _=>true) true n t ((cs.drop o).take (Tryz.prog.cellsOf t)) = xs[i]?) (hi:i < xs.length):DataW.trod enc Tryz.prog w 0 (fun _=>true) true n t ((cs.drop o).take c) = some xs[i]:=by
 subst hc;rw [h];exact List.getElem?_eq_getElem hi
theorem y6f {n:Nat} {cs:List Value} {y:DataW H × List MemPlace} (h:DataW.trod enc Tryz.prog w 0 (fun _=>true) true n 3 cs = some y):∃ a:Int,cs = nuK.cells a∧I64 a:=by
 obtain ⟨a,e0,_,w0⟩:=DataW.trod_int Tryz.underlying3 h
 exact ⟨a,e0,z4e w0⟩
theorem j9g {n:Nat} {cs:List Value} {y:DataW H × List MemPlace} (h:DataW.trod enc Tryz.prog w 0 (fun _=>true) true n 26 cs = some y):∃ a b:Int,cs = [.int .i64 a,.int .i64 b]∧I64 a∧I64 b:=by
 obtain ⟨xs,n',rfl,hx,hlen,hxl,hf⟩:=DataW.trod_struct Tryz.underlying26 h
 rw [y5f] at hlen
 have hxl:xs.length = 2:=hxl
 have g0:DataW.trod enc Tryz.prog w 0 (fun _=>true) true n' 3 ((cs.drop 0).take 1) = some (xs[0]'(by omega)):=fld z4c (hf 0 _ rfl) (by omega)
 obtain ⟨a0,e0,_,w0⟩:=DataW.trod_int Tryz.underlying3 g0;have w0:=z4e w0
 have g1:DataW.trod enc Tryz.prog w 0 (fun _=>true) true n' 3 ((cs.drop 1).take 1) = some (xs[1]'(by omega)):=fld z4c (hf 1 _ rfl) (by omega)
 obtain ⟨a1,e1,_,w1⟩:=DataW.trod_int Tryz.underlying3 g1;have w1:=z4e w1
 have hcs:=y3f (n:=2) (pc e0 e1) hlen
 exact ⟨a0,a1,hcs,w0,w1⟩
theorem k2b {n:Nat} {cs:List Value} {y:DataW H × List MemPlace} (h:DataW.trod enc Tryz.prog w 0 (fun _=>true) true n 39 cs = some y):∃ a b:Int,cs = [.int .i64 a,.int .i64 b]∧I64 a∧I64 b:=by
 obtain ⟨xs,n',rfl,hx,hlen,hxl,hf⟩:=DataW.trod_struct Tryz.underlying39 h
 rw [y3y] at hlen
 have hxl:xs.length = 2:=hxl
 have g0:DataW.trod enc Tryz.prog w 0 (fun _=>true) true n' 3 ((cs.drop 0).take 1) = some (xs[0]'(by omega)):=fld z4c (hf 0 _ rfl) (by omega)
 obtain ⟨a0,e0,_,w0⟩:=DataW.trod_int Tryz.underlying3 g0;have w0:=z4e w0
 have g1:DataW.trod enc Tryz.prog w 0 (fun _=>true) true n' 3 ((cs.drop 1).take 1) = some (xs[1]'(by omega)):=fld z4c (hf 1 _ rfl) (by omega)
 obtain ⟨a1,e1,_,w1⟩:=DataW.trod_int Tryz.underlying3 g1;have w1:=z4e w1
 have hcs:=y3f (n:=2) (pc e0 e1) hlen
 exact ⟨a0,a1,hcs,w0,w1⟩
theorem k3b {n:Nat} {cs:List Value} {y:DataW H × List MemPlace} (h:DataW.trod enc Tryz.prog w 0 (fun _=>true) true n 23 cs = some y):∃ a b c:Int,cs = [.int .i64 a,.int .i64 b,.int .i64 c]∧I64 a∧I64 b∧I64 c:=by
 obtain ⟨xs,n',rfl,hx,hlen,hxl,hf⟩:=DataW.trod_struct Tryz.underlying23 h
 rw [y4y] at hlen
 have hxl:xs.length = 3:=hxl
 have g0:DataW.trod enc Tryz.prog w 0 (fun _=>true) true n' 3 ((cs.drop 0).take 1) = some (xs[0]'(by omega)):=fld z4c (hf 0 _ rfl) (by omega)
 obtain ⟨a0,e0,_,w0⟩:=DataW.trod_int Tryz.underlying3 g0;have w0:=z4e w0
 have g1:DataW.trod enc Tryz.prog w 0 (fun _=>true) true n' 3 ((cs.drop 1).take 1) = some (xs[1]'(by omega)):=fld z4c (hf 1 _ rfl) (by omega)
 obtain ⟨a1,e1,_,w1⟩:=DataW.trod_int Tryz.underlying3 g1;have w1:=z4e w1
 have g2:DataW.trod enc Tryz.prog w 0 (fun _=>true) true n' 3 ((cs.drop 2).take 1) = some (xs[2]'(by omega)):=fld z4c (hf 2 _ rfl) (by omega)
 obtain ⟨a2,e2,_,w2⟩:=DataW.trod_int Tryz.underlying3 g2;have w2:=z4e w2
 have hcs:=y3f (n:=3) (pc (pc e0 e1) e2) hlen
 exact ⟨a0,a1,a2,hcs,w0,w1,w2⟩
theorem k4b {n:Nat} {cs:List Value} {y:DataW H × List MemPlace} (h:DataW.trod enc Tryz.prog w 0 (fun _=>true) true n 88 cs = some y):∃ c:Cut,cs = cuK.cells c∧CutI c:=by
 obtain ⟨xs,n',rfl,hx,hlen,hxl,hf⟩:=DataW.trod_struct Tryz.underlying88 h
 rw [y5y] at hlen
 have hxl:xs.length = 4:=hxl
 have g0:DataW.trod enc Tryz.prog w 0 (fun _=>true) true n' 4 ((cs.drop 0).take 1) = some (xs[0]'(by omega)):=fld y5p (hf 0 _ rfl) (by omega)
 obtain ⟨a0,e0,_⟩:=DataW.trod_bool Tryz.underlying4 g0
 have g1:DataW.trod enc Tryz.prog w 0 (fun _=>true) true n' 3 ((cs.drop 1).take 1) = some (xs[1]'(by omega)):=fld z4c (hf 1 _ rfl) (by omega)
 obtain ⟨a1,e1,_,w1⟩:=DataW.trod_int Tryz.underlying3 g1;have w1:=z4e w1
 have g2:DataW.trod enc Tryz.prog w 0 (fun _=>true) true n' 26 ((cs.drop 2).take 2) = some (xs[2]'(by omega)):=fld y5f (hf 2 _ rfl) (by omega)
 obtain ⟨b0,b1,e2,w2,x2⟩:=j9g g2
 have g3:DataW.trod enc Tryz.prog w 0 (fun _=>true) true n' 3 ((cs.drop 4).take 1) = some (xs[3]'(by omega)):=fld z4c (hf 3 _ rfl) (by omega)
 obtain ⟨a3,e3,_,w3⟩:=DataW.trod_int Tryz.underlying3 g3;have w3:=z4e w3
 have hcs:=y3f (n:=5) (pc (pc (pc e0 e1) e2) e3) hlen
 exact ⟨⟨a0,a1,b0,b1,a3⟩,hcs,⟨w1,w2,x2,w3⟩⟩
theorem k5b {n:Nat} {cs:List Value} {y:DataW H × List MemPlace} (h:DataW.trod enc Tryz.prog w 0 (fun _=>true) true n 48 cs = some y):∃ r:Nb,cs = ndK.cells r∧∃ t,NodR w t r∧NodI t:=by
 obtain ⟨xs,n',rfl,hx,hlen,hxl,hf⟩:=DataW.trod_struct Tryz.underlying48 h
 rw [y6y] at hlen
 have hxl:xs.length = 3:=hxl
 have g0:DataW.trod enc Tryz.prog w 0 (fun _=>true) true n' 3 ((cs.drop 0).take 1) = some (xs[0]'(by omega)):=fld z4c (hf 0 _ rfl) (by omega)
 obtain ⟨a0,e0,_,w0⟩:=DataW.trod_int Tryz.underlying3 g0;have w0:=z4e w0
 have g1:DataW.trod enc Tryz.prog w 0 (fun _=>true) true n' 3 ((cs.drop 1).take 1) = some (xs[1]'(by omega)):=fld z4c (hf 1 _ rfl) (by omega)
 obtain ⟨a1,e1,_,w1⟩:=DataW.trod_int Tryz.underlying3 g1;have w1:=z4e w1
 have g2:DataW.trod enc Tryz.prog w 0 (fun _=>true) true n' 46 ((cs.drop 2).take 1) = some (xs[2]'(by omega)):=fld j6g (hf 2 _ rfl) (by omega)
 obtain ⟨v2,a2,e2,r2,w2⟩:=y1x (K:=cuK) (P:=CutI) Tryz.underlying46 y5y k4b g2
 have hcs:=y3f (n:=3) (pc (pc e0 e1) e2) hlen
 obtain ⟨oa,cap,rfl,_⟩:=r2.shape
 exact ⟨⟨a0,a1,oa,a2.length,cap⟩,hcs,⟨a0,a1,a2⟩,⟨rfl,rfl,r2⟩,⟨w0,w1,w2⟩⟩
theorem k6b {rl:List Nb} (h:∀ x ∈ rl,∃ t,NodR w t x∧NodI t):∃ l:List Nod,rl.length = l.length∧(∀ (i:Nat) (t:Nod) (x:Nb),l[i]? = some t→rl[i]? = some x→NodR w t x)∧∀ t ∈ l,NodI t:=by
 induction rl with
 | nil=>exact ⟨[],rfl,fun i t x h _=>by simp at h,fun t h=>by cases h⟩
 | cons x r ih =>
  obtain ⟨t,ht,hi⟩:=h x List.mem_cons_self
  obtain ⟨l,h1,h2,h3⟩:=ih (fun y hy=>h y (List.mem_cons_of_mem _ hy))
  refine ⟨t :: l,by simp [h1],fun i u y hu hy=>?_,fun u hu=>?_⟩
  · cases i with
    | zero=>simp at hu hy;subst hu hy;exact ht
    | succ i=>exact h2 i u y (by simpa using hu) (by simpa using hy)
  · rcases List.mem_cons.1 hu with rfl | hu
    · exact hi
    · exact h3 u hu
theorem j0h {n:Nat} {cs:List Value} {y:DataW H × List MemPlace} (h:DataW.trod enc Tryz.prog w 0 (fun _=>true) true n 29 cs = some y):∃ v l,cs = [v]∧z6j w l v∧∀ t ∈ l,NodI t:=by
 obtain ⟨v,rl,e,hr,hp⟩:=y1x (K:=ndK) (P:=fun r=>∃ t,NodR w t r∧NodI t) Tryz.underlying29 y6y k5b h
 obtain ⟨l,h1,h2,h3⟩:=k6b hp
 exact ⟨v,l,e,⟨rl,hr,h1,h2⟩,h3⟩
theorem k7b {n:Nat} {cs:List Value} {y:DataW H × List MemPlace} (h:DataW.trod enc Tryz.prog w 0 (fun _=>true) true n 28 cs = some y):∃ (f:Flt) (v:Value),cs = f.cells v∧z9f nuK w.heap.size w f.ways v∧FltI f:=by
 obtain ⟨xs,n',rfl,hx,hlen,hxl,hf⟩:=DataW.trod_struct Tryz.underlying28 h
 rw [y7y] at hlen
 have hxl:xs.length = 7:=hxl
 have g0:DataW.trod enc Tryz.prog w 0 (fun _=>true) true n' 3 ((cs.drop 0).take 1) = some (xs[0]'(by omega)):=fld z4c (hf 0 _ rfl) (by omega)
 obtain ⟨a0,e0,_,w0⟩:=DataW.trod_int Tryz.underlying3 g0;have w0:=z4e w0
 have g1:DataW.trod enc Tryz.prog w 0 (fun _=>true) true n' 3 ((cs.drop 1).take 1) = some (xs[1]'(by omega)):=fld z4c (hf 1 _ rfl) (by omega)
 obtain ⟨a1,e1,_,w1⟩:=DataW.trod_int Tryz.underlying3 g1;have w1:=z4e w1
 have g2:DataW.trod enc Tryz.prog w 0 (fun _=>true) true n' 3 ((cs.drop 2).take 1) = some (xs[2]'(by omega)):=fld z4c (hf 2 _ rfl) (by omega)
 obtain ⟨a2,e2,_,w2⟩:=DataW.trod_int Tryz.underlying3 g2;have w2:=z4e w2
 have g3:DataW.trod enc Tryz.prog w 0 (fun _=>true) true n' 9 ((cs.drop 3).take 1) = some (xs[3]'(by omega)):=fld y4p (hf 3 _ rfl) (by omega)
 obtain ⟨a3,e3,_,w3⟩:=DataW.trod_string Tryz.underlying9 g3
 have g4:DataW.trod enc Tryz.prog w 0 (fun _=>true) true n' 24 ((cs.drop 4).take 1) = some (xs[4]'(by omega)):=fld y4f (hf 4 _ rfl) (by omega)
 obtain ⟨v4,a4,e4,r4,w4⟩:=y1x (K:=nuK) (P:=I64) Tryz.underlying24 z4c y6f g4
 have g5:DataW.trod enc Tryz.prog w 0 (fun _=>true) true n' 26 ((cs.drop 5).take 2) = some (xs[5]'(by omega)):=fld y5f (hf 5 _ rfl) (by omega)
 obtain ⟨b0,b1,e5,w5,x5⟩:=j9g g5
 have g6:DataW.trod enc Tryz.prog w 0 (fun _=>true) true n' 4 ((cs.drop 7).take 1) = some (xs[6]'(by omega)):=fld y5p (hf 6 _ rfl) (by omega)
 obtain ⟨a6,e6,_⟩:=DataW.trod_bool Tryz.underlying4 g6
 have hcs:=y3f (n:=8) (pc (pc (pc (pc (pc (pc e0 e1) e2) e3) e4) e5) e6) hlen
 exact ⟨⟨a0,a1,a2,a3,a4,b0,b1,a6⟩,v4,hcs,r4,⟨w0,w1,w2,w5,x5,w4,w3⟩⟩
theorem k8b {n:Nat} {cs:List Value} {y:DataW H × List MemPlace} (h:DataW.trod enc Tryz.prog w 0 (fun _=>true) true n 31 cs = some y):∃ (c:Chg) (v:Value),cs = c.cells v∧z9f nuK w.heap.size w c.modes v∧I64 c.frm∧I64 c.cfg∧∀ m ∈ c.modes,I64 m:=by
 obtain ⟨xs,n',rfl,hx,hlen,hxl,hf⟩:=DataW.trod_struct Tryz.underlying31 h
 rw [y8y] at hlen
 have hxl:xs.length = 3:=hxl
 have g0:DataW.trod enc Tryz.prog w 0 (fun _=>true) true n' 3 ((cs.drop 0).take 1) = some (xs[0]'(by omega)):=fld z4c (hf 0 _ rfl) (by omega)
 obtain ⟨a0,e0,_,w0⟩:=DataW.trod_int Tryz.underlying3 g0;have w0:=z4e w0
 have g1:DataW.trod enc Tryz.prog w 0 (fun _=>true) true n' 3 ((cs.drop 1).take 1) = some (xs[1]'(by omega)):=fld z4c (hf 1 _ rfl) (by omega)
 obtain ⟨a1,e1,_,w1⟩:=DataW.trod_int Tryz.underlying3 g1;have w1:=z4e w1
 have g2:DataW.trod enc Tryz.prog w 0 (fun _=>true) true n' 24 ((cs.drop 2).take 1) = some (xs[2]'(by omega)):=fld y4f (hf 2 _ rfl) (by omega)
 obtain ⟨v2,a2,e2,r2,w2⟩:=y1x (K:=nuK) (P:=I64) Tryz.underlying24 z4c y6f g2
 have hcs:=y3f (n:=3) (pc (pc e0 e1) e2) hlen
 exact ⟨⟨a0,a1,a2⟩,v2,hcs,r2,w0,w1,w2⟩
theorem j1h {n:Nat} {cs:List Value} {y:DataW H × List MemPlace} (h:DataW.trod enc Tryz.prog w 0 (fun _=>true) true n 33 cs = some y):∃ r:Rp,cs = r.cells∧I64 r.st∧I64 r.no∧I64 r.mi∧I64 r.ar∧r.cl.size ≤ maxLen∧I64 r.vo:=by
 obtain ⟨xs,n',rfl,hx,hlen,hxl,hf⟩:=DataW.trod_struct Tryz.underlying33 h
 rw [y9y] at hlen
 have hxl:xs.length = 6:=hxl
 have g0:DataW.trod enc Tryz.prog w 0 (fun _=>true) true n' 3 ((cs.drop 0).take 1) = some (xs[0]'(by omega)):=fld z4c (hf 0 _ rfl) (by omega)
 obtain ⟨a0,e0,_,w0⟩:=DataW.trod_int Tryz.underlying3 g0;have w0:=z4e w0
 have g1:DataW.trod enc Tryz.prog w 0 (fun _=>true) true n' 3 ((cs.drop 1).take 1) = some (xs[1]'(by omega)):=fld z4c (hf 1 _ rfl) (by omega)
 obtain ⟨a1,e1,_,w1⟩:=DataW.trod_int Tryz.underlying3 g1;have w1:=z4e w1
 have g2:DataW.trod enc Tryz.prog w 0 (fun _=>true) true n' 3 ((cs.drop 2).take 1) = some (xs[2]'(by omega)):=fld z4c (hf 2 _ rfl) (by omega)
 obtain ⟨a2,e2,_,w2⟩:=DataW.trod_int Tryz.underlying3 g2;have w2:=z4e w2
 have g3:DataW.trod enc Tryz.prog w 0 (fun _=>true) true n' 3 ((cs.drop 3).take 1) = some (xs[3]'(by omega)):=fld z4c (hf 3 _ rfl) (by omega)
 obtain ⟨a3,e3,_,w3⟩:=DataW.trod_int Tryz.underlying3 g3;have w3:=z4e w3
 have g4:DataW.trod enc Tryz.prog w 0 (fun _=>true) true n' 9 ((cs.drop 4).take 1) = some (xs[4]'(by omega)):=fld y4p (hf 4 _ rfl) (by omega)
 obtain ⟨a4,e4,_,w4⟩:=DataW.trod_string Tryz.underlying9 g4
 have g5:DataW.trod enc Tryz.prog w 0 (fun _=>true) true n' 3 ((cs.drop 5).take 1) = some (xs[5]'(by omega)):=fld z4c (hf 5 _ rfl) (by omega)
 obtain ⟨a5,e5,_,w5⟩:=DataW.trod_int Tryz.underlying3 g5;have w5:=z4e w5
 have hcs:=y3f (n:=6) (pc (pc (pc (pc (pc e0 e1) e2) e3) e4) e5) hlen
 exact ⟨⟨a0,a1,a2,a3,a4,a5⟩,hcs,w0,w1,w2,w3,w4,w5⟩
theorem k9b {n:Nat} {cs:List Value} {y:DataW H × List MemPlace} (h:DataW.trod enc Tryz.prog w 0 (fun _=>true) true n 35 cs = some y):∃ s:Sts,cs = s.cells∧I64 s.st∧I64 s.frm:=by
 obtain ⟨xs,n',rfl,hx,hlen,hxl,hf⟩:=DataW.trod_struct Tryz.underlying35 h
 rw [y0z] at hlen
 have hxl:xs.length = 3:=hxl
 have g0:DataW.trod enc Tryz.prog w 0 (fun _=>true) true n' 3 ((cs.drop 0).take 1) = some (xs[0]'(by omega)):=fld z4c (hf 0 _ rfl) (by omega)
 obtain ⟨a0,e0,_,w0⟩:=DataW.trod_int Tryz.underlying3 g0;have w0:=z4e w0
 have g1:DataW.trod enc Tryz.prog w 0 (fun _=>true) true n' 3 ((cs.drop 1).take 1) = some (xs[1]'(by omega)):=fld z4c (hf 1 _ rfl) (by omega)
 obtain ⟨a1,e1,_,w1⟩:=DataW.trod_int Tryz.underlying3 g1;have w1:=z4e w1
 have g2:DataW.trod enc Tryz.prog w 0 (fun _=>true) true n' 4 ((cs.drop 2).take 1) = some (xs[2]'(by omega)):=fld y5p (hf 2 _ rfl) (by omega)
 obtain ⟨a2,e2,_⟩:=DataW.trod_bool Tryz.underlying4 g2
 have hcs:=y3f (n:=3) (pc (pc e0 e1) e2) hlen
 exact ⟨⟨a0,a1,a2⟩,hcs,w0,w1⟩
theorem k0c {n:Nat} {cs:List Value} {y:DataW H × List MemPlace} (h:DataW.trod enc Tryz.prog w 0 (fun _=>true) true n 37 cs = some y):∃ (s:Stn) (v:Value),cs = s.cells v∧z9f nuK w.heap.size w s.vols v∧(∀ m ∈ s.vols,I64 m)∧I64 s.sh∧I64 s.fa:=by
 obtain ⟨xs,n',rfl,hx,hlen,hxl,hf⟩:=DataW.trod_struct Tryz.underlying37 h
 rw [y1z] at hlen
 have hxl:xs.length = 3:=hxl
 have g0:DataW.trod enc Tryz.prog w 0 (fun _=>true) true n' 24 ((cs.drop 0).take 1) = some (xs[0]'(by omega)):=fld y4f (hf 0 _ rfl) (by omega)
 obtain ⟨v0,a0,e0,r0,w0⟩:=y1x (K:=nuK) (P:=I64) Tryz.underlying24 z4c y6f g0
 have g1:DataW.trod enc Tryz.prog w 0 (fun _=>true) true n' 3 ((cs.drop 1).take 1) = some (xs[1]'(by omega)):=fld z4c (hf 1 _ rfl) (by omega)
 obtain ⟨a1,e1,_,w1⟩:=DataW.trod_int Tryz.underlying3 g1;have w1:=z4e w1
 have g2:DataW.trod enc Tryz.prog w 0 (fun _=>true) true n' 3 ((cs.drop 2).take 1) = some (xs[2]'(by omega)):=fld z4c (hf 2 _ rfl) (by omega)
 obtain ⟨a2,e2,_,w2⟩:=DataW.trod_int Tryz.underlying3 g2;have w2:=z4e w2
 have hcs:=y3f (n:=3) (pc (pc e0 e1) e2) hlen
 exact ⟨⟨a0,a1,a2⟩,v0,hcs,r0,w0,w1,w2⟩
theorem k1c {n:Nat} {cs:List Value} {y:DataW H × List MemPlace} (h:DataW.trod enc Tryz.prog w 0 (fun _=>true) true n 41 cs = some y):∃ (x:Inp) (s:Slc),cs = x.cells s∧InpR w x s∧InpI x:=by
 obtain ⟨xs,n',rfl,hx,hlen,hxl,hf⟩:=DataW.trod_struct Tryz.underlying41 h
 rw [j8g] at hlen
 have hxl:xs.length = 11:=hxl
 have g0:DataW.trod enc Tryz.prog w 0 (fun _=>true) true n' 23 ((cs.drop 0).take 3) = some (xs[0]'(by omega)):=fld y4y (hf 0 _ rfl) (by omega)
 obtain ⟨m0,m1,m2,e0,i0,j0,k0⟩:=k3b g0
 have g1:DataW.trod enc Tryz.prog w 0 (fun _=>true) true n' 3 ((cs.drop 3).take 1) = some (xs[1]'(by omega)):=fld z4c (hf 1 _ rfl) (by omega)
 obtain ⟨a1,e1,_,w1⟩:=DataW.trod_int Tryz.underlying3 g1;have w1:=z4e w1
 have g2:DataW.trod enc Tryz.prog w 0 (fun _=>true) true n' 9 ((cs.drop 4).take 1) = some (xs[2]'(by omega)):=fld y4p (hf 2 _ rfl) (by omega)
 obtain ⟨a2,e2,_,w2⟩:=DataW.trod_string Tryz.underlying9 g2
 have g3:DataW.trod enc Tryz.prog w 0 (fun _=>true) true n' 28 ((cs.drop 5).take 8) = some (xs[3]'(by omega)):=fld y7y (hf 3 _ rfl) (by omega)
 obtain ⟨f3,u3,e3,r3,i3⟩:=k7b g3
 have g4:DataW.trod enc Tryz.prog w 0 (fun _=>true) true n' 29 ((cs.drop 13).take 1) = some (xs[4]'(by omega)):=fld j7g (hf 4 _ rfl) (by omega)
 obtain ⟨v4,a4,e4,r4,w4⟩:=j0h g4
 have g5:DataW.trod enc Tryz.prog w 0 (fun _=>true) true n' 31 ((cs.drop 14).take 3) = some (xs[5]'(by omega)):=fld y8y (hf 5 _ rfl) (by omega)
 obtain ⟨c5,u5,e5,r5,i5,j5,k5⟩:=k8b g5
 have g6:DataW.trod enc Tryz.prog w 0 (fun _=>true) true n' 33 ((cs.drop 17).take 6) = some (xs[6]'(by omega)):=fld y9y (hf 6 _ rfl) (by omega)
 obtain ⟨p6,e6,i6,j6,k6,l6,q6,t6⟩:=j1h g6
 have g7:DataW.trod enc Tryz.prog w 0 (fun _=>true) true n' 35 ((cs.drop 23).take 3) = some (xs[7]'(by omega)):=fld y0z (hf 7 _ rfl) (by omega)
 obtain ⟨s7,e7,i7,j7⟩:=k9b g7
 have g8:DataW.trod enc Tryz.prog w 0 (fun _=>true) true n' 3 ((cs.drop 26).take 1) = some (xs[8]'(by omega)):=fld z4c (hf 8 _ rfl) (by omega)
 obtain ⟨a8,e8,_,w8⟩:=DataW.trod_int Tryz.underlying3 g8;have w8:=z4e w8
 have g9:DataW.trod enc Tryz.prog w 0 (fun _=>true) true n' 37 ((cs.drop 27).take 3) = some (xs[9]'(by omega)):=fld y1z (hf 9 _ rfl) (by omega)
 obtain ⟨q9,u9,e9,r9,i9,j9,k9⟩:=k0c g9
 have g10:DataW.trod enc Tryz.prog w 0 (fun _=>true) true n' 39 ((cs.drop 30).take 2) = some (xs[10]'(by omega)):=fld y3y (hf 10 _ rfl) (by omega)
 obtain ⟨g0,g1,e10,i10,j10⟩:=k2b g10
 have hcs:=y3f (n:=32) (pc (pc (pc (pc (pc (pc (pc (pc (pc (pc e0 e1) e2) e3) e4) e5) e6) e7) e8) e9) e10) hlen
 exact ⟨⟨m0,m1,m2,a1,a2,f3,a4,c5,p6,s7,a8,q9,g0,g1⟩,⟨u3,v4,u5,u9⟩,hcs,⟨r3,r4,r5,r9⟩,⟨i0,j0,k0,w1,w2,i3,w4,i5,j5,k5,i6,j6,k6,l6,q6,t6,i7,j7,w8,i9,j9,k9,i10,j10⟩⟩
theorem y7f {r:Reach} {b0:Nat} {v:Value} {d:DataW H} {p:List MemPlace} (hv:Value.okWide Tryz.prog w r b0 41 v) (h:DataW.Trod enc Tryz.prog w 0 (fun _=>true) true 41 v d p):∃ (x:Inp) (s:Slc),v = x.v s∧InpR w x s∧InpI x:=by
 obtain ⟨cs,rfl,hsz⟩:=okWide_struct Tryz.underlying41 hv
 obtain ⟨n,hf⟩:=h
 have hcs:(Value.agg cs).cells.toList = cs.toList:=by simp [Value.cells]
 rw [hcs] at hf
 obtain ⟨x,s,e,hr,hi⟩:=k1c hf
 have ec:=congrArg List.toArray e;rw [Array.toArray_toList] at ec;subst ec
 exact ⟨x,s,rfl,hr,hi⟩
end
end Go.Proofs.YtdblnbnofjggnaaGreatDoor
