/- Parts of the proofs of chapter 49's laws. -/
import Derived.Test.YtdblnbnofjggnaaGreatDoorP28
import Derived.Test.YtdblnbnofjggnaaGreatDoorP32
import Derived.Test.YtdblnbnofjggnaaGreatDoorP34
import Derived.Test.YtdblnbnofjggnaaGreatDoorP27
import Derived.OpenShut
set_option maxRecDepth 100000
open Option renaming some → J
open Bool renaming true → I
set_option linter.all false
namespace Go.Proofs.YtdblnbnofjggnaaGreatDoor
open Go.Proofs.Tryz
open Go.RowKit Go.ChangeShapes Go.WideShapes
theorem z6f {n:Int} (h:(Lit.int .i64 n).wf=I):I64 n:=by
 simp only [Lit.wf,Bool.and_eq_true,decide_eq_true_eq] at h
 unfold I64;simpa [IntKind.min,IntKind.max,IntKind.signed,IntKind.bits] using h
theorem pc {cs l m:List Value} {o a b:Nat} (h1:(cs.drop o).take a=l) (h2:(cs.drop (o+a)).take b=m):(cs.drop o).take (a+b)=l++m:=by
 rw [← h1,← h2,← List.drop_drop,← List.take_add]
theorem y1i {cs l:List Value} {n:Nat} (h:(cs.drop 0).take n=l) (hn:cs.length=n):cs=l:=by
 rw [List.drop_zero,List.take_of_length_le (by omega)] at h;exact h
instance:Inhabited Cut:=⟨⟨false,0,0,0,0⟩⟩
instance:Inhabited Nb:=⟨⟨0,0,none,0,0⟩⟩
theorem z3c:prog.cellsOf 3 = 1:=by kernel_rfl
theorem y3s:prog.cellsOf 9 = 1:=by kernel_rfl
theorem y4s:prog.cellsOf 4 = 1:=by kernel_rfl
theorem y2i:prog.cellsOf 24 = 1:=by kernel_rfl
theorem y3i:prog.cellsOf 26 = 2:=by kernel_rfl
theorem x0c:prog.cellsOf 39 = 2:=by kernel_rfl
theorem x1c:prog.cellsOf 23 = 3:=by kernel_rfl
theorem x2c:prog.cellsOf 88 = 5:=by kernel_rfl
theorem j4l:prog.cellsOf 46 = 1:=by kernel_rfl
theorem x3c:prog.cellsOf 48 = 3:=by kernel_rfl
theorem j5l:prog.cellsOf 29 = 1:=by kernel_rfl
theorem x4c:prog.cellsOf 28 = 8:=by kernel_rfl
theorem x5c:prog.cellsOf 31 = 3:=by kernel_rfl
theorem x6c:prog.cellsOf 33 = 6:=by kernel_rfl
theorem x7c:prog.cellsOf 35 = 3:=by kernel_rfl
theorem x8c:prog.cellsOf 37 = 3:=by kernel_rfl
theorem j6l:prog.cellsOf 41 = 32:=by kernel_rfl
section
variable {H:Type} {enc:TypeId × Value→H} {w:World}
theorem fld {t:TypeId} {c o n i:Nat} {cs:List Value} {xs:List (DataW H × List MemPlace)} (hc:prog.cellsOf t=c) (h:DataW.trod enc prog w 0 (fun _=>I) I n t ((cs.drop o).take (prog.cellsOf t))=xs[i]?) (hi:i<xs.length):DataW.trod enc prog w 0 (fun _=>I) I n t ((cs.drop o).take c)=J xs[i]:=by
 subst hc;rw [h];exact List.getElem?_eq_getElem hi
theorem y4i {n:Nat} {cs:List Value} {y:DataW H × List MemPlace} (h:DataW.trod enc prog w 0 (fun _=>I) I n 3 cs=J y):∃ a:Int,cs=nuK.cells a∧I64 a:=by
 obtain ⟨a,e0,_,w0⟩:=DataW.trod_int underlying3 h
 exact ⟨a,e0,z6f w0⟩
theorem j7l {n:Nat} {cs:List Value} {y:DataW H × List MemPlace} (h:DataW.trod enc prog w 0 (fun _=>I) I n 26 cs=J y):∃ a b:Int,cs=[.int .i64 a,.int .i64 b]∧I64 a∧I64 b:=by
 obtain ⟨xs,n',rfl,hx,hlen,hxl,hf⟩:=DataW.trod_struct underlying26 h
 rw [y3i] at hlen
 have hxl:xs.length=2:=hxl
 have g0:=fld z3c (hf 0 _ rfl) (by omega)
 obtain ⟨a0,e0,_,w0⟩:=DataW.trod_int underlying3 g0;have w0:=z6f w0
 have g1:=fld z3c (hf 1 _ rfl) (by omega)
 obtain ⟨a1,e1,_,w1⟩:=DataW.trod_int underlying3 g1;have w1:=z6f w1
 have hcs:=y1i (n:=2) (pc e0 e1) hlen
 exact ⟨a0,a1,hcs,w0,w1⟩
theorem k4g {n:Nat} {cs:List Value} {y:DataW H × List MemPlace} (h:DataW.trod enc prog w 0 (fun _=>I) I n 39 cs=J y):∃ a b:Int,cs=[.int .i64 a,.int .i64 b]∧I64 a∧I64 b:=by
 obtain ⟨xs,n',rfl,hx,hlen,hxl,hf⟩:=DataW.trod_struct underlying39 h
 rw [x0c] at hlen
 have hxl:xs.length=2:=hxl
 have g0:=fld z3c (hf 0 _ rfl) (by omega)
 obtain ⟨a0,e0,_,w0⟩:=DataW.trod_int underlying3 g0;have w0:=z6f w0
 have g1:=fld z3c (hf 1 _ rfl) (by omega)
 obtain ⟨a1,e1,_,w1⟩:=DataW.trod_int underlying3 g1;have w1:=z6f w1
 have hcs:=y1i (n:=2) (pc e0 e1) hlen
 exact ⟨a0,a1,hcs,w0,w1⟩
theorem k5g {n:Nat} {cs:List Value} {y:DataW H × List MemPlace} (h:DataW.trod enc prog w 0 (fun _=>I) I n 23 cs=J y):∃ a b c:Int,cs=[.int .i64 a,.int .i64 b,.int .i64 c]∧I64 a∧I64 b∧I64 c:=by
 obtain ⟨xs,n',rfl,hx,hlen,hxl,hf⟩:=DataW.trod_struct underlying23 h
 rw [x1c] at hlen
 have hxl:xs.length=3:=hxl
 have g0:=fld z3c (hf 0 _ rfl) (by omega)
 obtain ⟨a0,e0,_,w0⟩:=DataW.trod_int underlying3 g0;have w0:=z6f w0
 have g1:=fld z3c (hf 1 _ rfl) (by omega)
 obtain ⟨a1,e1,_,w1⟩:=DataW.trod_int underlying3 g1;have w1:=z6f w1
 have g2:=fld z3c (hf 2 _ rfl) (by omega)
 obtain ⟨a2,e2,_,w2⟩:=DataW.trod_int underlying3 g2;have w2:=z6f w2
 have hcs:=y1i (n:=3) (pc (pc e0 e1) e2) hlen
 exact ⟨a0,a1,a2,hcs,w0,w1,w2⟩
theorem k6g {n:Nat} {cs:List Value} {y:DataW H × List MemPlace} (h:DataW.trod enc prog w 0 (fun _=>I) I n 88 cs=J y):∃ c:Cut,cs=cuK.cells c∧CutI c:=by
 obtain ⟨xs,n',rfl,hx,hlen,hxl,hf⟩:=DataW.trod_struct underlying88 h
 rw [x2c] at hlen
 have hxl:xs.length=4:=hxl
 have g0:=fld y4s (hf 0 _ rfl) (by omega)
 obtain ⟨a0,e0,_⟩:=DataW.trod_bool underlying4 g0
 have g1:=fld z3c (hf 1 _ rfl) (by omega)
 obtain ⟨a1,e1,_,w1⟩:=DataW.trod_int underlying3 g1;have w1:=z6f w1
 have g2:=fld y3i (hf 2 _ rfl) (by omega)
 obtain ⟨b0,b1,e2,w2,x2⟩:=j7l g2
 have g3:=fld z3c (hf 3 _ rfl) (by omega)
 obtain ⟨a3,e3,_,w3⟩:=DataW.trod_int underlying3 g3;have w3:=z6f w3
 have hcs:=y1i (n:=5) (pc (pc (pc e0 e1) e2) e3) hlen
 exact ⟨⟨a0,a1,b0,b1,a3⟩,hcs,⟨w1,w2,x2,w3⟩⟩
theorem k7g {n:Nat} {cs:List Value} {y:DataW H × List MemPlace} (h:DataW.trod enc prog w 0 (fun _=>I) I n 48 cs=J y):∃ r:Nb,cs=ndK.cells r∧∃ t,NodR w t r∧NodI t:=by
 obtain ⟨xs,n',rfl,hx,hlen,hxl,hf⟩:=DataW.trod_struct underlying48 h
 rw [x3c] at hlen
 have hxl:xs.length=3:=hxl
 have g0:=fld z3c (hf 0 _ rfl) (by omega)
 obtain ⟨a0,e0,_,w0⟩:=DataW.trod_int underlying3 g0;have w0:=z6f w0
 have g1:=fld z3c (hf 1 _ rfl) (by omega)
 obtain ⟨a1,e1,_,w1⟩:=DataW.trod_int underlying3 g1;have w1:=z6f w1
 have g2:=fld j4l (hf 2 _ rfl) (by omega)
 obtain ⟨v2,a2,e2,r2,w2⟩:=y8z (K:=cuK) (P:=CutI) underlying46 x2c k6g g2
 have hcs:=y1i (n:=3) (pc (pc e0 e1) e2) hlen
 obtain ⟨oa,cap,rfl,_⟩:=r2.shape
 exact ⟨⟨a0,a1,oa,a2.length,cap⟩,hcs,⟨a0,a1,a2⟩,⟨rfl,rfl,r2⟩,⟨w0,w1,w2⟩⟩
theorem k8g {rl:List Nb} (h:∀ x∈rl,∃ t,NodR w t x∧NodI t):∃ l:List Nod,rl.length=l.length∧(∀ (i:Nat) (t:Nod) (x:Nb),l[i]? = J t→rl[i]? = J x→NodR w t x)∧∀ t∈l,NodI t:=by
 induction rl with
 | nil=>exact ⟨[],rfl,fun i t x h _=>by simp at h,fun t h=>by cases h⟩
 | cons x r ih =>
  obtain ⟨t,ht,hi⟩:=h x List.mem_cons_self
  obtain ⟨l,h1,h2,h3⟩:=ih (fun y hy=>h y (List.mem_cons_of_mem _ hy))
  refine ⟨t::l,by simp [h1],fun i u y hu hy=>?_,fun u hu=>?_⟩
  ·cases i with
   | zero=>simp at hu hy;subst hu hy;exact ht
   | succ i=>exact h2 i u y (by simpa using hu) (by simpa using hy)
  ·rcases List.mem_cons.1 hu with rfl|hu
   ·exact hi
   ·exact h3 u hu
theorem j8l {n:Nat} {cs:List Value} {y:DataW H × List MemPlace} (h:DataW.trod enc prog w 0 (fun _=>I) I n 29 cs=J y):∃ v l,cs=[v]∧z9j w l v∧∀ t∈l,NodI t:=by
 obtain ⟨v,rl,e,hr,hp⟩:=y8z (K:=ndK) (P:=fun r=>∃ t,NodR w t r∧NodI t) underlying29 x3c k7g h
 obtain ⟨l,h1,h2,h3⟩:=k8g hp
 exact ⟨v,l,e,⟨rl,hr,h1,h2⟩,h3⟩
theorem k9g {n:Nat} {cs:List Value} {y:DataW H × List MemPlace} (h:DataW.trod enc prog w 0 (fun _=>I) I n 28 cs=J y):∃ (f:Flt) (v:Value),cs=f.cells v∧z4g nuK w.heap.size w f.ways v∧FltI f:=by
 obtain ⟨xs,n',rfl,hx,hlen,hxl,hf⟩:=DataW.trod_struct underlying28 h
 rw [x4c] at hlen
 have hxl:xs.length=7:=hxl
 have g0:=fld z3c (hf 0 _ rfl) (by omega)
 obtain ⟨a0,e0,_,w0⟩:=DataW.trod_int underlying3 g0;have w0:=z6f w0
 have g1:=fld z3c (hf 1 _ rfl) (by omega)
 obtain ⟨a1,e1,_,w1⟩:=DataW.trod_int underlying3 g1;have w1:=z6f w1
 have g2:=fld z3c (hf 2 _ rfl) (by omega)
 obtain ⟨a2,e2,_,w2⟩:=DataW.trod_int underlying3 g2;have w2:=z6f w2
 have g3:=fld y3s (hf 3 _ rfl) (by omega)
 obtain ⟨a3,e3,_,w3⟩:=DataW.trod_string underlying9 g3
 have g4:=fld y2i (hf 4 _ rfl) (by omega)
 obtain ⟨v4,a4,e4,r4,w4⟩:=y8z (K:=nuK) (P:=I64) underlying24 z3c y4i g4
 have g5:=fld y3i (hf 5 _ rfl) (by omega)
 obtain ⟨b0,b1,e5,w5,x5⟩:=j7l g5
 have g6:=fld y4s (hf 6 _ rfl) (by omega)
 obtain ⟨a6,e6,_⟩:=DataW.trod_bool underlying4 g6
 have hcs:=y1i (n:=8) (pc (pc (pc (pc (pc (pc e0 e1) e2) e3) e4) e5) e6) hlen
 exact ⟨⟨a0,a1,a2,a3,a4,b0,b1,a6⟩,v4,hcs,r4,⟨w0,w1,w2,w5,x5,w4,w3⟩⟩
theorem k0h {n:Nat} {cs:List Value} {y:DataW H × List MemPlace} (h:DataW.trod enc prog w 0 (fun _=>I) I n 31 cs=J y):∃ (c:Chg) (v:Value),cs=c.cells v∧z4g nuK w.heap.size w c.modes v∧I64 c.frm∧I64 c.cfg∧∀ m∈c.modes,I64 m:=by
 obtain ⟨xs,n',rfl,hx,hlen,hxl,hf⟩:=DataW.trod_struct underlying31 h
 rw [x5c] at hlen
 have hxl:xs.length=3:=hxl
 have g0:=fld z3c (hf 0 _ rfl) (by omega)
 obtain ⟨a0,e0,_,w0⟩:=DataW.trod_int underlying3 g0;have w0:=z6f w0
 have g1:=fld z3c (hf 1 _ rfl) (by omega)
 obtain ⟨a1,e1,_,w1⟩:=DataW.trod_int underlying3 g1;have w1:=z6f w1
 have g2:=fld y2i (hf 2 _ rfl) (by omega)
 obtain ⟨v2,a2,e2,r2,w2⟩:=y8z (K:=nuK) (P:=I64) underlying24 z3c y4i g2
 have hcs:=y1i (n:=3) (pc (pc e0 e1) e2) hlen
 exact ⟨⟨a0,a1,a2⟩,v2,hcs,r2,w0,w1,w2⟩
theorem j9l {n:Nat} {cs:List Value} {y:DataW H × List MemPlace} (h:DataW.trod enc prog w 0 (fun _=>I) I n 33 cs=J y):∃ r:Rp,cs=r.cells∧I64 r.st∧I64 r.no∧I64 r.mi∧I64 r.ar∧r.cl.size≤maxLen∧I64 r.vo:=by
 obtain ⟨xs,n',rfl,hx,hlen,hxl,hf⟩:=DataW.trod_struct underlying33 h
 rw [x6c] at hlen
 have hxl:xs.length=6:=hxl
 have g0:=fld z3c (hf 0 _ rfl) (by omega)
 obtain ⟨a0,e0,_,w0⟩:=DataW.trod_int underlying3 g0;have w0:=z6f w0
 have g1:=fld z3c (hf 1 _ rfl) (by omega)
 obtain ⟨a1,e1,_,w1⟩:=DataW.trod_int underlying3 g1;have w1:=z6f w1
 have g2:=fld z3c (hf 2 _ rfl) (by omega)
 obtain ⟨a2,e2,_,w2⟩:=DataW.trod_int underlying3 g2;have w2:=z6f w2
 have g3:=fld z3c (hf 3 _ rfl) (by omega)
 obtain ⟨a3,e3,_,w3⟩:=DataW.trod_int underlying3 g3;have w3:=z6f w3
 have g4:=fld y3s (hf 4 _ rfl) (by omega)
 obtain ⟨a4,e4,_,w4⟩:=DataW.trod_string underlying9 g4
 have g5:=fld z3c (hf 5 _ rfl) (by omega)
 obtain ⟨a5,e5,_,w5⟩:=DataW.trod_int underlying3 g5;have w5:=z6f w5
 have hcs:=y1i (n:=6) (pc (pc (pc (pc (pc e0 e1) e2) e3) e4) e5) hlen
 exact ⟨⟨a0,a1,a2,a3,a4,a5⟩,hcs,w0,w1,w2,w3,w4,w5⟩
theorem k1h {n:Nat} {cs:List Value} {y:DataW H × List MemPlace} (h:DataW.trod enc prog w 0 (fun _=>I) I n 35 cs=J y):∃ s:Sts,cs=s.cells∧I64 s.st∧I64 s.frm:=by
 obtain ⟨xs,n',rfl,hx,hlen,hxl,hf⟩:=DataW.trod_struct underlying35 h
 rw [x7c] at hlen
 have hxl:xs.length=3:=hxl
 have g0:=fld z3c (hf 0 _ rfl) (by omega)
 obtain ⟨a0,e0,_,w0⟩:=DataW.trod_int underlying3 g0;have w0:=z6f w0
 have g1:=fld z3c (hf 1 _ rfl) (by omega)
 obtain ⟨a1,e1,_,w1⟩:=DataW.trod_int underlying3 g1;have w1:=z6f w1
 have g2:=fld y4s (hf 2 _ rfl) (by omega)
 obtain ⟨a2,e2,_⟩:=DataW.trod_bool underlying4 g2
 have hcs:=y1i (n:=3) (pc (pc e0 e1) e2) hlen
 exact ⟨⟨a0,a1,a2⟩,hcs,w0,w1⟩
theorem k2h {n:Nat} {cs:List Value} {y:DataW H × List MemPlace} (h:DataW.trod enc prog w 0 (fun _=>I) I n 37 cs=J y):∃ (s:Stn) (v:Value),cs=s.cells v∧z4g nuK w.heap.size w s.vols v∧(∀ m∈s.vols,I64 m)∧I64 s.sh∧I64 s.fa:=by
 obtain ⟨xs,n',rfl,hx,hlen,hxl,hf⟩:=DataW.trod_struct underlying37 h
 rw [x8c] at hlen
 have hxl:xs.length=3:=hxl
 have g0:=fld y2i (hf 0 _ rfl) (by omega)
 obtain ⟨v0,a0,e0,r0,w0⟩:=y8z (K:=nuK) (P:=I64) underlying24 z3c y4i g0
 have g1:=fld z3c (hf 1 _ rfl) (by omega)
 obtain ⟨a1,e1,_,w1⟩:=DataW.trod_int underlying3 g1;have w1:=z6f w1
 have g2:=fld z3c (hf 2 _ rfl) (by omega)
 obtain ⟨a2,e2,_,w2⟩:=DataW.trod_int underlying3 g2;have w2:=z6f w2
 have hcs:=y1i (n:=3) (pc (pc e0 e1) e2) hlen
 exact ⟨⟨a0,a1,a2⟩,v0,hcs,r0,w0,w1,w2⟩
theorem k3h {n:Nat} {cs:List Value} {y:DataW H × List MemPlace} (h:DataW.trod enc prog w 0 (fun _=>I) I n 41 cs=J y):∃ (x:Inp) (s:Slc),cs=x.cells s∧InpR w x s∧InpI x:=by
 obtain ⟨xs,n',rfl,hx,hlen,hxl,hf⟩:=DataW.trod_struct underlying41 h
 rw [j6l] at hlen
 have hxl:xs.length=11:=hxl
 have g0:=fld x1c (hf 0 _ rfl) (by omega)
 obtain ⟨m0,m1,m2,e0,i0,j0,k0⟩:=k5g g0
 have g1:=fld z3c (hf 1 _ rfl) (by omega)
 obtain ⟨a1,e1,_,w1⟩:=DataW.trod_int underlying3 g1;have w1:=z6f w1
 have g2:=fld y3s (hf 2 _ rfl) (by omega)
 obtain ⟨a2,e2,_,w2⟩:=DataW.trod_string underlying9 g2
 have g3:=fld x4c (hf 3 _ rfl) (by omega)
 obtain ⟨f3,u3,e3,r3,i3⟩:=k9g g3
 have g4:=fld j5l (hf 4 _ rfl) (by omega)
 obtain ⟨v4,a4,e4,r4,w4⟩:=j8l g4
 have g5:=fld x5c (hf 5 _ rfl) (by omega)
 obtain ⟨c5,u5,e5,r5,i5,j5,k5⟩:=k0h g5
 have g6:=fld x6c (hf 6 _ rfl) (by omega)
 obtain ⟨p6,e6,i6,j6,k6,l6,q6,t6⟩:=j9l g6
 have g7:=fld x7c (hf 7 _ rfl) (by omega)
 obtain ⟨s7,e7,i7,j7⟩:=k1h g7
 have g8:=fld z3c (hf 8 _ rfl) (by omega)
 obtain ⟨a8,e8,_,w8⟩:=DataW.trod_int underlying3 g8;have w8:=z6f w8
 have g9:=fld x8c (hf 9 _ rfl) (by omega)
 obtain ⟨q9,u9,e9,r9,i9,j9,k9⟩:=k2h g9
 have gN:=fld x0c (hf 10 _ rfl) (by omega)
 obtain ⟨g0,g1,e10,i10,j10⟩:=k4g gN
 have hcs:=y1i (n:=32) (pc (pc (pc (pc (pc (pc (pc (pc (pc (pc e0 e1) e2) e3) e4) e5) e6) e7) e8) e9) e10) hlen
 exact ⟨⟨m0,m1,m2,a1,a2,f3,a4,c5,p6,s7,a8,q9,g0,g1⟩,⟨u3,v4,u5,u9⟩,hcs,⟨r3,r4,r5,r9⟩,⟨i0,j0,k0,w1,w2,i3,w4,i5,j5,k5,i6,j6,k6,l6,q6,t6,i7,j7,w8,i9,j9,k9,i10,j10⟩⟩
theorem j0m {r:Reach} {b0:Nat} {v:Value} {d:DataW H} {p:List MemPlace} (hv:Value.okWide prog w r b0 41 v) (h:DataW.Trod enc prog w 0 (fun _=>I) I 41 v d p):∃ (x:Inp) (s:Slc),v=x.v s∧InpR w x s∧InpI x:=by
 obtain ⟨cs,rfl,hsz⟩:=okWide_struct underlying41 hv
 obtain ⟨n,hf⟩:=h
 have hcs:(Value.agg cs).cells.toList=cs.toList:=by simp [Value.cells]
 rw [hcs] at hf
 obtain ⟨x,s,e,hr,hi⟩:=k3h hf
 have ec:=congrArg List.toArray e;rw [Array.toArray_toList] at ec;subst ec
 exact ⟨x,s,rfl,hr,hi⟩
end
end Go.Proofs.YtdblnbnofjggnaaGreatDoor
