/- Parts of the proofs of chapter 49's laws. -/
import Derived.Test.YtdblnbnofjggnaaGreatDoorP36
import Derived.Test.YtdblnbnofjggnaaGreatDoorP24
set_option maxHeartbeats 16000000
set_option maxRecDepth 100000
open Go.Lib renaming hid → hd_
open Go.World renaming size_alloc → sA, cell?_of_block → cB
open List renaming getElem?_eq_some_iff → gS, mem_of_getElem? → mG
open Nat renaming lt_of_lt_of_le → lL, le_trans → lT
open Go.Value renaming int → J, slice → I, string → Z, bool → L, agg → QQ
open Go.IntKind renaming i64 → X
open Go.Obj renaming cells → M
open Option renaming none → G, some → R
open Bool renaming true → U, false → A
open Go renaming World → Y, Value → O, TypeId → QJ, Calls → QZ, maxLen → QX
open Go.RowKit renaming Below → F, Hid → H
set_option linter.all false
namespace Go.Proofs.YtdblnbnofjggnaaGreatDoor
open Go.Proofs.Tryz
open Go.RowKit
theorem z4n {P:Program} {md:Region.Mode} {ops:Array Oper} {Q:Exit→Act→Y→Prop} {S:Y→Prop} {late:Nat→Bool} {c:Prop} {fuel:Nat} {listed l2:Array Bool} {a a2:Act} {w:Y} {K:Act→Y→Prop} (hK:Shut (∀ a w,(c→S w)→((c→S w)→z0f P md ops Q S late fuel listed a w)→K a w)) (hS:S w) (h:S w→z0f P md ops Q S late fuel l2 a2 w)
 (hl:listed=l2:=by first|(simp only [List.setIfInBounds_toArray,List.set_cons_zero,List.set_cons_succ];exact rfl)|exact rfl) (ha:a=a2:=by first|(simp only [Act.put,List.setIfInBounds_toArray,List.set_cons_zero,List.set_cons_succ];exact rfl)|exact rfl):K a w:=by
 subst hl ha
 exact hK.out _ _ (fun _=>hS) (fun _=>h hS)
def DL (D:Nat→Prop) (B:Nat) (w:Y) (lv:O):Nat→Prop:=fun j=>(D j∨B≤j)∧j<w.heap.size∧R j≠lv.ownBlock
def z1j (D:Nat→Prop) (B:Nat) (w:Y) (lv:O) (xs:List V):Prop:=x0e 80 (DL D B w lv) w B lv xs∧∀ j,D j→j<B
theorem z1j.nil (D:Nat→Prop) (B:Nat) (w:Y) (hD:∀ j,D j→j<B):z1j D B w (I G 0 0) []:=⟨x0e.nil _ _ _ _,hD⟩
theorem z1j.keep {D:Nat→Prop} {B:Nat} {w w':Y} {lv:Value} {xs:List V} {row:Option Nat} (h:z1j D B w lv xs) (hg:w.grownBy w' row) (hr:∀ q,row=R q→q<B∧¬ D q):z1j D B w' lv xs:=by
 refine ⟨(x0e.kept h.1 hg ?_ ?_ (fun k hk=>hk.2.1)).mono (fun k hk=>⟨hk.1,lL hk.2.1 hg.size,hk.2.2⟩) (fun k hk=>hk.2.2),h.2⟩
 ·cases hq:row with
  | none=>cases ho:lv.ownBlock with
   | none=>exact .inl rfl
   | some g=>exact .inr (by simp)
  | some q=>exact .inr fun e=>by have:=(x0e.own_lt h.1 q e).1;have:=(hr q hq).1;omega
 ·intro k hk e
  obtain ⟨h1,h2⟩:=hr k e.symm
  rcases hk.1 with h|h
  ·exact h2 h
  ·omega
theorem z9a {w w':Y} (h:F w.heap.size w w'):w.grownBy w' G:=⟨h.os,h.tape,h.output,h.size,fun k hk _=>h.block k hk⟩
theorem z1j.ext {D:Nat→Prop} {B:Nat} {w w':Y} {lv:Value} {xs:List V} (h:z1j D B w lv xs) (hb:F w.heap.size w w'):z1j D B w' lv xs:=h.keep (z9a hb) (fun q e=>by cases e)
theorem z1j.alloc {D:Nat→Prop} {B:Nat} {w:Y} {lv:Value} {xs:List V} (h:z1j D B w lv xs) (o:Obj):z1j D B (w.alloc o) lv xs:=h.ext (z4b o)
theorem z1j.set {D:Nat→Prop} {B T:Nat} {w:Y} {lv:Value} {xs:List V} (h:z1j D B w lv xs) (hT:T<B) (hD:¬ D T) (i:Nat) (u:O):z1j D B (w.setCell ⟨T,i,G⟩ u) lv xs :=
 h.keep (z6b w T i u) (fun q e=>by injection e with e;subst e;exact ⟨hT,hD⟩)
theorem z1j.own {D:Nat→Prop} {B:Nat} {w:Y} {lv:Value} {xs:List V} (h:z1j D B w lv xs) (g:Nat) (hg:lv.ownBlock=R g):B≤g∧g<w.heap.size:=x0e.own_lt h.1 g hg
theorem z1j.shape {D:Nat→Prop} {B:Nat} {w:Y} {lv:Value} {xs:List V} (h:z1j D B w lv xs):∃ oa cap,lv=I oa xs.length cap:=x0e.shape h.1
theorem z1j.sl {D:Nat→Prop} {B:Nat} {w:Y} {lv:Value} {xs:List V} (h:z1j D B w lv xs):y5j (fun j=>(D j∨B≤j)∧j<w.heap.size) w xs lv :=
 x0e.sl h.1 (fun _ hk=>⟨hk.1,hk.2.1⟩) (fun g hg=>⟨.inr (h.own g hg).1,(h.own g hg).2⟩)
theorem z1j.rd {D:Nat→Prop} {B:Nat} {w:Y} {lv:Value} {xs:List V} (h:z1j D B w lv xs):x2f (fun j=>(D j∨B≤j)∧j<w.heap.size) w (lV xs) (QQ #[J X 3,J X 0,Z ⟨#[]⟩,lv]) :=
 ⟨by show I64 3;unfold I64;omega,by show I64 0;unfold I64;omega,by show (0:Nat)≤_;unfold QX;decide,_,rfl,h.sl⟩
def z0z (D:Nat→Prop) (w:Y) (x:V) (lx:O):Prop:=I64 x.kind∧I64 x.n∧x.s.size≤QX∧y5j D w x.l lx
theorem z0z.keep {D D':Nat→Prop} {w w':Y} {x:V} {lx:Value} (h:z0z D w x lx) (hB:∀ k,D k→D' k) (hs:∀ k,D k→w'.heap[k]? = w.heap[k]?):z0z D' w' x lx:=⟨h.1,h.2.1,h.2.2.1,h.2.2.2.keep hB hs⟩
theorem z0z.int (D:Nat→Prop) (w:Y) (n:Int) (h:I64 n):z0z D w (iV n) (I G 0 0):=⟨by show I64 1;unfold I64;omega,h,by show (0:Nat)≤_;unfold QX;decide,.inl ⟨rfl,_,_,rfl⟩⟩
theorem z0z.txt (D:Nat→Prop) (w:Y) (s:ByteArray) (h:s.size≤QX):z0z D w (tV s) (I G 0 0):=⟨by show I64 2;unfold I64;omega,by show I64 0;unfold I64;omega,h,.inl ⟨rfl,_,_,rfl⟩⟩
section
variable {P:Program} {w:Y} {ops:Array Oper} {rest:List Oper} {o:Oper} {a:Act} {Q:Exit→Act→Y→Prop}
theorem z9x {D:Nat→Prop} {B:Nat} {lv:Value} {xs:List V} {x:V} {lx:Value} {lv':Value} {w':Y} (hown:z1j D B w lv xs) (hsl:z0z (DL D B w lv) w x lx)
 (lvs:List O) (h2:z7u (DL D B w lv) w xs lvs) (g1:w'.ownsRow B 80 4 lv' (xs.length+1) (z8f xs lvs++(v4 x lx))) (g2:w.grownBy w' lv.ownBlock) (g3:y4j w lv lv') (hl:xs.length≤1000000):z1j D B w' lv' (xs++[x]):=by
 have hlen:=z3t xs lvs h2
 have hnew:∀ k,DL D B w lv k→R k≠lv'.ownBlock:=fun k hk he=>by
  rcases g3 with g3|g3
  ·exact hk.2.2 (he.trans g3)
  ·have:=g3 k he.symm;have:=hk.2.1;omega
 refine ⟨⟨lvs++[lx],?_,?_,by unfold QX;simp;omega,fun k hk=>hk.2.2⟩,hown.2⟩
 ·rw [z6p xs lvs x lx hlen,List.length_append];exact g1
 ·exact z5f (fun k hk=>⟨hk.1,lL hk.2.1 g2.size,hnew k hk⟩) (fun k hk=>g2.block k hk.2.1 hk.2.2) _ _ (z7p xs lvs x lx h2 hsl)
theorem k7r {t:QJ} (ht:P.underlying t=R (.slice 80)) {Bk:Nat} {x:V} {lx:Value} (ju:lx.oneCell'=U) (hc:w.cell? ⟨Bk,0,G⟩=R (J X x.kind)∧w.cell? ⟨Bk,1,G⟩=R (J X x.n)∧w.cell? ⟨Bk,2,G⟩=R (Z x.s)∧w.cell? ⟨Bk,3,G⟩=R lx) :
 Src P 4 t (I (R ⟨Bk,0,G⟩) 1 1) 1 (v4 x lx) w:=by
 refine Src.ofSlice (P:=P) w ht ⟨Bk,0,G⟩ 1 1 _ rfl (fun j u hu=>?_) (fun u hu=>?_)
 ·match j,hu with
  | 0,hu=>simp at hu;subst hu;simpa [Addr.add] using hc.1
  | 1,hu=>simp at hu;subst hu;simpa [Addr.add] using hc.2.1
  | 2,hu=>simp at hu;subst hu;simpa [Addr.add] using hc.2.2.1
  | 3,hu=>simp at hu;subst hu;simpa [Addr.add] using hc.2.2.2
 ·simp at hu;rcases hu with rfl|rfl|rfl|rfl
  ·rfl
  ·rfl
  ·rfl
  ·exact ju
theorem z1e {t:QJ} (ht:P.underlying t=R (.slice 80)) (he:(P.info? 80).map (fun i=>(i.zero,i.size,i.bytes))=R (R (QQ #[J X 0,J X 0,Z ⟨#[]⟩,I G 0 0]),4,56))
 (hgd:o.guard=G) (s y:Operand) (ho:o.op=.call { callee:=.builtin .append,args:=#[s,y],argTypes:=#[t,t] })
 (D:Nat→Prop) (B:Nat) (lv:O) (xs:List V) (hs:a.eval s=lv) (hown:z1j D B w lv xs) (Bk:Nat) (x:V) (lx:O) (hx:a.eval y=I (R ⟨Bk,0,G⟩) 1 1) (hsl:z0z (DL D B w lv) w x lx)
 (hc:w.cell? ⟨Bk,0,G⟩=R (J X x.kind)∧w.cell? ⟨Bk,1,G⟩=R (J X x.n)∧w.cell? ⟨Bk,2,G⟩=R (Z x.s)∧w.cell? ⟨Bk,3,G⟩=R lx)
 (hl:xs.length≤1000000) (hB:B≤w.heap.size)
 (h:∀ oa cap w',H (z1j D B w' (I oa (xs.length+1) cap) (xs++[x]))→H (w.grownBy w' lv.ownBlock)→wpList P ops Q rest (a.put o.dst (I oa (xs.length+1) cap)) w'):wpList P ops Q (o::rest) a w:=by
 obtain ⟨lvs,h2,h3,h4,h5⟩:=id hown.1
 refine z4e ht he rfl hgd s y ho B lv xs.length (z8f xs lvs) hs h2 _ 1 _ hx (k7r ht (y5j.one hsl.2.2.2) hc) (by unfold QX;omega) (by omega) hB fun v' w' g1 g2 g3=>?_
 have hO:=z9x hown hsl lvs h3 g1 g2 g3 hl
 obtain ⟨oa,cap,rfl⟩:=hO.shape
 rw [List.length_append] at hO ⊢
 exact h oa cap w' hO g2
theorem z2f {K:Act→Y→Prop} {E:Prop} {t:QJ} (ht:P.underlying t=R (.slice 80)) (he:(P.info? 80).map (fun i=>(i.zero,i.size,i.bytes))=R (R (QQ #[J X 0,J X 0,Z ⟨#[]⟩,I G 0 0]),4,56))
 (hgd:o.guard=G) (s y:Operand) (ho:o.op=.call { callee:=.builtin .append,args:=#[s,y],argTypes:=#[t,t] })
 (D:Nat→Prop) (B:Nat) (lv:O) (xs:List V) (hs:a.eval s=lv) (hown:z1j D B w lv xs) (Bk:Nat) (x:V) (lx:O) (hx:a.eval y=I (R ⟨Bk,0,G⟩) 1 1) (hsl:z0z (DL D B w lv) w x lx)
 (hc:w.cell? ⟨Bk,0,G⟩=R (J X x.kind)∧w.cell? ⟨Bk,1,G⟩=R (J X x.n)∧w.cell? ⟨Bk,2,G⟩=R (Z x.s)∧w.cell? ⟨Bk,3,G⟩=R lx)
 (hl:xs.length≤1000000) (hB:B≤w.heap.size)
 (h:∀ oa cap w',H (z1j D B w' (I oa (xs.length+1) cap) (xs++[x]))→H (w.grownBy w' lv.ownBlock)→K (a.put o.dst (I oa (xs.length+1) cap)) w'):if Region.wanted o (yielded ops a.tmps)=U then Oper.wp P o a w K Q else E:=by
 obtain ⟨lvs,h2,h3,h4,h5⟩:=id hown.1
 refine z8k ht he rfl hgd s y ho B lv xs.length (z8f xs lvs) hs h2 _ 1 _ hx (k7r ht (y5j.one hsl.2.2.2) hc) (by unfold QX;omega) (by omega) hB fun v' w' g1 g2 g3=>?_
 have hO:=z9x hown hsl lvs h3 g1 g2 g3 hl
 obtain ⟨oa,cap,rfl⟩:=hO.shape
 rw [List.length_append] at hO ⊢
 exact h oa cap w' hO g2
end
inductive It where
 | num (n:Int)
 | flag (b:Bool)
 | txt (s:ByteArray)
 | span (a b:Int)
 | nums (l:List Int) (v:O)
 | val (x:V) (lx:O)
def It.v:It→O
 | .num n=>.iface 3 (J X n)
 | .flag b=>.iface 4 (L b)
 | .txt s=>.iface 9 (Z s)
 | .span a b=>.iface 26 (QQ #[J X a,J X b])
 | .nums _ v=>.iface 24 v
 | .val x lx=>.iface 80 (QQ #[J X x.kind,J X x.n,Z x.s,lx])
def It.x:It→V
 | .num n=>iV n
 | .flag b=>bV b
 | .txt s=>tV s
 | .span a b=>spV a b
 | .nums l _=>nsV l
 | .val x _=>x
def It.dp:It→Nat
 | .span _ _=>1
 | _=>0
def It.ok (D:Nat→Prop) (w:Y):It→Prop
 | .num n=>I64 n
 | .flag _=>True
 | .txt s=>s.size≤QX
 | .span a b=>I64 a∧I64 b
 | .nums l v=>(∀ n∈l,I64 n)∧l.length≤1000000∧z4g nuK w.heap.size w l v
 | .val x lx=>z0z D w x lx
theorem It.ok_keep {D:Nat→Prop} {w w':Y} {t:It} (h:t.ok D w) (hb:F w.heap.size w w') (hD:∀ k,D k→k<w.heap.size):t.ok D w':=by
 cases t with
 | nums l v=>exact ⟨h.1,h.2.1,h.2.2.ext hb⟩
 | val x lx=>exact z0z.keep h (fun _ h=>h) (fun k hk=>hb.block k (hD k hk))
 | _=>exact h
def z3r (D:Nat→Prop) (w:Y) (l:List It) (v:O):Prop :=
 (∀ t∈l,t.ok D w)∧((l=[]∧v=I G 0 0)∨∃ b cap,v=I (R ⟨b,0,G⟩) l.length cap∧b<w.heap.size∧∀ j t,l[j]? = R t→w.cell? ⟨b,j,G⟩=R t.v)
theorem z3r.keep {D:Nat→Prop} {w w':Y} {l:List It} {v:Value} (h:z3r D w l v) (hb:F w.heap.size w w') (hD:∀ k,D k→k<w.heap.size):z3r D w' l v:=by
 refine ⟨fun t ht=>It.ok_keep (h.1 t ht) hb hD,?_⟩
 rcases h.2 with h|⟨b,cap,h1,h2,h3⟩
 ·exact .inl h
 ·exact .inr ⟨b,cap,h1,lL h2 hb.size,fun j t ht=>(cB (w:=w) (hb.block b h2)).trans (h3 j t ht)⟩
theorem z3r.shape {D:Nat→Prop} {w:Y} {l:List It} {v:Value} (h:z3r D w l v):∃ oa cap,v=I oa l.length cap:=by
 rcases h.2 with ⟨rfl,rfl⟩|⟨b,cap,rfl,_⟩
 ·exact ⟨_,_,rfl⟩
 ·exact ⟨_,_,rfl⟩
theorem z3r.at {D:Nat→Prop} {w:Y} {l:List It} {oa:Option Addr} {cap k:Nat} {t:It} (h:z3r D w l (I oa l.length cap)) (ht:l[k]? = R t):∃ b,oa=R ⟨b,0,G⟩∧b<w.heap.size∧w.cell? ⟨b,k,G⟩=R t.v:=by
 rcases h.2 with ⟨rfl,_⟩|⟨b,cap',he,h2,h3⟩
 ·simp at ht
 ·injection he with e1 e2 e3
  exact ⟨b,e1,h2,h3 k t ht⟩
theorem j8s {l:List It} {k:Nat} {t:It} (h:l[k]? = R t):(l.take (k+1)).map It.x=(l.take k).map It.x++[t.x]:=by
 rw [List.take_add_one,h];simp
def k6e (D:Nat→Prop) (xs:List V) (w:Y) (e:Ending) (w':Y):Prop :=
 ∃ lv,e=.returned (QQ #[J X 3,J X 0,Z ⟨#[]⟩,lv])∧z1j D w.heap.size w' lv xs∧F w.heap.size w w'
section
variable {P:Program}
theorem z8g (w:Y) (x:QJ) (t:QJ) (v:O) (d:TypeDesc) (hu:P.underlying t=R d) (hd:∀ m,d≠.interface m):(Instr.typeAssert (.iface t v) x t U).run P w=.ok (.tuple #[v,L U]) w:=by
 unfold Instr.typeAssert
 simp only [Sem.run_bind,run_underlying hu,Result.andThen_ok]
 cases d <;> first|exact absurd rfl (hd _)|(simp only [if_true];rfl)
theorem z2c (w:Y) (x:QJ) (t s:QJ) (v z:O) (d:TypeDesc) (hu:P.underlying t=R d) (hd:∀ m,d≠.interface m) (hne:¬ s=t) (hz:(zeroValue t).run P w=.ok z w):(Instr.typeAssert (.iface s v) x t U).run P w=.ok (.tuple #[z,L A]) w:=by
 unfold Instr.typeAssert
 simp only [Sem.run_bind,run_underlying hu,Result.andThen_ok]
 cases d <;> first|exact absurd rfl (hd _)|(simp only [hne,if_false,if_true,Sem.run_bind,hz,Result.andThen_ok];rfl)
end
theorem z1k {D:Nat→Prop} {w:Y} {l:List V} {lv:Value} (h:y5j D w l lv):∃ oa cap,lv=I oa l.length cap:=by
 rcases h with ⟨rfl,oa,cap,rfl⟩|⟨_,c,o,cap,rfl,_⟩
 ·exact ⟨oa,cap,rfl⟩
 ·exact ⟨_,cap,rfl⟩
theorem j3h {D:Nat→Prop} {B B':Nat} {w:Y} {lv:Value} {xs:List V} (h:z1j D B w lv xs) (hB:B'≤B) (hD:∀ j,D j→j<B'):z1j D B' w lv xs:=by
 obtain ⟨⟨lvs,h1,h2,h3,h4⟩,h5⟩:=h
 refine ⟨⟨lvs,⟨h1.1,?_⟩,z5f (fun k hk=>⟨hk.1.imp id (fun h=>lT hB h),hk.2⟩) (fun _ _=>rfl) _ _ h2,h3,fun k hk=>hk.2.2⟩,hD⟩
 rcases h1.2 with h|⟨g,cap,cur,e1,e2,e3⟩
 ·exact .inl h
 ·exact .inr ⟨g,cap,cur,e1,lT hB e2,e3⟩
theorem z8m (D:Nat→Prop) (w:Y) (l:List It) (h:∀ t∈l,t.ok D w) (hD:∀ k,D k→k<w.heap.size:=by intro k h;exact h.elim):z3r D (w.alloc (M (l.map It.v).toArray 20)) l (I (R ⟨w.heap.size,0,G⟩) l.length l.length):=by
 refine ⟨fun t ht=>It.ok_keep (h t ht) (z4b _) hD,.inr ⟨w.heap.size,l.length,rfl,by simp,fun j t ht=>?_⟩⟩
 rw [(z3a w _ _ (l.map It.v) rfl).cell j]
 simp [ht]
def Z4c:List O:=(w4 0 0 (I G 0 0))
def Z4:Obj:=.cells Z4c.toArray 80
def lvC (lv:O):List O:=(w4 3 0 lv)
theorem z4q (lv:O) (h:lv.oneCell'=U):∀ u∈lvC lv,u.oneCell'=U:=by
 intro u hu
 simp only [lvC,List.mem_cons,List.not_mem_nil,or_false] at hu
 rcases hu with rfl|rfl|rfl|rfl <;> first|rfl|exact h
theorem z0y (k n:Int) (s:ByteArray) (lv:O) (h:lv.oneCell'=U):∀ u∈[J X k,J X n,Z s,lv],u.oneCell'=U:=by
 intro u hu
 simp only [List.mem_cons,List.not_mem_nil,or_false] at hu
 rcases hu with rfl|rfl|rfl|rfl <;> first|rfl|exact h
def k8r (D:Nat→Prop) (its:List It) (w:Y) (i:O) (wr:Y):Prop :=
 ∃ (xs:List V) (lv:O),xs=(its.take xs.length).map It.x∧xs.length≤its.length∧i=J X (xs.length:Int)∧CB wr (w.heap.size+1) 80 (lvC lv)∧CB wr w.heap.size 80 Z4c∧z1j D (w.heap.size+2) wr lv xs∧F w.heap.size w wr
theorem z4j {D:Nat→Prop} {its:List It} {w w2:Y} {xs:List V} {t:It} {lv:Value} {dg:Option Addr} {dq:Nat} (ht:its[xs.length]? = R t) (hT:CB w2 (w.heap.size+1) 80 (lvC lv)) (h2:CB w2 w.heap.size 80 Z4c)
 (hO:z1j D (w.heap.size+2) w2 (I dg (xs.length+1) dq) (xs++[t.x])) (hx:xs=(its.take xs.length).map It.x) (hb:F w.heap.size w w2) (hD:∀ j,D j→j<w.heap.size) :
 k8r D its w (J X ((xs.length:Int)+1)) (w2.setCell ⟨(w.heap.size+1),3,G⟩ (I dg (xs.length+1) dq)):=by
 have hl:(xs++[t.x]).length=xs.length+1:=by simp
 have hlt:xs.length<its.length:=(gS.1 ht).1
 refine ⟨xs++[t.x],I dg (xs.length+1) dq,?_,by omega,by rw [hl];simp,hT.set 3 _,h2.far (by show w.heap.size≠w.heap.size+1;omega) _,hO.set (by omega) (fun h=>by have:=hD _ h;omega) 3 _,hb.grown (z6b w2 _ 3 _) hb.size (fun k hk=>by injection hk with hk;omega)⟩
 rw [hl,j8s ht,← hx]
theorem z1y (oa:Option Addr) (cap:Nat) (w:Y):QZ prog 36 #[I oa 0 cap] w fun e w'=>e=.returned (QQ (lvC (I G 0 0)).toArray)∧F w.heap.size w w':=by
 have h2c:CB ((w.alloc Z4).alloc Z4) w.heap.size 80 Z4c:=(z3a w Z4 _ _ rfl).alloc _
 have h3c:CB ((w.alloc Z4).alloc Z4) (w.heap.size+1) 80 Z4c:=by
  have:=z3a (w.alloc Z4) Z4 80 Z4c rfl
  rwa [sA] at this
 have Hb:=hd_ ((z4b (w:=w) Z4).alloc (z4b (w:=w) Z4).size Z4)
 have H2:=hd_ h2c;have H3:=hd_ h3c
 have HL:=hd_ (z4q (I G 0 0) rfl)
 clear h2c h3c
 go_enter func36,ntmps36
 go_upto_region 2 with (have _g:=HL.out;refine scs 80 (.tmp 3) (.tmp 16) rfl (w.heap.size+1) (lvC (I G 0 0)) rfl rfl H3.out HL.out (fun w2 aP dW fg=>?_);clear HL)
 have em:=hd_ (H2.out.keep (dW.out.block _ H2.out.lt (fun e=>by injection e with e;omega)))
 have eY:=hd_ (Hb.out.grown dW.out Hb.out.size (fun q e=>by injection e with e;omega))
 have HL:=hd_ (z4q (I G 0 0) rfl)
 clear H2 H3 Hb dW fg
 go_wp2_with fail
 go_loopw [19] (fun i wr=>i=J X 0∧wr=w2) (fun _ _=>0)
 case atStart=>exact ⟨rfl,rfl⟩
 case round =>
  obtain ⟨rfl,rfl⟩:=hrel
  go_wp2_with (first
   | (have _g:=aP.out;refine lcs 80 (.tmp 3) rfl (w.heap.size+1) (lvC (I G 0 0)) rfl aP.out underlying80 ?_;clear aP)
   | (have _g:=HL.out;refine scs 80 (.tmp 2) (.tmp 106) rfl w.heap.size (lvC (I G 0 0)) rfl rfl em.out HL.out (fun w6 cD dw iz=>?_);clear HL))
  refine bodyPost_ret (v:=QQ (lvC (I G 0 0)).toArray) (results_cell_row rfl _ _ w.heap.size 80 _ (0,0) _ rfl cD.out underlying80 rfl (by kernel_rfl)) rfl ?_
  exact ⟨rfl,eY.out.grown dw.out eY.out.size (fun k hk=>by injection hk with hk;omega)⟩
def k9r (l:List Int) (w:Y) (i:O) (wr:Y):Prop :=
 ∃ (xs:List V) (lv:O),xs=(l.take xs.length).map iV∧xs.length≤l.length∧i=J X (xs.length:Int)∧CB wr w.heap.size 80 (lvC lv)∧z1j (fun _=>False) (w.heap.size+1) wr lv xs∧F w.heap.size w wr
theorem x6v {l:List Int} {w w2:Y} {xs:List V} {n:Int} {lv:Value} {dg:Option Addr} {dq:Nat} (ht:l[xs.length]? = R n) (hT:CB w2 w.heap.size 80 (lvC lv))
 (hO:z1j (fun _=>False) (w.heap.size+1) w2 (I dg (xs.length+1) dq) (xs++[iV n])) (hx:xs=(l.take xs.length).map iV) (hb:F w.heap.size w w2) :
 k9r l w (J X ((xs.length:Int)+1)) (w2.setCell ⟨w.heap.size,3,G⟩ (I dg (xs.length+1) dq)):=by
 have hl:(xs++[iV n]).length=xs.length+1:=by simp
 have hlt:xs.length<l.length:=(gS.1 ht).1
 refine ⟨xs++[iV n],I dg (xs.length+1) dq,?_,by omega,by rw [hl];simp,hT.set 3 _,hO.set (by omega) (fun h=>h) 3 _,hb.grown (z6b w2 _ 3 _) hb.size (fun k hk=>by injection hk with hk;omega)⟩
 rw [hl,List.take_add_one,ht]
 simp [← hx]
theorem x0b (N:Nat) (IH:∀ (its:List It) (a:O) (D:Nat→Prop) (w:Y),(∀ t∈its,t.dp<N)→its.length≤1000000→z3r D w its a→(∀ j,D j→j<w.heap.size)→QZ prog 36 #[a] w (k6e D (its.map It.x) w))
 (its:List It) (a:O) (D:Nat→Prop) (w:Y) (hdp:∀ t∈its,t.dp≤N) (hlen:its.length≤1000000) (hits:z3r D w its a) (hD:∀ j,D j→j<w.heap.size):QZ prog 36 #[a] w (k6e D (its.map It.x) w):=by
 have h2c:CB ((w.alloc Z4).alloc Z4) w.heap.size 80 Z4c:=(z3a w Z4 _ _ rfl).alloc _
 have h3c:CB ((w.alloc Z4).alloc Z4) (w.heap.size+1) 80 Z4c:=by
  have:=z3a (w.alloc Z4) Z4 80 Z4c rfl
  rwa [sA] at this
 have Hb:=hd_ ((z4b (w:=w) Z4).alloc (z4b (w:=w) Z4).size Z4)
 have H2:=hd_ h2c;have H3:=hd_ h3c
 have HL:=hd_ (z4q (I G 0 0) rfl)
 obtain ⟨oi,ci,rfl⟩:=hits.shape
 have HI:=hd_ hits;have HIH:=hd_ IH;have HD:=hd_ hD;have Hdp:=hd_ hdp;have Hln:=hd_ hlen
 have l1:(its.length:Int)≤9223372036854775807:=by omega
 clear h2c h3c hits IH hD hdp hlen
 go_enter func36,ntmps36
 go_upto_region 2 with (have _g:=HL.out;refine scs 80 (.tmp 3) (.tmp 16) rfl (w.heap.size+1) (lvC (I G 0 0)) rfl rfl H3.out HL.out (fun w2 aP dW fg=>?_);clear HL)
 have em:=hd_ (H2.out.keep (dW.out.block _ H2.out.lt (fun e=>by injection e with e;omega)))
 have eY:=hd_ (Hb.out.grown dW.out Hb.out.size (fun q e=>by injection e with e;omega))
 clear H2 H3 Hb dW fg
 go_wp2_with fail
 go_loopw [19] (fun i wr=>k8r D its w i wr) (fun i _=>its.length - (intOf i).toNat)
 case atStart=>exact ⟨[],I G 0 0,rfl,by simp,rfl,aP.out,em.out,z1j.nil _ _ _ (fun j hj=>by have:=HD.out j hj;omega),eY.out⟩
 case round =>
  obtain ⟨xs,lv,hxs,hle,rfl,hT,h2,hO,hb⟩:=hrel
  obtain ⟨ol,cl,rfl⟩:=hO.shape
  have gJ:=hd_ hxs;have HT:=hd_ hT;have H2:=hd_ h2;have HO:=hd_ hO;have Hb:=hd_ hb
  have fA:H (xs.length≤1000000):=lT hle Hln.out
  clear aP em eY hT h2 hO hb
  by_cases hlt:xs.length<its.length
  case neg =>
   have hk:xs.length=its.length:=by omega
   have tj:decide ((xs.length:Int)<(its.length:Int))=A:=decide_eq_false (by omega)
   have HX:H (xs=its.map It.x):=hd_ (by rw [hxs,hk,List.take_length])
   have HL:=hd_ (z4q (I ol xs.length cl) rfl)
   clear hlt hxs hle gJ
   go_wp2_with (first
    | (have _g:=HT.out;refine lcs 80 (.tmp 3) rfl (w.heap.size+1) (lvC (I ol xs.length cl)) rfl HT.out underlying80 ?_)
    | (have _g:=HL.out;refine scs 80 (.tmp 2) (.tmp 106) rfl w.heap.size (lvC (I ol xs.length cl)) rfl rfl H2.out HL.out (fun w6 cD dw iz=>?_);clear HL))
   refine bodyPost_ret (v:=QQ (lvC (I ol xs.length cl)).toArray) (results_cell_row rfl _ _ w.heap.size 80 _ (0,0) _ rfl cD.out underlying80 rfl (by kernel_rfl)) rfl ?_
   refine ⟨_,rfl,?_,Hb.out.grown dw.out Hb.out.size (fun k hk=>by injection hk with hk;omega)⟩
   rw [← HX.out]
   have hO6:=HO.out.keep dw.out (fun q e=>by injection e with e;subst e;exact ⟨by omega,fun h=>by have:=HD.out _ h;omega⟩)
   exact j3h hO6 (by omega) (fun j hj=>by have:=HD.out _ hj;omega)
  case pos =>
   obtain ⟨t,ht⟩:∃ t,its[xs.length]? = R t:=⟨_,List.getElem?_eq_getElem hlt⟩
   obtain ⟨bi,rfl,hbi,hci⟩:=HI.out.at ht
   have aW:=HI.out.1 t (mG ht)
   have hdt:=Hdp.out t (mG ht)
   have c0:wr.cell? ⟨bi,xs.length,G⟩=R t.v:=(cB (w:=w) (Hb.out.block bi hbi)).trans hci
   have tj:decide ((xs.length:Int)<(its.length:Int))=U:=decide_eq_true (by omega)
   have eu:decide (xs.length<its.length)=U:=decide_eq_true hlt
   have Ht:=hd_ ht;have dc:=hd_ aW;have Hdt:=hd_ hdt;have aN:=hd_ hlt
   have e0:=HT.out.cv 3 (I ol xs.length cl)
   have ef:=HT.out.frozen 3
   clear ht aW hdt hxs hci hbi
   cases t with
   | num n =>
    simp only [It.v] at c0
    have qy:∀ (v:O) (W:Y),(Instr.typeAssert (.iface 3 v) 20 3 U).run prog W=.ok (.tuple #[v,L U]) W:=fun v W=>z8g W _ _ v _ underlying3 (fun m h=>by cases h)
    have aF:H (CB (wr.alloc (M [J X 1,J X n,Z ⟨#[]⟩,I G 0 0].toArray 80)) wr.heap.size 80 [J X 1,J X n,Z ⟨#[]⟩,I G 0 0]):=z3a wr _ _ _ rfl
    have dj:=hd_ (HT.out.alloc (M [J X 1,J X n,Z ⟨#[]⟩,I G 0 0].toArray 80));have dH:=hd_ (H2.out.alloc (M [J X 1,J X n,Z ⟨#[]⟩,I G 0 0].toArray 80));have bz:=hd_ (HO.out.alloc (M [J X 1,J X n,Z ⟨#[]⟩,I G 0 0].toArray 80));have cV:=hd_ (z0a Hb.out (z4b (w:=wr) (M [J X 1,J X n,Z ⟨#[]⟩,I G 0 0].toArray 80)))
    go_wp2_with (refine z1e underlying78 z8j rfl (.tmp 28) (.tmp 31) rfl D (w.heap.size+2) (I ol xs.length cl) xs rfl ?q1 wr.heap.size (iV n) (I G 0 0) rfl ?q2 ?q3 ?q4 ?q5 ?_;(case q1=>exact bz.out);(case q2=>exact z0z.int _ _ n dc.out);(case q3=>(refine ⟨?_,?_,?_,?_⟩ <;> first|exact aF.out.cell 0|exact aF.out.cell 1|exact aF.out.cell 2|exact aF.out.cell 3));(case q4=>(have:=fA.out;omega));(case q5=>(have:=cV.out.size;have:=dj.out.lt;omega));intro dg dq w2 dr al;have en:=hd_ (dj.out.keep (al.out.block _ dj.out.lt (fun e=>by have:=(bz.out.own _ e.symm).1;omega)));have em:=hd_ (dH.out.keep (al.out.block _ dH.out.lt (fun e=>by have:=(bz.out.own _ e.symm).1;omega)));have eY:=hd_ (cV.out.grown al.out cV.out.size (fun q e=>by have:=(bz.out.own q e).1;omega));have y3:=en.out.cv 3 (I ol xs.length cl);have yf:=en.out.frozen 3;clear al dj dH bz cV aF)
    go_roundw
    case rel=>exact z4j Ht.out en.out em.out dr.out gJ.out eY.out HD.out
    case measure=>(simp [intOf];have:=aN.out;omega)
   | txt s =>
    simp only [It.v] at c0
    have qnint:∀ (v:O) (W:Y),(Instr.typeAssert (.iface 9 v) 20 3 U).run prog W=.ok (.tuple #[J X 0,L A]) W:=fun v W=>z2c W _ _ _ v _ _ underlying3 (fun m h=>by cases h) (by decide) (by kernel_rfl)
    have qnbool:∀ (v:O) (W:Y),(Instr.typeAssert (.iface 9 v) 20 4 U).run prog W=.ok (.tuple #[L A,L A]) W:=fun v W=>z2c W _ _ _ v _ _ underlying4 (fun m h=>by cases h) (by decide) (by kernel_rfl)
    have qy:∀ (v:O) (W:Y),(Instr.typeAssert (.iface 9 v) 20 9 U).run prog W=.ok (.tuple #[v,L U]) W:=fun v W=>z8g W _ _ v _ underlying9 (fun m h=>by cases h)
    have aF:H (CB (wr.alloc (M [J X 2,J X 0,Z s,I G 0 0].toArray 80)) wr.heap.size 80 [J X 2,J X 0,Z s,I G 0 0]):=z3a wr _ _ _ rfl
    have dj:=hd_ (HT.out.alloc (M [J X 2,J X 0,Z s,I G 0 0].toArray 80));have dH:=hd_ (H2.out.alloc (M [J X 2,J X 0,Z s,I G 0 0].toArray 80));have bz:=hd_ (HO.out.alloc (M [J X 2,J X 0,Z s,I G 0 0].toArray 80));have cV:=hd_ (z0a Hb.out (z4b (w:=wr) (M [J X 2,J X 0,Z s,I G 0 0].toArray 80)))
    go_wp2_with (refine z1e underlying78 z8j rfl (.tmp 50) (.tmp 53) rfl D (w.heap.size+2) (I ol xs.length cl) xs rfl ?q1 wr.heap.size (tV s) (I G 0 0) rfl ?q2 ?q3 ?q4 ?q5 ?_;(case q1=>exact bz.out);(case q2=>exact z0z.txt _ _ s dc.out);(case q3=>(refine ⟨?_,?_,?_,?_⟩ <;> first|exact aF.out.cell 0|exact aF.out.cell 1|exact aF.out.cell 2|exact aF.out.cell 3));(case q4=>(have:=fA.out;omega));(case q5=>(have:=cV.out.size;have:=dj.out.lt;omega));intro dg dq w2 dr al;have en:=hd_ (dj.out.keep (al.out.block _ dj.out.lt (fun e=>by have:=(bz.out.own _ e.symm).1;omega)));have em:=hd_ (dH.out.keep (al.out.block _ dH.out.lt (fun e=>by have:=(bz.out.own _ e.symm).1;omega)));have eY:=hd_ (cV.out.grown al.out cV.out.size (fun q e=>by have:=(bz.out.own q e).1;omega));have y3:=en.out.cv 3 (I ol xs.length cl);have yf:=en.out.frozen 3;clear al dj dH bz cV aF)
    go_roundw
    case rel=>exact z4j Ht.out en.out em.out dr.out gJ.out eY.out HD.out
    case measure=>(simp [intOf];have:=aN.out;omega)
   | flag bb =>
    simp only [It.v] at c0
    have qnint:∀ (v:O) (W:Y),(Instr.typeAssert (.iface 4 v) 20 3 U).run prog W=.ok (.tuple #[J X 0,L A]) W:=fun v W=>z2c W _ _ _ v _ _ underlying3 (fun m h=>by cases h) (by decide) (by kernel_rfl)
    have qy:∀ (v:O) (W:Y),(Instr.typeAssert (.iface 4 v) 20 4 U).run prog W=.ok (.tuple #[v,L U]) W:=fun v W=>z8g W _ _ v _ underlying4 (fun m h=>by cases h)
    have H8:H (CB (wr.alloc Z4) wr.heap.size 80 Z4c):=z3a wr _ _ _ rfl
    have kx:=hd_ (z0y 1 0 ⟨#[]⟩ (I G 0 0) rfl)
    have hgT:H (w.heap.size+1<wr.heap.size):=HT.out.lt
    have Hnew8:H ((I ol xs.length cl).ownBlock≠R wr.heap.size):=fun e=>by have:=(HO.out.own _ e).2;omega
    clear e0 ef
    go_upto_region 12 with (have _g:=kx.out;refine scs 80 (.tmp 8) (.tmp 37) rfl wr.heap.size [J X 1,J X 0,Z ⟨#[]⟩,I G 0 0] rfl rfl H8.out kx.out (fun w3 aI ex dM=>?_);clear kx)
    have hz:H (F wr.heap.size wr w3):=(z4b (w:=wr) Z4).grown ex.out (by simp) (fun q e=>by injection e with e;omega)
    clear ex dM H8
    cases bb with
    | false =>
     go_upto_region 14 with fail
     have jb:=aI
     generalize w3=w4 at *
     replace HT:=hd_ (HT.out.ext hz.out);replace H2:=hd_ (H2.out.ext hz.out);replace HO:=hd_ (HO.out.ext hz.out);replace Hb:=hd_ (z0a Hb.out hz.out)
     clear hz
     generalize wr.heap.size=g8 at *
     have e0:=HT.out.cv 3 (I ol xs.length cl)
     have aF:H (CB (w4.alloc (M [J X 1,J X 0,Z ⟨#[]⟩,I G 0 0].toArray 80)) w4.heap.size 80 [J X 1,J X 0,Z ⟨#[]⟩,I G 0 0]):=z3a w4 _ _ _ rfl
     have dj:=hd_ (HT.out.alloc (M [J X 1,J X 0,Z ⟨#[]⟩,I G 0 0].toArray 80));have dH:=hd_ (H2.out.alloc (M [J X 1,J X 0,Z ⟨#[]⟩,I G 0 0].toArray 80));have bz:=hd_ (HO.out.alloc (M [J X 1,J X 0,Z ⟨#[]⟩,I G 0 0].toArray 80));have cV:=hd_ (z0a Hb.out (z4b (w:=w4) (M [J X 1,J X 0,Z ⟨#[]⟩,I G 0 0].toArray 80)))
     go_wp2_with (first
      | (have _g:=jb.out;refine lcs 80 (.tmp 8) rfl g8 [J X 1,J X 0,Z ⟨#[]⟩,I G 0 0] rfl jb.out underlying80 ?_;clear jb)
      | (refine z1e underlying78 z8j rfl (.tmp 41) (.tmp 43) rfl D (w.heap.size+2) (I ol xs.length cl) xs rfl ?q1 w4.heap.size (iV 0) (I G 0 0) rfl ?q2 ?q3 ?q4 ?q5 ?_;(case q1=>exact bz.out);(case q2=>exact z0z.int _ _ 0 (by unfold I64;omega));(case q3=>(refine ⟨?_,?_,?_,?_⟩ <;> first|exact aF.out.cell 0|exact aF.out.cell 1|exact aF.out.cell 2|exact aF.out.cell 3));(case q4=>(have:=fA.out;omega));(case q5=>(have:=cV.out.size;have:=dj.out.lt;omega));intro dg dq w2 dr al;have en:=hd_ (dj.out.keep (al.out.block _ dj.out.lt (fun e=>by have:=(bz.out.own _ e.symm).1;omega)));have em:=hd_ (dH.out.keep (al.out.block _ dH.out.lt (fun e=>by have:=(bz.out.own _ e.symm).1;omega)));have eY:=hd_ (cV.out.grown al.out cV.out.size (fun q e=>by have:=(bz.out.own q e).1;omega));have y3:=en.out.cv 3 (I ol xs.length cl);have yf:=en.out.frozen 3;clear al dj dH bz cV aF))
     go_roundw
     case rel=>exact z4j Ht.out en.out em.out dr.out gJ.out eY.out HD.out
     case measure=>(simp [intOf];have:=aN.out;omega)
    | true =>
     have z1:=aI.out.cv 1 (J X 0)
     have zf:=aI.out.frozen 1
     go_upto_region 14 with fail
     have jb:H (CB (w3.setCell ⟨wr.heap.size,1,G⟩ (J X 1)) wr.heap.size 80 [J X 1,J X 1,Z ⟨#[]⟩,I G 0 0]):=aI.out.set 1 _
     replace hz:=hd_ (hz.out.grown (z6b w3 wr.heap.size 1 (J X 1)) hz.out.size (fun q e=>by injection e with e;omega))
     clear z1 zf aI
     generalize w3.setCell ⟨wr.heap.size,1,G⟩ (J X 1)=w4 at *
     replace HT:=hd_ (HT.out.ext hz.out);replace H2:=hd_ (H2.out.ext hz.out);replace HO:=hd_ (HO.out.ext hz.out);replace Hb:=hd_ (z0a Hb.out hz.out)
     clear hz
     generalize wr.heap.size=g8 at *
     have e0:=HT.out.cv 3 (I ol xs.length cl)
     have aF:H (CB (w4.alloc (M [J X 1,J X 1,Z ⟨#[]⟩,I G 0 0].toArray 80)) w4.heap.size 80 [J X 1,J X 1,Z ⟨#[]⟩,I G 0 0]):=z3a w4 _ _ _ rfl
     have dj:=hd_ (HT.out.alloc (M [J X 1,J X 1,Z ⟨#[]⟩,I G 0 0].toArray 80));have dH:=hd_ (H2.out.alloc (M [J X 1,J X 1,Z ⟨#[]⟩,I G 0 0].toArray 80));have bz:=hd_ (HO.out.alloc (M [J X 1,J X 1,Z ⟨#[]⟩,I G 0 0].toArray 80));have cV:=hd_ (z0a Hb.out (z4b (w:=w4) (M [J X 1,J X 1,Z ⟨#[]⟩,I G 0 0].toArray 80)))
     go_wp2_with (first
      | (have _g:=jb.out;refine lcs 80 (.tmp 8) rfl g8 [J X 1,J X 1,Z ⟨#[]⟩,I G 0 0] rfl jb.out underlying80 ?_;clear jb)
      | (refine z1e underlying78 z8j rfl (.tmp 41) (.tmp 43) rfl D (w.heap.size+2) (I ol xs.length cl) xs rfl ?q1 w4.heap.size (iV 1) (I G 0 0) rfl ?q2 ?q3 ?q4 ?q5 ?_;(case q1=>exact bz.out);(case q2=>exact z0z.int _ _ 1 (by unfold I64;omega));(case q3=>(refine ⟨?_,?_,?_,?_⟩ <;> first|exact aF.out.cell 0|exact aF.out.cell 1|exact aF.out.cell 2|exact aF.out.cell 3));(case q4=>(have:=fA.out;omega));(case q5=>(have:=cV.out.size;have:=dj.out.lt;omega));intro dg dq w2 dr al;have en:=hd_ (dj.out.keep (al.out.block _ dj.out.lt (fun e=>by have:=(bz.out.own _ e.symm).1;omega)));have em:=hd_ (dH.out.keep (al.out.block _ dH.out.lt (fun e=>by have:=(bz.out.own _ e.symm).1;omega)));have eY:=hd_ (cV.out.grown al.out cV.out.size (fun q e=>by have:=(bz.out.own q e).1;omega));have y3:=en.out.cv 3 (I ol xs.length cl);have yf:=en.out.frozen 3;clear al dj dH bz cV aF))
     go_roundw
     case rel=>exact z4j Ht.out en.out em.out dr.out gJ.out eY.out HD.out
     case measure=>(simp [intOf];have:=aN.out;omega)
   | val x lx =>
    simp only [It.v] at c0
    have qnint:∀ (v:O) (W:Y),(Instr.typeAssert (.iface 80 v) 20 3 U).run prog W=.ok (.tuple #[J X 0,L A]) W:=fun v W=>z2c W _ _ _ v _ _ underlying3 (fun m h=>by cases h) (by decide) (by kernel_rfl)
    have qnbool:∀ (v:O) (W:Y),(Instr.typeAssert (.iface 80 v) 20 4 U).run prog W=.ok (.tuple #[L A,L A]) W:=fun v W=>z2c W _ _ _ v _ _ underlying4 (fun m h=>by cases h) (by decide) (by kernel_rfl)
    have qnstring:∀ (v:O) (W:Y),(Instr.typeAssert (.iface 80 v) 20 9 U).run prog W=.ok (.tuple #[Z ⟨#[]⟩,L A]) W:=fun v W=>z2c W _ _ _ v _ _ underlying9 (fun m h=>by cases h) (by decide) (by kernel_rfl)
    have qnspan:∀ (v:O) (W:Y),(Instr.typeAssert (.iface 80 v) 20 26 U).run prog W=.ok (.tuple #[QQ #[J X 0,J X 0],L A]) W:=fun v W=>z2c W _ _ _ v _ _ underlying26 (fun m h=>by cases h) (by decide) (by kernel_rfl)
    have qnints:∀ (v:O) (W:Y),(Instr.typeAssert (.iface 80 v) 20 24 U).run prog W=.ok (.tuple #[I G 0 0,L A]) W:=fun v W=>z2c W _ _ _ v _ _ underlying24 (fun m h=>by cases h) (by decide) (by kernel_rfl)
    have qy:∀ (v:O) (W:Y),(Instr.typeAssert (.iface 80 v) 20 80 U).run prog W=.ok (.tuple #[v,L U]) W:=fun v W=>z8g W _ _ v _ underlying80 (fun m h=>by cases h)
    have hlf:∃ oa cap,lx=I oa x.l.length cap:=z1k dc.out.2.2.2
    obtain ⟨oax,cpx,rfl⟩:=hlf
    have H8:H (CB (wr.alloc Z4) wr.heap.size 80 Z4c):=z3a wr _ _ _ rfl
    have kx:=hd_ (z0y x.kind x.n x.s (I oax x.l.length cpx) rfl)
    have hgT:H (w.heap.size+1<wr.heap.size):=HT.out.lt
    have Hnew8:H ((I ol xs.length cl).ownBlock≠R wr.heap.size):=fun e=>by have:=(HO.out.own _ e).2;omega
    clear e0 ef
    go_upto_region 32 with (have _g:=kx.out;refine scs 80 (.tmp 15) (.tmp 98) rfl wr.heap.size [J X x.kind,J X x.n,Z x.s,I oax x.l.length cpx] rfl rfl H8.out kx.out (fun w3 aI ex dM=>?_);clear kx)
    have hz:H (F wr.heap.size wr w3):=(z4b (w:=wr) Z4).grown ex.out (by simp) (fun q e=>by injection e with e;omega)
    clear ex dM H8
    have jb:=aI
    generalize w3=w4 at *
    replace HT:=hd_ (HT.out.ext hz.out);replace H2:=hd_ (H2.out.ext hz.out);replace HO:=hd_ (HO.out.ext hz.out);replace Hb:=hd_ (z0a Hb.out hz.out)
    clear hz
    generalize wr.heap.size=g8 at *
    have e0:=HT.out.cv 3 (I ol xs.length cl)
    have aF:H (CB (w4.alloc (M [J X x.kind,J X x.n,Z x.s,I oax x.l.length cpx].toArray 80)) w4.heap.size 80 [J X x.kind,J X x.n,Z x.s,I oax x.l.length cpx]):=z3a w4 _ _ _ rfl
    have dj:=hd_ (HT.out.alloc (M [J X x.kind,J X x.n,Z x.s,I oax x.l.length cpx].toArray 80));have dH:=hd_ (H2.out.alloc (M [J X x.kind,J X x.n,Z x.s,I oax x.l.length cpx].toArray 80));have bz:=hd_ (HO.out.alloc (M [J X x.kind,J X x.n,Z x.s,I oax x.l.length cpx].toArray 80));have cV:=hd_ (z0a Hb.out (z4b (w:=w4) (M [J X x.kind,J X x.n,Z x.s,I oax x.l.length cpx].toArray 80)))
    have fO:H (z0z (DL D (w.heap.size+2) (w4.alloc (M [J X x.kind,J X x.n,Z x.s,I oax x.l.length cpx].toArray 80)) (I ol xs.length cl)) (w4.alloc (M [J X x.kind,J X x.n,Z x.s,I oax x.l.length cpx].toArray 80)) x (I oax x.l.length cpx)):=z0z.keep dc.out (fun k hk=>⟨.inl hk,by have:=HD.out k hk;have:=cV.out.size;omega,fun e=>by have:=(bz.out.own _ e.symm).1;have:=HD.out k hk;omega⟩) (fun k hk=>cV.out.block k (HD.out k hk))
    go_wp2_with (first
     | (have _g:=jb.out;refine lcs 80 (.tmp 15) rfl g8 [J X x.kind,J X x.n,Z x.s,I oax x.l.length cpx] rfl jb.out underlying80 ?_;clear jb)
     | (refine z1e underlying78 z8j rfl (.tmp 100) (.tmp 102) rfl D (w.heap.size+2) (I ol xs.length cl) xs rfl ?q1 w4.heap.size (x) (I oax x.l.length cpx) rfl ?q2 ?q3 ?q4 ?q5 ?_;(case q1=>exact bz.out);(case q2=>exact fO.out);(case q3=>(refine ⟨?_,?_,?_,?_⟩ <;> first|exact aF.out.cell 0|exact aF.out.cell 1|exact aF.out.cell 2|exact aF.out.cell 3));(case q4=>(have:=fA.out;omega));(case q5=>(have:=cV.out.size;have:=dj.out.lt;omega));intro dg dq w2 dr al;have en:=hd_ (dj.out.keep (al.out.block _ dj.out.lt (fun e=>by have:=(bz.out.own _ e.symm).1;omega)));have em:=hd_ (dH.out.keep (al.out.block _ dH.out.lt (fun e=>by have:=(bz.out.own _ e.symm).1;omega)));have eY:=hd_ (cV.out.grown al.out cV.out.size (fun q e=>by have:=(bz.out.own q e).1;omega));have y3:=en.out.cv 3 (I ol xs.length cl);have yf:=en.out.frozen 3;clear al dj dH bz cV aF))
    go_roundw
    case rel=>exact z4j Ht.out en.out em.out dr.out gJ.out eY.out HD.out
    case measure=>(simp [intOf];have:=aN.out;omega)
   | span a b =>
    simp only [It.v] at c0
    have qnint:∀ (v:O) (W:Y),(Instr.typeAssert (.iface 26 v) 20 3 U).run prog W=.ok (.tuple #[J X 0,L A]) W:=fun v W=>z2c W _ _ _ v _ _ underlying3 (fun m h=>by cases h) (by decide) (by kernel_rfl)
    have qnbool:∀ (v:O) (W:Y),(Instr.typeAssert (.iface 26 v) 20 4 U).run prog W=.ok (.tuple #[L A,L A]) W:=fun v W=>z2c W _ _ _ v _ _ underlying4 (fun m h=>by cases h) (by decide) (by kernel_rfl)
    have qnstring:∀ (v:O) (W:Y),(Instr.typeAssert (.iface 26 v) 20 9 U).run prog W=.ok (.tuple #[Z ⟨#[]⟩,L A]) W:=fun v W=>z2c W _ _ _ v _ _ underlying9 (fun m h=>by cases h) (by decide) (by kernel_rfl)
    have qy:∀ (v:O) (W:Y),(Instr.typeAssert (.iface 26 v) 20 26 U).run prog W=.ok (.tuple #[v,L U]) W:=fun v W=>z8g W _ _ v _ underlying26 (fun m h=>by cases h)
    have H8:H (CB (wr.alloc (M [J X 0,J X 0].toArray 26)) wr.heap.size 26 [J X 0,J X 0]):=z3a wr _ _ _ rfl
    have kx:H (∀ u∈([J X a,J X b]:List O),u.oneCell'=U):=hd_ (z8y rfl)
    have hgT:H (w.heap.size+1<wr.heap.size):=HT.out.lt
    have Hnew8:H ((I ol xs.length cl).ownBlock≠R wr.heap.size):=fun e=>by have:=(HO.out.own _ e).2;omega
    clear e0 ef
    go_upto_region 20 with (have _g:=kx.out;refine scs 26 (.tmp 10) (.tmp 58) rfl wr.heap.size [J X a,J X b] rfl rfl H8.out kx.out (fun w3 aI ex dM=>?_);clear kx)
    have hz:H (F wr.heap.size wr w3):=(z4b (w:=wr) (M [J X 0,J X 0].toArray 26)).grown ex.out (by simp) (fun q e=>by injection e with e;omega)
    clear ex dM H8
    replace HT:=hd_ (HT.out.ext hz.out);replace H2:=hd_ (H2.out.ext hz.out);replace HO:=hd_ (HO.out.ext hz.out);replace Hb:=hd_ (z0a Hb.out hz.out)
    clear hz
    have bg:=hgT
    generalize wr.heap.size=g8 at *
    refine z7a (S:=fun w'=>w'.cell? ⟨(w.heap.size+1),3,G⟩=R (I ol xs.length cl)∧w'.cell? ⟨g8,0,G⟩=R (J X a)∧w'.cell? ⟨g8,1,G⟩=R (J X b)) (late:=fun j=>j == 13) (by kernel_rfl) ⟨HT.out.cell 3,aI.out.cell 0,aI.out.cell 1⟩ (fun hHeld=>?_)
    have aQ:=(Below.refl w3.heap.size w3).drew
    replace HT:=hd_ (HT.out.ext aQ);replace H2:=hd_ (H2.out.ext aQ);replace HO:=hd_ (HO.out.ext aQ);replace Hb:=hd_ (z0a Hb.out aQ);replace aI:=hd_ (aI.out.ext aQ)
    clear aQ
    generalize w3.drew=w4 at *
    refine tkL 59 0 ?_
    refine tkL 60 1 ?_
    refine tkL 61 2 ?_
    refine tkL 62 3 ?_
    refine tkL 63 4 ?_
    refine tkL 64 5 ?_
    refine tkL 65 6 ?_
    refine tkL 66 7 ?_
    refine rdL 8 fun K hK=>?_
    go_simp
    have hz:F w4.heap.size w4 (w4.alloc (M [It.v (.num a),It.v (.num b)].toArray 20)):=z4b _
    have oh:H (z3r (fun _=>False) (w4.alloc (M [It.v (.num a),It.v (.num b)].toArray 20)) [.num a,.num b] (I (R ⟨w4.heap.size,0,G⟩) 2 2)):=hd_ (z8m (fun _=>False) w4 [.num a,.num b] (fun t ht=>by simp only [List.mem_cons,List.not_mem_nil,or_false] at ht;rcases ht with rfl|rfl <;> first|exact dc.out.1|exact dc.out.2))
    change K _ (w4.alloc (M [It.v (.num a),It.v (.num b)].toArray 20))
    replace HT:=hd_ (HT.out.ext hz);replace H2:=hd_ (H2.out.ext hz);replace HO:=hd_ (HO.out.ext hz);replace Hb:=hd_ (z0a Hb.out hz);replace aI:=hd_ (aI.out.ext hz)
    clear hz
    generalize w4.alloc (M [It.v (.num a),It.v (.num b)].toArray 20)=w5 at *
    refine z4n hK ⟨HT.out.cell 3,aI.out.cell 0,aI.out.cell 1⟩ fun hHeld=>?_
    clear hK K
    refine rdL 9 fun K hK=>?_
    go_simp
    go_at_call 36
    refine (HIH.out [.num a,.num b] _ (fun _=>False) w5 (fun t ht=>by simp only [List.mem_cons,List.not_mem_nil,or_false] at ht;have hd:=Hdt.out;simp only [It.dp] at hd;rcases ht with rfl|rfl <;> (show 0<N;omega)) (by simp) oh.out (fun j h=>h.elim)).mono ?_
    rintro e w7 ⟨dY,rfl,cI,ag⟩
    obtain ⟨o7,c7,rfl⟩:=cI.shape
    have iA:=hd_ cI
    have H57:H (w5.heap.size≤w7.heap.size):=ag.size
    have iB:=hd_ (fun g (e:(I ol xs.length cl).ownBlock=R g)=>(HO.out.own g e).2)
    have jc:H (w.heap.size+2≤w5.heap.size):=HT.out.lt
    replace HT:=hd_ (HT.out.ext ag);replace H2:=hd_ (H2.out.ext ag);replace HO:=hd_ (HO.out.ext ag);replace Hb:=hd_ (z0a Hb.out ag);replace aI:=hd_ (aI.out.ext ag)
    clear cI ag
    refine z4n hK ⟨HT.out.cell 3,aI.out.cell 0,aI.out.cell 1⟩ fun hHeld=>?_
    clear hK K
    refine rdL 10 fun K hK=>?_
    go_simp
    have aF:H (CB (w7.alloc (M [J X 3,J X 0,Z ⟨#[]⟩,I o7 2 c7].toArray 80)) w7.heap.size 80 [J X 3,J X 0,Z ⟨#[]⟩,I o7 2 c7]):=z3a w7 _ _ _ rfl
    have dj:=hd_ (HT.out.alloc (M [J X 3,J X 0,Z ⟨#[]⟩,I o7 2 c7].toArray 80));have dH:=hd_ (H2.out.alloc (M [J X 3,J X 0,Z ⟨#[]⟩,I o7 2 c7].toArray 80));have bz:=hd_ (HO.out.alloc (M [J X 3,J X 0,Z ⟨#[]⟩,I o7 2 c7].toArray 80));have cV:=hd_ (z0a Hb.out (z4b (w:=w7) (M [J X 3,J X 0,Z ⟨#[]⟩,I o7 2 c7].toArray 80)))
    change K _ (w7.alloc (M [J X 3,J X 0,Z ⟨#[]⟩,I o7 2 c7].toArray 80))
    have fO:H (z0z (DL D (w.heap.size+2) (w7.alloc (M [J X 3,J X 0,Z ⟨#[]⟩,I o7 2 c7].toArray 80)) (I ol xs.length cl)) (w7.alloc (M [J X 3,J X 0,Z ⟨#[]⟩,I o7 2 c7].toArray 80)) (spV a b) (I o7 2 c7)):=z0z.keep (D:=fun j=>(False∨w5.heap.size≤j)∧j<w7.heap.size) (w:=w7) ⟨by show I64 3;unfold I64;omega,by show I64 0;unfold I64;omega,by show (0:Nat)≤_;unfold QX;decide,iA.out.sl⟩ (fun k hk=>⟨.inr (by have:=jc.out;have:=hk.1.resolve_left id;omega),by have:=hk.2;rw [sA];omega,fun e=>by have:=iB.out k e.symm;have:=hk.1.resolve_left id;omega⟩) (fun k hk=>Below.heap_alloc w7 _ k hk.2)
    have ky:H (w7.heap.size<(w7.alloc (M [J X 3,J X 0,Z ⟨#[]⟩,I o7 2 c7].toArray 80)).heap.size):=aF.out.lt
    clear HT H2 HO Hb
    have fP:=hd_ (aI.out.alloc (M [J X 3,J X 0,Z ⟨#[]⟩,I o7 2 c7].toArray 80))
    generalize w7.alloc (M [J X 3,J X 0,Z ⟨#[]⟩,I o7 2 c7].toArray 80)=w8 at *
    generalize w7.heap.size=gk at *
    refine z4n hK ⟨dj.out.cell 3,fP.out.cell 0,fP.out.cell 1⟩ fun hHeld=>?_
    clear hK K
    refine rdL 11 fun K hK=>?_
    refine z2f underlying78 z8j rfl (.tmp 60) (.tmp 69) rfl D (w.heap.size+2) (I ol xs.length cl) xs rfl ?q1 gk (spV a b) (I o7 2 c7) rfl ?q2 ?q3 ?q4 ?q5 ?_
    case q1=>exact bz.out
    case q2=>exact fO.out
    case q3=>(refine ⟨?_,?_,?_,?_⟩ <;> first|exact aF.out.cell 0|exact aF.out.cell 1|exact aF.out.cell 2|exact aF.out.cell 3)
    case q4=>(have:=fA.out;omega)
    case q5=>(have:=cV.out.size;have:=dj.out.lt;omega)
    intro dg dq w2 dr al
    have en:=hd_ (dj.out.keep (al.out.block _ dj.out.lt (fun e=>by have:=(bz.out.own _ e.symm).1;omega)))
    have em:=hd_ (dH.out.keep (al.out.block _ dH.out.lt (fun e=>by have:=(bz.out.own _ e.symm).1;omega)))
    have eY:=hd_ (cV.out.grown al.out cV.out.size (fun q e=>by have:=(bz.out.own q e).1;omega))
    have HC10:=hd_ (fP.out.keep (al.out.block _ fP.out.lt (fun e=>Hnew8.out e.symm)))
    have y3:=en.out.cv 3 (I ol xs.length cl)
    have yf:=en.out.frozen 3
    clear al dj dH bz cV aF
    refine hK.out (Act.put _ (R 70) _) w2 (fun _=>⟨y3,HC10.out.cell 0,HC10.out.cell 1⟩) (fun ae=>?_)
    clear hK K
    have hHeld:=ae (by rfl)
    clear ae
    try simp only [Act.put,List.setIfInBounds_toArray,List.set_cons_zero,List.set_cons_succ]
    refine tkL 71 12 ?_
    refine rdL 13 fun K hK=>?_
    go_simp
    refine hK.out _ _ (fun h=>absurd h (by decide)) (fun ae=>?_)
    clear hK K
    try simp only [Act.put,List.setIfInBounds_toArray,List.set_cons_zero,List.set_cons_succ]
    refine z3b (by kernel_rfl) ?_ _
    go_wp2_with fail
    go_roundw
    case rel=>exact z4j Ht.out en.out em.out dr.out gJ.out eY.out HD.out
    case measure=>(simp [intOf];have:=aN.out;omega)
   | nums l vn =>
    simp only [It.v] at c0
    obtain ⟨hno1,hno2,hno3⟩:=dc.out
    obtain ⟨on,cn,rfl,lnn⟩:=hno3.shape
    have ey:=hd_ hno1;have fZ:=hd_ hno2;have iC:=hd_ hno3
    have l2:(l.length:Int)≤9223372036854775807:=by omega
    clear hno1 hno2 hno3
    have qnint:∀ (v:O) (W:Y),(Instr.typeAssert (.iface 24 v) 20 3 U).run prog W=.ok (.tuple #[J X 0,L A]) W:=fun v W=>z2c W _ _ _ v _ _ underlying3 (fun m h=>by cases h) (by decide) (by kernel_rfl)
    have qnbool:∀ (v:O) (W:Y),(Instr.typeAssert (.iface 24 v) 20 4 U).run prog W=.ok (.tuple #[L A,L A]) W:=fun v W=>z2c W _ _ _ v _ _ underlying4 (fun m h=>by cases h) (by decide) (by kernel_rfl)
    have qnstring:∀ (v:O) (W:Y),(Instr.typeAssert (.iface 24 v) 20 9 U).run prog W=.ok (.tuple #[Z ⟨#[]⟩,L A]) W:=fun v W=>z2c W _ _ _ v _ _ underlying9 (fun m h=>by cases h) (by decide) (by kernel_rfl)
    have qnspan:∀ (v:O) (W:Y),(Instr.typeAssert (.iface 24 v) 20 26 U).run prog W=.ok (.tuple #[QQ #[J X 0,J X 0],L A]) W:=fun v W=>z2c W _ _ _ v _ _ underlying26 (fun m h=>by cases h) (by decide) (by kernel_rfl)
    have qy:∀ (v:O) (W:Y),(Instr.typeAssert (.iface 24 v) 20 24 U).run prog W=.ok (.tuple #[v,L U]) W:=fun v W=>z8g W _ _ v _ underlying24 (fun m h=>by cases h)
    clear e0 ef
    go_upto_region 23 with fail
    have oo:=hd_ (z4q (I G 0 0) rfl)
    go_upto_region 24 with (first
    | (go_at_call 36;refine (z1y _ _ _).mono ?_;(rintro e w5 ⟨rfl,bp⟩;have bZ:=hd_ bp;have gK:H (CB (w5.alloc Z4) w5.heap.size 80 Z4c):=z3a w5 Z4 _ _ rfl;clear bp))
    | (have _g:=oo.out;refine scs 80 (.tmp 12) (.tmp 75) rfl w5.heap.size (lvC (I G 0 0)) rfl rfl gK.out oo.out (fun w6 HC12 dw iz=>?_);clear oo))
    have kM:H (F w5.heap.size w5 w6):=(z4b (w:=w5) Z4).grown dw.out (by simp) (fun q e=>by injection e with e;omega)
    have hbw:H (w.heap.size+2≤w5.heap.size):=lT HT.out.lt bZ.out.size
    have hbw5:=z0a Hb.out bZ.out
    replace HT:=hd_ (HT.out.ext bZ.out);replace H2:=hd_ (H2.out.ext bZ.out);replace HO:=hd_ (HO.out.ext bZ.out);replace Hb:=hd_ hbw5
    have oB:H (z4g nuK w5.heap.size w5 l (I on l.length cn)):=iC.out.ext hbw5
    clear hbw5 dw iz gK bZ iC c0
    go_wp2_with fail
    go_loopw [78] (fun i wq=>k9r l w5 i wq) (fun i _=>l.length - (intOf i).toNat)
    case atStart=>exact ⟨[],I G 0 0,rfl,by simp,rfl,HC12.out,z1j.nil _ _ _ (fun j hj=>hj.elim),kM.out⟩
    case round =>
     obtain ⟨ms,lv2,hms,hmle,rfl,hT2,dr,aj⟩:=hrel
     obtain ⟨o2,c2,rfl⟩:=dr.shape
     have mQ:=hd_ hms;have gK:=hd_ hT2;have dh:=hd_ dr;have au:=hd_ aj
     clear hT2 dr aj HC12 kM hms
     by_cases hml:ms.length<l.length
     case pos =>
      obtain ⟨n,hn⟩:∃ n,l[ms.length]? = R n:=⟨_,List.getElem?_eq_getElem hml⟩
      have Hn:=hd_ hn
      have hni:H (I64 n):=ey.out n (mG hn)
      obtain ⟨nb,no,hon,_,hat⟩:=(oB.out.ext au.out).at (k:=ms.length) hml
      have hcn:wr.cell? ⟨nb,no+ms.length,G⟩=R (J X n):=by have:=hat ms.length n hn 0 _ rfl;simpa [nuK] using this
      subst hon
      clear hat hn
      have tj:decide ((ms.length:Int)<(l.length:Int))=U:=decide_eq_true (by omega)
      have eu:decide (ms.length<l.length)=U:=decide_eq_true hml
      have e0:=gK.out.cv 3 (I o2 ms.length c2)
      have aF:H (CB (wr.alloc (M [J X 1,J X n,Z ⟨#[]⟩,I G 0 0].toArray 80)) wr.heap.size 80 [J X 1,J X n,Z ⟨#[]⟩,I G 0 0]):=z3a wr _ _ _ rfl
      have dj:=hd_ (gK.out.alloc (M [J X 1,J X n,Z ⟨#[]⟩,I G 0 0].toArray 80));have bz:=hd_ (dh.out.alloc (M [J X 1,J X n,Z ⟨#[]⟩,I G 0 0].toArray 80));have cV:=hd_ (z0a au.out (z4b (w:=wr) (M [J X 1,J X n,Z ⟨#[]⟩,I G 0 0].toArray 80)))
      clear dh au
      go_wp2_with (refine z1e underlying78 z8j rfl (.tmp 83) (.tmp 86) rfl (fun _=>False) (w5.heap.size+1) (I o2 ms.length c2) ms rfl ?q1 wr.heap.size (iV n) (I G 0 0) rfl ?q2 ?q3 ?q4 ?q5 ?_;(case q1=>exact bz.out);(case q2=>exact z0z.int _ _ n hni.out);(case q3=>(refine ⟨?_,?_,?_,?_⟩ <;> first|exact aF.out.cell 0|exact aF.out.cell 1|exact aF.out.cell 2|exact aF.out.cell 3));(case q4=>(have:=fZ.out;omega));(case q5=>(have:=dj.out.lt;omega));intro dg dq w7 cI io;have HT7:=hd_ (dj.out.keep (io.out.block _ dj.out.lt (fun e=>by have:=(bz.out.own _ e.symm).1;omega)));have oC:=hd_ (cV.out.grown io.out cV.out.size (fun q e=>by have:=(bz.out.own q e).1;omega));have y3:=HT7.out.cv 3 (I o2 ms.length c2);have yf:=HT7.out.frozen 3;clear io dj bz cV aF gK)
      go_roundw
      case rel=>exact x6v Hn.out HT7.out cI.out mQ.out oC.out
      case measure=>(simp [intOf];omega)
     case neg =>
      have tj:decide ((ms.length:Int)<(l.length:Int))=A:=decide_eq_false (by omega)
      have hmx:H (ms=l.map iV):=hd_ (by have h:=mQ.out;have hk:ms.length=l.length:=(by omega);rw [hk,List.take_length] at h;exact h)
      replace HT:=hd_ (HT.out.ext au.out);replace H2:=hd_ (H2.out.ext au.out)
      have iB:=hd_ (fun g (e:(I ol xs.length cl).ownBlock=R g)=>(HO.out.own g e).2)
      have jc:H (w.heap.size+2≤w5.heap.size):=hbw.out
      replace HO:=hd_ (HO.out.ext au.out);replace Hb:=hd_ (z0a Hb.out au.out)
      have e0:=HT.out.cv 3 (I ol xs.length cl)
      have aF:H (CB (wr.alloc (M [J X 3,J X 0,Z ⟨#[]⟩,I o2 ms.length c2].toArray 80)) wr.heap.size 80 [J X 3,J X 0,Z ⟨#[]⟩,I o2 ms.length c2]):=z3a wr _ _ _ rfl
      have dj:=hd_ (HT.out.alloc (M [J X 3,J X 0,Z ⟨#[]⟩,I o2 ms.length c2].toArray 80));have dH:=hd_ (H2.out.alloc (M [J X 3,J X 0,Z ⟨#[]⟩,I o2 ms.length c2].toArray 80));have bz:=hd_ (HO.out.alloc (M [J X 3,J X 0,Z ⟨#[]⟩,I o2 ms.length c2].toArray 80));have cV:=hd_ (z0a Hb.out (z4b (w:=wr) (M [J X 3,J X 0,Z ⟨#[]⟩,I o2 ms.length c2].toArray 80)))
      have fO:H (z0z (DL D (w.heap.size+2) (wr.alloc (M [J X 3,J X 0,Z ⟨#[]⟩,I o2 ms.length c2].toArray 80)) (I ol xs.length cl)) (wr.alloc (M [J X 3,J X 0,Z ⟨#[]⟩,I o2 ms.length c2].toArray 80)) (nsV l) (I o2 ms.length c2)):=z0z.keep (D:=fun j=>(False∨w5.heap.size+1≤j)∧j<wr.heap.size) (w:=wr) ⟨by show I64 3;unfold I64;omega,by show I64 0;unfold I64;omega,by show (0:Nat)≤_;unfold QX;decide,by show y5j _ _ (l.map iV) _;rw [← hmx.out];exact dh.out.sl⟩ (fun k hk=>⟨.inr (by have:=jc.out;have:=hk.1.resolve_left id;omega),by have:=hk.2;rw [sA];omega,fun e=>by have:=iB.out k e.symm;have:=hk.1.resolve_left id;omega⟩) (fun k hk=>Below.heap_alloc wr _ k hk.2)
      go_wp2_with (first
       | (have _g:=gK.out;refine lcs 80 (.tmp 12) rfl w5.heap.size [J X 3,J X 0,Z ⟨#[]⟩,I o2 ms.length c2] rfl gK.out underlying80 ?_;clear gK)
       | (refine z1e underlying78 z8j rfl (.tmp 91) (.tmp 93) rfl D (w.heap.size+2) (I ol xs.length cl) xs rfl ?q1 wr.heap.size (nsV l) (I o2 ms.length c2) rfl ?q2 ?q3 ?q4 ?q5 ?_;(case q1=>exact bz.out);(case q2=>exact fO.out);(case q3=>(refine ⟨?_,?_,?_,?_⟩ <;> first|exact aF.out.cell 0|exact aF.out.cell 1|exact aF.out.cell 2|exact aF.out.cell 3));(case q4=>(have:=fA.out;omega));(case q5=>(have:=cV.out.size;have:=dj.out.lt;omega));intro dg dq w2 dr al;have en:=hd_ (dj.out.keep (al.out.block _ dj.out.lt (fun e=>by have:=(bz.out.own _ e.symm).1;omega)));have em:=hd_ (dH.out.keep (al.out.block _ dH.out.lt (fun e=>by have:=(bz.out.own _ e.symm).1;omega)));have eY:=hd_ (cV.out.grown al.out cV.out.size (fun q e=>by have:=(bz.out.own q e).1;omega));have y3:=en.out.cv 3 (I ol xs.length cl);have yf:=en.out.frozen 3;clear al dj dH bz cV aF))
      go_roundw
      case rel=>exact z4j Ht.out en.out em.out dr.out gJ.out eY.out HD.out
      case measure=>(simp [intOf];have:=aN.out;omega)
theorem z6j (its:List It) (a:O) (D:Nat→Prop) (w:Y) (hlen:its.length≤1000000) (hits:z3r D w its a) (hD:∀ j,D j→j<w.heap.size):QZ prog 36 #[a] w (k6e D (its.map It.x) w) :=
 x0b 1 (fun its a D w h=>x0b 0 (fun its a D w h hl hi hd=>by
  cases its with
  | nil =>
   obtain ⟨oa,cap,rfl⟩:=hi.shape
   exact (z1y oa cap w).mono fun e w' h=>⟨_,h.1,z1j.nil _ _ _ hd,h.2⟩
  | cons t r=>exact absurd (h t List.mem_cons_self) (by omega)) its a D w (fun t ht=>by have:=h t ht;omega)) its a D w (fun t _=>by cases t <;> simp [It.dp]) hlen hits hD
def DB (B:Nat) (w:Y):Nat→Prop:=fun j=>(False∨B≤j)∧j<w.heap.size
theorem DB.mono {B:Nat} {w w':Y} (hb:F w.heap.size w w'):∀ k,DB B w k→DB B w' k:=fun _ h=>⟨h.1,lL h.2 hb.size⟩
theorem It.ok_keepD {D D':Nat→Prop} {w w':Y} {t:It} (h:t.ok D w) (hb:F w.heap.size w w') (hD:∀ k,D k→k<w.heap.size) (hB:∀ k,D k→D' k):t.ok D' w':=by
 cases t with
 | nums l v=>exact ⟨h.1,h.2.1,h.2.2.ext hb⟩
 | val x lx=>exact z0z.keep h hB (fun k hk=>hb.block k (hD k hk))
 | _=>exact h
theorem z3r.keepD {D D':Nat→Prop} {w w':Y} {l:List It} {v:Value} (h:z3r D w l v) (hb:F w.heap.size w w') (hD:∀ k,D k→k<w.heap.size) (hB:∀ k,D k→D' k):z3r D' w' l v:=by
 refine ⟨fun t ht=>It.ok_keepD (h.1 t ht) hb hD hB,?_⟩
 rcases h.2 with h|⟨b,cap,h1,h2,h3⟩
 ·exact .inl h
 ·exact .inr ⟨b,cap,h1,lL h2 hb.size,fun j t ht=>(cB (w:=w) (hb.block b h2)).trans (h3 j t ht)⟩
inductive GK where
 | eq (u:O)
 | its (l:List It)
 | val (x:V)
 | ifv (x:V)
 | itx (xs:List V)
 | own (xs:List V)
 | vals (xs:List V)
 | ints (l:List Int)
 | owns (xs:List V)
 | one (x:V)
def GK.p (B o:Nat):GK:=.eq (.pointer (R ⟨B,o,G⟩))
def GK.i (n:Int):GK:=.eq (J X n)
def GK.f (n:Int):GK:=.eq (.iface 3 (J X n))
def GK.ok (B:Nat) (v:O) (w:Y):GK→Prop
 | .eq u=>v=u
 | .its l=>z3r (fun _=>False) w l v
 | .val x=>∃ lx,v=QQ #[J X x.kind,J X x.n,Z x.s,lx]∧z0z (DB B w) w x lx
 | .ifv x=>∃ lx,v=.iface 80 (QQ #[J X x.kind,J X x.n,Z x.s,lx])∧z0z (DB B w) w x lx
 | .itx xs=>∃ its,its.map It.x=xs∧z3r (DB B w) w its v
 | .own xs=>∃ lv,v=QQ (lvC lv).toArray∧z1j (fun _=>False) B w lv xs
 | .vals xs=>y5j (DB B w) w xs v
 | .ints l=>z4g nuK w.heap.size w l v
 | .owns xs=>z1j (fun _=>False) B w v xs
 | .one x=>∃ Bk lx,v=I (R ⟨Bk,0,G⟩) 1 1∧Bk<w.heap.size∧(w.cell? ⟨Bk,0,G⟩=R (J X x.kind)∧w.cell? ⟨Bk,1,G⟩=R (J X x.n)∧w.cell? ⟨Bk,2,G⟩=R (Z x.s)∧w.cell? ⟨Bk,3,G⟩=R lx)∧z0z (DB B w) w x lx
theorem GK.keep {B:Nat} {v:Value} {w w':Y} {g:GK} (h:g.ok B v w) (hb:F w.heap.size w w'):g.ok B v w':=by
 cases g with
 | eq u=>exact h
 | its l=>exact z3r.keep h hb (fun k hk=>hk.elim)
 | val x=>obtain ⟨lx,h1,h2⟩:=h;exact ⟨lx,h1,z0z.keep h2 (DB.mono hb) (fun k hk=>hb.block k hk.2)⟩
 | ifv x=>obtain ⟨lx,h1,h2⟩:=h;exact ⟨lx,h1,z0z.keep h2 (DB.mono hb) (fun k hk=>hb.block k hk.2)⟩
 | itx xs=>obtain ⟨its,h1,h2⟩:=h;exact ⟨its,h1,h2.keepD hb (fun k hk=>hk.2) (DB.mono hb)⟩
 | own xs=>obtain ⟨lv,h1,h2⟩:=h;exact ⟨lv,h1,h2.ext hb⟩
 | vals xs=>exact y5j.keep h (DB.mono hb) (fun k hk=>hb.block k hk.2)
 | ints l=>exact z4g.ext h hb
 | owns xs=>exact z1j.ext h hb
 | one x =>
  obtain ⟨Bk,lx,h1,h2,⟨c0,c1,c2,c3⟩,h4⟩:=h
  have hc:∀ o,w'.cell? ⟨Bk,o,G⟩=w.cell? ⟨Bk,o,G⟩:=fun o=>cB (w:=w) (hb.block Bk h2)
  exact ⟨Bk,lx,h1,lL h2 hb.size,⟨(hc 0).trans c0,(hc 1).trans c1,(hc 2).trans c2,(hc 3).trans c3⟩,z0z.keep h4 (DB.mono hb) (fun k hk=>hb.block k hk.2)⟩
def GT (B:Nat) (tab:List GK) (k:Nat) (v:O) (w:Y):Prop:=match tab[k]? with|some g=>g.ok B v w|none=>True
theorem GT.keep {B:Nat} {tab:List GK} {k:Nat} {v:Value} {w w':Y} (h:GT B tab k v w) (hb:F w.heap.size w w'):GT B tab k v w':=by
 unfold GT at *
 cases hk:tab[k]? with
 | none=>trivial
 | some g=>rw [hk] at h;exact GK.keep h hb
theorem GT.mk {B:Nat} {tab:List GK} {k:Nat} {v:Value} {w:Y} {g:GK} (h:tab[k]? = R g) (hg:g.ok B v w):GT B tab k v w:=by
 unfold GT;rw [h];exact hg
theorem GT.out {B:Nat} {tab:List GK} {k:Nat} {v:Value} {w:Y} {g:GK} (h:tab[k]? = R g) (hg:GT B tab k v w):g.ok B v w:=by
 unfold GT at hg;rw [h] at hg;exact hg
theorem z1i {B:Nat} {w:Y} (xs:List V) (lxs:List O) (hB:B≤w.heap.size) (h:z7u (DB B w) w xs lxs) (hl:xs.length≤QX) :
 z1j (fun _=>False) B (w.alloc (M (z8f xs lxs).toArray 80)) (I (R ⟨w.heap.size,0,G⟩) xs.length xs.length) xs:=by
 have hlen:=z3t xs lxs h
 refine ⟨⟨lxs,⟨z2t xs lxs hlen,.inr ⟨w.heap.size,xs.length,_,rfl,hB,z3a w _ _ _ rfl,Nat.le_refl _,hl,by rw [List.size_toArray];exact z2t xs lxs hlen,by
  show List.take (xs.length * 4) (z8f xs lxs)=_
  exact List.take_of_length_le (by rw [z2t xs lxs hlen];exact Nat.le_refl _)⟩⟩,?_,hl,fun k hk=>hk.2.2⟩,fun j h=>h.elim⟩
 refine z5f (fun k hk=>⟨hk.1,by rw [sA];have:=hk.2;omega,fun e=>?_⟩) (fun k hk=>Below.heap_alloc w _ k hk.2) _ _ h
 have:=hk.2
 have e2:k=w.heap.size:=Option.some.inj e
 omega
theorem j4h {B:Nat} {w:Y} (x:V) (lx:O) (h:z0z (DB B w) w x lx):(GK.one x).ok B (I (R ⟨w.heap.size,0,G⟩) 1 1) (w.alloc (M (v4 x lx).toArray 80)):=by
 have hc:=z3a w (M (v4 x lx).toArray 80) _ _ rfl
 exact ⟨w.heap.size,lx,rfl,hc.lt,⟨hc.cell 0,hc.cell 1,hc.cell 2,hc.cell 3⟩,z0z.keep h (DB.mono (z4b _)) (fun k hk=>Below.heap_alloc w _ k hk.2)⟩
theorem z2p {D:Nat→Prop} {B B':Nat} {w:Y} {lv:Value} {xs:List V} (h:z1j D B w lv xs) (hB:B'≤B) (hD:∀ j,D j→B'≤j):z1j (fun _=>False) B' w lv xs:=by
 obtain ⟨⟨lvs,h1,h2,h3,h4⟩,h5⟩:=h
 refine ⟨⟨lvs,⟨h1.1,?_⟩,z5f (fun k hk=>⟨.inr (hk.1.elim (hD k) (lT hB)),hk.2⟩) (fun _ _=>rfl) _ _ h2,h3,fun k hk=>hk.2.2⟩,fun j h=>h.elim⟩
 rcases h1.2 with h|⟨g,cap,cur,e1,e2,e3⟩
 ·exact .inl h
 ·exact .inr ⟨g,cap,cur,e1,lT hB e2,e3⟩
theorem x7v {D:Nat→Prop} {B0 B:Nat} {w:Y} {lv:Value} {xs:List V} (h:z1j D B w lv xs) (hB:B0≤B) (hD:∀ j,D j→B0≤j):z0z (DB B0 w) w (lV xs) lv :=
 ⟨by show I64 3;unfold I64;omega,by show I64 0;unfold I64;omega,by show (0:Nat)≤_;unfold QX;decide,h.sl.keep (fun k hk=>⟨.inr (hk.1.elim (hD k) (lT hB)),hk.2⟩) (fun _ _=>rfl)⟩
theorem x1z {B:Nat} {w:Y} {lv:Value} {xs:List V} (h:z1j (fun _=>False) B w lv xs):z0z (DB B w) w (lV xs) lv:=x7v h (Nat.le_refl _) (fun _j h=>h.elim)
section
variable {P:Program} {md:Region.Mode} {ops:Array Oper} {Q:Exit→Act→Y→Prop} {S:Y→Prop} {late:Nat→Bool}
def k3x (P:Program) (md:Region.Mode) (ops:Array Oper) (Q:Exit→Act→Y→Prop) (S:Y→Prop) (ps:List (Nat × Nat)) (B:Nat) (tab:List GK) (a0:Act) (i:Nat):Prop :=
 ∀ o,ops[i]? = R o→∀ a w,(∀ d,(ps.all fun p=>!(p.2 == d))=U→a.tmps[d]? = a0.tmps[d]?)→S w→(∀ k d,ps.contains (k,d)=U→z1m md ops i k=U→∃ v,a.tmps[d]? = R v∧GT B tab k v w) →
  ∀ K':Act→Y→Prop,Shut (∀ v w',GT B tab i v w'→F w.heap.size w w'→K' (a.put o.dst v) w')→if Region.wanted o (yielded ops a.tmps)=U then Oper.wp P o a w K' Q else K' (a.put o.dst undef) w
theorem k3x.mk {ps:List (Nat × Nat)} {B:Nat} {tab:List GK} {a0:Act} {i:Nat} {o:Oper} (ho:ops[i]? = R o)
 (h:∀ a w,(∀ d,(ps.all fun p=>!(p.2 == d))=U→a.tmps[d]? = a0.tmps[d]?)→S w→(∀ k d,ps.contains (k,d)=U→z1m md ops i k=U→∃ v,a.tmps[d]? = R v∧GT B tab k v w) →
 ∀ K':Act→Y→Prop,Shut (∀ v w',GT B tab i v w'→F w.heap.size w w'→K' (a.put o.dst v) w')→if Region.wanted o (yielded ops a.tmps)=U then Oper.wp P o a w K' Q else K' (a.put o.dst undef) w):k3x P md ops Q S ps B tab a0 i:=fun o' mw=>by
 rw [ho] at mw
 cases mw
 exact h
def x8p (P:Program) (md:Region.Mode) (ops:Array Oper) (Q:Exit→Act→Y→Prop) (S:Y→Prop) (ps:List (Nat × Nat)) (B:Nat) (tab:List GK) (a0:Act):List Nat→Prop
 | []=>True
 | i::r=>k3x P md ops Q S ps B tab a0 i∧x8p P md ops Q S ps B tab a0 r
theorem x8p.cons {ps:List (Nat × Nat)} {B:Nat} {tab:List GK} {a0:Act} {i:Nat} {r:List Nat} (h:k3x P md ops Q S ps B tab a0 i) (hr:x8p P md ops Q S ps B tab a0 r):x8p P md ops Q S ps B tab a0 (i::r):=⟨h,hr⟩
theorem x8p.all {ps:List (Nat × Nat)} {B:Nat} {tab:List GK} {a0:Act}:∀ {l:List Nat},x8p P md ops Q S ps B tab a0 l→∀ i∈l,k3x P md ops Q S ps B tab a0 i
 | [],_,_,h=>by cases h
 | j::r,h,i,hi=>by
  rcases List.mem_cons.1 hi with rfl|hi
  ·exact h.1
  ·exact x8p.all h.2 i hi
theorem ocO {ps:List (Nat × Nat)} {B:Nat} {tab:List GK} {a0:Act} {i:Nat} {o:Oper} {r:List Nat}
 (h:∀ a w,(∀ d,(ps.all fun p=>!(p.2 == d))=U→a.tmps[d]? = a0.tmps[d]?)→S w→(∀ k d,ps.contains (k,d)=U→z1m md ops i k=U→∃ v,a.tmps[d]? = R v∧GT B tab k v w) →
 ∀ K':Act→Y→Prop,Shut (∀ v w',GT B tab i v w'→F w.heap.size w w'→K' (a.put o.dst v) w')→if Region.wanted o (yielded ops a.tmps)=U then Oper.wp P o a w K' Q else K' (a.put o.dst undef) w) (hr:x8p P md ops Q S ps B tab a0 r) (ho:ops[i]? = R o:=by exact rfl):x8p P md ops Q S ps B tab a0 (i::r):=⟨k3x.mk ho h,hr⟩
theorem dpO {ps:List (Nat × Nat)} {B:Nat} {tab:List GK} {i:Nat} {a:Act} {w:Y} {u:Value} (hd:∀ k d,ps.contains (k,d)=U→z1m md ops i k=U→∃ v,a.tmps[d]? = R v∧GT B tab k v w) (k d:Nat)
 (h1:ps.contains (k,d)=U:=by kernel_rfl) (h2:z1m md ops i k=U:=by kernel_rfl) (hg:tab[k]? = R (.eq u):=by exact rfl):a.tmps[d]? = R u:=by
 obtain ⟨v,e,q⟩:=hd k d h1 h2
 have q:=GT.out hg q
 replace q:v=u:=q
 rw [e,q]
theorem dgO {ps:List (Nat × Nat)} {B:Nat} {tab:List GK} {i:Nat} {a:Act} {w:Y} {g:GK} (hd:∀ k d,ps.contains (k,d)=U→z1m md ops i k=U→∃ v,a.tmps[d]? = R v∧GT B tab k v w) (k d:Nat)
 (h1:ps.contains (k,d)=U:=by kernel_rfl) (h2:z1m md ops i k=U:=by kernel_rfl) (hg:tab[k]? = R g:=by exact rfl):∃ v,a.tmps[d]? = R v∧g.ok B v w:=by
 obtain ⟨v,e,q⟩:=hd k d h1 h2
 exact ⟨v,e,GT.out hg q⟩
theorem daO {ps:List (Nat × Nat)} {a a0:Act} {v:Value} (ha:∀ d,(ps.all fun p=>!(p.2 == d))=U→a.tmps[d]? = a0.tmps[d]?) (d:Nat) (h1:(ps.all fun p=>!(p.2 == d))=U:=by kernel_rfl) (h2:a0.tmps[d]? = R v:=by exact rfl):a.tmps[d]? = R v:=(ha d h1).trans h2
theorem gqO {B:Nat} {tab:List GK} {i:Nat} {a:Act} {w:Y} {v:Value} {d:Option Tmp} {K':Act→Y→Prop} (hK:Shut (∀ v w',GT B tab i v w'→F w.heap.size w w'→K' (a.put d v) w')) (hg:tab[i]? = R (.eq v):=by exact rfl):K' (a.put d v) w:=hK.out _ _ (GT.mk hg rfl) (Below.refl _ _)
theorem oc0 {ps:List (Nat × Nat)} {B:Nat} {tab:List GK} {a0:Act} {i:Nat} {o:Oper} {r:List Nat} {u:Value} (d:Nat) (hr:x8p P md ops Q S ps B tab a0 r) (ho:ops[i]? = R o:=by exact rfl) (h1:(ps.all fun p=>!(p.2 == d))=U:=by kernel_rfl) (h2:a0.tmps[d]? = R u:=by exact rfl)
 (h:∀ a w,a.tmps[d]? = R u→S w→∀ K':Act→Y→Prop,Shut (∀ v w',GT B tab i v w'→F w.heap.size w w'→K' (a.put o.dst v) w')→if Region.wanted o (yielded ops a.tmps)=U then Oper.wp P o a w K' Q else K' (a.put o.dst undef) w:=by intro a w e0 hs K hK;go_simp;exact gqO hK):x8p P md ops Q S ps B tab a0 (i::r) :=
 ⟨k3x.mk ho fun a w ha hs _=>h a w (daO ha d h1 h2) hs,hr⟩
theorem oc1 {ps:List (Nat × Nat)} {B:Nat} {tab:List GK} {a0:Act} {i:Nat} {o:Oper} {r:List Nat} {u:Value} (k d:Nat) (hr:x8p P md ops Q S ps B tab a0 r) (ho:ops[i]? = R o:=by exact rfl) (h1:ps.contains (k,d)=U:=by kernel_rfl) (h2:z1m md ops i k=U:=by kernel_rfl) (hg:tab[k]? = R (.eq u):=by exact rfl)
 (h:∀ a w,a.tmps[d]? = R u→S w→∀ K':Act→Y→Prop,Shut (∀ v w',GT B tab i v w'→F w.heap.size w w'→K' (a.put o.dst v) w')→if Region.wanted o (yielded ops a.tmps)=U then Oper.wp P o a w K' Q else K' (a.put o.dst undef) w:=by intro a w e0 hs K hK;go_simp;exact gqO hK):x8p P md ops Q S ps B tab a0 (i::r) :=
 ⟨k3x.mk ho fun a w _ hs hd=>h a w (dpO hd k d h1 h2 hg) hs,hr⟩
theorem z2i {ps:List (Nat × Nat)} {B:Nat} {tab:List GK} {a0:Act} {i:Nat} {o:Oper} {r:List Nat} {u:Value} {C:Y→Prop} (k d:Nat) (hc:∀ w,S w→C w) (hr:x8p P md ops Q S ps B tab a0 r) (ho:ops[i]? = R o:=by exact rfl) (h1:ps.contains (k,d)=U:=by kernel_rfl) (h2:z1m md ops i k=U:=by kernel_rfl) (hg:tab[k]? = R (.eq u):=by exact rfl)
 (h:∀ a w,a.tmps[d]? = R u→C w→∀ K':Act→Y→Prop,Shut (∀ v w',GT B tab i v w'→F w.heap.size w w'→K' (a.put o.dst v) w')→if Region.wanted o (yielded ops a.tmps)=U then Oper.wp P o a w K' Q else K' (a.put o.dst undef) w:=by intro a w e0 c0 K hK;go_simp;exact gqO hK):x8p P md ops Q S ps B tab a0 (i::r) :=
 ⟨k3x.mk ho fun a w _ hs hd=>h a w (dpO hd k d h1 h2 hg) (hc w hs),hr⟩
theorem y9b (ps:List (Nat × Nat)) {listed:Array Bool} (aL:Array Bool) (aH:Nat) {fuel:Nat} {a0:Act} {w:Y} (B:Nat) (tab:List GK)
 (hck:y9u md ops listed (ps.map Prod.fst)=U) (hnd:(ps.map Prod.fst).Nodup) (hnd2:(ps.map Prod.snd).Nodup) (hd:(ps.all fun p=>z7o ops p.1 == p.2&&Nat.blt p.2 a0.tmps.size)=U)
 (hl:(y1j listed (fun _=>A) == listed)=U) (hle:(y1j listed (fun k=>(ps.map Prod.fst).contains k) == aL)=U) (hf:(fuel == ps.length+aH)=U)
 (hS:∀ w w',S w→F w.heap.size w w'→S w') (hs:S w)
 (hop:x8p P md ops Q S ps B tab a0 (ps.map Prod.fst))
 (hend:∀ (a:Act) w',(∀ d,(ps.all fun p=>!(p.2 == d))=U→a.tmps[d]? = a0.tmps[d]?)→a.defers=a0.defers→a.tmps.size=a0.tmps.size→S w'→(∀ k d,ps.contains (k,d)=U→∃ v,a.tmps[d]? = R v∧GT B tab k v w')→z0f P md ops Q S late aH aL a w') :
 z0f P md ops Q S late fuel listed a0 w:=by
 have jI:∀ p∈ps,z7o ops p.1=p.2∧p.2<a0.tmps.size:=fun p hp=>by
  have:=List.all_eq_true.1 hd p hp
  rw [Bool.and_eq_true,beq_iff_eq,Nat.blt_eq] at this
  exact this
 have hno:∀ d,(ps.all fun p=>!(p.2 == d))=U→∀ p∈ps,p.2≠d:=fun d h p hp e=>by
  have:=List.all_eq_true.1 h p hp
  simp [e] at this
 refine z8n ps aL aH (GT B tab) hck hnd hnd2 hd hl hle hf (fun _ _ _ _ h hb=>GT.keep h hb) hS hs (fun i hi o ho a wa ha hsa hda K' hK=>?_) (fun vals w' lM hg=>?_)
 ·refine x8p.all hop i hi o ho a wa (fun d hx=>ha.tmp d fun j hj e=>?_) hsa (fun k d hx hdep=>hda (k,d) (by simpa using hx) hdep) K' hK
  obtain ⟨p,hp,rfl⟩:=List.mem_map.1 hj
  rw [(jI p hp).1] at e
  exact hno d hx p hp e
 ·exact hend _ w' (fun d hx=>y2d vals ps a0 d (hno d hx)) (z6v vals ps a0) (y2v vals ps a0) lM (fun k d hx=>by
   have hp:(k,d)∈ps:=by simpa using hx
   exact ⟨_,y9o vals ps a0 (k,d) hp hnd2 (jI _ hp).2,hg _ hp⟩)
end
def vC (x:V) (lx:O):List O:=(v4 x lx)
theorem z0g (oa:Option Addr) (n cap:Nat) (w:Y):QZ prog 52 #[I oa n cap] w fun e w'=>e=.returned (QQ ((w4 3 0 (I oa n cap)):List O).toArray)∧F w.heap.size w w':=by
 have H2:H (CB (w.alloc Z4) w.heap.size 80 Z4c):=z3a w Z4 _ _ rfl
 have Hb:=hd_ (z4b (w:=w) Z4)
 have H1:H (∀ u∈((w4 3 0 (I oa n cap)):List O),u.oneCell'=U):=hd_ (z8y rfl)
 go_enter func52,ntmps52
 go_wp2_with (have _g:=H1.out;refine scs 80 (.tmp 2) (.tmp 4) rfl w.heap.size (w4 3 0 (I oa n cap)) rfl rfl H2.out H1.out (fun w6 cD dw iz=>?_);clear H1)
 refine bodyPost_ret (v:=QQ ((w4 3 0 (I oa n cap)):List O).toArray) (results_cell_row rfl _ _ w.heap.size 80 _ (0,0) _ rfl cD.out underlying80 rfl (by kernel_rfl)) rfl ?_
 exact ⟨rfl,Hb.out.grown dw.out Hb.out.size (fun k hk=>by injection hk with hk;omega)⟩
theorem z5b (n:Int) (w:Y):QZ prog 114 #[J X n] w fun e w'=>e=.returned (QQ ([J X 1,J X n,Z ⟨#[]⟩,I G 0 0]:List O).toArray)∧F w.heap.size w w':=by
 have H2:H (CB (w.alloc Z4) w.heap.size 80 Z4c):=z3a w Z4 _ _ rfl
 have Hb:=hd_ (z4b (w:=w) Z4)
 have H1:H (∀ u∈([J X 1,J X n,Z ⟨#[]⟩,I G 0 0]:List O),u.oneCell'=U):=hd_ (z8y rfl)
 go_enter func114,ntmps114
 go_wp2_with (have _g:=H1.out;refine scs 80 (.tmp 2) (.tmp 4) rfl w.heap.size [J X 1,J X n,Z ⟨#[]⟩,I G 0 0] rfl rfl H2.out H1.out (fun w6 cD dw iz=>?_);clear H1)
 refine bodyPost_ret (v:=QQ ([J X 1,J X n,Z ⟨#[]⟩,I G 0 0]:List O).toArray) (results_cell_row rfl _ _ w.heap.size 80 _ (0,0) _ rfl cD.out underlying80 rfl (by kernel_rfl)) rfl ?_
 exact ⟨rfl,Hb.out.grown dw.out Hb.out.size (fun k hk=>by injection hk with hk;omega)⟩
theorem y2h (s:ByteArray) (w:Y):QZ prog 115 #[Z s] w fun e w'=>e=.returned (QQ ([J X 2,J X 0,Z s,I G 0 0]:List O).toArray)∧F w.heap.size w w':=by
 have H2:H (CB (w.alloc Z4) w.heap.size 80 Z4c):=z3a w Z4 _ _ rfl
 have Hb:=hd_ (z4b (w:=w) Z4)
 have H1:H (∀ u∈([J X 2,J X 0,Z s,I G 0 0]:List O),u.oneCell'=U):=hd_ (z8y rfl)
 go_enter func115,ntmps115
 go_wp2_with (have _g:=H1.out;refine scs 80 (.tmp 2) (.tmp 4) rfl w.heap.size [J X 2,J X 0,Z s,I G 0 0] rfl rfl H2.out H1.out (fun w6 cD dw iz=>?_);clear H1)
 refine bodyPost_ret (v:=QQ ([J X 2,J X 0,Z s,I G 0 0]:List O).toArray) (results_cell_row rfl _ _ w.heap.size 80 _ (0,0) _ rfl cD.out underlying80 rfl (by kernel_rfl)) rfl ?_
 exact ⟨rfl,Hb.out.grown dw.out Hb.out.size (fun k hk=>by injection hk with hk;omega)⟩
theorem y3h (b:Bool) (w:Y):QZ prog 113 #[L b] w fun e w'=>e=.returned (QQ (vC (bV b) (I G 0 0)).toArray)∧F w.heap.size w w':=by
 have H2:H (CB (w.alloc Z4) w.heap.size 80 Z4c):=z3a w Z4 _ _ rfl
 have Hb:=hd_ (z4b (w:=w) Z4)
 have H1:=hd_ (z0y 1 1 ⟨#[]⟩ (I G 0 0) rfl)
 have H0:=hd_ (z0y 1 0 ⟨#[]⟩ (I G 0 0) rfl)
 go_enter func113,ntmps113
 cases b
 ·go_wp2_with (first
   | (go_at_call 114;refine (z5b 0 _).mono ?_;(rintro e w3 ⟨rfl,aB⟩;have aA:=hd_ aB;clear aB;replace H2:=hd_ (H2.out.ext aA.out);replace Hb:=hd_ (z0a Hb.out aA.out);clear aA))
   | (have _g:=H0.out;refine scs 80 (.tmp 2) (.tmp 5) rfl w.heap.size (w4 1 0 (I G 0 0)) rfl rfl H2.out H0.out (fun w6 cD dw iz=>?_);clear H0))
  refine bodyPost_ret (v:=QQ ((w4 1 0 (I G 0 0)):List O).toArray) (results_cell_row rfl _ _ w.heap.size 80 _ (0,0) _ rfl cD.out underlying80 rfl (by kernel_rfl)) rfl ?_
  exact ⟨rfl,Hb.out.grown dw.out Hb.out.size (fun k hk=>by injection hk with hk;omega)⟩
 ·go_wp2_with (first
   | (go_at_call 114;refine (z5b 1 _).mono ?_;(rintro e w3 ⟨rfl,aB⟩;have aA:=hd_ aB;clear aB;replace H2:=hd_ (H2.out.ext aA.out);replace Hb:=hd_ (z0a Hb.out aA.out);clear aA))
   | (have _g:=H1.out;refine scs 80 (.tmp 2) (.tmp 4) rfl w.heap.size (w4 1 1 (I G 0 0)) rfl rfl H2.out H1.out (fun w6 cD dw iz=>?_);clear H1))
  refine bodyPost_ret (v:=QQ ((w4 1 1 (I G 0 0)):List O).toArray) (results_cell_row rfl _ _ w.heap.size 80 _ (0,0) _ rfl cD.out underlying80 rfl (by kernel_rfl)) rfl ?_
  exact ⟨rfl,Hb.out.grown dw.out Hb.out.size (fun k hk=>by injection hk with hk;omega)⟩
def k0s (l:List Int) (w:Y) (v3 v4:O) (wr:Y):Prop :=
 ∃ (xs:List V),xs=(l.take xs.length).map iV∧xs.length≤l.length∧v4=J X (xs.length:Int)∧z1j (fun _=>False) (w.heap.size+1) wr v3 xs∧CB wr w.heap.size 80 Z4c∧F w.heap.size w wr
theorem x5k {α:Type} {f:α→V} {l:List α} {xs:List V} {c:α} (hc:l[xs.length]? = R c) (hx:xs=(l.take xs.length).map f):xs++[f c]=(l.take (xs++[f c]).length).map f:=by
 rw [List.length_append,List.length_singleton,List.take_add_one,hc]
 simp [← hx]
theorem x8v {l:List Int} {w w9:Y} {xs:List V} {n:Int} {oa:Option Addr} {cp:Nat} (hc:l[xs.length]? = R n) (hx:xs=(l.take xs.length).map iV) (hO:z1j (fun _=>False) (w.heap.size+1) w9 (I oa (xs.length+1) cp) (xs++[iV n])) (h2:CB w9 w.heap.size 80 Z4c) (hb:F w.heap.size w w9) :
 k0s l w (I oa (xs.length+1) cp) (J X ((xs.length:Int)+1)) w9:=by
 have hl:(xs++[iV n]).length=xs.length+1:=by simp
 have hlt:=(gS.1 hc).1
 exact ⟨xs++[iV n],x5k hc hx,by omega,by rw [hl];simp,hO,h2,hb⟩
theorem z3f (l:List Int) (v:O) (w:Y) (hl:z4g nuK w.heap.size w l v) (hi:∀ n∈l,I64 n) (hn:l.length≤1000000) :
 QZ prog 54 #[v] w fun e w'=>∃ lv,e=.returned (QQ (lvC lv).toArray)∧z1j (fun _=>False) w.heap.size w' lv (l.map iV)∧F w.heap.size w w':=by
 obtain ⟨oa,cap,rfl,-⟩:=hl.shape
 have HL:=hd_ hl;have Hi:=hd_ hi;have Hn:=hd_ hn
 have H2:H (CB (w.alloc Z4) w.heap.size 80 Z4c):=z3a w Z4 _ _ rfl
 have Hb:=hd_ (z4b (w:=w) Z4)
 have l1:(l.length:Int)≤9223372036854775807:=by omega
 clear hl hi hn
 go_enter func54,ntmps54
 go_upto_region 1 with fail
 change Code.wp _ _ _ _ (w.alloc Z4)
 have HZ:H ((w.alloc Z4).heap.size=w.heap.size+1):=sA _ _
 generalize w.alloc Z4=w1 at *
 have eO:=z1i (B:=w.heap.size+1) (w:=w1) [] [] (by rw [HZ.out];exact Nat.le_refl _) trivial (by simp)
 have jO:=hd_ eO
 have hbz:F w1.heap.size w1 (w1.alloc (M (z8f [] []).toArray 80)):=z4b _
 replace H2:=hd_ (H2.out.ext hbz);replace Hb:=hd_ (z0a Hb.out hbz)
 clear eO hbz
 go_upto_region 2 with fail
 change Code.wp _ _ _ _ (w1.alloc (M (z8f [] []).toArray 80))
 generalize w1.alloc (M (z8f [] []).toArray 80)=w2 at *
 clear HZ
 go_wp2_with fail
 go_loopw [3,4] (fun v3 v4 wr=>k0s l w v3 v4 wr) (fun _ v4 _=>l.length - (intOf v4).toNat)
 case atStart=>exact ⟨[],rfl,by simp,rfl,jO.out,H2.out,Hb.out⟩
 case round =>
  obtain ⟨xs,hxs,hle,rfl,hO,h2,hb⟩:=hrel
  obtain ⟨ol,cl,rfl⟩:=hO.shape
  have gJ:=hd_ hxs;have HO:=hd_ hO;have H2':=hd_ h2;have oD:=hd_ hb
  clear hO h2 hb hxs H2 Hb jO
  by_cases hlt:xs.length<l.length
  case pos =>
   obtain ⟨n,hn⟩:∃ n,l[xs.length]? = R n:=⟨_,List.getElem?_eq_getElem hlt⟩
   obtain ⟨nb,no,hon,_,hat⟩:=(HL.out.ext oD.out).at (k:=xs.length) hlt
   have hcn:wr.cell? ⟨nb,no+xs.length,G⟩=R (J X n):=by have:=hat xs.length n hn 0 _ rfl;simpa [nuK] using this
   subst hon
   have Hc:=hd_ hn;have mc:H (I64 n):=Hi.out n (mG hn);have aN:=hd_ hlt
   have tj:decide ((xs.length:Int)<(l.length:Int))=U:=decide_eq_true (by omega)
   have eu:decide (xs.length<l.length)=U:=decide_eq_true hlt
   clear hat hn
   go_wp2_with (first
    | (go_at_call 114;refine (z5b n _).mono ?_;(rintro e w5 ⟨rfl,bp⟩;have bZ:=hd_ bp;clear bp;have aF:H (CB (w5.alloc (M [J X 1,J X n,Z ⟨#[]⟩,I G 0 0].toArray 80)) w5.heap.size 80 [J X 1,J X n,Z ⟨#[]⟩,I G 0 0]):=z3a w5 _ _ _ rfl;have bz:=hd_ ((HO.out.ext bZ.out).alloc (M [J X 1,J X n,Z ⟨#[]⟩,I G 0 0].toArray 80));have dH:=hd_ ((H2'.out.ext bZ.out).alloc (M [J X 1,J X n,Z ⟨#[]⟩,I G 0 0].toArray 80));have cV:=hd_ (z0a (z0a oD.out bZ.out) (z4b (w:=w5) (M [J X 1,J X n,Z ⟨#[]⟩,I G 0 0].toArray 80)));clear bZ HO H2' oD))
    | (refine z1e underlying78 z8j rfl (.tmp 12) (.tmp 18) rfl (fun _=>False) (w.heap.size+1) (I ol xs.length cl) xs rfl ?q1 w5.heap.size (iV n) (I G 0 0) rfl ?q2 ?q3 ?q4 ?q5 ?_;(case q1=>exact bz.out);(case q2=>exact z0z.int _ _ n mc.out);(case q3=>(refine ⟨?_,?_,?_,?_⟩ <;> first|exact aF.out.cell 0|exact aF.out.cell 1|exact aF.out.cell 2|exact aF.out.cell 3));(case q4=>(have:=Hn.out;have:=aN.out;omega));(case q5=>exact dH.out.lt);intro dg dq w7 cI io;have H27:=hd_ (dH.out.keep (io.out.block _ dH.out.lt (fun e=>by have:=(bz.out.own _ e.symm).1;omega)));have oC:=hd_ (cV.out.grown io.out cV.out.size (fun q e=>by have:=(bz.out.own q e).1;omega));clear io dH bz cV aF))
   go_roundw
   case rel=>exact x8v Hc.out gJ.out cI.out H27.out oC.out
   case measure=>(simp [intOf];have:=aN.out;omega)
  case neg =>
   have hk:xs.length=l.length:=by omega
   have tj:decide ((xs.length:Int)<(l.length:Int))=A:=decide_eq_false (by omega)
   have HX:H (xs=l.map iV):=hd_ (by have h:=gJ.out;rw [hk,List.take_length] at h;exact h)
   have H1:=hd_ (z0y 3 0 ⟨#[]⟩ (I ol xs.length cl) rfl)
   clear hk
   go_wp2_with (first
    | (go_at_call 52;refine (z0g _ _ _ _).mono ?_;(rintro e w5 ⟨rfl,bp⟩;have bZ:=hd_ bp;clear bp;replace H2':=hd_ (H2'.out.ext bZ.out);replace oD:=hd_ (z0a oD.out bZ.out);replace HO:=hd_ (HO.out.ext bZ.out);clear bZ))
    | (have _g:=H1.out;refine scs 80 (.tmp 2) (.tmp 21) rfl w.heap.size (w4 3 0 (I ol xs.length cl)) rfl rfl H2'.out H1.out (fun w6 cD dw iz=>?_);clear H1))
   refine bodyPost_ret (v:=QQ (lvC (I ol xs.length cl)).toArray) (results_cell_row rfl _ _ w.heap.size 80 _ (0,0) _ rfl cD.out underlying80 rfl (by kernel_rfl)) rfl ?_
   refine ⟨_,rfl,?_,oD.out.grown dw.out oD.out.size (fun k hk=>by injection hk with hk;omega)⟩
   rw [← HX.out]
   exact z2p (HO.out.keep dw.out (fun q e=>by injection e with e;subst e;exact ⟨by omega,fun h=>h⟩)) (by omega) (fun j h=>h.elim)
theorem z2y (w:Y) (l:List Int) (hl:l.length≤QX):z4g nuK (w.alloc (M (l.map (J X)).toArray 3)).heap.size (w.alloc (M (l.map (J X)).toArray 3)) l (I (R ⟨w.heap.size,0,G⟩) l.length l.length):=by
 refine .inr ⟨w.heap.size,0,l.length,rfl,Nat.le_refl _,hl,by simp,fun j n hj i u hu=>?_⟩
 have hi:i=0:=by have:=(gS.1 hu).1;simp [nuK] at this;omega
 subst hi
 have hu':u=J X n:=by simp [nuK] at hu;exact hu.symm
 subst hu'
 have:=k8x w l 3 j n hj
 simpa [nuK] using this
section
variable {P:Program} {md:Region.Mode} {ops:Array Oper} {Q:Exit→Act→Y→Prop} {S:Y→Prop} {late:Nat→Bool}
theorem z3y (ps:List (Nat × Nat)) {listed:Array Bool} (aL:Array Bool) (aH:Nat) {fuel:Nat} {a0:Act} {w:Y} (B:Nat) (tab:List GK)
 (hck:y9u md ops listed (ps.map Prod.fst)=U) (hnd:(ps.map Prod.fst).Nodup) (hnd2:(ps.map Prod.snd).Nodup) (hd:(ps.all fun p=>z7o ops p.1 == p.2&&Nat.blt p.2 a0.tmps.size)=U)
 (hl:(y1j listed (fun _=>A) == listed)=U) (hle:(y1j listed (fun k=>(ps.map Prod.fst).contains k) == aL)=U) (hf:(fuel == ps.length+aH)=U)
 (hS:∀ w w',S w→F w.heap.size w w'→S w') (hs:S w)
 (hop:x8p P md ops Q S ps B tab a0 (ps.map Prod.fst))
 (hend:∀ (vals:Nat→O) w',S w'→(∀ k d,ps.contains (k,d)=U→GT B tab k (vals k) w')→z0f P md ops Q S late aH aL (y1v vals ps a0) w') :
 z0f P md ops Q S late fuel listed a0 w:=by
 have jI:∀ p∈ps,z7o ops p.1=p.2∧p.2<a0.tmps.size:=fun p hp=>by
  have:=List.all_eq_true.1 hd p hp
  rw [Bool.and_eq_true,beq_iff_eq,Nat.blt_eq] at this
  exact this
 refine z8n ps aL aH (GT B tab) hck hnd hnd2 hd hl hle hf (fun _ _ _ _ h hb=>GT.keep h hb) hS hs (fun i hi o ho a wa ha hsa hda K' hK=>?_) (fun vals w' lM hg=>?_)
 ·refine x8p.all hop i hi o ho a wa (fun d hx=>ha.tmp d fun j hj e=>?_) hsa (fun k d hx hdep=>hda (k,d) (by simpa using hx) hdep) K' hK
  obtain ⟨p,hp,rfl⟩:=List.mem_map.1 hj
  rw [(jI p hp).1] at e
  have:=List.all_eq_true.1 hx p hp
  simp [e] at this
 ·exact hend vals w' lM (fun k d hx=>hg (k,d) (by simpa using hx))
end
theorem z0z.dl {B B0:Nat} {w:Y} {lv lx:Value} {x:V} (h:z0z (DB B w) w x lx) (hB:B0≤B) (hlv:∀ g,lv.ownBlock=R g→g<B):z0z (DL (fun _=>False) B0 w lv) w x lx :=
 h.keep (fun k hk=>⟨.inr (lT hB (hk.1.resolve_left id)),hk.2,fun e=>by have:=hlv k e.symm;have:=hk.1.resolve_left id;omega⟩) (fun _ _=>rfl)
end Go.Proofs.YtdblnbnofjggnaaGreatDoor
