/- Parts of the proofs of chapter 49's laws. -/
import Derived.Test.YtdblnbnofjggnaaGreatDoorP06
import Derived.Lib.Overlaps
import Derived.Lib.AppendZerosOnto
open List renaming getElem?_eq_some_iff → gS
open Go.Value renaming slice → Z
open Option renaming none → Q, some → X
open Go renaming World → I, TypeId → J
set_option linter.all false
namespace Go.Proofs.YtdblnbnofjggnaaGreatDoor
open Go.RowKit
theorem k7w (g o j:Nat):(⟨g,o,Q⟩:Addr).add j=⟨g,o+j,Q⟩:=by unfold Addr.add;split <;> simp_all
structure EK (α:Type) where
 n:Nat
 cells:α→List Value
 len:∀ a,(cells a).length=n
 one:∀ a,∀ u∈cells a,u.oneCell'=true
 pos:0<n
section
variable {α:Type} (K:EK α)
def EK.flat (l:List α):List Value:=l.flatMap K.cells
theorem EK.flat_nil:K.flat []=[]:=rfl
theorem EK.flat_cons (a:α) (l:List α):K.flat (a::l)=K.cells a++K.flat l:=by unfold EK.flat;rw [List.flatMap_cons]
theorem EK.flat_append (a b:List α):K.flat (a++b)=K.flat a++K.flat b:=by unfold EK.flat;rw [List.flatMap_append]
theorem EK.flat_len:∀ l:List α,(K.flat l).length=l.length * K.n
 | []=>by simp [EK.flat]
 | a::l=>by rw [EK.flat_cons,List.length_append,EK.flat_len l,K.len,List.length_cons,Nat.add_mul,Nat.one_mul,Nat.add_comm]
theorem EK.flat_one (l:List α):∀ u∈K.flat l,u.oneCell'=true:=by
 intro u hu
 obtain ⟨a,_,h⟩:=List.mem_flatMap.1 hu
 exact K.one a u h
theorem EK.flat_drop {l:List α} {i:Nat} (h:i≤l.length) {j:Nat} {u:Value} (hu:(K.flat (l.drop i))[j]? = X u):(K.flat l)[i * K.n+j]? = X u:=by
 have htl:(K.flat (l.take i)).length=i * K.n:=by rw [K.flat_len,List.length_take,Nat.min_eq_left h]
 conv=>lhs;rw [← List.take_append_drop i l]
 rw [K.flat_append,List.getElem?_append_right (by omega),htl,Nat.add_sub_cancel_left];exact hu
def j4p (w:I) (b o:Nat) (a:α):Prop:=∀ j u,(K.cells a)[j]? = X u→w.cell? ⟨b,o+j,Q⟩=X u
variable {K}
theorem j4p.keep {w w':I} {b o:Nat} {a:α} (h:j4p K w b o a) (hk:w'.heap[b]? = w.heap[b]?):j4p K w' b o a:=fun j u hu=>by rw [World.cell?_of_block (w:=w) hk];exact h j u hu
theorem j4p.ext {w w':I} {b o:Nat} {a:α} (h:j4p K w b o a) (hb:Below w.heap.size w w'):j4p K w' b o a:=fun j u hu=>z1a hb (h j u hu)
variable (K)
def z4g (B:Nat) (w:I) (l:List α) (v:Value):Prop :=
 (l=[]∧∃ oa cap,v=Z oa 0 cap)∨(∃ b off cap,v=Z (X ⟨b,off,Q⟩) l.length cap∧l.length≤cap∧cap≤maxLen∧b<B∧∀ j a,l[j]? = X a→j4p K w b (off+j * K.n) a)
variable {K}
theorem z4g.keep {B B':Nat} {w w':I} {l:List α} {v:Value} (h:z4g K B w l v) (hB:B≤B') (hs:∀ k,k<B→w'.heap[k]? = w.heap[k]?):z4g K B' w' l v:=by
 rcases h with h|⟨b,off,cap,h1,h2,h3,h4,h5⟩
 ·exact .inl h
 ·exact .inr ⟨b,off,cap,h1,h2,h3,Nat.lt_of_lt_of_le h4 hB,fun j a hj=>(h5 j a hj).keep (hs _ h4)⟩
theorem z4g.ext {w w':I} {l:List α} {v:Value} (h:z4g K w.heap.size w l v) (hb:Below w.heap.size w w'):z4g K w'.heap.size w' l v:=h.keep hb.size hb.block
theorem z4g.nil (B:Nat) (w:I) (oa:Option Addr) (cap:Nat):z4g K B w ([]:List α) (Z oa 0 cap):=.inl ⟨rfl,_,_,rfl⟩
theorem z4g.shape {B:Nat} {w:I} {l:List α} {v:Value} (h:z4g K B w l v):∃ oa cap,v=Z oa l.length cap∧l.length≤9223372036854775807:=by
 rcases h with ⟨rfl,oa,cap,rfl⟩|⟨b,off,cap,rfl,h2,h3,_⟩
 ·exact ⟨oa,cap,rfl,by simp⟩
 ·exact ⟨_,cap,rfl,by unfold maxLen at h3;omega⟩
theorem z4g.shape2 {B:Nat} {w:I} {l:List α} {v:Value} (h:z4g K B w l v):∃ oa cap,v=Z oa l.length cap∧l.length≤cap∧l.length≤9223372036854775807:=by
 rcases h with ⟨rfl,oa,cap,rfl⟩|⟨b,off,cap,rfl,h2,h3,_⟩
 ·exact ⟨oa,cap,rfl,by simp,by simp⟩
 ·exact ⟨_,cap,rfl,h2,by unfold maxLen at h3;omega⟩
theorem z4g.at {B:Nat} {w:I} {l:List α} {oa:Option Addr} {cap k:Nat} (h:z4g K B w l (Z oa l.length cap)) (hk:k<l.length) :
 ∃ b off,oa=X ⟨b,off,Q⟩∧b<B∧∀ j a,l[j]? = X a→j4p K w b (off+j * K.n) a:=by
 rcases h with ⟨rfl,_⟩|⟨b,off,cp,h1,_,_,h4,h5⟩
 ·simp at hk
 ·injection h1 with h1 _ _
  exact ⟨b,off,h1,h4,h5⟩
theorem j3a:∀ (l:List α) (w:I) (b off:Nat),(∀ j u,(K.flat l)[j]? = X u→w.cell? ⟨b,off+j,Q⟩=X u)→∀ j a,l[j]? = X a→j4p K w b (off+j * K.n) a:=by
 intro l w b off h j a hj i u hu
 have hjl:=(gS.1 hj).1
 rw [Nat.add_assoc]
 refine h _ u (K.flat_drop (by omega) (i:=j) ?_)
 obtain ⟨h1,h2⟩:=gS.1 hj
 rw [List.drop_eq_getElem_cons h1,h2,K.flat_cons,List.getElem?_append_left (gS.1 hu).1];exact hu
variable (K)
def z7h (e:J) (w:I) (base:Nat) (v:Value) (l:List α):Prop:=w.ownsRow base e K.n v l.length (K.flat l)
variable {K}
theorem z7h.nil (e:J) (w:I) (base:Nat):z7h K e w base (Z Q 0 0) []:=World.ownsRow_nil w base e K.n
theorem z7h.lt {e:J} {w:I} {base:Nat} {v:Value} {l:List α} (h:z7h K e w base v l) (g:Nat) (hg:v.ownBlock=X g):base≤g∧g<w.heap.size:=World.ownsRow.lt h g hg
theorem z7h.rd {e:J} {w:I} {base:Nat} {v:Value} {l:List α} (h:z7h K e w base v l):z4g K w.heap.size w l v:=by
 have hlt:=h.lt
 rcases h.2 with ⟨rfl,h0⟩|⟨g,cap,cur,rfl,hb,hg,hn,hm,hcs,ht⟩
 ·exact .inl ⟨List.eq_nil_of_length_eq_zero h0,_,_,rfl⟩
 ·have hc:=World.ownsRow.cells (e:=e) h (g:=g) rfl
  refine .inr ⟨g,0,cap,rfl,hn,hm,(hlt g rfl).2,j3a l w g 0 fun j u hu=>?_⟩
  have:=hc j u hu
  rwa [k7w] at this
theorem z7h.made (e:J) (base:Nat) (w:I) (h:base≤w.heap.size):z7h K e (w.alloc (.cells #[] e)) base (Z (X ⟨w.heap.size,0,Q⟩) 0 0) [] :=
 World.ownsRow_made (e:=e) (base:=base) (size:=K.n) w #[] 0 h (Nat.zero_le _) (by simp)
theorem z7h.mk {e:J} {w:I} {base g cap n:Nat} {cur:Array Value} {x:List α} (hl:x.length=n) (hb:base≤g) (hg:w.heap[g]? = X (.cells cur e (0,0))) (hn:n≤cap) (hm:cap≤maxLen) (hcs:cur.size=cap * K.n) (ht:cur.toList.take (n * K.n)=K.flat x) :
 z7h K e w base (Z (X ⟨g,0,Q⟩) n cap) x:=by
 subst hl
 exact ⟨K.flat_len x,.inr ⟨g,cap,cur,rfl,hb,hg,hn,hm,hcs,ht⟩⟩
theorem z7h.alloc {e:J} {w:I} {base:Nat} {v:Value} {l:List α} (h:z7h K e w base v l) (o:Obj):z7h K e (w.alloc o) base v l:=World.ownsRow.alloc h o
theorem z7h.below {e:J} {w0 w w':I} {base:Nat} {v:Value} {l:List α} (hb:Below w0.heap.size w0 w) (hv:z7h K e w base v l) (hg:w.grownBy w' v.ownBlock) (h:w0.heap.size≤base):Below w0.heap.size w0 w' :=
 hb.trans ⟨hg.os,hg.tape,hg.output,hg.size,fun k hk=>hg.block k (Nat.lt_of_lt_of_le hk hb.size) (fun e=>by have:=(hv.lt k e.symm).1;omega)⟩
theorem z7h.append {e:J} {w:I} {base n:Nat} {v:Value} {a b:List α} (h:w.ownsRow base e K.n v n (K.flat a++K.flat b)) (hn:n=a.length+b.length):z7h K e w base v (a++b):=by
 unfold z7h
 rw [List.length_append,← hn,K.flat_append];exact h
section
variable {P:Program} {tx e':J}
theorem y3l (hk:P.underlying tx=X (.slice e')) {a:α} {W:I} {g:Nat} {t:J} (h:CB W g t (K.cells a)):Src P K.n tx (Z (X ⟨g,0,Q⟩) 1 1) 1 (K.flat [a]) W :=
 Src.ofSlice W hk ⟨g,0,Q⟩ 1 1 _ (K.flat_len [a]) (fun j u hu=>by rw [K.flat_cons,K.flat_nil,List.append_nil] at hu;rw [k7w,Nat.zero_add,h.cell];exact hu) (K.flat_one _)
end
end
section
variable {α:Type} {K:EK α}
theorem z7h.ext {e:J} {w w':I} {base:Nat} {v:Value} {l:List α} (h:z7h K e w base v l) (hb:Below w.heap.size w w'):z7h K e w' base v l:=by
 have hlt:=h.lt
 rcases h with ⟨h1,h2⟩
 refine ⟨h1,?_⟩
 rcases h2 with h2|⟨g,cap,cur,rfl,af,hg,r⟩
 ·exact .inl h2
 ·exact .inr ⟨g,cap,cur,rfl,af,(hb.block g (hlt g rfl).2).trans hg,r⟩
theorem z7h.base {e:J} {w:I} {b b':Nat} {v:Value} {l:List α} (h:z7h K e w b v l) (hb:b'≤b):z7h K e w b' v l:=by
 rcases h with ⟨h1,h2⟩
 refine ⟨h1,?_⟩
 rcases h2 with h2|⟨g,cap,cur,rfl,af,r⟩
 ·exact .inl h2
 ·exact .inr ⟨g,cap,cur,rfl,Nat.le_trans hb af,r⟩
theorem z7h.far {e:J} {w:I} {b S:Nat} {v:Value} {l:List α} (h:z7h K e w b v l) (hS:S<b):v.ownBlock≠X S:=fun e=>by have:=(h.lt _ e).1;omega
theorem z7h.keepR {e:J} {w w':I} {base:Nat} {v:Value} {l:List α} {row:Option Nat} (h:z7h K e w base v l) (hg:w.grownBy w' row) (hne:v.ownBlock=Q∨v.ownBlock≠row):z7h K e w' base v l:=World.ownsRow.kept h hg hne
end
theorem z2n {α:Type} {K:EK α} {w:I} {g:Nat} {t:J} {l:List α} (n:Nat) (h:CB w g t (K.flat l)) (hn:l.length=n) (hm:n≤maxLen):z4g K w.heap.size w l (Z (X ⟨g,0,Q⟩) n n):=by
 subst hn
 exact .inr ⟨g,0,l.length,rfl,Nat.le_refl _,hm,h.lt,j3a l w g 0 fun j u hu=>by rw [Nat.zero_add,h.cell];exact hu⟩
end Go.Proofs.YtdblnbnofjggnaaGreatDoor
