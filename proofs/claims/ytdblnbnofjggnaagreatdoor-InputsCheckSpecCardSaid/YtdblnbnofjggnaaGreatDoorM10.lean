/- Parts of the proofs of chapter 49's laws: Inl Gel Geo. -/
import Derived.Test.YtdblnbnofjggnaaGreatDoorM06
import Derived.Test.YtdblnbnofjggnaaGreatDoorM05
import Derived.Lib.Overlaps
import Derived.Lib.AppendZerosOnto
import Derived.Laws.CopyRow
open Go
open List renaming getElem?_eq_some_iff → gS
namespace Go.Proofs.YtdblnbnofjggnaaGreatDoor
open Go.RowKit
theorem k8g (g o j:Nat):(⟨g,o,none⟩:Addr).add j = ⟨g,o + j,none⟩:=by unfold Addr.add;split <;> simp_all
structure EK (α:Type) where
 n:Nat
 cells:α→List Value
 len:∀ a,(cells a).length = n
 one:∀ a,∀ u ∈ cells a,u.oneCell' = true
 pos:0 < n
section
variable {α:Type} (K:EK α)
def EK.flat (l:List α):List Value:=l.flatMap K.cells
theorem EK.flat_nil:K.flat [] = []:=rfl
theorem EK.flat_cons (a:α) (l:List α):K.flat (a :: l) = K.cells a ++ K.flat l:=by unfold EK.flat;rw [List.flatMap_cons]
theorem EK.flat_append (a b:List α):K.flat (a ++ b) = K.flat a ++ K.flat b:=by unfold EK.flat;rw [List.flatMap_append]
theorem EK.flat_len:∀ l:List α,(K.flat l).length = l.length * K.n
 | []=>by simp [EK.flat]
 | a :: l=>by rw [EK.flat_cons,List.length_append,EK.flat_len l,K.len,List.length_cons,Nat.add_mul,Nat.one_mul,Nat.add_comm]
theorem EK.flat_one (l:List α):∀ u ∈ K.flat l,u.oneCell' = true:=by
 intro u hu
 obtain ⟨a,_,h⟩:=List.mem_flatMap.1 hu
 exact K.one a u h
theorem EK.flat_drop {l:List α} {i:Nat} (h:i ≤ l.length) {j:Nat} {u:Value} (hu:(K.flat (l.drop i))[j]? = some u):(K.flat l)[i * K.n + j]? = some u:=by
 have htl:(K.flat (l.take i)).length = i * K.n:=by rw [K.flat_len,List.length_take,Nat.min_eq_left h]
 conv=>lhs;rw [← List.take_append_drop i l]
 rw [K.flat_append,List.getElem?_append_right (by omega),htl,Nat.add_sub_cancel_left];exact hu
def x5w (w:World) (b o:Nat) (a:α):Prop:=∀ j u,(K.cells a)[j]? = some u→w.cell? ⟨b,o + j,none⟩ = some u
variable {K}
theorem x5w.keep {w w':World} {b o:Nat} {a:α} (h:x5w K w b o a) (hk:w'.heap[b]? = w.heap[b]?):x5w K w' b o a:=fun j u hu=>by rw [World.cell?_of_block (w:=w) hk];exact h j u hu
theorem x5w.ext {w w':World} {b o:Nat} {a:α} (h:x5w K w b o a) (hb:Below w.heap.size w w'):x5w K w' b o a:=fun j u hu=>z1a hb (h j u hu)
variable (K)
def z9f (B:Nat) (w:World) (l:List α) (v:Value):Prop :=
 (l = []∧∃ oa cap,v = .slice oa 0 cap)∨(∃ b off cap,v = .slice (some ⟨b,off,none⟩) l.length cap∧l.length ≤ cap∧cap ≤ maxLen∧b < B∧∀ j a,l[j]? = some a→x5w K w b (off + j * K.n) a)
variable {K}
theorem z9f.keep {B B':Nat} {w w':World} {l:List α} {v:Value} (h:z9f K B w l v) (hB:B ≤ B') (hs:∀ k,k < B→w'.heap[k]? = w.heap[k]?):z9f K B' w' l v:=by
 rcases h with h | ⟨b,off,cap,h1,h2,h3,h4,h5⟩
 · exact .inl h
 · exact .inr ⟨b,off,cap,h1,h2,h3,Nat.lt_of_lt_of_le h4 hB,fun j a hj=>(h5 j a hj).keep (hs _ h4)⟩
theorem z9f.ext {w w':World} {l:List α} {v:Value} (h:z9f K w.heap.size w l v) (hb:Below w.heap.size w w'):z9f K w'.heap.size w' l v:=h.keep hb.size hb.block
theorem z9f.nil (B:Nat) (w:World) (oa:Option Addr) (cap:Nat):z9f K B w ([]:List α) (.slice oa 0 cap):=.inl ⟨rfl,_,_,rfl⟩
theorem z9f.shape {B:Nat} {w:World} {l:List α} {v:Value} (h:z9f K B w l v):∃ oa cap,v = .slice oa l.length cap∧l.length ≤ 9223372036854775807:=by
 rcases h with ⟨rfl,oa,cap,rfl⟩ | ⟨b,off,cap,rfl,h2,h3,_⟩
 · exact ⟨oa,cap,rfl,by simp⟩
 · exact ⟨_,cap,rfl,by unfold maxLen at h3;omega⟩
theorem z9f.shape2 {B:Nat} {w:World} {l:List α} {v:Value} (h:z9f K B w l v):∃ oa cap,v = .slice oa l.length cap∧l.length ≤ cap∧l.length ≤ 9223372036854775807:=by
 rcases h with ⟨rfl,oa,cap,rfl⟩ | ⟨b,off,cap,rfl,h2,h3,_⟩
 · exact ⟨oa,cap,rfl,by simp,by simp⟩
 · exact ⟨_,cap,rfl,h2,by unfold maxLen at h3;omega⟩
theorem z9f.at {B:Nat} {w:World} {l:List α} {oa:Option Addr} {cap k:Nat} (h:z9f K B w l (.slice oa l.length cap)) (hk:k < l.length) :
 ∃ b off,oa = some ⟨b,off,none⟩∧b < B∧∀ j a,l[j]? = some a→x5w K w b (off + j * K.n) a:=by
 rcases h with ⟨rfl,_⟩ | ⟨b,off,cp,h1,_,_,h4,h5⟩
 · simp at hk
 · injection h1 with h1 _ _
   exact ⟨b,off,h1,h4,h5⟩
theorem x6w:∀ (l:List α) (w:World) (b off:Nat),(∀ j a,l[j]? = some a→x5w K w b (off + j * K.n) a)→∀ j u,(K.flat l)[j]? = some u→w.cell? ⟨b,off + j,none⟩ = some u
 | [],_,_,_,_,j,u,h=>by simp [EK.flat] at h
 | a :: r,w,b,off,hat,j,u,h=>by
  rw [K.flat_cons] at h
  by_cases hj:j < K.n
  · rw [List.getElem?_append_left (by rw [K.len];exact hj)] at h
    have:=hat 0 a rfl
    rw [Nat.zero_mul,Nat.add_zero] at this
    exact this j u h
  · rw [List.getElem?_append_right (by rw [K.len];omega),K.len] at h
    have:=x6w r w b (off + K.n) (fun k x hx=>by
     have:=hat (k + 1) x (by simpa using hx)
     rw [show off + K.n + k * K.n = off + (k + 1) * K.n by rw [Nat.add_mul,Nat.one_mul];omega];exact this) (j - K.n) u h
    rw [show off + j = off + K.n + (j - K.n) by omega];exact this
theorem j1w:∀ (l:List α) (w:World) (b off:Nat),(∀ j u,(K.flat l)[j]? = some u→w.cell? ⟨b,off + j,none⟩ = some u)→∀ j a,l[j]? = some a→x5w K w b (off + j * K.n) a:=by
 intro l w b off h j a hj i u hu
 have hjl:=(gS.1 hj).1
 rw [Nat.add_assoc]
 refine h _ u (K.flat_drop (by omega) (i:=j) ?_)
 obtain ⟨h1,h2⟩:=gS.1 hj
 rw [List.drop_eq_getElem_cons h1,h2,K.flat_cons,List.getElem?_append_left (gS.1 hu).1];exact hu
variable (K)
def z7m (e:TypeId) (w:World) (base:Nat) (v:Value) (l:List α):Prop:=w.ownsRow base e K.n v l.length (K.flat l)
variable {K}
theorem z7m.nil (e:TypeId) (w:World) (base:Nat):z7m K e w base (.slice none 0 0) []:=World.ownsRow_nil w base e K.n
theorem z7m.lt {e:TypeId} {w:World} {base:Nat} {v:Value} {l:List α} (h:z7m K e w base v l) (g:Nat) (hg:v.ownBlock = some g):base ≤ g∧g < w.heap.size:=World.ownsRow.lt h g hg
theorem z7m.rd {e:TypeId} {w:World} {base:Nat} {v:Value} {l:List α} (h:z7m K e w base v l):z9f K w.heap.size w l v:=by
 have hlt:=h.lt
 rcases h.2 with ⟨rfl,h0⟩ | ⟨g,cap,cur,rfl,hb,hg,hn,hm,hcs,ht⟩
 · exact .inl ⟨List.eq_nil_of_length_eq_zero h0,_,_,rfl⟩
 · have hc:=World.ownsRow.cells (e:=e) h (g:=g) rfl
   refine .inr ⟨g,0,cap,rfl,hn,hm,(hlt g rfl).2,j1w l w g 0 fun j u hu=>?_⟩
   have:=hc j u hu
   rwa [k8g] at this
theorem z7m.made (e:TypeId) (base:Nat) (w:World) (h:base ≤ w.heap.size):z7m K e (w.alloc (.cells #[] e)) base (.slice (some ⟨w.heap.size,0,none⟩) 0 0) [] :=
 World.ownsRow_made (e:=e) (base:=base) (size:=K.n) w #[] 0 h (Nat.zero_le _) (by simp)
theorem z7m.mk {e:TypeId} {w:World} {base g cap n:Nat} {cur:Array Value} {x:List α} (hl:x.length = n) (hb:base ≤ g) (hg:w.heap[g]? = some (.cells cur e (0,0))) (hn:n ≤ cap) (hm:cap ≤ maxLen) (hcs:cur.size = cap * K.n) (ht:cur.toList.take (n * K.n) = K.flat x) :
 z7m K e w base (.slice (some ⟨g,0,none⟩) n cap) x:=by
 subst hl
 exact ⟨K.flat_len x,.inr ⟨g,cap,cur,rfl,hb,hg,hn,hm,hcs,ht⟩⟩
theorem z7m.alloc {e:TypeId} {w:World} {base:Nat} {v:Value} {l:List α} (h:z7m K e w base v l) (o:Obj):z7m K e (w.alloc o) base v l:=World.ownsRow.alloc h o
theorem z7m.below {e:TypeId} {w0 w w':World} {base:Nat} {v:Value} {l:List α} (hb:Below w0.heap.size w0 w) (hv:z7m K e w base v l) (hg:w.grownBy w' v.ownBlock) (h:w0.heap.size ≤ base):Below w0.heap.size w0 w' :=
 hb.trans ⟨hg.os,hg.tape,hg.output,hg.size,fun k hk=>hg.block k (Nat.lt_of_lt_of_le hk hb.size) (fun e=>by have:=(hv.lt k e.symm).1;omega)⟩
theorem z7m.append {e:TypeId} {w:World} {base n:Nat} {v:Value} {a b:List α} (h:w.ownsRow base e K.n v n (K.flat a ++ K.flat b)) (hn:n = a.length + b.length):z7m K e w base v (a ++ b):=by
 unfold z7m
 rw [List.length_append,← hn,K.flat_append];exact h
section
variable {P:Program} {tx e':TypeId}
theorem j3l (hk:P.underlying tx = some (.slice e')) (x:Option Addr) (c n:Nat) (W:World):Src P n tx (.slice x 0 c) 0 [] W:=by
 cases x with
 | none=>exact Src.ofNil W hk c
 | some a=>exact Src.ofSlice W hk a 0 c [] (by simp) (fun j u h=>by simp at h) (fun u h=>by cases h)
theorem z9f.src (hk:P.underlying tx = some (.slice e')) {l:List α} {oa:Option Addr} {cap:Nat} {W:World} (h:z9f K W.heap.size W l (.slice oa l.length cap)):Src P K.n tx (.slice oa l.length cap) l.length (K.flat l) W:=by
 by_cases h0:l = []
 · subst h0;exact j3l hk _ _ _ _
 obtain ⟨b,off,rfl,_,hat⟩:=h.at (k:=0) (by cases l <;> simp_all)
 refine Src.ofSlice W hk _ _ cap _ (K.flat_len l) (fun j u hu=>?_) (K.flat_one _)
 rw [k8g];exact x6w l W b off hat j u hu
theorem x7w (hk:P.underlying tx = some (.slice e')) {a:α} {W:World} {g:Nat} {t:TypeId} (h:CB W g t (K.cells a)):Src P K.n tx (.slice (some ⟨g,0,none⟩) 1 1) 1 (K.flat [a]) W :=
 Src.ofSlice W hk ⟨g,0,none⟩ 1 1 _ (K.flat_len [a]) (fun j u hu=>by rw [K.flat_cons,K.flat_nil,List.append_nil] at hu;rw [k8g,Nat.zero_add,h.cell];exact hu) (K.flat_one _)
end
end
section
variable {α:Type} {K:EK α}
theorem z7m.ext {e:TypeId} {w w':World} {base:Nat} {v:Value} {l:List α} (h:z7m K e w base v l) (hb:Below w.heap.size w w'):z7m K e w' base v l:=by
 have hlt:=h.lt
 rcases h with ⟨h1,h2⟩
 refine ⟨h1,?_⟩
 rcases h2 with h2 | ⟨g,cap,cur,rfl,hb1,hg,r⟩
 · exact .inl h2
 · exact .inr ⟨g,cap,cur,rfl,hb1,(hb.block g (hlt g rfl).2).trans hg,r⟩
theorem z7m.base {e:TypeId} {w:World} {b b':Nat} {v:Value} {l:List α} (h:z7m K e w b v l) (hb:b' ≤ b):z7m K e w b' v l:=by
 rcases h with ⟨h1,h2⟩
 refine ⟨h1,?_⟩
 rcases h2 with h2 | ⟨g,cap,cur,rfl,hb1,r⟩
 · exact .inl h2
 · exact .inr ⟨g,cap,cur,rfl,Nat.le_trans hb hb1,r⟩
theorem z7m.far {e:TypeId} {w:World} {b S:Nat} {v:Value} {l:List α} (h:z7m K e w b v l) (hS:S < b):v.ownBlock ≠ some S:=fun e=>by have:=(h.lt _ e).1;omega
theorem z7m.keepR {e:TypeId} {w w':World} {base:Nat} {v:Value} {l:List α} {row:Option Nat} (h:z7m K e w base v l) (hg:w.grownBy w' row) (hne:v.ownBlock = none∨v.ownBlock ≠ row):z7m K e w' base v l:=World.ownsRow.kept h hg hne
end
end Go.Proofs.YtdblnbnofjggnaaGreatDoor
