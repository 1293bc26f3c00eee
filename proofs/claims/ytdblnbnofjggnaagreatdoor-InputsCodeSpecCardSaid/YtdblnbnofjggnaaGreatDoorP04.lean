/- Parts of the proofs of chapter 49's laws. -/
import Derived.Test.YtdblnbnofjggnaaGreatDoorRows
import Derived.WalkKit
import Derived.WalkSpells
import Derived.WalkLawsBesides
import Derived.Lib.Hide
import Derived.Deep.AppendLies
open Go renaming World → I, Value → J
set_option linter.all false
namespace Go.Proofs.YtdblnbnofjggnaaGreatDoor
open Go.RowKit
def z8a (l:List UInt8):List J:=l.map fun c=>.int .u8 c.toNat
theorem z8b (l:List UInt8):(z8a l).length=l.length:=by simp [z8a]
theorem z3p (a b:List UInt8):z8a (a++b)=z8a a++z8a b:=by simp [z8a]
theorem z5o (l:List UInt8):∀ u∈z8a l,u.oneCell'=true:=by
 intro u hu;simp only [z8a,List.mem_map] at hu;obtain ⟨c,_,rfl⟩:=hu;rfl
theorem z7n (l:List UInt8) (j:Nat) (u:J) (h:(z8a l)[j]? = some u):∃ c,l[j]? = some c∧u=.int .u8 c.toNat:=by
 simp only [z8a,List.getElem?_map,Option.map_eq_some_iff] at h
 obtain ⟨c,h1,h2⟩:=h;exact ⟨c,h1,h2.symm⟩
def z3o (e:TypeId) (w:I) (base:Nat) (v:J) (l:List UInt8):Prop:=w.ownsRow base e 1 v l.length (z8a l)
theorem z3o.nil (e:TypeId) (w:I) (base:Nat):z3o e w base (.slice none 0 0) []:=World.ownsRow_nil w base e 1
theorem z3o.alloc {e:TypeId} {w:I} {base:Nat} {v:Value} {l:List UInt8} (h:z3o e w base v l) (o:Obj):z3o e (w.alloc o) base v l:=World.ownsRow.alloc h o
theorem z3o.kept {e:TypeId} {w w':I} {base:Nat} {v:Value} {l:List UInt8} {row:Option Nat} (h:z3o e w base v l) (hg:w.grownBy w' row) (hne:v.ownBlock=none∨v.ownBlock≠row):z3o e w' base v l:=World.ownsRow.kept h hg hne
def y4j (w:I) (v v':J):Prop:=v'.ownBlock=v.ownBlock∨∀ g,v'.ownBlock=some g→w.heap.size≤g
theorem y4j.refl (w:I) (v:J):y4j w v v:=.inl rfl
theorem y4j.trans {w w1:I} {v v1 v2:Value} (h:y4j w v v1) (hs:w.heap.size≤w1.heap.size) (h2:y4j w1 v1 v2):y4j w v v2:=by
 rcases h2 with h2|h2
 ·rcases h with h|h
  ·exact .inl (h2.trans h)
  ·exact .inr fun g hg=>h g (h2 ▸ hg)
 ·exact .inr fun g hg=>Nat.le_trans hs (h2 g hg)
theorem z2a {w w1 w2:I} {G G1:Option Nat} (h:w.grownBy w1 G) (h2:w1.grownBy w2 G1) (hG:G1=G∨∀ g,G1=some g→w.heap.size≤g):w.grownBy w2 G :=
 ⟨h2.os.trans h.os,h2.tape.trans h.tape,h2.output.trans h.output,Nat.le_trans h.size h2.size,fun k hk hne=>by
  rw [h2.block k (Nat.lt_of_lt_of_le hk h.size) (fun e=>by rcases hG with hG|hG;exact hne (e.trans hG);have:=hG k e.symm;omega)]
  exact h.block k hk hne⟩
theorem z1b (w:I) (G:Option Nat):w.grownBy w G:=⟨rfl,rfl,rfl,Nat.le_refl _,fun _ _ _=>rfl⟩
theorem z4a {w w1:I} {G:Option Nat} (h:w.grownBy w1 G) (o:Obj):w.grownBy (w1.alloc o) G:=z2a h (World.grownBy_alloc w1 o G) (.inl rfl)
def RdB (w:I) (v:J) (l:List UInt8):Prop :=
 (v=.slice none 0 0∧l=[])∨∃ a cap,v=.slice (some a) l.length cap∧(l=[]∨a.spot=none)∧l.length≤cap∧cap≤maxLen∧∀ j u,(z8a l)[j]? = some u→w.cell? (a.add j)=some u
section
variable {P:Program} {w:I} {ops:Array Oper} {rest:List Oper} {o:Oper} {a:Act} {Q:Exit→Act→I→Prop}
theorem z4r {t e:TypeId} (ht:P.underlying t=some (.slice e)) (he:(P.info? e).map (fun i=>(i.zero,i.size,i.bytes))=some (some (.int .u8 0),1,1))
 (hgd:o.guard=none) (s x:Operand) (ho:o.op=.call { callee:=.builtin .append,args:=#[s,x],argTypes:=#[t,t] })
 (base:Nat) (v:J) (l:List UInt8) (hs:a.eval s=v) (hown:z3o e w base v l)
 (ad:Addr) (c:Nat) (m:List UInt8) (hx:a.eval x=.slice (some ad) m.length c) (hm:∀ j u,(z8a m)[j]? = some u→w.cell? (ad.add j)=some u)
 (hl:l.length+m.length≤140737488355328) (hbase:base≤w.heap.size)
 (h:∀ v' w',z3o e w' base v' (l++m)→w.grownBy w' v.ownBlock→y4j w v v'→wpList P ops Q rest (a.put o.dst v') w'):wpList P ops Q (o::rest) a w:=by
 obtain ⟨i0,hi,lI,gV,lJ⟩:=info_parts he
 obtain ⟨v',w',hr,h2,h3,_,h5⟩:=run_append_own_at (P:=P) w base t o.type e i0 (.int .u8 0) 1 1 ht hi lI gV lJ rfl (by decide) v l.length (z8a l) hown ad m.length c (z8a m) (by simp [z8b]) hm (z5o m) (by unfold maxLen;omega) (by omega) hbase
 refine wpList_plain hgd fun _ hK=>?_
 unfold Oper.wp execOp
 simp only [ho,resolve,invoke,builtin,Sem.run_bind,Sem.run_pure,Result.andThen_ok,List.map_toArray,List.map_cons,List.map_nil,hs,hx,hr]
 refine hK _ _ (h v' w' ?_ h3 ?_)
 ·unfold z3o;rw [z3p,List.length_append];exact h2
 ·rcases h5 with h5|h5
  ·exact .inl h5
  ·exact .inr fun g hg=>by rw [h5] at hg;cases hg;exact Nat.le_refl _
end
def y2u (y:Nat):UInt8:=y.toUInt8
def y2o (y:Nat):UInt8:=(y % 128+128).toUInt8
def y2e:Nat→Nat→List UInt8
 | 0,u=>[y2u u]
 | f+1,u=>if u<128 then [y2u u] else y2o u::y2e f (u / 128)
def num (u:Nat):List UInt8:=y2e 9 u
theorem z0i (f u:Nat):(y2e f u).length≤f+1:=by
 induction f generalizing u with
 | zero=>simp [y2e]
 | succ f ih=>unfold y2e;split <;> simp;exact ih _
theorem j7p (f u:Nat):0<(y2e f u).length:=by cases f <;> simp [y2e] <;> split <;> simp
theorem k7x:∀ b:Fin 256,bits BinOp.or IntKind.u8 ((b:Nat):Int) 128=(((b.val % 128+128:Nat)):Int):=by decide +kernel
end Go.Proofs.YtdblnbnofjggnaaGreatDoor
