/- Parts of the proofs of chapter 49's laws: Jlm. -/
import Derived.Test.YtdblnbnofjggnaaGreatDoorM37
import Derived.Test.YtdblnbnofjggnaaGreatDoorM12
import Derived.Test.YtdblnbnofjggnaaGreatDoorM24
namespace Go.Proofs.YtdblnbnofjggnaaGreatDoor
open Go.RowKit
theorem z8l {P:Program} {md:Region.Mode} {ops:Array Oper} {Q:Exit→Act→World→Prop} {S:World→Prop} {late:Nat→Bool} {c:Prop} {fuel:Nat} {listed l2:Array Bool} {a a2:Act} {w:World} {K:Act→World→Prop} (hK:Shut (∀ a w,(c→S w)→((c→S w)→z2e P md ops Q S late fuel listed a w)→K a w)) (hS:S w) (h:S w→z2e P md ops Q S late fuel l2 a2 w)
 (hl:listed = l2:=by first | (simp only [List.setIfInBounds_toArray,List.set_cons_zero,List.set_cons_succ];exact rfl) | exact rfl) (ha:a = a2:=by first | (simp only [Act.put,List.setIfInBounds_toArray,List.set_cons_zero,List.set_cons_succ];exact rfl) | exact rfl):K a w:=by
 subst hl ha
 exact hK.out _ _ (fun _=>hS) (fun _=>h hS)
def DL (D:Nat→Prop) (B:Nat) (w:World) (lv:Value):Nat→Prop:=fun j=>(D j∨B ≤ j)∧j < w.heap.size∧some j ≠ lv.ownBlock
def z3j (D:Nat→Prop) (B:Nat) (w:World) (lv:Value) (xs:List V):Prop:=x3j 80 (DL D B w lv) w B lv xs∧∀ j,D j→j < B
theorem z3j.nil (D:Nat→Prop) (B:Nat) (w:World) (hD:∀ j,D j→j < B):z3j D B w (.slice none 0 0) []:=⟨x3j.nil _ _ _ _,hD⟩
theorem z3j.keep {D:Nat→Prop} {B:Nat} {w w':World} {lv:Value} {xs:List V} {row:Option Nat} (h:z3j D B w lv xs) (hg:w.grownBy w' row) (hr:∀ q,row = some q→q < B∧¬ D q):z3j D B w' lv xs:=by
 refine ⟨(x3j.kept h.1 hg ?_ ?_ (fun k hk=>hk.2.1)).mono (fun k hk=>⟨hk.1,Nat.lt_of_lt_of_le hk.2.1 hg.size,hk.2.2⟩) (fun k hk=>hk.2.2),h.2⟩
 · cases hq:row with
   | none=>cases ho:lv.ownBlock with
    | none=>exact .inl rfl
    | some g=>exact .inr (by simp)
   | some q=>exact .inr fun e=>by have:=(x3j.own_lt h.1 q e).1;have:=(hr q hq).1;omega
 · intro k hk e
   obtain ⟨h1,h2⟩:=hr k e.symm
   rcases hk.1 with h | h
   · exact h2 h
   · omega
theorem z0d {w w':World} (h:Below w.heap.size w w'):w.grownBy w' none:=⟨h.os,h.tape,h.output,h.size,fun k hk _=>h.block k hk⟩
theorem z3j.ext {D:Nat→Prop} {B:Nat} {w w':World} {lv:Value} {xs:List V} (h:z3j D B w lv xs) (hb:Below w.heap.size w w'):z3j D B w' lv xs:=h.keep (z0d hb) (fun q e=>by cases e)
theorem z3j.alloc {D:Nat→Prop} {B:Nat} {w:World} {lv:Value} {xs:List V} (h:z3j D B w lv xs) (o:Obj):z3j D B (w.alloc o) lv xs:=h.ext (z5b o)
theorem z3j.set {D:Nat→Prop} {B T:Nat} {w:World} {lv:Value} {xs:List V} (h:z3j D B w lv xs) (hT:T < B) (hD:¬ D T) (i:Nat) (u:Value):z3j D B (w.setCell ⟨T,i,none⟩ u) lv xs :=
 h.keep (z8b w T i u) (fun q e=>by injection e with e;subst e;exact ⟨hT,hD⟩)
theorem z3j.own {D:Nat→Prop} {B:Nat} {w:World} {lv:Value} {xs:List V} (h:z3j D B w lv xs) (g:Nat) (hg:lv.ownBlock = some g):B ≤ g∧g < w.heap.size:=x3j.own_lt h.1 g hg
theorem z3j.shape {D:Nat→Prop} {B:Nat} {w:World} {lv:Value} {xs:List V} (h:z3j D B w lv xs):∃ oa cap,lv = .slice oa xs.length cap:=x3j.shape h.1
theorem z3j.sl {D:Nat→Prop} {B:Nat} {w:World} {lv:Value} {xs:List V} (h:z3j D B w lv xs):y0i (fun j=>(D j∨B ≤ j)∧j < w.heap.size) w xs lv :=
 x3j.sl h.1 (fun _ hk=>⟨hk.1,hk.2.1⟩) (fun g hg=>⟨.inr (h.own g hg).1,(h.own g hg).2⟩)
theorem z3j.rd {D:Nat→Prop} {B:Nat} {w:World} {lv:Value} {xs:List V} (h:z3j D B w lv xs):x0x (fun j=>(D j∨B ≤ j)∧j < w.heap.size) w (lV xs) (.agg #[.int .i64 3,.int .i64 0,.string ⟨#[]⟩,lv]) :=
 ⟨by show I64 3;unfold I64;omega,by show I64 0;unfold I64;omega,by show (0:Nat) ≤ _;unfold maxLen;decide,_,rfl,h.sl⟩
def y2e (D:Nat→Prop) (w:World) (x:V) (lx:Value):Prop:=I64 x.kind∧I64 x.n∧x.s.size ≤ maxLen∧y0i D w x.l lx
theorem y2e.keep {D D':Nat→Prop} {w w':World} {x:V} {lx:Value} (h:y2e D w x lx) (hB:∀ k,D k→D' k) (hs:∀ k,D k→w'.heap[k]? = w.heap[k]?):y2e D' w' x lx:=⟨h.1,h.2.1,h.2.2.1,h.2.2.2.keep hB hs⟩
theorem y2e.int (D:Nat→Prop) (w:World) (n:Int) (h:I64 n):y2e D w (iV n) (.slice none 0 0):=⟨by show I64 1;unfold I64;omega,h,by show (0:Nat) ≤ _;unfold maxLen;decide,.inl ⟨rfl,_,_,rfl⟩⟩
theorem y2e.txt (D:Nat→Prop) (w:World) (s:ByteArray) (h:s.size ≤ maxLen):y2e D w (tV s) (.slice none 0 0):=⟨by show I64 2;unfold I64;omega,by show I64 0;unfold I64;omega,h,.inl ⟨rfl,_,_,rfl⟩⟩
section
variable {P:Program} {w:World} {ops:Array Oper} {rest:List Oper} {o:Oper} {a:Act} {Q:Exit→Act→World→Prop}
theorem z2w {D:Nat→Prop} {B:Nat} {lv:Value} {xs:List V} {x:V} {lx:Value} {lv':Value} {w':World} (hown:z3j D B w lv xs) (hsl:y2e (DL D B w lv) w x lx)
 (lvs:List Value) (h2:z2t (DL D B w lv) w xs lvs) (g1:w'.ownsRow B 80 4 lv' (xs.length + 1) (z7d xs lvs ++ [.int .i64 x.kind,.int .i64 x.n,.string x.s,lx])) (g2:w.grownBy w' lv.ownBlock) (g3:y7g w lv lv') (hl:xs.length ≤ 1000000):z3j D B w' lv' (xs ++ [x]):=by
 have hlen:=z7r xs lvs h2
 have hnew:∀ k,DL D B w lv k→some k ≠ lv'.ownBlock:=fun k hk he=>by
  rcases g3 with g3 | g3
  · exact hk.2.2 (he.trans g3)
  · have:=g3 k he.symm;have:=hk.2.1;omega
 refine ⟨⟨lvs ++ [lx],?_,?_,by unfold maxLen;simp;omega,fun k hk=>hk.2.2⟩,hown.2⟩
 · rw [z3o xs lvs x lx hlen,List.length_append];exact g1
 · exact z9e (fun k hk=>⟨hk.1,Nat.lt_of_lt_of_le hk.2.1 g2.size,hnew k hk⟩) (fun k hk=>g2.block k hk.2.1 hk.2.2) _ _ (z4o xs lvs x lx h2 hsl)
theorem k7k {t:TypeId} (ht:P.underlying t = some (.slice 80)) {Bk:Nat} {x:V} {lx:Value} (hx1:lx.oneCell' = true) (hc:w.cell? ⟨Bk,0,none⟩ = some (.int .i64 x.kind)∧w.cell? ⟨Bk,1,none⟩ = some (.int .i64 x.n)∧w.cell? ⟨Bk,2,none⟩ = some (.string x.s)∧w.cell? ⟨Bk,3,none⟩ = some lx) :
 Src P 4 t (.slice (some ⟨Bk,0,none⟩) 1 1) 1 [.int .i64 x.kind,.int .i64 x.n,.string x.s,lx] w:=by
 refine Src.ofSlice (P:=P) w ht ⟨Bk,0,none⟩ 1 1 _ rfl (fun j u hu=>?_) (fun u hu=>?_)
 · match j,hu with
   | 0,hu=>simp at hu;subst hu;simpa [Addr.add] using hc.1
   | 1,hu=>simp at hu;subst hu;simpa [Addr.add] using hc.2.1
   | 2,hu=>simp at hu;subst hu;simpa [Addr.add] using hc.2.2.1
   | 3,hu=>simp at hu;subst hu;simpa [Addr.add] using hc.2.2.2
 · simp at hu;rcases hu with rfl | rfl | rfl | rfl
   · rfl
   · rfl
   · rfl
   · exact hx1
theorem z4d {t:TypeId} (ht:P.underlying t = some (.slice 80)) (he:(P.info? 80).map (fun i=>(i.zero,i.size,i.bytes)) = some (some (.agg #[.int .i64 0,.int .i64 0,.string ⟨#[]⟩,.slice none 0 0]),4,56))
 (hgd:o.guard = none) (s y:Operand) (ho:o.op = .call { callee:=.builtin .append,args:=#[s,y],argTypes:=#[t,t] })
 (D:Nat→Prop) (B:Nat) (lv:Value) (xs:List V) (hs:a.eval s = lv) (hown:z3j D B w lv xs) (Bk:Nat) (x:V) (lx:Value) (hx:a.eval y = .slice (some ⟨Bk,0,none⟩) 1 1) (hsl:y2e (DL D B w lv) w x lx)
 (hc:w.cell? ⟨Bk,0,none⟩ = some (.int .i64 x.kind)∧w.cell? ⟨Bk,1,none⟩ = some (.int .i64 x.n)∧w.cell? ⟨Bk,2,none⟩ = some (.string x.s)∧w.cell? ⟨Bk,3,none⟩ = some lx)
 (hl:xs.length ≤ 1000000) (hB:B ≤ w.heap.size)
 (h:∀ oa cap w',Hid (z3j D B w' (.slice oa (xs.length + 1) cap) (xs ++ [x]))→Hid (w.grownBy w' lv.ownBlock)→wpList P ops Q rest (a.put o.dst (.slice oa (xs.length + 1) cap)) w'):wpList P ops Q (o :: rest) a w:=by
 obtain ⟨lvs,h2,h3,h4,h5⟩:=id hown.1
 refine z4h ht he rfl hgd s y ho B lv xs.length (z7d xs lvs) hs h2 _ 1 _ hx (k7k ht (y0i.one hsl.2.2.2) hc) (by unfold maxLen;omega) (by omega) hB fun v' w' g1 g2 g3=>?_
 have hO:=z2w hown hsl lvs h3 g1 g2 g3 hl
 obtain ⟨oa,cap,rfl⟩:=hO.shape
 rw [List.length_append] at hO ⊢
 exact h oa cap w' hO g2
theorem z8h {K:Act→World→Prop} {E:Prop} {t:TypeId} (ht:P.underlying t = some (.slice 80)) (he:(P.info? 80).map (fun i=>(i.zero,i.size,i.bytes)) = some (some (.agg #[.int .i64 0,.int .i64 0,.string ⟨#[]⟩,.slice none 0 0]),4,56))
 (hgd:o.guard = none) (s y:Operand) (ho:o.op = .call { callee:=.builtin .append,args:=#[s,y],argTypes:=#[t,t] })
 (D:Nat→Prop) (B:Nat) (lv:Value) (xs:List V) (hs:a.eval s = lv) (hown:z3j D B w lv xs) (Bk:Nat) (x:V) (lx:Value) (hx:a.eval y = .slice (some ⟨Bk,0,none⟩) 1 1) (hsl:y2e (DL D B w lv) w x lx)
 (hc:w.cell? ⟨Bk,0,none⟩ = some (.int .i64 x.kind)∧w.cell? ⟨Bk,1,none⟩ = some (.int .i64 x.n)∧w.cell? ⟨Bk,2,none⟩ = some (.string x.s)∧w.cell? ⟨Bk,3,none⟩ = some lx)
 (hl:xs.length ≤ 1000000) (hB:B ≤ w.heap.size)
 (h:∀ oa cap w',Hid (z3j D B w' (.slice oa (xs.length + 1) cap) (xs ++ [x]))→Hid (w.grownBy w' lv.ownBlock)→K (a.put o.dst (.slice oa (xs.length + 1) cap)) w'):if Region.wanted o (yielded ops a.tmps) = true then Oper.wp P o a w K Q else E:=by
 obtain ⟨lvs,h2,h3,h4,h5⟩:=id hown.1
 refine z1k ht he rfl hgd s y ho B lv xs.length (z7d xs lvs) hs h2 _ 1 _ hx (k7k ht (y0i.one hsl.2.2.2) hc) (by unfold maxLen;omega) (by omega) hB fun v' w' g1 g2 g3=>?_
 have hO:=z2w hown hsl lvs h3 g1 g2 g3 hl
 obtain ⟨oa,cap,rfl⟩:=hO.shape
 rw [List.length_append] at hO ⊢
 exact h oa cap w' hO g2
end
inductive It where
 | num (n:Int)
 | flag (b:Bool)
 | txt (s:ByteArray)
 | span (a b:Int)
 | nums (l:List Int) (v:Value)
 | val (x:V) (lx:Value)
def It.v:It→Value
 | .num n=>.iface 3 (.int .i64 n)
 | .flag b=>.iface 4 (.bool b)
 | .txt s=>.iface 9 (.string s)
 | .span a b=>.iface 26 (.agg #[.int .i64 a,.int .i64 b])
 | .nums _ v=>.iface 24 v
 | .val x lx=>.iface 80 (.agg #[.int .i64 x.kind,.int .i64 x.n,.string x.s,lx])
def It.x:It→V
 | .num n=>iV n
 | .flag b=>bV b
 | .txt s=>tV s
 | .span a b=>spV a b
 | .nums l _=>nsV l
 | .val x _=>x
def It.dp:It→Nat
 | .span _ _=>1
 | _=>0
def It.ok (D:Nat→Prop) (w:World):It→Prop
 | .num n=>I64 n
 | .flag _=>True
 | .txt s=>s.size ≤ maxLen
 | .span a b=>I64 a∧I64 b
 | .nums l v=>(∀ n ∈ l,I64 n)∧l.length ≤ 1000000∧z9f nuK w.heap.size w l v
 | .val x lx=>y2e D w x lx
theorem It.ok_keep {D:Nat→Prop} {w w':World} {t:It} (h:t.ok D w) (hb:Below w.heap.size w w') (hD:∀ k,D k→k < w.heap.size):t.ok D w':=by
 cases t with
 | nums l v=>exact ⟨h.1,h.2.1,h.2.2.ext hb⟩
 | val x lx=>exact y2e.keep h (fun _ h=>h) (fun k hk=>hb.block k (hD k hk))
 | _=>exact h
def z6p (D:Nat→Prop) (w:World) (l:List It) (v:Value):Prop :=
 (∀ t ∈ l,t.ok D w)∧((l = []∧v = .slice none 0 0)∨∃ b cap,v = .slice (some ⟨b,0,none⟩) l.length cap∧b < w.heap.size∧∀ j t,l[j]? = some t→w.cell? ⟨b,j,none⟩ = some t.v)
theorem z6p.keep {D:Nat→Prop} {w w':World} {l:List It} {v:Value} (h:z6p D w l v) (hb:Below w.heap.size w w') (hD:∀ k,D k→k < w.heap.size):z6p D w' l v:=by
 refine ⟨fun t ht=>It.ok_keep (h.1 t ht) hb hD,?_⟩
 rcases h.2 with h | ⟨b,cap,h1,h2,h3⟩
 · exact .inl h
 · exact .inr ⟨b,cap,h1,Nat.lt_of_lt_of_le h2 hb.size,fun j t ht=>(World.cell?_of_block (w:=w) (hb.block b h2)).trans (h3 j t ht)⟩
theorem z6p.shape {D:Nat→Prop} {w:World} {l:List It} {v:Value} (h:z6p D w l v):∃ oa cap,v = .slice oa l.length cap:=by
 rcases h.2 with ⟨rfl,rfl⟩ | ⟨b,cap,rfl,_⟩
 · exact ⟨_,_,rfl⟩
 · exact ⟨_,_,rfl⟩
theorem z6p.at {D:Nat→Prop} {w:World} {l:List It} {oa:Option Addr} {cap k:Nat} {t:It} (h:z6p D w l (.slice oa l.length cap)) (ht:l[k]? = some t):∃ b,oa = some ⟨b,0,none⟩∧b < w.heap.size∧w.cell? ⟨b,k,none⟩ = some t.v:=by
 rcases h.2 with ⟨rfl,_⟩ | ⟨b,cap',he,h2,h3⟩
 · simp at ht
 · injection he with e1 e2 e3
   exact ⟨b,e1,h2,h3 k t ht⟩
theorem j4n {l:List It} {k:Nat} {t:It} (h:l[k]? = some t):(l.take (k + 1)).map It.x = (l.take k).map It.x ++ [t.x]:=by
 rw [List.take_add_one,h];simp
def j1z (D:Nat→Prop) (xs:List V) (w:World) (e:Ending) (w':World):Prop :=
 ∃ lv,e = .returned (.agg #[.int .i64 3,.int .i64 0,.string ⟨#[]⟩,lv])∧z3j D w.heap.size w' lv xs∧Below w.heap.size w w'
section
variable {P:Program}
theorem z3f (w:World) (x:TypeId) (t:TypeId) (v:Value) (d:TypeDesc) (hu:P.underlying t = some d) (hd:∀ m,d ≠ .interface m):(Instr.typeAssert (.iface t v) x t true).run P w = .ok (.tuple #[v,.bool true]) w:=by
 unfold Instr.typeAssert
 simp only [Sem.run_bind,run_underlying hu,Result.andThen_ok]
 cases d <;> first | exact absurd rfl (hd _) | (simp only [if_true];rfl)
theorem z3c (w:World) (x:TypeId) (t s:TypeId) (v z:Value) (d:TypeDesc) (hu:P.underlying t = some d) (hd:∀ m,d ≠ .interface m) (hne:¬ s = t) (hz:(zeroValue t).run P w = .ok z w):(Instr.typeAssert (.iface s v) x t true).run P w = .ok (.tuple #[z,.bool false]) w:=by
 unfold Instr.typeAssert
 simp only [Sem.run_bind,run_underlying hu,Result.andThen_ok]
 cases d <;> first | exact absurd rfl (hd _) | (simp only [hne,if_false,if_true,Sem.run_bind,hz,Result.andThen_ok];rfl)
end
end Go.Proofs.YtdblnbnofjggnaaGreatDoor
