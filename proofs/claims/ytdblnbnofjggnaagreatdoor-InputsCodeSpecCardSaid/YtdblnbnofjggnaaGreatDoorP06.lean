/- Parts of the proofs of chapter 49's laws. -/
import Derived.Test.YtdblnbnofjggnaaGreatDoorP05
import Derived.Deep.AppendSrc
open Go.Value renaming slice → Z
open Option renaming none → X, some → I
open Go renaming World → G, Value → J, TypeId → Y, maxLen → M
set_option linter.all false
namespace Go.Proofs.YtdblnbnofjggnaaGreatDoor
open Go.RowKit
section
variable {P:Program} (w:G)
theorem y4b (base:Nat) (t tx ty e:Y) (i:TypeInfo) (z:J) (size bytes:Nat) (ht:P.underlying t=I (.slice e)) (hi:P.info? e=I i) (hz:i.zero=I z)
 (hsize:i.size=size) (hby:i.bytes=bytes) (hzs:z.cells.size=size)
 (v:J) (n:Nat) (xs:List J) (hown:w.ownsRow base e size v n xs) (x:J) (m:Nat) (news:List J) (hs:Src P size tx x m news w)
 (lK:n+m≤M) (hbytes:(n+m) * bytes≤140737488355328) (hbase:base≤w.heap.size) :
 ∃ v' w',(Builtin.append_ #[t,tx] ty #[v,x]).run P w=.ok v' w'∧w'.ownsRow base e size v' (n+m) (xs++news)∧w.grownBy w' v.ownBlock∧y4j w v v':=by
 subst hsize
 subst hby
 have hl:=hs.newsLen
 have hsmall:n+m≤9223372036854775807:=by simp only [M] at lK;omega
 have hlen:(xs++news).length=(n+m) * i.size:=by rw [List.length_append,hown.1,hl,Nat.add_mul]
 have grown:∀ (old:Nat),old<n+m→∀ (row:Option Nat),
  (w.drew.alloc (.cells ((xs++news).toArray++Builtin.zeroCells z.cells (grownCap w (n+m) old e - (n+m))) e)).ownsRow base e i.size
   (Z (I ⟨w.heap.size,0,X⟩) (n+m) (grownCap w (n+m) old e)) (n+m) (xs++news) ∧
  w.grownBy (w.drew.alloc (.cells ((xs++news).toArray++Builtin.zeroCells z.cells (grownCap w (n+m) old e - (n+m))) e)) row:=by
  intro old ho row
  have hge:=grownCap_ge w (n+m) old e
  have hcm:grownCap w (n+m) old e≤M:=grownCap_le_maxLen w (n+m) old e lK
  refine ⟨⟨hlen,.inr ⟨w.heap.size,_,_,rfl,hbase,heap_alloc_new w.drew _,hge,hcm,?_,?_⟩⟩,⟨rfl,rfl,rfl,by simp,fun k hk _=>Below.heap_alloc w.drew _ k hk⟩⟩
  ·simp only [Array.size_append,List.size_toArray,size_zeroCells,hzs,hlen,← Nat.add_mul]
   congr 1
   omega
  ·simp only [Array.toList_append]
   rw [← hlen]
   exact List.take_left
 have hnew:∀ c:Nat,y4j w v (Z (I ⟨w.heap.size,0,X⟩) (n+m) c):=fun c=>.inr fun g hg=>by simp [Value.ownBlock] at hg;omega
 rcases hown.2 with ⟨rfl,rfl⟩|⟨g,cap,cur,rfl,hbg,hg,hnc,hcm,hcs,htake⟩
 ·have hx:xs=[]:=List.eq_nil_of_length_eq_zero (by simpa using hown.1)
  subst hx
  by_cases hm:m=0
  ·subst hm
   have hn:news=[]:=List.eq_nil_of_length_eq_zero (by simpa using hl)
   subst hn
   refine ⟨Z X 0 0,w,?_,World.ownsRow_nil w base e i.size,⟨rfl,rfl,rfl,Nat.le_refl _,fun _ _ _=>rfl⟩,y4j.refl _ _⟩
   have hc:=hs.cells
   rcases hs.kind with ⟨e',hk⟩|hk <;> simp [Builtin.append_,run_underlying ht,run_underlying hk,sizeOf,typeInfo,hi,hs.len,hc]
  ·have hold:(Builtin.firstCells i.size 0 (Z X 0 0)).run P w.drew=.ok ([]:List J).toArray w.drew:=run_firstCells_none w.drew i.size 0 0 0
   have hr:=run_append_grow_src (P:=P) w t tx ty e i z ht hi hz X 0 0 [] hold x m news hs (by omega) (by omega) (growslice_fits (by omega) (by simpa using hbytes))
   have hgr:=grown 0 (by omega) (Value.ownBlock (Z X 0 0))
   simp only [Nat.zero_add,List.nil_append] at hgr hr ⊢
   exact ⟨_,_,hr,hgr.1,hgr.2,by simpa using hnew _⟩
 ·by_cases hroom:n+m≤cap
  ·have hfit:n * i.size+news.length≤cur.size:=by rw [hl,hcs,← Nat.add_mul];exact Nat.mul_le_mul_right _ hroom
   have hst:=run_storeCells_at P g (n * i.size) e news 0 cur w hg (by simpa using hfit) hs.one
   simp only [Nat.add_zero] at hst
   have hr:(Builtin.append_ #[t,tx] ty #[Z (I ⟨g,0,X⟩) n cap,x]).run P w =
    .ok (Z (I ⟨g,0,X⟩) (n+m) cap) (w.setRow g (cur.toList.take (n * i.size)++news++cur.toList.drop (n * i.size+news.length)).toArray):=by
    rcases hs.kind with ⟨e',hk⟩|hk <;> simp [Builtin.append_,run_underlying ht,run_underlying hk,sizeOf,typeInfo,hi,hs.len,hroom,hs.cells,Addr.add_lit,hst]
   refine ⟨_,_,hr,⟨hlen,.inr ⟨g,cap,_,rfl,hbg,setRow_heap w g cur _ e _ hg,hroom,hcm,?_,?_⟩⟩,⟨rfl,rfl,rfl,by simp,fun k _ hk=>setRow_other w g k _ (fun e=>hk (by simp [Value.ownBlock,e]))⟩,.inl rfl⟩
   ·simp only [List.size_toArray,List.length_append,List.length_take,List.length_drop,Array.length_toList]
    omega
   ·rw [htake,← hlen]
    exact List.take_left
  ·have holds:∀ j u,xs[j]? = I u→w.cell? ((⟨g,0,X⟩:Addr).add j)=I u:=hown.cells (g:=g) rfl
   have hold:(Builtin.firstCells i.size n (Z (I ⟨g,0,X⟩) n cap)).run P w.drew=.ok xs.toArray w.drew:=run_firstCells_some w.drew i.size n _ n cap xs hown.1 (by simpa using holds)
   have hr:=run_append_grow_src (P:=P) w t tx ty e i z ht hi hz (I ⟨g,0,X⟩) n cap xs hold x m news hs (by omega) (by omega) (growslice_fits (by omega) hbytes)
   have hgr:=grown cap (by omega) (Value.ownBlock (Z (I ⟨g,0,X⟩) n cap))
   exact ⟨_,_,hr,hgr.1,hgr.2,hnew _⟩
end
section
variable {P:Program} {w:G} {ops:Array Oper} {rest:List Oper} {o:Oper} {a:Act} {Q:Exit→Act→G→Prop}
theorem z8k {K:Act→G→Prop} {E:Prop} {t tx e:Y} {z:Value} {size bytes:Nat} (ht:P.underlying t=I (.slice e)) (he:(P.info? e).map (fun i=>(i.zero,i.size,i.bytes))=I (I z,size,bytes)) (hzs:z.cells.size=size)
 (hgd:o.guard=X) (s y:Operand) (ho:o.op=.call { callee:=.builtin .append,args:=#[s,y],argTypes:=#[t,tx] })
 (base:Nat) (v:J) (n:Nat) (xs:List J) (hs:a.eval s=v) (hown:w.ownsRow base e size v n xs)
 (x:J) (m:Nat) (news:List J) (hx:a.eval y=x) (hsrc:Src P size tx x m news w)
 (lK:n+m≤M) (hbytes:(n+m) * bytes≤140737488355328) (hbase:base≤w.heap.size)
 (h:∀ v' w',w'.ownsRow base e size v' (n+m) (xs++news)→w.grownBy w' v.ownBlock→y4j w v v'→K (a.put o.dst v') w') :
 if Region.wanted o (yielded ops a.tmps)=true then Oper.wp P o a w K Q else E:=by
 have hw:Region.wanted o (yielded ops a.tmps)=true:=by simp [Region.wanted,hgd]
 rw [if_pos hw]
 obtain ⟨i0,hi,lI,gV,lJ⟩:=info_parts he
 obtain ⟨v',w',hr,h2,h3,h4⟩:=y4b (P:=P) w base t tx o.type e i0 z size bytes ht hi lI gV lJ hzs v n xs hown x m news hsrc lK hbytes hbase
 unfold Oper.wp execOp
 simp only [ho,resolve,invoke,builtin,Sem.run_bind,Sem.run_pure,Result.andThen_ok,List.map_toArray,List.map_cons,List.map_nil,hs,hx,hr]
 exact h v' w' h2 h3 h4
theorem z4e {t tx e:Y} {z:Value} {size bytes:Nat} (ht:P.underlying t=I (.slice e)) (he:(P.info? e).map (fun i=>(i.zero,i.size,i.bytes))=I (I z,size,bytes)) (hzs:z.cells.size=size)
 (hgd:o.guard=X) (s y:Operand) (ho:o.op=.call { callee:=.builtin .append,args:=#[s,y],argTypes:=#[t,tx] })
 (base:Nat) (v:J) (n:Nat) (xs:List J) (hs:a.eval s=v) (hown:w.ownsRow base e size v n xs)
 (x:J) (m:Nat) (news:List J) (hx:a.eval y=x) (hsrc:Src P size tx x m news w)
 (lK:n+m≤M) (hbytes:(n+m) * bytes≤140737488355328) (hbase:base≤w.heap.size)
 (h:∀ v' w',w'.ownsRow base e size v' (n+m) (xs++news)→w.grownBy w' v.ownBlock→y4j w v v'→wpList P ops Q rest (a.put o.dst v') w'):wpList P ops Q (o::rest) a w:=by
 refine wpList_plain hgd fun _ hK=>?_
 obtain ⟨i0,hi,lI,gV,lJ⟩:=info_parts he
 obtain ⟨v',w',hr,h2,h3,h4⟩:=y4b (P:=P) w base t tx o.type e i0 z size bytes ht hi lI gV lJ hzs v n xs hown x m news hsrc lK hbytes hbase
 unfold Oper.wp execOp
 simp only [ho,resolve,invoke,builtin,Sem.run_bind,Sem.run_pure,Result.andThen_ok,List.map_toArray,List.map_cons,List.map_nil,hs,hx,hr]
 exact hK _ _ (h v' w' h2 h3 h4)
def k2b (P:Program) (tx:Y) (w:G) (x:J) (m:List UInt8):Prop:=Src P 1 tx x m.length (z8a m) w
theorem k2b.ofString {tx:Y} (hk:P.underlying tx=I .string) (s:ByteArray) (w:G):k2b P tx w (.string s) s.data.toList:=by
 have h:=Src.ofString (P:=P) w hk s
 unfold k2b
 rw [show s.data.toList.length=s.size from by simp]
 exact h
theorem k2b.ofRd {tx e':Y} (hk:P.underlying tx=I (.slice e')) {x:Value} {m:List UInt8} (h:RdB w x m):k2b P tx w x m:=by
 rcases h with ⟨rfl,rfl⟩|⟨ad,cap,rfl,_,_,_,hc⟩
 ·exact Src.ofNil (P:=P) w hk 0
 ·exact Src.ofSlice (P:=P) w hk ad m.length cap (z8a m) (by simp [z8b]) hc (z5o m)
theorem k2b.ofCells {tx e':Y} (hk:P.underlying tx=I (.slice e')) {ad:Addr} {cap:Nat} {m:List UInt8} (hc:∀ j u,(z8a m)[j]? = I u→w.cell? (ad.add j)=I u):k2b P tx w (Z (I ad) m.length cap) m :=
 Src.ofSlice (P:=P) w hk ad m.length cap (z8a m) (by simp [z8b]) hc (z5o m)
theorem z3o.rd {e:Y} {base:Nat} {v:Value} {l:List UInt8} (h:z3o e w base v l):RdB w v l:=by
 have hc:=h.2
 rcases hc with ⟨rfl,h0⟩|⟨g,cap,cur,rfl,hb,hg,hn,hm,hcs,ht⟩
 ·exact .inl ⟨rfl,List.eq_nil_of_length_eq_zero h0⟩
 ·exact .inr ⟨⟨g,0,X⟩,cap,rfl,.inr rfl,hn,hm,World.ownsRow.cells (e:=e) h (g:=g) rfl⟩
theorem z5i {K:Act→G→Prop} {E:Prop} {t tx e:Y} (ht:P.underlying t=I (.slice e)) (he:(P.info? e).map (fun i=>(i.zero,i.size,i.bytes))=I (I (.int .u8 0),1,1))
 (hgd:o.guard=X) (s y:Operand) (ho:o.op=.call { callee:=.builtin .append,args:=#[s,y],argTypes:=#[t,tx] })
 (base:Nat) (v:J) (l:List UInt8) (hs:a.eval s=v) (hown:z3o e w base v l)
 (x:J) (m:List UInt8) (hx:a.eval y=x) (hsrc:k2b P tx w x m)
 (hl:l.length+m.length≤140737488355328) (hbase:base≤w.heap.size)
 (h:∀ v' w',z3o e w' base v' (l++m)→w.grownBy w' v.ownBlock→y4j w v v'→K (a.put o.dst v') w') :
 if Region.wanted o (yielded ops a.tmps)=true then Oper.wp P o a w K Q else E :=
 z8k ht he rfl hgd s y ho base v l.length (z8a l) hs hown x m.length (z8a m) hx hsrc (by unfold M;omega) (by omega) hbase fun v' w' h1 h2 h3 =>
  h v' w' (by unfold z3o;rw [z3p,List.length_append];exact h1) h2 h3
theorem z0e {t tx e:Y} (ht:P.underlying t=I (.slice e)) (he:(P.info? e).map (fun i=>(i.zero,i.size,i.bytes))=I (I (.int .u8 0),1,1))
 (hgd:o.guard=X) (s y:Operand) (ho:o.op=.call { callee:=.builtin .append,args:=#[s,y],argTypes:=#[t,tx] })
 (base:Nat) (v:J) (l:List UInt8) (hs:a.eval s=v) (hown:z3o e w base v l)
 (x:J) (m:List UInt8) (hx:a.eval y=x) (hsrc:k2b P tx w x m)
 (hl:l.length+m.length≤140737488355328) (hbase:base≤w.heap.size)
 (h:∀ v' w',z3o e w' base v' (l++m)→w.grownBy w' v.ownBlock→y4j w v v'→wpList P ops Q rest (a.put o.dst v') w'):wpList P ops Q (o::rest) a w :=
 z4e ht he rfl hgd s y ho base v l.length (z8a l) hs hown x m.length (z8a m) hx hsrc (by unfold M;omega) (by omega) hbase fun v' w' h1 h2 h3 =>
  h v' w' (by unfold z3o;rw [z3p,List.length_append];exact h1) h2 h3
theorem y7u {w:G} {B:Nat} {c:UInt8} {x:Int} (h:w.cell? ⟨B,0,X⟩=I (.int .u8 x)) (hx:x=(c.toNat:Int)):∀ (j:Nat) (u:J),(z8a [c])[j]? = I u→w.cell? ((⟨B,0,X⟩:Addr).add j)=I u:=by
 subst hx
 intro j u hu
 match j,hu with
 | 0,hu=>simp [z8a] at hu;subst hu;simpa [Addr.add] using h
theorem z5p {K:Act→G→Prop} {E:Prop} {t e:Y} (ht:P.underlying t=I (.slice e)) (he:(P.info? e).map (fun i=>(i.zero,i.size,i.bytes))=I (I (.int .u8 0),1,1))
 (hgd:o.guard=X) (s y:Operand) (ho:o.op=.call { callee:=.builtin .append,args:=#[s,y],argTypes:=#[t,t] })
 (base:Nat) (v:J) (l:List UInt8) (hs:a.eval s=v) (hown:z3o e w base v l)
 (B:Nat) (xi:Int) (c:UInt8) (hx:a.eval y=Z (I ⟨B,0,X⟩) 1 1) (hcell:w.cell? ⟨B,0,X⟩=I (.int .u8 xi)) (hxi:xi=(c.toNat:Int))
 (hl:l.length≤140737488355000) (hbase:base≤w.heap.size)
 (h:∀ v' w',z3o e w' base v' (l++[c])→w.grownBy w' v.ownBlock→y4j w v v'→K (a.put o.dst v') w') :
 if Region.wanted o (yielded ops a.tmps)=true then Oper.wp P o a w K Q else E :=
 z5i ht he hgd s y ho base v l hs hown _ [c] hx (k2b.ofCells ht (m:=[c]) (cap:=1) (y7u hcell hxi)) (by simp;omega) hbase h
theorem y6e {t e:Y} (ht:P.underlying t=I (.slice e)) (he:(P.info? e).map (fun i=>(i.zero,i.size,i.bytes))=I (I (.int .u8 0),1,1))
 (hgd:o.guard=X) (s y:Operand) (ho:o.op=.call { callee:=.builtin .append,args:=#[s,y],argTypes:=#[t,t] })
 (base:Nat) (v:J) (l:List UInt8) (hs:a.eval s=v) (hown:z3o e w base v l)
 (B:Nat) (xi:Int) (c:UInt8) (hx:a.eval y=Z (I ⟨B,0,X⟩) 1 1) (hcell:w.cell? ⟨B,0,X⟩=I (.int .u8 xi)) (hxi:xi=(c.toNat:Int))
 (hl:l.length≤140737488355000) (hbase:base≤w.heap.size)
 (h:∀ v' w',z3o e w' base v' (l++[c])→w.grownBy w' v.ownBlock→y4j w v v'→wpList P ops Q rest (a.put o.dst v') w'):wpList P ops Q (o::rest) a w :=
 z0e ht he hgd s y ho base v l hs hown _ [c] hx (k2b.ofCells ht (m:=[c]) (cap:=1) (y7u hcell hxi)) (by simp;omega) hbase h
end
end Go.Proofs.YtdblnbnofjggnaaGreatDoor
