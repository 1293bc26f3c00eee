/- Parts of the proofs of chapter 49's laws: App. -/
import Derived.Test.YtdblnbnofjggnaaGreatDoorM05
import Derived.Deep.AppendSrc
namespace Go.Proofs.YtdblnbnofjggnaaGreatDoor
open Go.RowKit
section
variable {P:Program} (w:World)
theorem z3y (base:Nat) (t tx ty e:TypeId) (i:TypeInfo) (z:Value) (size bytes:Nat) (ht:P.underlying t = some (.slice e)) (hi:P.info? e = some i) (hz:i.zero = some z)
 (hsize:i.size = size) (hby:i.bytes = bytes) (hzs:z.cells.size = size)
 (v:Value) (n:Nat) (xs:List Value) (hown:w.ownsRow base e size v n xs) (x:Value) (m:Nat) (news:List Value) (hs:Src P size tx x m news w)
 (h63:n + m ≤ maxLen) (hbytes:(n + m) * bytes ≤ 140737488355328) (hbase:base ≤ w.heap.size) :
 ∃ v' w',(Builtin.append_ #[t,tx] ty #[v,x]).run P w = .ok v' w'∧w'.ownsRow base e size v' (n + m) (xs ++ news)∧w.grownBy w' v.ownBlock∧y7g w v v':=by
 subst hsize
 subst hby
 have hl:=hs.newsLen
 have hsmall:n + m ≤ 9223372036854775807:=by simp only [maxLen] at h63;omega
 have hlen:(xs ++ news).length = (n + m) * i.size:=by rw [List.length_append,hown.1,hl,Nat.add_mul]
 have grown:∀ (old:Nat),old < n + m→∀ (row:Option Nat),
  (w.drew.alloc (.cells ((xs ++ news).toArray ++ Builtin.zeroCells z.cells (grownCap w (n + m) old e - (n + m))) e)).ownsRow base e i.size
   (.slice (some ⟨w.heap.size,0,none⟩) (n + m) (grownCap w (n + m) old e)) (n + m) (xs ++ news) ∧
  w.grownBy (w.drew.alloc (.cells ((xs ++ news).toArray ++ Builtin.zeroCells z.cells (grownCap w (n + m) old e - (n + m))) e)) row:=by
  intro old ho row
  have hge:=grownCap_ge w (n + m) old e
  have hcm:grownCap w (n + m) old e ≤ maxLen:=grownCap_le_maxLen w (n + m) old e h63
  refine ⟨⟨hlen,.inr ⟨w.heap.size,_,_,rfl,hbase,heap_alloc_new w.drew _,hge,hcm,?_,?_⟩⟩,⟨rfl,rfl,rfl,by simp,fun k hk _=>Below.heap_alloc w.drew _ k hk⟩⟩
  · simp only [Array.size_append,List.size_toArray,size_zeroCells,hzs,hlen,← Nat.add_mul]
    congr 1
    omega
  · simp only [Array.toList_append]
    rw [← hlen]
    exact List.take_left
 have hnew:∀ c:Nat,y7g w v (.slice (some ⟨w.heap.size,0,none⟩) (n + m) c):=fun c=>.inr fun g hg=>by simp [Value.ownBlock] at hg;omega
 rcases hown.2 with ⟨rfl,rfl⟩ | ⟨g,cap,cur,rfl,hbg,hg,hnc,hcm,hcs,htake⟩
 · have hx:xs = []:=List.eq_nil_of_length_eq_zero (by simpa using hown.1)
   subst hx
   by_cases hm:m = 0
   · subst hm
     have hn:news = []:=List.eq_nil_of_length_eq_zero (by simpa using hl)
     subst hn
     refine ⟨.slice none 0 0,w,?_,World.ownsRow_nil w base e i.size,⟨rfl,rfl,rfl,Nat.le_refl _,fun _ _ _=>rfl⟩,y7g.refl _ _⟩
     have hc:=hs.cells
     rcases hs.kind with ⟨e',hk⟩ | hk <;> simp [Builtin.append_,run_underlying ht,run_underlying hk,sizeOf,typeInfo,hi,hs.len,hc]
   · have hold:(Builtin.firstCells i.size 0 (.slice none 0 0)).run P w.drew = .ok ([]:List Value).toArray w.drew:=run_firstCells_none w.drew i.size 0 0 0
     have hr:=run_append_grow_src (P:=P) w t tx ty e i z ht hi hz none 0 0 [] hold x m news hs (by omega) (by omega) (growslice_fits (by omega) (by simpa using hbytes))
     have hgr:=grown 0 (by omega) (Value.ownBlock (.slice none 0 0))
     simp only [Nat.zero_add,List.nil_append] at hgr hr ⊢
     exact ⟨_,_,hr,hgr.1,hgr.2,by simpa using hnew _⟩
 · by_cases hroom:n + m ≤ cap
   · have hfit:n * i.size + news.length ≤ cur.size:=by rw [hl,hcs,← Nat.add_mul];exact Nat.mul_le_mul_right _ hroom
     have hst:=run_storeCells_at P g (n * i.size) e news 0 cur w hg (by simpa using hfit) hs.one
     simp only [Nat.add_zero] at hst
     have hr:(Builtin.append_ #[t,tx] ty #[.slice (some ⟨g,0,none⟩) n cap,x]).run P w =
      .ok (.slice (some ⟨g,0,none⟩) (n + m) cap) (w.setRow g (cur.toList.take (n * i.size) ++ news ++ cur.toList.drop (n * i.size + news.length)).toArray):=by
      rcases hs.kind with ⟨e',hk⟩ | hk <;> simp [Builtin.append_,run_underlying ht,run_underlying hk,sizeOf,typeInfo,hi,hs.len,hroom,hs.cells,Addr.add_lit,hst]
     refine ⟨_,_,hr,⟨hlen,.inr ⟨g,cap,_,rfl,hbg,setRow_heap w g cur _ e _ hg,hroom,hcm,?_,?_⟩⟩,⟨rfl,rfl,rfl,by simp,fun k _ hk=>setRow_other w g k _ (fun e=>hk (by simp [Value.ownBlock,e]))⟩,.inl rfl⟩
     · simp only [List.size_toArray,List.length_append,List.length_take,List.length_drop,Array.length_toList]
       omega
     · rw [htake,← hlen]
       exact List.take_left
   · have holds:∀ j u,xs[j]? = some u→w.cell? ((⟨g,0,none⟩:Addr).add j) = some u:=hown.cells (g:=g) rfl
     have hold:(Builtin.firstCells i.size n (.slice (some ⟨g,0,none⟩) n cap)).run P w.drew = .ok xs.toArray w.drew:=run_firstCells_some w.drew i.size n _ n cap xs hown.1 (by simpa using holds)
     have hr:=run_append_grow_src (P:=P) w t tx ty e i z ht hi hz (some ⟨g,0,none⟩) n cap xs hold x m news hs (by omega) (by omega) (growslice_fits (by omega) hbytes)
     have hgr:=grown cap (by omega) (Value.ownBlock (.slice (some ⟨g,0,none⟩) n cap))
     exact ⟨_,_,hr,hgr.1,hgr.2,hnew _⟩
end
section
variable {P:Program} {w:World} {ops:Array Oper} {rest:List Oper} {o:Oper} {a:Act} {Q:Exit→Act→World→Prop}
theorem z1k {K:Act→World→Prop} {E:Prop} {t tx e:TypeId} {z:Value} {size bytes:Nat} (ht:P.underlying t = some (.slice e)) (he:(P.info? e).map (fun i=>(i.zero,i.size,i.bytes)) = some (some z,size,bytes)) (hzs:z.cells.size = size)
 (hgd:o.guard = none) (s y:Operand) (ho:o.op = .call { callee:=.builtin .append,args:=#[s,y],argTypes:=#[t,tx] })
 (base:Nat) (v:Value) (n:Nat) (xs:List Value) (hs:a.eval s = v) (hown:w.ownsRow base e size v n xs)
 (x:Value) (m:Nat) (news:List Value) (hx:a.eval y = x) (hsrc:Src P size tx x m news w)
 (h63:n + m ≤ maxLen) (hbytes:(n + m) * bytes ≤ 140737488355328) (hbase:base ≤ w.heap.size)
 (h:∀ v' w',w'.ownsRow base e size v' (n + m) (xs ++ news)→w.grownBy w' v.ownBlock→y7g w v v'→K (a.put o.dst v') w') :
 if Region.wanted o (yielded ops a.tmps) = true then Oper.wp P o a w K Q else E:=by
 have hw:Region.wanted o (yielded ops a.tmps) = true:=by simp [Region.wanted,hgd]
 rw [if_pos hw]
 obtain ⟨i0,hi,hz0,hz1,hz2⟩:=info_parts he
 obtain ⟨v',w',hr,h2,h3,h4⟩:=z3y (P:=P) w base t tx o.type e i0 z size bytes ht hi hz0 hz1 hz2 hzs v n xs hown x m news hsrc h63 hbytes hbase
 unfold Oper.wp execOp
 simp only [ho,resolve,invoke,builtin,Sem.run_bind,Sem.run_pure,Result.andThen_ok,List.map_toArray,List.map_cons,List.map_nil,hs,hx,hr]
 exact h v' w' h2 h3 h4
theorem z4h {t tx e:TypeId} {z:Value} {size bytes:Nat} (ht:P.underlying t = some (.slice e)) (he:(P.info? e).map (fun i=>(i.zero,i.size,i.bytes)) = some (some z,size,bytes)) (hzs:z.cells.size = size)
 (hgd:o.guard = none) (s y:Operand) (ho:o.op = .call { callee:=.builtin .append,args:=#[s,y],argTypes:=#[t,tx] })
 (base:Nat) (v:Value) (n:Nat) (xs:List Value) (hs:a.eval s = v) (hown:w.ownsRow base e size v n xs)
 (x:Value) (m:Nat) (news:List Value) (hx:a.eval y = x) (hsrc:Src P size tx x m news w)
 (h63:n + m ≤ maxLen) (hbytes:(n + m) * bytes ≤ 140737488355328) (hbase:base ≤ w.heap.size)
 (h:∀ v' w',w'.ownsRow base e size v' (n + m) (xs ++ news)→w.grownBy w' v.ownBlock→y7g w v v'→wpList P ops Q rest (a.put o.dst v') w'):wpList P ops Q (o :: rest) a w:=by
 refine wpList_plain hgd fun _ hK=>?_
 obtain ⟨i0,hi,hz0,hz1,hz2⟩:=info_parts he
 obtain ⟨v',w',hr,h2,h3,h4⟩:=z3y (P:=P) w base t tx o.type e i0 z size bytes ht hi hz0 hz1 hz2 hzs v n xs hown x m news hsrc h63 hbytes hbase
 unfold Oper.wp execOp
 simp only [ho,resolve,invoke,builtin,Sem.run_bind,Sem.run_pure,Result.andThen_ok,List.map_toArray,List.map_cons,List.map_nil,hs,hx,hr]
 exact hK _ _ (h v' w' h2 h3 h4)
def j7v (P:Program) (tx:TypeId) (w:World) (x:Value) (m:List UInt8):Prop:=Src P 1 tx x m.length (z5a m) w
theorem j7v.ofString {tx:TypeId} (hk:P.underlying tx = some .string) (s:ByteArray) (w:World):j7v P tx w (.string s) s.data.toList:=by
 have h:=Src.ofString (P:=P) w hk s
 unfold j7v
 rw [show s.data.toList.length = s.size from by simp]
 exact h
theorem j7v.ofRd {tx e':TypeId} (hk:P.underlying tx = some (.slice e')) {x:Value} {m:List UInt8} (h:RdB w x m):j7v P tx w x m:=by
 rcases h with ⟨rfl,rfl⟩ | ⟨ad,cap,rfl,_,_,_,hc⟩
 · exact Src.ofNil (P:=P) w hk 0
 · exact Src.ofSlice (P:=P) w hk ad m.length cap (z5a m) (by simp [z3b]) hc (z8m m)
theorem j7v.ofCells {tx e':TypeId} (hk:P.underlying tx = some (.slice e')) {ad:Addr} {cap:Nat} {m:List UInt8} (hc:∀ j u,(z5a m)[j]? = some u→w.cell? (ad.add j) = some u):j7v P tx w (.slice (some ad) m.length cap) m :=
 Src.ofSlice (P:=P) w hk ad m.length cap (z5a m) (by simp [z3b]) hc (z8m m)
theorem z0k.rd {e:TypeId} {base:Nat} {v:Value} {l:List UInt8} (h:z0k e w base v l):RdB w v l:=by
 have hc:=h.2
 rcases hc with ⟨rfl,h0⟩ | ⟨g,cap,cur,rfl,hb,hg,hn,hm,hcs,ht⟩
 · exact .inl ⟨rfl,List.eq_nil_of_length_eq_zero h0⟩
 · exact .inr ⟨⟨g,0,none⟩,cap,rfl,.inr rfl,hn,hm,World.ownsRow.cells (e:=e) h (g:=g) rfl⟩
theorem z5h {K:Act→World→Prop} {E:Prop} {t tx e:TypeId} (ht:P.underlying t = some (.slice e)) (he:(P.info? e).map (fun i=>(i.zero,i.size,i.bytes)) = some (some (.int .u8 0),1,1))
 (hgd:o.guard = none) (s y:Operand) (ho:o.op = .call { callee:=.builtin .append,args:=#[s,y],argTypes:=#[t,tx] })
 (base:Nat) (v:Value) (l:List UInt8) (hs:a.eval s = v) (hown:z0k e w base v l)
 (x:Value) (m:List UInt8) (hx:a.eval y = x) (hsrc:j7v P tx w x m)
 (hl:l.length + m.length ≤ 140737488355328) (hbase:base ≤ w.heap.size)
 (h:∀ v' w',z0k e w' base v' (l ++ m)→w.grownBy w' v.ownBlock→y7g w v v'→K (a.put o.dst v') w') :
 if Region.wanted o (yielded ops a.tmps) = true then Oper.wp P o a w K Q else E :=
 z1k ht he rfl hgd s y ho base v l.length (z5a l) hs hown x m.length (z5a m) hx hsrc (by unfold maxLen;omega) (by omega) hbase fun v' w' h1 h2 h3 =>
  h v' w' (by unfold z0k;rw [z0o,List.length_append];exact h1) h2 h3
theorem z9b {t tx e:TypeId} (ht:P.underlying t = some (.slice e)) (he:(P.info? e).map (fun i=>(i.zero,i.size,i.bytes)) = some (some (.int .u8 0),1,1))
 (hgd:o.guard = none) (s y:Operand) (ho:o.op = .call { callee:=.builtin .append,args:=#[s,y],argTypes:=#[t,tx] })
 (base:Nat) (v:Value) (l:List UInt8) (hs:a.eval s = v) (hown:z0k e w base v l)
 (x:Value) (m:List UInt8) (hx:a.eval y = x) (hsrc:j7v P tx w x m)
 (hl:l.length + m.length ≤ 140737488355328) (hbase:base ≤ w.heap.size)
 (h:∀ v' w',z0k e w' base v' (l ++ m)→w.grownBy w' v.ownBlock→y7g w v v'→wpList P ops Q rest (a.put o.dst v') w'):wpList P ops Q (o :: rest) a w :=
 z4h ht he rfl hgd s y ho base v l.length (z5a l) hs hown x m.length (z5a m) hx hsrc (by unfold maxLen;omega) (by omega) hbase fun v' w' h1 h2 h3 =>
  h v' w' (by unfold z0k;rw [z0o,List.length_append];exact h1) h2 h3
theorem y0s {w:World} {B:Nat} {c:UInt8} {x:Int} (h:w.cell? ⟨B,0,none⟩ = some (.int .u8 x)) (hx:x = (c.toNat:Int)):∀ (j:Nat) (u:Value),(z5a [c])[j]? = some u→w.cell? ((⟨B,0,none⟩:Addr).add j) = some u:=by
 subst hx
 intro j u hu
 match j,hu with
 | 0,hu=>simp [z5a] at hu;subst hu;simpa [Addr.add] using h
theorem z2o {K:Act→World→Prop} {E:Prop} {t e:TypeId} (ht:P.underlying t = some (.slice e)) (he:(P.info? e).map (fun i=>(i.zero,i.size,i.bytes)) = some (some (.int .u8 0),1,1))
 (hgd:o.guard = none) (s y:Operand) (ho:o.op = .call { callee:=.builtin .append,args:=#[s,y],argTypes:=#[t,t] })
 (base:Nat) (v:Value) (l:List UInt8) (hs:a.eval s = v) (hown:z0k e w base v l)
 (B:Nat) (xi:Int) (c:UInt8) (hx:a.eval y = .slice (some ⟨B,0,none⟩) 1 1) (hcell:w.cell? ⟨B,0,none⟩ = some (.int .u8 xi)) (hxi:xi = (c.toNat:Int))
 (hl:l.length ≤ 140737488355000) (hbase:base ≤ w.heap.size)
 (h:∀ v' w',z0k e w' base v' (l ++ [c])→w.grownBy w' v.ownBlock→y7g w v v'→K (a.put o.dst v') w') :
 if Region.wanted o (yielded ops a.tmps) = true then Oper.wp P o a w K Q else E :=
 z5h ht he hgd s y ho base v l hs hown _ [c] hx (j7v.ofCells ht (m:=[c]) (cap:=1) (y0s hcell hxi)) (by simp;omega) hbase h
theorem z6f {t e:TypeId} (ht:P.underlying t = some (.slice e)) (he:(P.info? e).map (fun i=>(i.zero,i.size,i.bytes)) = some (some (.int .u8 0),1,1))
 (hgd:o.guard = none) (s y:Operand) (ho:o.op = .call { callee:=.builtin .append,args:=#[s,y],argTypes:=#[t,t] })
 (base:Nat) (v:Value) (l:List UInt8) (hs:a.eval s = v) (hown:z0k e w base v l)
 (B:Nat) (xi:Int) (c:UInt8) (hx:a.eval y = .slice (some ⟨B,0,none⟩) 1 1) (hcell:w.cell? ⟨B,0,none⟩ = some (.int .u8 xi)) (hxi:xi = (c.toNat:Int))
 (hl:l.length ≤ 140737488355000) (hbase:base ≤ w.heap.size)
 (h:∀ v' w',z0k e w' base v' (l ++ [c])→w.grownBy w' v.ownBlock→y7g w v v'→wpList P ops Q rest (a.put o.dst v') w'):wpList P ops Q (o :: rest) a w :=
 z9b ht he hgd s y ho base v l hs hown _ [c] hx (j7v.ofCells ht (m:=[c]) (cap:=1) (y0s hcell hxi)) (by simp;omega) hbase h
end
end Go.Proofs.YtdblnbnofjggnaaGreatDoor
