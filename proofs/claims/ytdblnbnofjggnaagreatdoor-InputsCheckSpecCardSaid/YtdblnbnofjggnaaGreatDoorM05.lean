/- Parts of the proofs of chapter 49's laws: Bas Num Val Cbk Lim Dwd Dsp. -/
import Derived.Test.YtdblnbnofjggnaaGreatDoorM04
import Derived.Below
import Derived.Laws.BytesArg
import Derived.Lib.ConvBytes
set_option maxHeartbeats 1000000
set_option maxRecDepth 100000
open Go
open Lib renaming hid → hd_
namespace Go.Proofs.YtdblnbnofjggnaaGreatDoor
open Go.RowKit
theorem z3d {w w':World} {ob:Obj} (h:Below (w.alloc ob).heap.size (w.alloc ob) w'):Below w.heap.size w w' :=
 ((Below.refl _ w).alloc (Nat.le_refl _) ob).trans (h.mono (by simp))
theorem z8u {w w':World} {ob:Obj} (h:Below (w.heap.size + 1) (w.alloc ob) w'):Below w.heap.size w w' :=
 ((Below.refl _ w).alloc (Nat.le_refl _) ob).trans (h.mono (by omega))
theorem z0a {w w1 w2:World} (h:Below w.heap.size w w1) (h2:Below w1.heap.size w1 w2):Below w.heap.size w w2:=h.trans (h2.mono h.size)
theorem y7r {B:Nat} {w w':World} (h:Below B w.drew w'):Below B w w':=⟨h.os,h.tape,h.output,h.size,h.block⟩
theorem z1a {w w':World} (hb:Below w.heap.size w w') {p:Addr} {v:Value} (h:w.cell? p = some v):w'.cell? p = some v:=(hb.cell (World.block_lt_of_cell? w p h)).trans h
def z9c (B:Nat) (w:World) (l:List UInt8) (v:Value):Prop :=
 (l = []∧∃ oa cap,v = .slice oa 0 cap∧cap ≤ maxLen)∨(l ≠ []∧∃ b off cap,v = .slice (some ⟨b,off,none⟩) l.length cap∧l.length ≤ cap∧cap ≤ maxLen∧b < B∧∀ j c,l[j]? = some c→w.cell? ⟨b,off + j,none⟩ = some (.int .u8 (c.toNat:Int)))
theorem z9c.keep {B B':Nat} {w w':World} {l:List UInt8} {v:Value} (h:z9c B w l v) (hB:B ≤ B') (hs:∀ k,k < B→w'.heap[k]? = w.heap[k]?):z9c B' w' l v:=by
 rcases h with h | ⟨hne,b,off,cap,h1,h2,h3,h4,h5⟩
 · exact .inl h
 · exact .inr ⟨hne,b,off,cap,h1,h2,h3,Nat.lt_of_lt_of_le h4 hB,fun j c hj=>by rw [World.cell?_of_block (w:=w) (hs _ h4)];exact h5 j c hj⟩
theorem z9c.mk' {B:Nat} {w:World} {l:List UInt8} {b off cap n:Nat} (hn:n = l.length) (h2:l.length ≤ cap) (h3:cap ≤ maxLen) (h4:b < B) (h5:∀ j c,l[j]? = some c→w.cell? ⟨b,off + j,none⟩ = some (.int .u8 (c.toNat:Int))):z9c B w l (.slice (some ⟨b,off,none⟩) n cap):=by
 subst hn
 by_cases h:l = []
 · subst h;exact .inl ⟨rfl,_,cap,rfl,h3⟩
 · exact .inr ⟨h,b,off,cap,rfl,h2,h3,h4,h5⟩
theorem z9c.form {B:Nat} {w:World} {l:List UInt8} {v:Value} (h:z9c B w l v):∃ oa cap,v = .slice oa l.length cap∧l.length ≤ cap∧cap ≤ maxLen:=by
 rcases h with ⟨rfl,oa,cap,rfl,h⟩ | ⟨_,b,off,cap,rfl,h2,h3,_⟩
 · exact ⟨oa,cap,rfl,Nat.zero_le _,h⟩
 · exact ⟨_,cap,rfl,h2,h3⟩
theorem RdB.bts {w:World} {l:List UInt8} {v:Value} (h:RdB w v l):z9c w.heap.size w l v:=by
 rcases h with ⟨rfl,rfl⟩ | ⟨⟨b,off,sp⟩,cap,rfl,hs,h2,h3,h4⟩
 · exact .inl ⟨rfl,none,0,rfl,Nat.zero_le _⟩
 · by_cases hl:l = []
   · subst hl;exact .inl ⟨rfl,_,cap,rfl,h3⟩
   · rcases hs with hs | hs
     · exact absurd hs hl
     · have hsp:sp = none:=hs
       subst hsp
       have hc:∀ j c,l[j]? = some c→w.cell? ⟨b,off + j,none⟩ = some (.int .u8 (c.toNat:Int)):=fun j c hj=>by
        have:=h4 j (.int .u8 (c.toNat:Int)) (by simp [z5a,hj])
        have hplain:(⟨b,off,none⟩:Addr).add j = ⟨b,off + j,none⟩:=by unfold Addr.add;split <;> simp_all
        rw [hplain] at this;exact this
       obtain ⟨c,hc0⟩:∃ c,l[0]? = some c:=by cases l with | nil=>exact absurd rfl hl | cons c _=>exact ⟨c,rfl⟩
       exact .inr ⟨hl,b,off,cap,rfl,h2,h3,World.block_lt_of_cell? w ⟨b,off + 0,none⟩ (hc 0 c hc0),hc⟩
theorem y4b {P:Program} {src dst e:TypeId} (hs:P.underlying src = some (.slice e)) (he:P.underlying e = some (.int .u8)) (hd:P.underlying dst = some .string) {w:World} {v:Value} {l:List UInt8} (h:RdB w v l) :
 (convert src dst v).run P w = .ok (.string ⟨l.toArray⟩) w:=by
 rcases h with ⟨rfl,rfl⟩ | ⟨a,cap,rfl,_,_,_,hc⟩
 · rw [run_convert_bytes_nil w src e hs he 0 0 dst hd];rfl
 · have hl:(loadCells a l.length).run P w = .ok ((l.map fun c=>(c.toNat:Int)).map (Value.int .u8)).toArray w:=by
    have:=run_loadCells_list (P:=P) w a (z5a l) hc
    have e:((l.map fun c=>(c.toNat:Int)).map (Value.int .u8)) = z5a l:=by simp [z5a]
    rw [e];simpa [z3b] using this
   have e2:(l.map fun c=>(c.toNat:Int)).map (fun n=>UInt8.ofNat n.toNat) = l:=by
    rw [List.map_map]
    conv=>rhs;rw [← List.map_id l]
    exact List.map_congr_left fun c _=>by simp
   rw [run_convert_bytes_string w src dst e _ l.length cap hs he hd,run_bytesToString w a l.length cap _ hl,foldl_push_bytes,e2]
   simp [ByteArray.empty,ByteArray.emptyWithCapacity]
   rfl
theorem z1y {P:Program} {src dst e:TypeId} (hs:P.underlying src = some (.slice e)) (he:P.underlying e = some (.int .u8)) (hd:P.underlying dst = some .string) {B:Nat} {w:World} {v:Value} {l:List UInt8} (h:z9c B w l v) :
 (convert src dst v).run P w = .ok (.string ⟨l.toArray⟩) w:=by
 rcases h with ⟨rfl,oa,cap,rfl,hcm⟩ | ⟨hne,b,off,cap,rfl,h2,h3,h4,h5⟩
 · cases oa with
   | none=>rw [run_convert_bytes_nil w src e hs he 0 cap dst hd];rfl
   | some a=>exact y4b hs he hd (l:=[]) (.inr ⟨a,cap,rfl,.inl rfl,Nat.zero_le _,hcm,by simp [z5a]⟩)
 · refine y4b hs he hd (.inr ⟨⟨b,off,none⟩,cap,rfl,.inr rfl,h2,h3,fun j u hu=>?_⟩)
   obtain ⟨c,hc,rfl⟩:=z0j l j u hu
   have hplain:(⟨b,off,none⟩:Addr).add j = ⟨b,off + j,none⟩:=by unfold Addr.add;split <;> simp_all
   rw [hplain];exact h5 j c hc
theorem z9c.shape {B:Nat} {w:World} {l:List UInt8} {v:Value} (h:z9c B w l v):∃ oa cap,v = .slice oa l.length cap:=by
 rcases h with ⟨rfl,oa,cap,rfl,_⟩ | ⟨_,b,off,cap,rfl,_⟩
 · exact ⟨oa,cap,rfl⟩
 · exact ⟨_,cap,rfl⟩
theorem z9c.ext {w w':World} {l:List UInt8} {v:Value} (h:z9c w.heap.size w l v) (hb:Below w.heap.size w w'):z9c w'.heap.size w' l v:=h.keep hb.size hb.block
theorem x8i {B:Nat} {w:World} {v:Value} {l:List UInt8} (h:z9c B w l v):(convert 50 9 v).run Tryz.prog w = .ok (.string ⟨l.toArray⟩) w:=z1y Tryz.underlying50 Tryz.underlying5 Tryz.underlying9 h
theorem z9g {w w1:World} {G:Option Nat} (h:w.grownBy w1 G) (n:Nat):w.grownBy (w1.drewN n) G:=⟨h.os,h.tape,h.output,h.size,h.block⟩
theorem z5d {w w1:World} {R i:Nat} {v:Value} (h:w.grownBy w1 (some R)):w.grownBy (w1.setCell ⟨R,i,none⟩ v) (some R) :=
 ⟨h.os,h.tape,h.output,by have:=h.size;simpa [World.setCell] using this,fun k hk hne=>by rw [Below.heap_setCell _ _ _ _ (by show k ≠ R;exact fun e=>hne (by rw [e]))];exact h.block k hk hne⟩
theorem z1b {w w1:World} {G:Option Nat} {T i:Nat} {v:Value} (h:w.grownBy w1 G) (hT:w.heap.size ≤ T):w.grownBy (w1.setCell ⟨T,i,none⟩ v) G :=
 ⟨h.os,h.tape,h.output,by have:=h.size;simpa [World.setCell] using this,fun k hk hne=>by rw [Below.heap_setCell _ _ _ _ (by show k ≠ T;omega)];exact h.block k hk hne⟩
theorem z5f {w w1:World} {G:Option Nat} (h:w.grownBy w1 G):w.grownBy w1.drew G:=⟨h.os,h.tape,h.output,h.size,h.block⟩
theorem z8b (w:World) (T i:Nat) (v:Value):w.grownBy (w.setCell ⟨T,i,none⟩ v) (some T) :=
 ⟨rfl,rfl,rfl,by simp [World.setCell],fun k _ hne=>Below.heap_setCell _ _ _ _ (by show k ≠ T;exact fun h=>hne (by rw [h]))⟩
theorem z2y (s:ByteArray) (hs:s.size ≤ 1000000) (w:World) :
 ∃ cap w',(convert 9 50 (.string s)).run Tryz.prog w = .ok (.slice (some ⟨w.heap.size,0,none⟩) s.size cap) w'∧Below w.heap.size w w'∧z9c w'.heap.size w' s.data.toList (.slice (some ⟨w.heap.size,0,none⟩) s.size cap):=by
 refine ⟨_,_,Lib.run_convert_string_bytes w 9 50 5 s Tryz.underlying9 Tryz.underlying50 Tryz.underlying5,⟨rfl,rfl,rfl,?_,?_⟩,?_⟩
 · rw [Lib.bytesWorld_size];omega
 · exact fun k hk=>Lib.bytesWorld_at_old w _ s k hk
 · have h1:=grownCap_ge w s.size 0 5
   have h2:=grownCap_le_maxLen w s.size 0 5 (by unfold maxLen;omega)
   refine z9c.mk' (by simp) (by simpa using h1) h2 (by rw [Lib.bytesWorld_size];omega) fun j c hj=>?_
   have hjl:j < s.size:=by have:=(List.getElem?_eq_some_iff.1 hj).1;simpa using this
   rw [Nat.zero_add,Lib.bytesWorld_cell w _ s j hjl]
   simp [List.getD,hj]
theorem y2l (x:Nat):((y6r x).toNat:Int) = ((x % 256:Nat):Int):=by simp [y6r,Nat.toUInt8]
theorem x4b (x:Nat):((y1l x).toNat:Int) = (((x % 128 + 128) % 256:Nat):Int):=by simp [y1l,Nat.toUInt8]
theorem k9f (y:Nat):bits BinOp.or IntKind.u8 ((y:Int) % 256) 128 = ((y1l y).toNat:Int):=by
 have h:=k9p ⟨y % 256,Nat.mod_lt _ (by decide)⟩
 simp only at h
 rw [x4b]
 have e:((y:Int) % 256) = ((y % 256:Nat):Int):=by omega
 rw [e,h];congr 1;omega
theorem z0t (w:World) (v:Value) (t:TypeId) (l:List Value) (hl:l = [v]):∀ (j:Nat) (u:Value),l[j]? = some u→(w.alloc (.cells #[v] t)).cell? ((⟨w.heap.size,0,none⟩:Addr).add j) = some u:=by
 subst hl
 intro j u hu
 match j,hu with
 | 0,hu=>simp at hu;subst hu;simp [Addr.add]
theorem y8r (f y:Nat) (h:¬ y < 128):y3b (f + 1) y = [y1l y] ++ y3b f (y / 128):=by simp [y3b,h]
theorem y3l (f y:Nat) (h:y < 128):y3b f y = [y6r y]:=by cases f <;> simp [y3b,h]
theorem y5b (c:UInt8) (x:Int) (h:x = (c.toNat:Int)):z5a [c] = [Value.int .u8 x]:=by subst h;rfl
def y4l (base:Nat) (v:Value) (l:List UInt8) (w:World) (e:Ending) (w':World):Prop:=∃ v',e = .returned v'∧z0k 5 w' base v' l∧w.grownBy w' v.ownBlock∧y7g w v v'
def k0g (base:Nat) (v0:Value) (out:List UInt8) (w:World) (b x:Value) (wr:World):Prop :=
 ∃ (k:Nat) (pr:List UInt8) (y:Nat),y < 128 ^ (k + 1)∧x = .int .u64 y∧z0k 5 wr base b pr∧out = pr ++ y3b k y∧pr.length + k ≤ 100000000020∧w.grownBy wr v0.ownBlock∧y7g w v0 b∧base ≤ wr.heap.size
theorem z6t (base:Nat) (v:Value) (pre:List UInt8) (u:Nat) (hu:Hid (u < 18446744073709551616)) (w:World) (hown:z0k 5 w base v pre) (hsz:pre.length ≤ 100000000000) (hbase:base ≤ w.heap.size) :
 Calls Tryz.prog 158 #[v,.int .u64 u] w (y4l base v (pre ++ num u) w):=by
 go_enter Tryz.func158,Tryz.ntmps158
 go_wp2
 go_loopw [0,1] (fun b x wr=>k0g base v (pre ++ num u) w b x wr) (fun _ x _=>(intOf x).toNat)
 case atStart=>exact ⟨9,pre,u,Nat.lt_of_lt_of_le hu.out (by decide),rfl,hown,rfl,by omega,z7b _ _,y7g.refl _ _,hbase⟩
 case round =>
  obtain ⟨k,pr,y,hy,rfl,hown',heq,hlen,hg,hn,hb⟩:=hrel
  have Heq:=hd_ heq;have Hy:=hd_ hy;clear heq hy
  by_cases h:y < 128
  · go_wp2_with (at_builtin;refine z8p (e:=5) Tryz.underlying50 (by kernel_rfl) rfl _ _ rfl base _ pr rfl (hown'.alloc _) ⟨wr.heap.size,0,none⟩ 1 [y6r y] rfl ?c1 ?c2 ?c3 ?_)
    case c1=>refine z0t _ _ _ _ (y5b _ _ ?_);rw [y2l];omega
    case c2=>simp;omega
    case c3=>simp;omega
    intro v' w1 ho2 hg2 hn2
    go_wp2
    go_ret
    refine ⟨_,rfl,?_,z2a (z8a hg _) hg2 hn,hn.trans (z8a hg _).size hn2⟩
    rw [Heq.out,y3l _ _ h];exact ho2
  · go_wp2_with (at_builtin;refine z8p (e:=5) Tryz.underlying50 (by kernel_rfl) rfl _ _ rfl base _ pr rfl (hown'.alloc _) ⟨wr.heap.size,0,none⟩ 1 [y1l y] rfl ?c1 ?c2 ?c3 ?_)
    case c1=>exact z0t _ _ _ _ (y5b _ _ (k9f y))
    case c2=>simp;omega
    case c3=>simp;omega
    intro v' w1 ho2 hg2 hn2
    go_wp2
    go_roundw
    case rel =>
     obtain ⟨k',rfl⟩:∃ k',k = k' + 1:=⟨k - 1,by
      rcases k with _ | k
      · have:=Hy.out;simp at this;omega
      · rfl⟩
     refine ⟨k',_,y / 128,?_,?_,ho2,?_,?_,z2a (z8a hg _) hg2 hn,hn.trans (z8a hg _).size hn2,?_⟩
     · have:=Hy.out;rw [Nat.pow_succ] at this;exact Nat.div_lt_of_lt_mul (by omega)
     · go_num
     · rw [Heq.out,y8r _ _ h,List.append_assoc]
     · simp;omega
     · have:=hg2.size;simp at this;omega
    case measure=>simp [intOf];omega
inductive V where
 | mk (kind n:Int) (s:ByteArray) (l:List V)
def V.kind:V→Int | .mk k _ _ _=>k
def V.n:V→Int | .mk _ n _ _=>n
def V.s:V→ByteArray | .mk _ _ s _=>s
def V.l:V→List V | .mk _ _ _ l=>l
def I64 (n:Int):Prop:=-9223372036854775808 ≤ n∧n ≤ 9223372036854775807
mutual
def V.at (B:Nat) (w:World):V→Nat→Nat→Prop
 | .mk k n s l,b,off=>b < B∧I64 k∧I64 n∧s.size ≤ maxLen∧w.cell? ⟨b,off,none⟩ = some (.int .i64 k)∧w.cell? ⟨b,off + 1,none⟩ = some (.int .i64 n)∧w.cell? ⟨b,off + 2,none⟩ = some (.string s) ∧
  ∃ lv,w.cell? ⟨b,off + 3,none⟩ = some lv∧((l = []∧∃ oa cap,lv = .slice oa 0 cap)∨(l ≠ []∧∃ c o cap,lv = .slice (some ⟨c,o,none⟩) l.length cap∧l.length ≤ maxLen∧V.ats B w l c o))
def V.ats (B:Nat) (w:World):List V→Nat→Nat→Prop
 | [],_,_=>True
 | x :: r,b,off=>V.at B w x b off∧V.ats B w r b (off + 4)
end
def SlV (B:Nat) (w:World) (l:List V) (lv:Value):Prop :=
 (l = []∧∃ oa cap,lv = .slice oa 0 cap)∨(l ≠ []∧∃ c o cap,lv = .slice (some ⟨c,o,none⟩) l.length cap∧l.length ≤ maxLen∧V.ats B w l c o)
def RdV (B:Nat) (w:World) (x:V) (v:Value):Prop :=
 I64 x.kind∧I64 x.n∧x.s.size ≤ maxLen∧∃ lv,v = .agg #[.int .i64 x.kind,.int .i64 x.n,.string x.s,lv]∧SlV B w x.l lv
theorem SlV.form {B:Nat} {w:World} {l:List V} {lv:Value} (h:SlV B w l lv):∃ oa cap,lv = .slice oa l.length cap:=by
 rcases h with ⟨rfl,oa,cap,rfl⟩ | ⟨_,c,o,cap,rfl,_⟩
 · exact ⟨oa,cap,rfl⟩
 · exact ⟨_,cap,rfl⟩
theorem V.at_def {B:Nat} {w:World} {x:V} {b off:Nat} (h:V.at B w x b off) :
 b < B∧w.cell? ⟨b,off,none⟩ = some (.int .i64 x.kind)∧w.cell? ⟨b,off + 1,none⟩ = some (.int .i64 x.n)∧w.cell? ⟨b,off + 2,none⟩ = some (.string x.s) ∧
  ∃ oa cap,w.cell? ⟨b,off + 3,none⟩ = some (.slice oa x.l.length cap)∧RdV B w x (.agg #[.int .i64 x.kind,.int .i64 x.n,.string x.s,.slice oa x.l.length cap]):=by
 obtain ⟨k,n,s,l⟩:=x
 simp only [V.at] at h
 obtain ⟨h0,h1,h2,h3,h4,h5,h6,lv,h7,h8⟩:=h
 obtain ⟨oa,cap,rfl⟩:=SlV.form (B:=B) (w:=w) (l:=l) h8
 exact ⟨h0,h4,h5,h6,oa,cap,h7,h1,h2,h3,_,rfl,h8⟩
theorem RdV.form {B:Nat} {w:World} {x:V} {v:Value} (h:RdV B w x v):∃ oa cap,v = .agg #[.int .i64 x.kind,.int .i64 x.n,.string x.s,.slice oa x.l.length cap]∧SlV B w x.l (.slice oa x.l.length cap):=by
 obtain ⟨_,_,_,lv,rfl,h8⟩:=h
 obtain ⟨oa,cap,rfl⟩:=h8.form
 exact ⟨oa,cap,rfl,h8⟩
theorem V.ats_get {B:Nat} {w:World}:∀ {l:List V} {b off:Nat} (_:V.ats B w l b off) (k:Nat) (x:V),l[k]? = some x→V.at B w x b (off + k * 4)
 | [],_,_,_,_,_,h=>by simp at h
 | y :: r,b,off,h,0,x,hx=>by simp at hx;subst hx;simp only [V.ats] at h;simpa using h.1
 | y :: r,b,off,h,k + 1,x,hx=>by
  simp only [V.ats] at h
  have:=V.ats_get h.2 k x (by simpa using hx)
  rw [show off + (k + 1) * 4 = off + 4 + k * 4 from by omega];exact this
mutual
theorem V.at_keep {B B':Nat} {w w':World} (hB:B ≤ B') (hs:∀ k,k < B→w'.heap[k]? = w.heap[k]?):∀ (x:V) (b off:Nat),V.at B w x b off→V.at B' w' x b off
 | .mk k n s l,b,off,h=>by
  simp only [V.at] at h ⊢
  obtain ⟨h0,h1,h2,h3,h4,h5,h6,lv,h7,h8⟩:=h
  have hc:∀ o,w'.cell? ⟨b,o,none⟩ = w.cell? ⟨b,o,none⟩:=fun o=>World.cell?_of_block (w:=w) (hs b h0)
  refine ⟨Nat.lt_of_lt_of_le h0 hB,h1,h2,h3,(hc _).trans h4,(hc _).trans h5,(hc _).trans h6,lv,(hc _).trans h7,?_⟩
  rcases h8 with h8 | ⟨hne,c,o,cap,he,hl,ha⟩
  · exact .inl h8
  · exact .inr ⟨hne,c,o,cap,he,hl,V.ats_keep hB hs l c o ha⟩
theorem V.ats_keep {B B':Nat} {w w':World} (hB:B ≤ B') (hs:∀ k,k < B→w'.heap[k]? = w.heap[k]?):∀ (l:List V) (b off:Nat),V.ats B w l b off→V.ats B' w' l b off
 | [],_,_,_=>by simp [V.ats]
 | x :: r,b,off,h=>by
  simp only [V.ats] at h ⊢
  exact ⟨V.at_keep hB hs x b off h.1,V.ats_keep hB hs r b (off + 4) h.2⟩
end
theorem SlV.keep {B B':Nat} {w w':World} {l:List V} {lv:Value} (h:SlV B w l lv) (hB:B ≤ B') (hs:∀ k,k < B→w'.heap[k]? = w.heap[k]?):SlV B' w' l lv:=by
 rcases h with h | ⟨hne,c,o,cap,he,hl,ha⟩
 · exact .inl h
 · exact .inr ⟨hne,c,o,cap,he,hl,V.ats_keep hB hs l c o ha⟩
theorem RdV.keep {B B':Nat} {w w':World} {x:V} {v:Value} (h:RdV B w x v) (hB:B ≤ B') (hs:∀ k,k < B→w'.heap[k]? = w.heap[k]?):RdV B' w' x v:=by
 obtain ⟨h1,h2,h3,lv,h4,h5⟩:=h
 exact ⟨h1,h2,h3,lv,h4,h5.keep hB hs⟩
theorem RdV.below {B:Nat} {w w':World} {x:V} {v:Value} (h:RdV B w x v) (hb:Below B w w'):RdV B w' x v:=h.keep (Nat.le_refl _) hb.block
mutual
def okV:V→Prop
 | .mk k n s l=>I64 k∧I64 n∧s.size ≤ maxLen∧l.length ≤ maxLen∧z3h l
def z3h:List V→Prop
 | []=>True
 | x :: r=>okV x∧z3h r
end
mutual
theorem V.at_ok {B:Nat} {w:World}:∀ (x:V) (b off:Nat),V.at B w x b off→okV x
 | .mk k n s l,b,off,h=>by
  simp only [V.at] at h
  obtain ⟨h0,h1,h2,h3,h4,h5,h6,lv,h7,h8⟩:=h
  simp only [okV]
  rcases h8 with ⟨rfl,_⟩ | ⟨hne,c,o,cap,he,hl,ha⟩
  · exact ⟨h1,h2,h3,by simp,by simp [z3h]⟩
  · exact ⟨h1,h2,h3,hl,V.ats_ok l c o ha⟩
theorem V.ats_ok {B:Nat} {w:World}:∀ (l:List V) (b off:Nat),V.ats B w l b off→z3h l
 | [],_,_,_=>by simp [z3h]
 | x :: r,b,off,h=>by
  simp only [V.ats] at h
  simp only [z3h]
  exact ⟨V.at_ok x b off h.1,V.ats_ok r b (off + 4) h.2⟩
end
theorem SlV.ok {B:Nat} {w:World} {l:List V} {v:Value} (h:SlV B w l v):z3h l∧l.length ≤ maxLen:=by
 rcases h with ⟨rfl,_⟩ | ⟨hne,c,o,cap,he,hl,ha⟩
 · simp [z3h]
 · exact ⟨V.ats_ok l c o ha,hl⟩
theorem RdV.ok {B:Nat} {w:World} {x:V} {v:Value} (h:RdV B w x v):okV x:=by
 obtain ⟨k,n,s,l⟩:=x
 obtain ⟨h1,h2,h3,lv,h4,h5⟩:=h
 exact ⟨h1,h2,h3,h5.ok.2,h5.ok.1⟩
theorem x9i:∀ {l:List V} {i:Nat} {x:V},z3h l→l[i]? = some x→okV x
 | [],_,_,_,h=>by simp at h
 | y :: r,0,x,h,hx=>by simp at hx;subst hx;exact h.1
 | y :: r,i + 1,x,h,hx=>x9i (l:=r) (i:=i) h.2 (by simpa using hx)
theorem j3k {l:List V} {x:V} (h:z3h l) (hx:x ∈ l):okV x:=by
 obtain ⟨i,hi⟩:=List.mem_iff_getElem?.1 hx;exact x9i h hi
mutual
def fm:V→Bool
 | .mk k n s l=>if k = 1 then s.toList.isEmpty && l.isEmpty else if k = 2 then n == 0 && l.isEmpty else if k = 3 then n == 0 && s.toList.isEmpty && fms l else false
def fms:List V→Bool
 | []=>true
 | x :: r=>fm x && fms r
end
mutual
def dp:V→Nat
 | .mk k _ _ l=>if k = 3 then dps l + 1 else 0
def dps:List V→Nat
 | []=>0
 | x :: r=>max (dp x) (dps r)
end
mutual
def sz:V→Nat
 | .mk _ _ s l=>24 + s.size + szs l
def szs:List V→Nat
 | []=>0
 | x :: r=>sz x + szs r
end
open Go.RowKit
def CB (w:World) (g:Nat) (t:TypeId) (cs:List Value):Prop:=w.heap[g]? = some (.cells cs.toArray t (0,0))
theorem CB.cell {w:World} {g:Nat} {t:TypeId} {cs:List Value} (h:CB w g t cs) (i:Nat):w.cell? ⟨g,i,none⟩ = cs[i]?:=by
 unfold CB at h;simp [World.cell?,h]
theorem CB.frozen {w:World} {g:Nat} {t:TypeId} {cs:List Value} (h:CB w g t cs) (i:Nat):w.frozen? ⟨g,i,none⟩ = false:=by
 unfold CB at h;simp [World.frozen?,h]
theorem CB.set {w:World} {g:Nat} {t:TypeId} {cs:List Value} (h:CB w g t cs) (i:Nat) (u:Value):CB (w.setCell ⟨g,i,none⟩ u) g t (cs.set i u):=by
 unfold CB at h ⊢;simp [World.setCell,Array.getElem?_modify,h]
theorem CB.keep {w w':World} {g:Nat} {t:TypeId} {cs:List Value} (h:CB w g t cs) (hk:w'.heap[g]? = w.heap[g]?):CB w' g t cs:=hk.trans h
theorem CB.far {w:World} {g:Nat} {t:TypeId} {cs:List Value} (h:CB w g t cs) {p:Addr} (hp:g ≠ p.block) (u:Value):CB (w.setCell p u) g t cs:=h.keep (Below.heap_setCell w p u g hp)
theorem CB.lt {w:World} {g:Nat} {t:TypeId} {cs:List Value} (h:CB w g t cs):g < w.heap.size:=by
 rcases Nat.lt_or_ge g w.heap.size with hlt | hge
 · exact hlt
 · unfold CB at h;rw [Array.getElem?_eq_none hge] at h;cases h
theorem CB.new (w:World) (t:TypeId) (cs:List Value):CB (w.alloc (.cells cs.toArray t)) w.heap.size t cs:=heap_alloc_new w _
theorem CB.alloc {w:World} {g:Nat} {t:TypeId} {cs:List Value} (h:CB w g t cs) (o:Obj):CB (w.alloc o) g t cs:=h.keep (Below.heap_alloc w o g h.lt)
theorem CB.ext {w w':World} {g:Nat} {t:TypeId} {cs:List Value} (h:CB w g t cs) (hb:Below w.heap.size w w'):CB w' g t cs:=h.keep (hb.block _ h.lt)
theorem k0q (W:World) (ns:List Int) (t:TypeId):∀ j y,ns[j]? = some y→(W.alloc (.cells (ns.map (Value.int .i64)).toArray t)).cell? ⟨W.heap.size,j,none⟩ = some (.int .i64 y):=by
 intro j y h
 rw [(CB.new W t (ns.map (Value.int .i64))).cell j];simp [h]
theorem k6w (W:World) (x:Int) (t:TypeId):∀ j y,[x][j]? = some y→(W.alloc (.cells #[.int .i64 x] t)).cell? ⟨W.heap.size,j,none⟩ = some (.int .i64 y):=k0q W [x] t
theorem k2v (W:World) (x z:Int) (t:TypeId):∀ j y,[x,z][j]? = some y→(W.alloc (.cells #[.int .i64 x,.int .i64 z] t)).cell? ⟨W.heap.size,j,none⟩ = some (.int .i64 y):=k0q W [x,z] t
open Go.RowKit
def z5p (x:Int × Int × Int):Bool:=decide (x.1 < x.2.1∨x.2.2 < x.1)
theorem x0w {n a b:Int} {t:Bool} (h:z5p (n,a,b) = t):t = (decide (n < a) || decide (b < n)):=by
 rw [← h];unfold z5p;rw [Bool.eq_iff_iff];simp
theorem x5b (n a b:Int) (w:World):Calls Tryz.prog 151 #[.agg #[.int .i64 n,.int .i64 a,.int .i64 b]] w fun e w'=>e = .returned (.bool (z5p (n,a,b)))∧Below w.heap.size w w':=by
 obtain ⟨t,ht⟩:∃ t,z5p (n,a,b) = t:=⟨_,rfl⟩
 have hm:=x0w ht
 rw [ht]
 clear ht
 obtain ⟨t1,h1⟩:∃ t,decide (n < a) = t:=⟨_,rfl⟩
 obtain ⟨t2,h2⟩:∃ t,decide (b < n) = t:=⟨_,rfl⟩
 rw [h1,h2] at hm
 have Hm:=hd_ hm
 clear hm
 cases t1
 all_goals
  go_enter Tryz.func151,Tryz.ntmps151
  go_wp2
  go_ret
  exact ⟨by rw [Hm.out];simp,(Below.refl _ _).alloc (Nat.le_refl _) _⟩
def y9r (w:World) (g:Nat) (L:List (Int × Int × Int)):Prop:=∀ j x,L[j]? = some x→w.cell? ⟨g,j * 3,none⟩ = some (.int .i64 x.1)∧w.cell? ⟨g,j * 3 + 1,none⟩ = some (.int .i64 x.2.1)∧w.cell? ⟨g,j * 3 + 2,none⟩ = some (.int .i64 x.2.2)
theorem y9r.ext {w w':World} {g:Nat} {L:List (Int × Int × Int)} (h:y9r w g L) (hb:Below w.heap.size w w'):y9r w' g L:=fun j x hx=>by
 obtain ⟨a,b,c⟩:=h j x hx
 exact ⟨z1a hb a,z1a hb b,z1a hb c⟩
def k1g (w:World) (L:List (Int × Int × Int)) (i:Value) (wr:World):Prop:=∃ k:Nat,k ≤ L.length∧i = .int .i64 k∧(L.take k).any z5p = false∧Below w.heap.size w wr
def x1w (t:Bool) (w:World) (e:Ending) (w':World):Prop:=∃ r:Int,e = .returned (.int .i64 r)∧decide (0 ≤ r) = t∧Below w.heap.size w w'
theorem x1w.mk {t:Bool} {w w':World} {r:Int} (h:decide (0 ≤ r) = t) (hb:Below w.heap.size w w'):x1w t w (.returned (.int .i64 r)) w':=⟨r,rfl,h,hb⟩
theorem j4k {L:List (Int × Int × Int)} {k:Nat} {x:Int × Int × Int} (h:L[k]? = some x) (h1:(L.take k).any z5p = false) (h2:z5p x = false):(L.take (k + 1)).any z5p = false:=by
 rw [List.take_add_one,h,List.any_append,h1];simp [h2]
theorem j5v {L:List (Int × Int × Int)} {k:Nat} {x:Int × Int × Int} (h:L[k]? = some x) (h2:z5p x = true):L.any z5p = true:=by
 rw [List.any_eq_true];exact ⟨x,List.mem_of_getElem? h,h2⟩
theorem j5k (g n cap:Nat) (L:List (Int × Int × Int)) (hn:L.length = n) (hn2:n ≤ 1000) (w:World) (h:y9r w g L) :
 Calls Tryz.prog 191 #[.slice (some ⟨g,0,none⟩) n cap,.func (.func 151) #[] #[]] w (x1w (L.any z5p) w):=by
 have H:=hd_ h;have Hn:=hd_ hn
 have bn:(n:Int) ≤ 1000:=by omega
 clear h hn
 go_enter Tryz.func191,Tryz.ntmps191
 go_wp2_with fail
 go_loopw [8] (fun i wr=>k1g w L i wr) (fun i _=>n - (intOf i).toNat)
 case atStart=>exact ⟨0,by omega,rfl,rfl,Below.refl _ _⟩
 case round =>
  obtain ⟨k,hk,rfl,ha,hb⟩:=hrel
  have HA:=hd_ ha;have HB:=hd_ hb
  have hkn:k ≤ n:=by have:=Hn.out;omega
  clear ha hb hk
  by_cases hlt:k < n
  · have tj:decide ((k:Int) < (n:Int)) = true:=by simp;omega
    have tj':decide (k < n) = true:=by simp;omega
    obtain ⟨⟨x,a,b⟩,hx⟩:∃ x,L[k]? = some x:=⟨_,List.getElem?_eq_getElem (by rw [Hn.out];exact hlt)⟩
    obtain ⟨c0,c1,c2⟩:=(H.out.ext HB.out) k _ hx
    have Hx:=hd_ hx
    clear hx
    obtain ⟨t,ht⟩:∃ t,z5p (x,a,b) = t:=⟨_,rfl⟩
    have Ht:=hd_ ht
    clear ht
    go_wp2_with fail
    refine (x5b x a b _).mono ?_
    rw [Ht.out]
    rintro e w2 ⟨rfl,hb2⟩
    have HB2:=hd_ (z0a HB.out hb2)
    clear hb2 c0 c1 c2
    cases t
    · have hN:=hd_ (j4k Hx.out HA.out Ht.out)
      go_wp2_with fail
      go_roundw
      case rel=>exact ⟨k + 1,by have:=Hn.out;omega,by go_num,hN.out,HB2.out⟩
      case measure=>simp [intOf];omega
    · have hN:=hd_ (j5v Hx.out Ht.out)
      go_wp2_with fail
      go_ret
      exact x1w.mk (by rw [hN.out];simp) HB2.out
  · have hkn':k = n:=by omega
    have tj:decide ((k:Int) < (n:Int)) = false:=by simp;omega
    have tj':decide (k < n) = false:=by simp;omega
    have hN:Hid (L.any z5p = false):=by
     have:=HA.out;rw [List.take_of_length_le (by rw [Hn.out];omega)] at this;exact this
    clear hkn'
    go_wp2_with fail
    go_ret
    exact x1w.mk (by rw [hN.out];decide) HB.out
theorem x2w (g n cap:Nat) (L:List (Int × Int × Int)) (hn:L.length = n) (hn2:n ≤ 1000) (w:World) (h:y9r w g L) :
 Calls Tryz.prog 150 #[.slice (some ⟨g,0,none⟩) n cap,.func (.func 151) #[] #[]] w fun e w'=>e = .returned (.bool (L.any z5p))∧Below w.heap.size w w':=by
 have H:=hd_ h;have Hn:=hd_ hn;have Hn2:=hd_ hn2
 clear h hn hn2
 go_enter Tryz.func150,Tryz.ntmps150
 go_wp2_with fail
 refine (j5k g n cap L Hn.out Hn2.out _ H.out).mono ?_
 rintro e w1 ⟨r,rfl,hr,hb⟩
 have HB:=hd_ hb
 clear hb
 go_wp2_with fail
 go_ret
 exact ⟨by simp,HB.out⟩
theorem y4h (g n cap:Nat) (L:List (Int × Int × Int)) (hn:L.length = n) (hn2:n ≤ 1000) (w:World) (h:y9r w g L) :
 Calls Tryz.prog 78 #[.slice (some ⟨g,0,none⟩) n cap] w fun e w'=>e = .returned (.bool (!L.any z5p))∧Below w.heap.size w w':=by
 have H:=hd_ h;have Hn:=hd_ hn;have Hn2:=hd_ hn2
 clear h hn hn2
 go_enter Tryz.func78,Tryz.ntmps78
 go_wp2_with fail
 refine (x2w g n cap L Hn.out Hn2.out _ H.out).mono ?_
 rintro e w1 ⟨rfl,hb⟩
 have HB:=hd_ hb
 clear hb
 go_wp2_with fail
 go_ret
 exact ⟨by simp,HB.out⟩
theorem z1t (n a b:Int) (w:World):Calls Tryz.prog 162 #[.int .i64 n,.int .i64 a,.int .i64 b] w fun e w'=>e = .returned (.bool (!z5p (n,a,b)))∧w = w':=by
 obtain ⟨t,ht⟩:∃ t,z5p (n,a,b) = t:=⟨_,rfl⟩
 have hm:=x0w ht
 rw [ht]
 clear ht
 obtain ⟨t1,h1⟩:∃ t,decide (n < a) = t:=⟨_,rfl⟩
 obtain ⟨t2,h2⟩:∃ t,decide (b < n) = t:=⟨_,rfl⟩
 rw [h1,h2] at hm
 have k1:decide (a ≤ n) = !t1:=by rw [← h1,Bool.eq_iff_iff];simp
 have k2:decide (n ≤ b) = !t2:=by rw [← h2,Bool.eq_iff_iff];simp
 have Hm:=hd_ hm
 clear hm h1 h2
 cases t1 <;> cases t2
 all_goals
  simp only [Bool.not_false,Bool.not_true] at k1 k2
  go_enter Tryz.func162,Tryz.ntmps162
  go_wp2
  go_ret
  exact ⟨by rw [Hm.out];simp,rfl⟩
open Go.RowKit
abbrev W32:=BitVec 32
def iw (x:W32):Int:=(x.toNat:Int)
theorem x1o (x:W32):0 ≤ iw x∧iw x < 4294967296:=⟨by unfold iw;omega,by have:=x.isLt;unfold iw;omega⟩
theorem x6b (x:W32):IntKind.u32.wrap (iw x) = iw x:=by have:=x1o x;rw [IntKind.wrap_u32];omega
theorem z5r (x:W32):BitVec.ofInt 32 (iw x) = x:=by unfold iw;simp
theorem y5h (x y:W32):bits BinOp.xor .u32 (iw x) (iw y) = iw (x ^^^ y):=by
 have h:bits BinOp.xor .u32 (iw x) (iw y) = IntKind.u32.wrap (iw (BitVec.ofInt 32 (iw x) ^^^ BitVec.ofInt 32 (iw y))):=rfl
 rw [h,x6b,z5r,z5r]
theorem j1r (x y:W32):bits BinOp.and .u32 (iw x) (iw y) = iw (x &&& y):=by
 have h:bits BinOp.and .u32 (iw x) (iw y) = IntKind.u32.wrap (iw (BitVec.ofInt 32 (iw x) &&& BitVec.ofInt 32 (iw y))):=rfl
 rw [h,x6b,z5r,z5r]
theorem bor (x y:W32):bits BinOp.or .u32 (iw x) (iw y) = iw (x ||| y):=by
 have h:bits BinOp.or .u32 (iw x) (iw y) = IntKind.u32.wrap (iw (BitVec.ofInt 32 (iw x) ||| BitVec.ofInt 32 (iw y))):=rfl
 rw [h,x6b,z5r,z5r]
theorem y6h (x y:W32):(iw x + iw y) % 4294967296 = iw (x + y):=by unfold iw;rw [BitVec.toNat_add];omega
theorem k4e (x:W32) (n:Nat):iw x / 2 ^ n = iw (x >>> n):=by
 unfold iw;rw [BitVec.toNat_ushiftRight,Nat.shiftRight_eq_div_pow,Int.natCast_ediv,Int.natCast_pow];rfl
theorem k5e (x:W32) (n:Nat):iw x * 2 ^ n % 4294967296 = iw (x <<< n):=by
 unfold iw;rw [BitVec.toNat_shiftLeft,Nat.shiftLeft_eq,Int.natCast_emod,Int.natCast_mul,Int.natCast_pow];rfl
theorem k3v (x:W32) (r:Nat) (h2:r ≤ 31):x <<< (32 - r) ||| x >>> r = x.rotateRight r:=by
 rw [BitVec.rotateRight_def,Nat.mod_eq_of_lt (by omega),BitVec.or_comm]
theorem k1q:∀ r:Fin 32,r ≠ 0→bits BinOp.and IntKind.u64 (IntKind.u64.wrap (-((r.val:Nat):Int))) 31 = ((32 - r.val:Nat):Int):=by decide +kernel
def ror (x:W32) (r:Nat):W32:=x.rotateRight r
theorem y5l (x:W32) (r:Nat) (n:Int) (hn:n = -(r:Int)) (h1:1 ≤ r) (h2:r ≤ 31) (w:World):Calls Tryz.prog 211 #[.int .u32 (iw x),.int .i64 n] w fun e w'=>e = .returned (.int .u32 (iw (ror x r)))∧w = w':=by
 obtain ⟨s,hs⟩:∃ s,32 - r = s:=⟨_,rfl⟩
 have e1:bits BinOp.and IntKind.u64 (IntKind.u64.wrap n) 31 = (s:Int):=by rw [hn,← hs];exact k1q ⟨r,by omega⟩ (by intro h;have h2:=congrArg Fin.val h;have h3:r = 0:=h2;omega)
 have b1:(1:Int) ≤ (s:Int):=by omega
 have b2:(s:Int) ≤ 31:=by omega
 have bx:=x1o x
 obtain ⟨bx1,bx2⟩:=bx
 have hr:=hd_ (k3v x r h2)
 have hrs:=hd_ (show 32 - s = r by omega)
 have Hs:=hd_ hs
 clear hs hn h1 h2
 go_enter Tryz.func211,Tryz.ntmps211
 go_wp2
 rw [hrs.out,k5e,k4e,bor,← Hs.out,hr.out]
 go_ret
 exact ⟨rfl,rfl⟩
def k6e (x:W32) (a b c:Nat):W32:=ror x a ^^^ ror x b ^^^ ror x c
theorem x7b (x:W32) (a b c:Nat) (ai bi ci:Int) (ha:ai = (a:Int)) (hb:bi = (b:Int)) (hc:ci = (c:Int)) (ha1:1 ≤ a) (ha2:a ≤ 31) (hb1:1 ≤ b) (hb2:b ≤ 31) (hc1:1 ≤ c) (hc2:c ≤ 31) (w:World) :
 Calls Tryz.prog 212 #[.int .u32 (iw x),.int .i64 ai,.int .i64 bi,.int .i64 ci] w fun e w'=>e = .returned (.int .u32 (iw (k6e x a b c)))∧w = w':=by
 have e1:wrap64 (-ai) = -ai:=by unfold wrap64;omega
 have e2:wrap64 (-bi) = -bi:=by unfold wrap64;omega
 have e3:wrap64 (-ci) = -ci:=by unfold wrap64;omega
 have x1:=y5h (ror x a) (ror x b)
 have x2:=y5h (ror x a ^^^ ror x b) (ror x c)
 have h1:=hd_ ha;have h2:=hd_ hb;have h3:=hd_ hc
 clear ha hb hc
 go_enter Tryz.func212,Tryz.ntmps212
 go_wp2_with fail
 refine (y5l x a _ (by rw [h1.out]) ha1 ha2 _).mono ?_
 rintro e w1 ⟨rfl,rfl⟩
 go_wp2_with fail
 refine (y5l x b _ (by rw [h2.out]) hb1 hb2 _).mono ?_
 rintro e w1 ⟨rfl,rfl⟩
 go_wp2_with fail
 refine (y5l x c _ (by rw [h3.out]) hc1 hc2 _).mono ?_
 rintro e w1 ⟨rfl,rfl⟩
 go_wp2_with fail
 go_ret
 exact ⟨rfl,rfl⟩
def kL:List W32:=[0x428a2f98,0x71374491,0xb5c0fbcf,0xe9b5dba5,0x3956c25b,0x59f111f1,0x923f82a4,0xab1c5ed5,
 0xd807aa98,0x12835b01,0x243185be,0x550c7dc3,0x72be5d74,0x80deb1fe,0x9bdc06a7,0xc19bf174,
 0xe49b69c1,0xefbe4786,0x0fc19dc6,0x240ca1cc,0x2de92c6f,0x4a7484aa,0x5cb0a9dc,0x76f988da,
 0x983e5152,0xa831c66d,0xb00327c8,0xbf597fc7,0xc6e00bf3,0xd5a79147,0x06ca6351,0x14292967,
 0x27b70a85,0x2e1b2138,0x4d2c6dfc,0x53380d13,0x650a7354,0x766a0abb,0x81c2c92e,0x92722c85,
 0xa2bfe8a1,0xa81a664b,0xc24b8b70,0xc76c51a3,0xd192e819,0xd6990624,0xf40e3585,0x106aa070,
 0x19a4c116,0x1e376c08,0x2748774c,0x34b0bcb5,0x391c0cb3,0x4ed8aa4a,0x5b9cca4f,0x682e6ff3,
 0x748f82ee,0x78a5636f,0x84c87814,0x8cc70208,0x90befffa,0xa4506ceb,0xbef9a3f7,0xc67178f2]
def kK (t:Nat):W32:=kL.getD t 0
def wd (n:W32) (c:UInt8):W32:=n <<< 8 ||| BitVec.ofNat 32 c.toNat
def j6k (l:List UInt8):W32:=(l.take 4).foldl wd 0
def k2g (x:W32):W32:=ror x 7 ^^^ ror x 18 ^^^ x >>> 3
def k3g (x:W32):W32:=ror x 17 ^^^ ror x 19 ^^^ x >>> 10
def x8b (a x c y:W32):W32:=a + k2g x + c + k3g y
def z4f:Nat→List W32→List W32
 | 0,l=>l
 | n + 1,l=>z4f n l ++ [x8b ((z4f n l).getD n 0) ((z4f n l).getD (n + 1) 0) ((z4f n l).getD (n + 9) 0) ((z4f n l).getD (n + 14) 0)]
theorem z9u (n:Nat) (l:List W32):(z4f n l).length = l.length + n:=by
 induction n with
 | zero=>rfl
 | succ n ih=>simp [z4f,ih];omega
structure S8 where
 a:W32
 b:W32
 c:W32
 d:W32
 e:W32
 f:W32
 g:W32
 h:W32
def S8.l (s:S8):List W32:=[s.a,s.b,s.c,s.d,s.e,s.f,s.g,s.h]
def S8.add (s t:S8):S8:=⟨s.a + t.a,s.b + t.b,s.c + t.c,s.d + t.d,s.e + t.e,s.f + t.f,s.g + t.g,s.h + t.h⟩
def k7e (s:S8) (k w:W32):W32:=s.h + k6e s.e 6 11 25 + (s.g ^^^ s.e &&& (s.f ^^^ s.g)) + k + w
def k4g (s:S8):W32:=k6e s.a 2 13 22 + (s.a &&& s.b ||| s.c &&& (s.a ||| s.b))
def rnd (s:S8) (k w:W32):S8:=⟨k7e s k w + k4g s,s.a,s.b,s.c,s.d + k7e s k w,s.e,s.f,s.g⟩
def z2i (s:S8) (ws:List W32):Nat→S8
 | 0=>s
 | t + 1=>rnd (z2i s ws t) (kK t) (ws.getD t 0)
def z1o (b:List UInt8):List W32:=(List.range 16).map fun t=>j6k (b.drop (4 * t))
theorem z9m (b:List UInt8):(z1o b).length = 16:=by simp [z1o]
def z5g (s:S8) (b:List UInt8):S8:=s.add (z2i s (z4f 48 (z1o b)) 64)
def z2c:Nat→S8→List UInt8→S8
 | 0,s,_=>s
 | n + 1,s,l=>z2c n (z5g s (l.take 64)) (l.drop 64)
def z3i:S8:=⟨0x6a09e667,0xbb67ae85,0x3c6ef372,0xa54ff53a,0x510e527f,0x9b05688c,0x1f83d9ab,0x5be0cd19⟩
def be (n v:Nat):List UInt8:=(List.range n).map fun i=>(v / 2 ^ (8 * (n - 1 - i))).toUInt8
theorem z4p (n v:Nat):(be n v).length = n:=by simp [be]
def pad (l:List UInt8):List UInt8:=l ++ 128 :: (List.replicate ((119 - l.length % 64) % 64) 0 ++ be 8 (8 * l.length))
theorem j6v (l:List UInt8):(pad l).length % 64 = 0∧(pad l).length = l.length + 9 + (119 - l.length % 64) % 64:=by
 have h:(pad l).length = l.length + 9 + (119 - l.length % 64) % 64:=by simp [pad,z4p];omega
 exact ⟨by omega,h⟩
def sha (l:List UInt8):List UInt8:=(z2c ((pad l).length / 64) z3i (pad l)).l.flatMap fun x=>be 4 x.toNat
theorem z7t (l:List UInt8):(sha l).length = 32:=by simp [sha,S8.l,z4p]
end Go.Proofs.YtdblnbnofjggnaaGreatDoor
