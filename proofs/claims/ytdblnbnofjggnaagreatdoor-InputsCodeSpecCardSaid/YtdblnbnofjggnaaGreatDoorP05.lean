/- Parts of the proofs of chapter 49's laws. -/
import Derived.Test.YtdblnbnofjggnaaGreatDoorP04
import Derived.Lib.ConvBytes
set_option maxHeartbeats 1000000
set_option maxRecDepth 100000
open Go.Lib renaming hid → hd_
open Go.Value renaming int → J, slice → Y, string → S
open Go.IntKind renaming i64 → Q
open Go.Ending renaming returned → E
open Option renaming none → Z, some → X
open Decidable renaming decide → F
open Go renaming World → I, Value → O, TypeId → M, Calls → C, maxLen → D
open Go.RowKit renaming Below → U
set_option linter.all false
namespace Go.Proofs.YtdblnbnofjggnaaGreatDoor
open Go.Proofs.Tryz
open Go.RowKit
theorem z7d {w w':I} {ob:Obj} (h:U (w.alloc ob).heap.size (w.alloc ob) w'):U w.heap.size w w' :=
 ((Below.refl _ w).alloc (Nat.le_refl _) ob).trans (h.mono (by simp))
theorem z6w {w w':I} {ob:Obj} (h:U (w.heap.size+1) (w.alloc ob) w'):U w.heap.size w w' :=
 ((Below.refl _ w).alloc (Nat.le_refl _) ob).trans (h.mono (by omega))
theorem z0a {w w1 w2:I} (h:U w.heap.size w w1) (h2:U w1.heap.size w1 w2):U w.heap.size w w2:=h.trans (h2.mono h.size)
theorem y2b {B:Nat} {w w':I} (h:U B w.drew w'):U B w w':=⟨h.os,h.tape,h.output,h.size,h.block⟩
theorem z1a {w w':I} (hb:U w.heap.size w w') {p:Addr} {v:Value} (h:w.cell? p=X v):w'.cell? p=X v:=(hb.cell (World.block_lt_of_cell? w p h)).trans h
def z6c (B:Nat) (w:I) (l:List UInt8) (v:O):Prop :=
 (l=[]∧∃ oa cap,v=Y oa 0 cap∧cap≤D)∨(l≠[]∧∃ b off cap,v=Y (X ⟨b,off,Z⟩) l.length cap∧l.length≤cap∧cap≤D∧b<B∧∀ j c,l[j]? = X c→w.cell? ⟨b,off+j,Z⟩=X (J .u8 (c.toNat:Int)))
theorem z6c.keep {B B':Nat} {w w':I} {l:List UInt8} {v:Value} (h:z6c B w l v) (hB:B≤B') (hs:∀ k,k<B→w'.heap[k]? = w.heap[k]?):z6c B' w' l v:=by
 rcases h with h|⟨hne,b,off,cap,h1,h2,h3,h4,h5⟩
 ·exact .inl h
 ·exact .inr ⟨hne,b,off,cap,h1,h2,h3,Nat.lt_of_lt_of_le h4 hB,fun j c hj=>by rw [World.cell?_of_block (w:=w) (hs _ h4)];exact h5 j c hj⟩
theorem z6c.mk' {B:Nat} {w:I} {l:List UInt8} {b off cap n:Nat} (hn:n=l.length) (h2:l.length≤cap) (h3:cap≤D) (h4:b<B) (h5:∀ j c,l[j]? = X c→w.cell? ⟨b,off+j,Z⟩=X (J .u8 (c.toNat:Int))):z6c B w l (Y (X ⟨b,off,Z⟩) n cap):=by
 subst hn
 by_cases h:l=[]
 ·subst h;exact .inl ⟨rfl,_,cap,rfl,h3⟩
 ·exact .inr ⟨h,b,off,cap,rfl,h2,h3,h4,h5⟩
theorem z6c.form {B:Nat} {w:I} {l:List UInt8} {v:Value} (h:z6c B w l v):∃ oa cap,v=Y oa l.length cap∧l.length≤cap∧cap≤D:=by
 rcases h with ⟨rfl,oa,cap,rfl,h⟩|⟨_,b,off,cap,rfl,h2,h3,_⟩
 ·exact ⟨oa,cap,rfl,Nat.zero_le _,h⟩
 ·exact ⟨_,cap,rfl,h2,h3⟩
theorem RdB.bts {w:I} {l:List UInt8} {v:Value} (h:RdB w v l):z6c w.heap.size w l v:=by
 rcases h with ⟨rfl,rfl⟩|⟨⟨b,off,sp⟩,cap,rfl,hs,h2,h3,h4⟩
 ·exact .inl ⟨rfl,Z,0,rfl,Nat.zero_le _⟩
 ·by_cases hl:l=[]
  ·subst hl;exact .inl ⟨rfl,_,cap,rfl,h3⟩
  ·rcases hs with hs|hs
   ·exact absurd hs hl
   ·have hsp:sp=Z:=hs
    subst hsp
    have hc:∀ j c,l[j]? = X c→w.cell? ⟨b,off+j,Z⟩=X (J .u8 (c.toNat:Int)):=fun j c hj=>by
     have:=h4 j (J .u8 (c.toNat:Int)) (by simp [z8a,hj])
     have hplain:(⟨b,off,Z⟩:Addr).add j=⟨b,off+j,Z⟩:=by unfold Addr.add;split <;> simp_all
     rw [hplain] at this;exact this
    obtain ⟨c,jH⟩:∃ c,l[0]? = X c:=by cases l with|nil=>exact absurd rfl hl|cons c _=>exact ⟨c,rfl⟩
    exact .inr ⟨hl,b,off,cap,rfl,h2,h3,World.block_lt_of_cell? w ⟨b,off+0,Z⟩ (hc 0 c jH),hc⟩
theorem z3v {P:Program} {src dst e:M} (hs:P.underlying src=X (.slice e)) (he:P.underlying e=X (.int .u8)) (hd:P.underlying dst=X .string) {w:I} {v:Value} {l:List UInt8} (h:RdB w v l) :
 (convert src dst v).run P w=.ok (S ⟨l.toArray⟩) w:=by
 rcases h with ⟨rfl,rfl⟩|⟨a,cap,rfl,_,_,_,hc⟩
 ·rw [run_convert_bytes_nil w src e hs he 0 0 dst hd];rfl
 ·have hl:(loadCells a l.length).run P w=.ok ((l.map fun c=>(c.toNat:Int)).map (J .u8)).toArray w:=by
   have:=run_loadCells_list (P:=P) w a (z8a l) hc
   have e:((l.map fun c=>(c.toNat:Int)).map (J .u8))=z8a l:=by simp [z8a]
   rw [e];simpa [z8b] using this
  have e2:(l.map fun c=>(c.toNat:Int)).map (fun n=>UInt8.ofNat n.toNat)=l:=by
   rw [List.map_map]
   conv=>rhs;rw [← List.map_id l]
   exact List.map_congr_left fun c _=>by simp
  rw [run_convert_bytes_string w src dst e _ l.length cap hs he hd,run_bytesToString w a l.length cap _ hl,foldl_push_bytes,e2]
  simp [ByteArray.empty,ByteArray.emptyWithCapacity]
  rfl
theorem z5r {P:Program} {src dst e:M} (hs:P.underlying src=X (.slice e)) (he:P.underlying e=X (.int .u8)) (hd:P.underlying dst=X .string) {B:Nat} {w:I} {v:Value} {l:List UInt8} (h:z6c B w l v) :
 (convert src dst v).run P w=.ok (S ⟨l.toArray⟩) w:=by
 rcases h with ⟨rfl,oa,cap,rfl,hcm⟩|⟨hne,b,off,cap,rfl,h2,h3,h4,h5⟩
 ·cases oa with
  | none=>rw [run_convert_bytes_nil w src e hs he 0 cap dst hd];rfl
  | some a=>exact z3v hs he hd (l:=[]) (.inr ⟨a,cap,rfl,.inl rfl,Nat.zero_le _,hcm,by simp [z8a]⟩)
 ·refine z3v hs he hd (.inr ⟨⟨b,off,Z⟩,cap,rfl,.inr rfl,h2,h3,fun j u hu=>?_⟩)
  obtain ⟨c,hc,rfl⟩:=z7n l j u hu
  have hplain:(⟨b,off,Z⟩:Addr).add j=⟨b,off+j,Z⟩:=by unfold Addr.add;split <;> simp_all
  rw [hplain];exact h5 j c hc
theorem z6c.shape {B:Nat} {w:I} {l:List UInt8} {v:Value} (h:z6c B w l v):∃ oa cap,v=Y oa l.length cap:=by
 rcases h with ⟨rfl,oa,cap,rfl,_⟩|⟨_,b,off,cap,rfl,_⟩
 ·exact ⟨oa,cap,rfl⟩
 ·exact ⟨_,cap,rfl⟩
theorem z6c.ext {w w':I} {l:List UInt8} {v:Value} (h:z6c w.heap.size w l v) (hb:U w.heap.size w w'):z6c w'.heap.size w' l v:=h.keep hb.size hb.block
theorem z4p {B:Nat} {w:I} {v:Value} {l:List UInt8} (h:z6c B w l v):(convert 50 9 v).run prog w=.ok (S ⟨l.toArray⟩) w:=z5r underlying50 underlying5 underlying9 h
theorem k2n {w:I} {v:Value} {l:List UInt8} (h:RdB w v l):(convert 50 9 v).run prog w=.ok (S ⟨l.toArray⟩) w:=z3v underlying50 underlying5 underlying9 h
theorem z4v (w:I) (n:Nat) (G:Option Nat):w.grownBy (w.drewN n) G:=⟨rfl,rfl,rfl,Nat.le_refl _,fun _ _ _=>rfl⟩
theorem z4d {w w1:I} {G:Option Nat} (h:w.grownBy w1 G) (n:Nat):w.grownBy (w1.drewN n) G:=⟨h.os,h.tape,h.output,h.size,h.block⟩
theorem z8d {w w1:I} {R i:Nat} {v:Value} (h:w.grownBy w1 (X R)):w.grownBy (w1.setCell ⟨R,i,Z⟩ v) (X R) :=
 ⟨h.os,h.tape,h.output,by have:=h.size;simpa [World.setCell] using this,fun k hk hne=>by rw [Below.heap_setCell _ _ _ _ (by show k≠R;exact fun e=>hne (by rw [e]))];exact h.block k hk hne⟩
theorem z5a {w w1:I} {G:Option Nat} {T i:Nat} {v:Value} (h:w.grownBy w1 G) (hT:w.heap.size≤T):w.grownBy (w1.setCell ⟨T,i,Z⟩ v) G :=
 ⟨h.os,h.tape,h.output,by have:=h.size;simpa [World.setCell] using this,fun k hk hne=>by rw [Below.heap_setCell _ _ _ _ (by show k≠T;omega)];exact h.block k hk hne⟩
theorem z3g {w w1:I} {G:Option Nat} (h:w.grownBy w1 G):w.grownBy w1.drew G:=⟨h.os,h.tape,h.output,h.size,h.block⟩
theorem z6b (w:I) (T i:Nat) (v:O):w.grownBy (w.setCell ⟨T,i,Z⟩ v) (X T) :=
 ⟨rfl,rfl,rfl,by simp [World.setCell],fun k _ hne=>Below.heap_setCell _ _ _ _ (by show k≠T;exact fun h=>hne (by rw [h]))⟩
theorem y3u (s:ByteArray) (hs:s.size≤1000000) (w:I) :
 ∃ cap w',(convert 9 50 (S s)).run prog w=.ok (Y (X ⟨w.heap.size,0,Z⟩) s.size cap) w'∧U w.heap.size w w'∧z6c w'.heap.size w' s.data.toList (Y (X ⟨w.heap.size,0,Z⟩) s.size cap):=by
 refine ⟨_,_,Lib.run_convert_string_bytes w 9 50 5 s underlying9 underlying50 underlying5,⟨rfl,rfl,rfl,?_,?_⟩,?_⟩
 ·rw [Lib.bytesWorld_size];omega
 ·exact fun k hk=>Lib.bytesWorld_at_old w _ s k hk
 ·have h1:=grownCap_ge w s.size 0 5
  have h2:=grownCap_le_maxLen w s.size 0 5 (by unfold D;omega)
  refine z6c.mk' (by simp) (by simpa using h1) h2 (by rw [Lib.bytesWorld_size];omega) fun j c hj=>?_
  have hjl:j<s.size:=by have:=(List.getElem?_eq_some_iff.1 hj).1;simpa using this
  rw [Nat.zero_add,Lib.bytesWorld_cell w _ s j hjl]
  simp [List.getD,hj]
theorem ti:Hid True:=True.intro
abbrev w4 (k n:Int) (l:O):List O:=[J Q k,J Q n,S ⟨#[]⟩,l]
theorem y3o (x:Nat):((y2u x).toNat:Int)=((x % 256:Nat):Int):=by simp [y2u,Nat.toUInt8]
theorem x7e (x:Nat):((y2o x).toNat:Int)=(((x % 128+128) % 256:Nat):Int):=by simp [y2o,Nat.toUInt8]
theorem k3n (y:Nat):bits BinOp.or IntKind.u8 ((y:Int) % 256) 128=((y2o y).toNat:Int):=by
 have h:=k7x ⟨y % 256,Nat.mod_lt _ (by decide)⟩
 simp only at h
 rw [x7e]
 have e:((y:Int) % 256)=((y % 256:Nat):Int):=by omega
 rw [e,h];congr 1;omega
theorem z5u (w:I) (v:O) (t:M) (l:List O) (hl:l=[v]):∀ (j:Nat) (u:O),l[j]? = X u→(w.alloc (.cells #[v] t)).cell? ((⟨w.heap.size,0,Z⟩:Addr).add j)=X u:=by
 subst hl
 intro j u hu
 match j,hu with
 | 0,hu=>simp at hu;subst hu;simp [Addr.add]
theorem y4u (f y:Nat) (h:¬ y<128):y2e (f+1) y=[y2o y]++y2e f (y / 128):=by simp [y2e,h]
theorem y4o (f y:Nat) (h:y<128):y2e f y=[y2u y]:=by cases f <;> simp [y2e,h]
theorem y3e (c:UInt8) (x:Int) (h:x=(c.toNat:Int)):z8a [c]=[J .u8 x]:=by subst h;rfl
def y5o (base:Nat) (v:O) (l:List UInt8) (w:I) (e:Ending) (w':I):Prop:=∃ v',e=E v'∧z3o 5 w' base v' l∧w.grownBy w' v.ownBlock∧y4j w v v'
def k4n (base:Nat) (v0:O) (out:List UInt8) (w:I) (b x:O) (wr:I):Prop :=
 ∃ (k:Nat) (pr:List UInt8) (y:Nat),y<128 ^ (k+1)∧x=J .u64 y∧z3o 5 wr base b pr∧out=pr++y2e k y∧pr.length+k≤100000000020∧w.grownBy wr v0.ownBlock∧y4j w v0 b∧base≤wr.heap.size
theorem z5v (base:Nat) (v:O) (pre:List UInt8) (u:Nat) (hu:Hid (u<18446744073709551616)) (w:I) (hown:z3o 5 w base v pre) (hsz:pre.length≤100000000000) (hbase:base≤w.heap.size) :
 C prog 158 #[v,J .u64 u] w (y5o base v (pre++num u) w):=by
 go_enter func158,ntmps158
 go_wp2
 go_loopw [0,1] (fun b x wr=>k4n base v (pre++num u) w b x wr) (fun _ x _=>(intOf x).toNat)
 case atStart=>exact ⟨9,pre,u,Nat.lt_of_lt_of_le hu.out (by decide),rfl,hown,rfl,by omega,z1b _ _,y4j.refl _ _,hbase⟩
 case round =>
  obtain ⟨k,pr,y,hy,rfl,hown',heq,hlen,hg,hn,hb⟩:=hrel
  have jZ:=hd_ heq;have Hy:=hd_ hy;clear heq hy
  by_cases h:y<128
  ·go_wp2_with (at_builtin;refine z4r (e:=5) underlying50 (by kernel_rfl) rfl _ _ rfl base _ pr rfl (hown'.alloc _) ⟨wr.heap.size,0,Z⟩ 1 [y2u y] rfl ?c1 ?c2 ?c3 ?_)
   case c1=>refine z5u _ _ _ _ (y3e _ _ ?_);rw [y3o];omega
   case c2=>simp;omega
   case c3=>simp;omega
   intro v' w1 da al bv
   go_wp2
   go_ret
   refine ⟨_,rfl,?_,z2a (z4a hg _) al hn,hn.trans (z4a hg _).size bv⟩
   rw [jZ.out,y4o _ _ h];exact da
  ·go_wp2_with (at_builtin;refine z4r (e:=5) underlying50 (by kernel_rfl) rfl _ _ rfl base _ pr rfl (hown'.alloc _) ⟨wr.heap.size,0,Z⟩ 1 [y2o y] rfl ?c1 ?c2 ?c3 ?_)
   case c1=>exact z5u _ _ _ _ (y3e _ _ (k3n y))
   case c2=>simp;omega
   case c3=>simp;omega
   intro v' w1 da al bv
   go_wp2
   go_roundw
   case rel =>
    obtain ⟨k',rfl⟩:∃ k',k=k'+1:=⟨k - 1,by
     rcases k with _|k
     ·have:=Hy.out;simp at this;omega
     ·rfl⟩
    refine ⟨k',_,y / 128,?_,?_,da,?_,?_,z2a (z4a hg _) al hn,hn.trans (z4a hg _).size bv,?_⟩
    ·have:=Hy.out;rw [Nat.pow_succ] at this;exact Nat.div_lt_of_lt_mul (by omega)
    ·go_num
    ·rw [jZ.out,y4u _ _ h,List.append_assoc]
    ·simp;omega
    ·have:=al.size;simp at this;omega
   case measure=>simp [intOf];omega
inductive V where
 | mk (kind n:Int) (s:ByteArray) (l:List V)
def V.kind:V→Int | .mk k _ _ _=>k
def V.n:V→Int | .mk _ n _ _=>n
def V.s:V→ByteArray | .mk _ _ s _=>s
def V.l:V→List V | .mk _ _ _ l=>l
def I64 (n:Int):Prop:=-9223372036854775808≤n∧n≤9223372036854775807
mutual
def V.at (B:Nat) (w:I):V→Nat→Nat→Prop
 | .mk k n s l,b,off=>b<B∧I64 k∧I64 n∧s.size≤D∧w.cell? ⟨b,off,Z⟩=X (J Q k)∧w.cell? ⟨b,off+1,Z⟩=X (J Q n)∧w.cell? ⟨b,off+2,Z⟩=X (S s) ∧
  ∃ lv,w.cell? ⟨b,off+3,Z⟩=X lv∧((l=[]∧∃ oa cap,lv=Y oa 0 cap)∨(l≠[]∧∃ c o cap,lv=Y (X ⟨c,o,Z⟩) l.length cap∧l.length≤D∧V.ats B w l c o))
def V.ats (B:Nat) (w:I):List V→Nat→Nat→Prop
 | [],_,_=>True
 | x::r,b,off=>V.at B w x b off∧V.ats B w r b (off+4)
end
def SlV (B:Nat) (w:I) (l:List V) (lv:O):Prop :=
 (l=[]∧∃ oa cap,lv=Y oa 0 cap)∨(l≠[]∧∃ c o cap,lv=Y (X ⟨c,o,Z⟩) l.length cap∧l.length≤D∧V.ats B w l c o)
def RdV (B:Nat) (w:I) (x:V) (v:O):Prop :=
 I64 x.kind∧I64 x.n∧x.s.size≤D∧∃ lv,v=.agg #[J Q x.kind,J Q x.n,S x.s,lv]∧SlV B w x.l lv
theorem SlV.form {B:Nat} {w:I} {l:List V} {lv:Value} (h:SlV B w l lv):∃ oa cap,lv=Y oa l.length cap:=by
 rcases h with ⟨rfl,oa,cap,rfl⟩|⟨_,c,o,cap,rfl,_⟩
 ·exact ⟨oa,cap,rfl⟩
 ·exact ⟨_,cap,rfl⟩
theorem V.at_def {B:Nat} {w:I} {x:V} {b off:Nat} (h:V.at B w x b off) :
 b<B∧w.cell? ⟨b,off,Z⟩=X (J Q x.kind)∧w.cell? ⟨b,off+1,Z⟩=X (J Q x.n)∧w.cell? ⟨b,off+2,Z⟩=X (S x.s) ∧
  ∃ oa cap,w.cell? ⟨b,off+3,Z⟩=X (Y oa x.l.length cap)∧RdV B w x (.agg #[J Q x.kind,J Q x.n,S x.s,Y oa x.l.length cap]):=by
 obtain ⟨k,n,s,l⟩:=x
 simp only [V.at] at h
 obtain ⟨h0,h1,h2,h3,h4,h5,h6,lv,h7,h8⟩:=h
 obtain ⟨oa,cap,rfl⟩:=SlV.form (B:=B) (w:=w) (l:=l) h8
 exact ⟨h0,h4,h5,h6,oa,cap,h7,h1,h2,h3,_,rfl,h8⟩
theorem RdV.form {B:Nat} {w:I} {x:V} {v:Value} (h:RdV B w x v):∃ oa cap,v=.agg #[J Q x.kind,J Q x.n,S x.s,Y oa x.l.length cap]∧SlV B w x.l (Y oa x.l.length cap):=by
 obtain ⟨_,_,_,lv,rfl,h8⟩:=h
 obtain ⟨oa,cap,rfl⟩:=h8.form
 exact ⟨oa,cap,rfl,h8⟩
theorem V.ats_get {B:Nat} {w:I}:∀ {l:List V} {b off:Nat} (_:V.ats B w l b off) (k:Nat) (x:V),l[k]? = X x→V.at B w x b (off+k * 4)
 | [],_,_,_,_,_,h=>by simp at h
 | y::r,b,off,h,0,x,hx=>by simp at hx;subst hx;simp only [V.ats] at h;simpa using h.1
 | y::r,b,off,h,k+1,x,hx=>by
  simp only [V.ats] at h
  have:=V.ats_get h.2 k x (by simpa using hx)
  rw [show off+(k+1) * 4=off+4+k * 4 from by omega];exact this
mutual
theorem V.at_keep {B B':Nat} {w w':I} (hB:B≤B') (hs:∀ k,k<B→w'.heap[k]? = w.heap[k]?):∀ (x:V) (b off:Nat),V.at B w x b off→V.at B' w' x b off
 | .mk k n s l,b,off,h=>by
  simp only [V.at] at h ⊢
  obtain ⟨h0,h1,h2,h3,h4,h5,h6,lv,h7,h8⟩:=h
  have hc:∀ o,w'.cell? ⟨b,o,Z⟩=w.cell? ⟨b,o,Z⟩:=fun o=>World.cell?_of_block (w:=w) (hs b h0)
  refine ⟨Nat.lt_of_lt_of_le h0 hB,h1,h2,h3,(hc _).trans h4,(hc _).trans h5,(hc _).trans h6,lv,(hc _).trans h7,?_⟩
  rcases h8 with h8|⟨hne,c,o,cap,he,hl,ha⟩
  ·exact .inl h8
  ·exact .inr ⟨hne,c,o,cap,he,hl,V.ats_keep hB hs l c o ha⟩
theorem V.ats_keep {B B':Nat} {w w':I} (hB:B≤B') (hs:∀ k,k<B→w'.heap[k]? = w.heap[k]?):∀ (l:List V) (b off:Nat),V.ats B w l b off→V.ats B' w' l b off
 | [],_,_,_=>by simp [V.ats]
 | x::r,b,off,h=>by
  simp only [V.ats] at h ⊢
  exact ⟨V.at_keep hB hs x b off h.1,V.ats_keep hB hs r b (off+4) h.2⟩
end
theorem SlV.keep {B B':Nat} {w w':I} {l:List V} {lv:Value} (h:SlV B w l lv) (hB:B≤B') (hs:∀ k,k<B→w'.heap[k]? = w.heap[k]?):SlV B' w' l lv:=by
 rcases h with h|⟨hne,c,o,cap,he,hl,ha⟩
 ·exact .inl h
 ·exact .inr ⟨hne,c,o,cap,he,hl,V.ats_keep hB hs l c o ha⟩
theorem RdV.keep {B B':Nat} {w w':I} {x:V} {v:Value} (h:RdV B w x v) (hB:B≤B') (hs:∀ k,k<B→w'.heap[k]? = w.heap[k]?):RdV B' w' x v:=by
 obtain ⟨h1,h2,h3,lv,h4,h5⟩:=h
 exact ⟨h1,h2,h3,lv,h4,h5.keep hB hs⟩
theorem RdV.below {B:Nat} {w w':I} {x:V} {v:Value} (h:RdV B w x v) (hb:U B w w'):RdV B w' x v:=h.keep (Nat.le_refl _) hb.block
mutual
def okV:V→Prop
 | .mk k n s l=>I64 k∧I64 n∧s.size≤D∧l.length≤D∧z2g l
def z2g:List V→Prop
 | []=>True
 | x::r=>okV x∧z2g r
end
mutual
theorem V.at_ok {B:Nat} {w:I}:∀ (x:V) (b off:Nat),V.at B w x b off→okV x
 | .mk k n s l,b,off,h=>by
  simp only [V.at] at h
  obtain ⟨h0,h1,h2,h3,h4,h5,h6,lv,h7,h8⟩:=h
  simp only [okV]
  rcases h8 with ⟨rfl,_⟩|⟨hne,c,o,cap,he,hl,ha⟩
  ·exact ⟨h1,h2,h3,by simp,by simp [z2g]⟩
  ·exact ⟨h1,h2,h3,hl,V.ats_ok l c o ha⟩
theorem V.ats_ok {B:Nat} {w:I}:∀ (l:List V) (b off:Nat),V.ats B w l b off→z2g l
 | [],_,_,_=>by simp [z2g]
 | x::r,b,off,h=>by
  simp only [V.ats] at h
  simp only [z2g]
  exact ⟨V.at_ok x b off h.1,V.ats_ok r b (off+4) h.2⟩
end
theorem SlV.ok {B:Nat} {w:I} {l:List V} {v:Value} (h:SlV B w l v):z2g l∧l.length≤D:=by
 rcases h with ⟨rfl,_⟩|⟨hne,c,o,cap,he,hl,ha⟩
 ·simp [z2g]
 ·exact ⟨V.ats_ok l c o ha,hl⟩
theorem RdV.ok {B:Nat} {w:I} {x:V} {v:Value} (h:RdV B w x v):okV x:=by
 obtain ⟨k,n,s,l⟩:=x
 obtain ⟨h1,h2,h3,lv,h4,h5⟩:=h
 exact ⟨h1,h2,h3,h5.ok.2,h5.ok.1⟩
theorem x7l:∀ {l:List V} {i:Nat} {x:V},z2g l→l[i]? = X x→okV x
 | [],_,_,_,h=>by simp at h
 | y::r,0,x,h,hx=>by simp at hx;subst hx;exact h.1
 | y::r,i+1,x,h,hx=>x7l (l:=r) (i:=i) h.2 (by simpa using hx)
theorem j8p {l:List V} {x:V} (h:z2g l) (hx:x∈l):okV x:=by
 obtain ⟨i,hi⟩:=List.mem_iff_getElem?.1 hx;exact x7l h hi
mutual
def fm:V→Bool
 | .mk k n s l=>if k=1 then s.toList.isEmpty&&l.isEmpty else if k=2 then n == 0&&l.isEmpty else if k=3 then n == 0&&s.toList.isEmpty&&fms l else false
def fms:List V→Bool
 | []=>true
 | x::r=>fm x&&fms r
end
mutual
def dp:V→Nat
 | .mk k _ _ l=>if k=3 then dps l+1 else 0
def dps:List V→Nat
 | []=>0
 | x::r=>max (dp x) (dps r)
end
mutual
def sz:V→Nat
 | .mk _ _ s l=>24+s.size+szs l
def szs:List V→Nat
 | []=>0
 | x::r=>sz x+szs r
end
abbrev v4 (x:V) (l:O):List O:=[J Q x.kind,J Q x.n,S x.s,l]
open Go.RowKit
def CB (w:I) (g:Nat) (t:M) (cs:List O):Prop:=w.heap[g]? = X (.cells cs.toArray t (0,0))
theorem CB.cell {w:I} {g:Nat} {t:M} {cs:List Value} (h:CB w g t cs) (i:Nat):w.cell? ⟨g,i,Z⟩=cs[i]?:=by
 unfold CB at h;simp [World.cell?,h]
theorem CB.cv {w:I} {g:Nat} {t:M} {cs:List Value} (h:CB w g t cs) (i:Nat) (v:O) (hv:cs[i]? = X v:=by exact rfl):w.cell? ⟨g,i,Z⟩=X v:=(h.cell i).trans hv
theorem CB.ce {w:I} {g:Nat} {t:M} {cs:List Value} (h:CB w g t cs) (i:Nat) {v:Value} (hv:cs[i]? = X v:=by exact rfl):w.cell? ⟨g,i,Z⟩=X v:=(h.cell i).trans hv
theorem z8y {l:List Value} (h:l.all (·.oneCell')=true):∀ u∈l,u.oneCell'=true:=List.all_eq_true.1 h
theorem CB.frozen {w:I} {g:Nat} {t:M} {cs:List Value} (h:CB w g t cs) (i:Nat):w.frozen? ⟨g,i,Z⟩=false:=by
 unfold CB at h;simp [World.frozen?,h]
theorem CB.set {w:I} {g:Nat} {t:M} {cs:List Value} (h:CB w g t cs) (i:Nat) (u:O):CB (w.setCell ⟨g,i,Z⟩ u) g t (cs.set i u):=by
 unfold CB at h ⊢;simp [World.setCell,Array.getElem?_modify,h]
theorem CB.keep {w w':I} {g:Nat} {t:M} {cs:List Value} (h:CB w g t cs) (hk:w'.heap[g]? = w.heap[g]?):CB w' g t cs:=hk.trans h
theorem CB.far {w:I} {g:Nat} {t:M} {cs:List Value} (h:CB w g t cs) {p:Addr} (hp:g≠p.block) (u:O):CB (w.setCell p u) g t cs:=h.keep (Below.heap_setCell w p u g hp)
theorem CB.lt {w:I} {g:Nat} {t:M} {cs:List Value} (h:CB w g t cs):g<w.heap.size:=by
 rcases Nat.lt_or_ge g w.heap.size with hlt|hge
 ·exact hlt
 ·unfold CB at h;rw [Array.getElem?_eq_none hge] at h;cases h
theorem CB.new (w:I) (t:M) (cs:List O):CB (w.alloc (.cells cs.toArray t)) w.heap.size t cs:=heap_alloc_new w _
theorem CB.alloc {w:I} {g:Nat} {t:M} {cs:List Value} (h:CB w g t cs) (o:Obj):CB (w.alloc o) g t cs:=h.keep (Below.heap_alloc w o g h.lt)
theorem CB.ext {w w':I} {g:Nat} {t:M} {cs:List Value} (h:CB w g t cs) (hb:U w.heap.size w w'):CB w' g t cs:=h.keep (hb.block _ h.lt)
theorem k8x (W:I) (ns:List Int) (t:M):∀ j y,ns[j]? = X y→(W.alloc (.cells (ns.map (J Q)).toArray t)).cell? ⟨W.heap.size,j,Z⟩=X (J Q y):=by
 intro j y h
 rw [(CB.new W t (ns.map (J Q))).cell j];simp [h]
theorem v1f (W:I) (x:Int) (t:M):∀ j y,[x][j]? = X y→(W.alloc (.cells #[J Q x] t)).cell? ⟨W.heap.size,j,Z⟩=X (J Q y):=k8x W [x] t
theorem v2d (W:I) (x z:Int) (t:M):∀ j y,[x,z][j]? = X y→(W.alloc (.cells #[J Q x,J Q z] t)).cell? ⟨W.heap.size,j,Z⟩=X (J Q y):=k8x W [x,z] t
open Go.RowKit
def z1r (x:Int × Int × Int):Bool:=F (x.1<x.2.1∨x.2.2<x.1)
theorem x7z {n a b:Int} {t:Bool} (h:z1r (n,a,b)=t):t=(F (n<a) || F (b<n)):=by
 rw [← h];unfold z1r;rw [Bool.eq_iff_iff];simp
theorem x8e (n a b:Int) (w:I):C prog 151 #[.agg #[J Q n,J Q a,J Q b]] w fun e w'=>e=E (.bool (z1r (n,a,b)))∧U w.heap.size w w':=by
 obtain ⟨t,ht⟩:∃ t,z1r (n,a,b)=t:=⟨_,rfl⟩
 have hm:=x7z ht
 rw [ht]
 clear ht
 obtain ⟨t1,h1⟩:∃ t,F (n<a)=t:=⟨_,rfl⟩
 obtain ⟨t2,h2⟩:∃ t,F (b<n)=t:=⟨_,rfl⟩
 rw [h1,h2] at hm
 have Hm:=hd_ hm
 clear hm
 cases t1
 all_goals
  go_enter func151,ntmps151
  go_wp2
  go_ret
  exact ⟨by rw [Hm.out];simp,(Below.refl _ _).alloc (Nat.le_refl _) _⟩
def y5u (w:I) (g:Nat) (L:List (Int × Int × Int)):Prop:=∀ j x,L[j]? = X x→w.cell? ⟨g,j * 3,Z⟩=X (J Q x.1)∧w.cell? ⟨g,j * 3+1,Z⟩=X (J Q x.2.1)∧w.cell? ⟨g,j * 3+2,Z⟩=X (J Q x.2.2)
theorem y5u.ext {w w':I} {g:Nat} {L:List (Int × Int × Int)} (h:y5u w g L) (hb:U w.heap.size w w'):y5u w' g L:=fun j x hx=>by
 obtain ⟨a,b,c⟩:=h j x hx
 exact ⟨z1a hb a,z1a hb b,z1a hb c⟩
def k5n (w:I) (L:List (Int × Int × Int)) (i:O) (wr:I):Prop:=∃ k:Nat,k≤L.length∧i=J Q k∧(L.take k).any z1r=false∧U w.heap.size w wr
def x8z (t:Bool) (w:I) (e:Ending) (w':I):Prop:=∃ r:Int,e=E (J Q r)∧F (0≤r)=t∧U w.heap.size w w'
theorem x8z.mk {t:Bool} {w w':I} {r:Int} (h:F (0≤r)=t) (hb:U w.heap.size w w'):x8z t w (.returned (J Q r)) w':=⟨r,rfl,h,hb⟩
theorem j9p {L:List (Int × Int × Int)} {k:Nat} {x:Int × Int × Int} (h:L[k]? = X x) (h1:(L.take k).any z1r=false) (h2:z1r x=false):(L.take (k+1)).any z1r=false:=by
 rw [List.take_add_one,h,List.any_append,h1];simp [h2]
theorem k1b {L:List (Int × Int × Int)} {k:Nat} {x:Int × Int × Int} (h:L[k]? = X x) (h2:z1r x=true):L.any z1r=true:=by
 rw [List.any_eq_true];exact ⟨x,List.mem_of_getElem? h,h2⟩
theorem j0q (g n cap:Nat) (L:List (Int × Int × Int)) (hn:L.length=n) (bv:n≤1000) (w:I) (h:y5u w g L) :
 C prog 191 #[Y (X ⟨g,0,Z⟩) n cap,.func (.func 151) #[] #[]] w (x8z (L.any z1r) w):=by
 have H:=hd_ h;have Hn:=hd_ hn
 have bn:(n:Int)≤1000:=by omega
 clear h hn
 go_enter func191,ntmps191
 go_wp2_with fail
 go_loopw [8] (fun i wr=>k5n w L i wr) (fun i _=>n - (intOf i).toNat)
 case atStart=>exact ⟨0,by omega,rfl,rfl,Below.refl _ _⟩
 case round =>
  obtain ⟨k,hk,rfl,ha,hb⟩:=hrel
  have HA:=hd_ ha;have HB:=hd_ hb
  have hkn:k≤n:=by have:=Hn.out;omega
  clear ha hb hk
  by_cases hlt:k<n
  ·have tj:F ((k:Int)<(n:Int))=true:=by simp;omega
   have eu:F (k<n)=true:=by simp;omega
   obtain ⟨⟨x,a,b⟩,hx⟩:∃ x,L[k]? = X x:=⟨_,List.getElem?_eq_getElem (by rw [Hn.out];exact hlt)⟩
   obtain ⟨c0,c1,c2⟩:=(H.out.ext HB.out) k _ hx
   have Hx:=hd_ hx
   clear hx
   obtain ⟨t,ht⟩:∃ t,z1r (x,a,b)=t:=⟨_,rfl⟩
   have Ht:=hd_ ht
   clear ht
   go_wp2_with fail
   refine (x8e x a b _).mono ?_
   rw [Ht.out]
   rintro e w2 ⟨rfl,aj⟩
   have au:=hd_ (z0a HB.out aj)
   clear aj c0 c1 c2
   cases t
   ·have hN:=hd_ (j9p Hx.out HA.out Ht.out)
    go_wp2_with fail
    go_roundw
    case rel=>exact ⟨k+1,by have:=Hn.out;omega,by go_num,hN.out,au.out⟩
    case measure=>simp [intOf];omega
   ·have hN:=hd_ (k1b Hx.out Ht.out)
    go_wp2_with fail
    go_ret
    exact x8z.mk (by rw [hN.out];simp) au.out
  ·have hkn':k=n:=by omega
   have tj:F ((k:Int)<(n:Int))=false:=by simp;omega
   have eu:F (k<n)=false:=by simp;omega
   have hN:Hid (L.any z1r=false):=by
    have:=HA.out;rw [List.take_of_length_le (by rw [Hn.out];omega)] at this;exact this
   clear hkn'
   go_wp2_with fail
   go_ret
   exact x8z.mk (by rw [hN.out];decide) HB.out
theorem x9z (g n cap:Nat) (L:List (Int × Int × Int)) (hn:L.length=n) (bv:n≤1000) (w:I) (h:y5u w g L) :
 C prog 150 #[Y (X ⟨g,0,Z⟩) n cap,.func (.func 151) #[] #[]] w fun e w'=>e=E (.bool (L.any z1r))∧U w.heap.size w w':=by
 have H:=hd_ h;have Hn:=hd_ hn;have Hn2:=hd_ bv
 clear h hn bv
 go_enter func150,ntmps150
 go_wp2_with fail
 refine (j0q g n cap L Hn.out Hn2.out _ H.out).mono ?_
 rintro e w1 ⟨r,rfl,hr,hb⟩
 have HB:=hd_ hb
 clear hb
 go_wp2_with fail
 go_ret
 exact ⟨by simp,HB.out⟩
theorem y0l (g n cap:Nat) (L:List (Int × Int × Int)) (hn:L.length=n) (bv:n≤1000) (w:I) (h:y5u w g L) :
 C prog 78 #[Y (X ⟨g,0,Z⟩) n cap] w fun e w'=>e=E (.bool (!L.any z1r))∧U w.heap.size w w':=by
 have H:=hd_ h;have Hn:=hd_ hn;have Hn2:=hd_ bv
 clear h hn bv
 go_enter func78,ntmps78
 go_wp2_with fail
 refine (x9z g n cap L Hn.out Hn2.out _ H.out).mono ?_
 rintro e w1 ⟨rfl,hb⟩
 have HB:=hd_ hb
 clear hb
 go_wp2_with fail
 go_ret
 exact ⟨by simp,HB.out⟩
theorem z6u (n a b:Int) (w:I):C prog 162 #[J Q n,J Q a,J Q b] w fun e w'=>e=E (.bool (!z1r (n,a,b)))∧w=w':=by
 obtain ⟨t,ht⟩:∃ t,z1r (n,a,b)=t:=⟨_,rfl⟩
 have hm:=x7z ht
 rw [ht]
 clear ht
 obtain ⟨t1,h1⟩:∃ t,F (n<a)=t:=⟨_,rfl⟩
 obtain ⟨t2,h2⟩:∃ t,F (b<n)=t:=⟨_,rfl⟩
 rw [h1,h2] at hm
 have k1:F (a≤n) = !t1:=by rw [← h1,Bool.eq_iff_iff];simp
 have k2:F (n≤b) = !t2:=by rw [← h2,Bool.eq_iff_iff];simp
 have Hm:=hd_ hm
 clear hm h1 h2
 cases t1 <;> cases t2
 all_goals
  simp only [Bool.not_false,Bool.not_true] at k1 k2
  go_enter func162,ntmps162
  go_wp2
  go_ret
  exact ⟨by rw [Hm.out];simp,rfl⟩
open Go.RowKit
abbrev W32:=BitVec 32
def iw (x:W32):Int:=(x.toNat:Int)
theorem j1q (x:W32):0≤iw x∧iw x<4294967296:=⟨by unfold iw;omega,by have:=x.isLt;unfold iw;omega⟩
theorem x9e (x:W32):IntKind.u32.wrap (iw x)=iw x:=by have:=j1q x;rw [IntKind.wrap_u32];omega
theorem z1t (x:W32):BitVec.ofInt 32 (iw x)=x:=by unfold iw;simp
theorem j8w (x y:W32):bits BinOp.xor .u32 (iw x) (iw y)=iw (x ^^^ y):=by
 have h:bits BinOp.xor .u32 (iw x) (iw y)=IntKind.u32.wrap (iw (BitVec.ofInt 32 (iw x) ^^^ BitVec.ofInt 32 (iw y))):=rfl
 rw [h,x9e,z1t,z1t]
theorem k9x (x y:W32):bits BinOp.and .u32 (iw x) (iw y)=iw (x &&& y):=by
 have h:bits BinOp.and .u32 (iw x) (iw y)=IntKind.u32.wrap (iw (BitVec.ofInt 32 (iw x) &&& BitVec.ofInt 32 (iw y))):=rfl
 rw [h,x9e,z1t,z1t]
theorem bor (x y:W32):bits BinOp.or .u32 (iw x) (iw y)=iw (x ||| y):=by
 have h:bits BinOp.or .u32 (iw x) (iw y)=IntKind.u32.wrap (iw (BitVec.ofInt 32 (iw x) ||| BitVec.ofInt 32 (iw y))):=rfl
 rw [h,x9e,z1t,z1t]
theorem k6n (x y:W32):(iw x+iw y) % 4294967296=iw (x+y):=by unfold iw;rw [BitVec.toNat_add];omega
theorem k0y (x:W32) (n:Nat):iw x / 2 ^ n=iw (x >>> n):=by
 unfold iw;rw [BitVec.toNat_ushiftRight,Nat.shiftRight_eq_div_pow,Int.natCast_ediv,Int.natCast_pow];rfl
theorem v3d (x:W32) (n:Nat):iw x * 2 ^ n % 4294967296=iw (x <<< n):=by
 unfold iw;rw [BitVec.toNat_shiftLeft,Nat.shiftLeft_eq,Int.natCast_emod,Int.natCast_mul,Int.natCast_pow];rfl
theorem v2f (x:W32) (r:Nat) (h2:r≤31):x <<< (32 - r) ||| x >>> r=x.rotateRight r:=by
 rw [BitVec.rotateRight_def,Nat.mod_eq_of_lt (by omega),BitVec.or_comm]
theorem k1y:∀ r:Fin 32,r≠0→bits BinOp.and IntKind.u64 (IntKind.u64.wrap (-((r.val:Nat):Int))) 31=((32 - r.val:Nat):Int):=by decide +kernel
def ror (x:W32) (r:Nat):W32:=x.rotateRight r
theorem y6o (x:W32) (r:Nat) (n:Int) (hn:n = -(r:Int)) (h1:1≤r) (h2:r≤31) (w:I):C prog 211 #[J .u32 (iw x),J Q n] w fun e w'=>e=E (J .u32 (iw (ror x r)))∧w=w':=by
 obtain ⟨s,hs⟩:∃ s,32 - r=s:=⟨_,rfl⟩
 have e1:bits BinOp.and IntKind.u64 (IntKind.u64.wrap n) 31=(s:Int):=by rw [hn,← hs];exact k1y ⟨r,by omega⟩ (by intro h;have h2:=congrArg Fin.val h;have h3:r=0:=h2;omega)
 have b1:(1:Int)≤(s:Int):=by omega
 have b2:(s:Int)≤31:=by omega
 have bx:=j1q x
 obtain ⟨bx1,bx2⟩:=bx
 have hr:=hd_ (v2f x r h2)
 have hrs:=hd_ (show 32 - s=r by omega)
 have Hs:=hd_ hs
 clear hs hn h1 h2
 go_enter func211,ntmps211
 go_wp2
 rw [hrs.out,v3d,k0y,bor,← Hs.out,hr.out]
 go_ret
 exact ⟨rfl,rfl⟩
def k7l (x:W32) (a b c:Nat):W32:=ror x a ^^^ ror x b ^^^ ror x c
theorem x0f (x:W32) (a b c:Nat) (ai bi ci:Int) (ha:ai=(a:Int)) (hb:bi=(b:Int)) (hc:ci=(c:Int)) (ha1:1≤a) (ha2:a≤31) (af:1≤b) (aj:b≤31) (cE:1≤c) (bY:c≤31) (w:I) :
 C prog 212 #[J .u32 (iw x),J Q ai,J Q bi,J Q ci] w fun e w'=>e=E (J .u32 (iw (k7l x a b c)))∧w=w':=by
 have e1:wrap64 (-ai) = -ai:=by unfold wrap64;omega
 have e2:wrap64 (-bi) = -bi:=by unfold wrap64;omega
 have e3:wrap64 (-ci) = -ci:=by unfold wrap64;omega
 have x1:=j8w (ror x a) (ror x b)
 have x2:=j8w (ror x a ^^^ ror x b) (ror x c)
 have h1:=hd_ ha;have h2:=hd_ hb;have h3:=hd_ hc
 clear ha hb hc
 go_enter func212,ntmps212
 go_wp2_with fail
 refine (y6o x a _ (by rw [h1.out]) ha1 ha2 _).mono ?_
 rintro e w1 ⟨rfl,rfl⟩
 go_wp2_with fail
 refine (y6o x b _ (by rw [h2.out]) af aj _).mono ?_
 rintro e w1 ⟨rfl,rfl⟩
 go_wp2_with fail
 refine (y6o x c _ (by rw [h3.out]) cE bY _).mono ?_
 rintro e w1 ⟨rfl,rfl⟩
 go_wp2_with fail
 go_ret
 exact ⟨rfl,rfl⟩
def kL:List W32:=[0x428a2f98,0x71374491,0xb5c0fbcf,0xe9b5dba5,0x3956c25b,0x59f111f1,0x923f82a4,0xab1c5ed5,
 0xd807aa98,0x12835b01,0x243185be,0x550c7dc3,0x72be5d74,0x80deb1fe,0x9bdc06a7,0xc19bf174,
 0xe49b69c1,0xefbe4786,0x0fc19dc6,0x240ca1cc,0x2de92c6f,0x4a7484aa,0x5cb0a9dc,0x76f988da,
 0x983e5152,0xa831c66d,0xb00327c8,0xbf597fc7,0xc6e00bf3,0xd5a79147,0x06ca6351,0x14292967,
 0x27b70a85,0x2e1b2138,0x4d2c6dfc,0x53380d13,0x650a7354,0x766a0abb,0x81c2c92e,0x92722c85,
 0xa2bfe8a1,0xa81a664b,0xc24b8b70,0xc76c51a3,0xd192e819,0xd6990624,0xf40e3585,0x106aa070,
 0x19a4c116,0x1e376c08,0x2748774c,0x34b0bcb5,0x391c0cb3,0x4ed8aa4a,0x5b9cca4f,0x682e6ff3,
 0x748f82ee,0x78a5636f,0x84c87814,0x8cc70208,0x90befffa,0xa4506ceb,0xbef9a3f7,0xc67178f2]
def kK (t:Nat):W32:=kL.getD t 0
def wd (n:W32) (c:UInt8):W32:=n <<< 8 ||| BitVec.ofNat 32 c.toNat
def k8l (l:List UInt8):W32:=(l.take 4).foldl wd 0
def k7n (x:W32):W32:=ror x 7 ^^^ ror x 18 ^^^ x >>> 3
def k8n (x:W32):W32:=ror x 17 ^^^ ror x 19 ^^^ x >>> 10
def j2q (a x c y:W32):W32:=a+k7n x+c+k8n y
def z7k:Nat→List W32→List W32
 | 0,l=>l
 | n+1,l=>z7k n l++[j2q ((z7k n l).getD n 0) ((z7k n l).getD (n+1) 0) ((z7k n l).getD (n+9) 0) ((z7k n l).getD (n+14) 0)]
theorem y6u (n:Nat) (l:List W32):(z7k n l).length=l.length+n:=by
 induction n with
 | zero=>rfl
 | succ n ih=>simp [z7k,ih];omega
structure S8 where
 a:W32
 b:W32
 c:W32
 d:W32
 e:W32
 f:W32
 g:W32
 h:W32
def S8.l (s:S8):List W32:=[s.a,s.b,s.c,s.d,s.e,s.f,s.g,s.h]
def S8.add (s t:S8):S8:=⟨s.a+t.a,s.b+t.b,s.c+t.c,s.d+t.d,s.e+t.e,s.f+t.f,s.g+t.g,s.h+t.h⟩
def k6w (s:S8) (k w:W32):W32:=s.h+k7l s.e 6 11 25+(s.g ^^^ s.e &&& (s.f ^^^ s.g))+k+w
def k2y (s:S8):W32:=k7l s.a 2 13 22+(s.a &&& s.b ||| s.c &&& (s.a ||| s.b))
def rnd (s:S8) (k w:W32):S8:=⟨k6w s k w+k2y s,s.a,s.b,s.c,s.d+k6w s k w,s.e,s.f,s.g⟩
def y4e (s:S8) (ws:List W32):Nat→S8
 | 0=>s
 | t+1=>rnd (y4e s ws t) (kK t) (ws.getD t 0)
def y6c (b:List UInt8):List W32:=(List.range 16).map fun t=>k8l (b.drop (4 * t))
theorem z7w (b:List UInt8):(y6c b).length=16:=by simp [y6c]
def z6k (s:S8) (b:List UInt8):S8:=s.add (y4e s (z7k 48 (y6c b)) 64)
def z5c:Nat→S8→List UInt8→S8
 | 0,s,_=>s
 | n+1,s,l=>z5c n (z6k s (l.take 64)) (l.drop 64)
def z1n:S8:=⟨0x6a09e667,0xbb67ae85,0x3c6ef372,0xa54ff53a,0x510e527f,0x9b05688c,0x1f83d9ab,0x5be0cd19⟩
def be (n v:Nat):List UInt8:=(List.range n).map fun i=>(v / 2 ^ (8 * (n - 1 - i))).toUInt8
theorem y3b (n v:Nat):(be n v).length=n:=by simp [be]
def pad (l:List UInt8):List UInt8:=l++128::(List.replicate ((119 - l.length % 64) % 64) 0++be 8 (8 * l.length))
def sha (l:List UInt8):List UInt8:=(z5c ((pad l).length / 64) z1n (pad l)).l.flatMap fun x=>be 4 x.toNat
theorem y5e (l:List UInt8):(sha l).length=32:=by simp [sha,S8.l,y3b]
end Go.Proofs.YtdblnbnofjggnaaGreatDoor
