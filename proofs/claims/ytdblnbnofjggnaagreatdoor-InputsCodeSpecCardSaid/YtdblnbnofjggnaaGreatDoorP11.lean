/- Parts of the proofs of chapter 49's laws. -/
import Derived.Test.YtdblnbnofjggnaaGreatDoorP09
import Derived.Test.YtdblnbnofjggnaaGreatDoorP06
set_option maxHeartbeats 1000000
set_option maxRecDepth 100000
open Go.Value renaming int → M, slice → R
open Option renaming none → X, some → J
open Go renaming World → I, Value → Z, TypeId → O, maxLen → Y
set_option linter.all false
namespace Go.Proofs.YtdblnbnofjggnaaGreatDoor
open Go.Proofs.Tryz
open Go.RowKit
theorem z3o.drew {e:O} {w:I} {base:Nat} {v:Value} {l:List UInt8} (h:z3o e w base v l):z3o e w.drew base v l:=h
theorem z2l {w w1:I} {G:Option Nat} (h:w.grownBy w1 G):w.grownBy w1.drew G:=⟨h.os,h.tape,h.output,h.size,h.block⟩
theorem z2b {w w':I} {row:Option Nat} (hg:w.grownBy w' row) {a:Addr} {v:Value} (h:w.cell? a=J v) (hne:J a.block≠row):w'.cell? a=J v:=hg.cell h hne
def uns (n:Int):Nat:=if 0≤n then (2 * n).toNat else (2 * (-(n+1))+1).toNat
theorem x9l (n:Int) (h:I64 n):uns n<18446744073709551616:=by unfold I64 at h;unfold uns;split <;> omega
mutual
def enc:V→List UInt8
 | .mk k n s l=>if k=1 then 1::num (uns n) else if k=2 then 2::(num s.size++s.data.toList) else 3::(num l.length++z6o l)
def z6o:List V→List UInt8
 | []=>[]
 | x::r=>enc x++z6o r
end
theorem x3r (n:Int) (s:ByteArray) (l:List V):enc (.mk 1 n s l)=[1]++num (uns n):=by simp [enc]
theorem x4r (n:Int) (s:ByteArray) (l:List V):enc (.mk 2 n s l)=[2]++num s.size++s.data.toList:=by simp [enc]
theorem j4a (n:Int) (s:ByteArray) (l:List V):enc (.mk 3 n s l)=[3]++num l.length++z6o l:=by simp [enc]
mutual
theorem y4l:∀ x:V,(enc x).length≤sz x
 | .mk k n s l=>by
  have h1:=z0i 9 (uns n);have h2:=z0i 9 s.size;have h3:=z0i 9 l.length;have h4:=j5a l
  have h5:s.data.toList.length=s.size:=by simp
  simp only [enc,sz]
  split
  ·simp only [List.length_cons,num];omega
  ·split
   ·simp only [List.length_cons,List.length_append,num,h5];omega
   ·simp only [List.length_cons,List.length_append,num];omega
theorem j5a:∀ l:List V,(z6o l).length≤szs l
 | []=>by simp [z6o]
 | x::r=>by have:=y4l x;have:=j5a r;simp only [z6o,szs,List.length_append];omega
end
theorem z9w {l:List V} {i:Nat} {x:V} (h:l[i]? = J x):z6o (l.take (i+1))=z6o (l.take i)++enc x:=by
 induction l generalizing i with
 | nil=>simp at h
 | cons y r ih=>cases i with
  | zero=>simp at h;subst h;simp [z6o]
  | succ i=>simp only [List.take_succ_cons,z6o];rw [ih (by simpa using h),List.append_assoc]
theorem k7b (n:Int) (h0:0≤n) (hn:I64 n):bits BinOp.xor IntKind.u64 (IntKind.u64.wrap (IntKind.u64.wrap n * 2)) (IntKind.u64.wrap (n / 9223372036854775808))=(uns n:Int):=by
 unfold I64 at hn
 obtain ⟨m,rfl⟩:=Int.eq_ofNat_of_zero_le h0
 rw [IntKind.wrap_u64,IntKind.wrap_u64,IntKind.wrap_u64]
 rw [show (m:Int) % 18446744073709551616 * 2 % 18446744073709551616=((2 * m:Nat):Int) from by omega,show (m:Int) / 9223372036854775808 % 18446744073709551616=((0:Nat):Int) from by omega,
  bits_xor_u64_nat _ _ (by omega) (by omega),Nat.xor_zero]
 unfold uns;rw [if_pos h0];omega
theorem j9q (a:Nat) (h:a<18446744073709551616):a ^^^ 18446744073709551615=18446744073709551615 - a:=by
 have h1:(BitVec.ofNat 64 a ^^^ BitVec.allOnes 64).toNat=(~~~ BitVec.ofNat 64 a).toNat:=by rw [BitVec.xor_allOnes]
 rw [BitVec.toNat_xor,BitVec.toNat_not,BitVec.toNat_allOnes,BitVec.toNat_ofNat,Nat.mod_eq_of_lt (by simpa using h)] at h1
 simpa using h1
theorem k8b (n:Int) (h0:n<0) (hn:I64 n):bits BinOp.xor IntKind.u64 (IntKind.u64.wrap (IntKind.u64.wrap n * 2)) (IntKind.u64.wrap (n / 9223372036854775808))=(uns n:Int):=by
 unfold I64 at hn
 rw [IntKind.wrap_u64,IntKind.wrap_u64,IntKind.wrap_u64]
 obtain ⟨m,rfl⟩:∃ m:Nat,n = -(m:Int) - 1:=⟨(-n - 1).toNat,by omega⟩
 rw [show (-(m:Int) - 1) % 18446744073709551616 * 2 % 18446744073709551616=((18446744073709551614 - 2 * m:Nat):Int) from by omega,show (-(m:Int) - 1) / 9223372036854775808 % 18446744073709551616=((18446744073709551615:Nat):Int) from by omega,
  bits_xor_u64_nat _ _ (by omega) (by omega),j9q _ (by omega)]
 unfold uns;rw [if_neg (by omega)];omega
theorem y8u (n:Int) (hn:Hid (I64 n)) (w:I):Calls prog 159 #[M .i64 n] w fun e w'=>e=.returned (M .u64 (uns n))∧w=w':=by
 go_enter func159,ntmps159
 go_wp2
 go_ret
 refine ⟨?_,rfl⟩
 rcases Int.lt_or_le n 0 with h|h
 ·exact congrArg (fun z=>Ending.returned (M .u64 z)) (k8b n h hn.out)
 ·exact congrArg (fun z=>Ending.returned (M .u64 z)) (k7b n h hn.out)
open Go.RowKit
mutual
def V.atD (D:Nat→Prop) (w:I):V→Nat→Nat→Prop
 | .mk k n s l,b,off=>D b∧I64 k∧I64 n∧s.size≤Y∧w.cell? ⟨b,off,X⟩=J (M .i64 k)∧w.cell? ⟨b,off+1,X⟩=J (M .i64 n)∧w.cell? ⟨b,off+2,X⟩=J (.string s) ∧
  ∃ lv,w.cell? ⟨b,off+3,X⟩=J lv∧((l=[]∧∃ oa cap,lv=R oa 0 cap)∨(l≠[]∧∃ c o cap,lv=R (J ⟨c,o,X⟩) l.length cap∧(l.length≤Y∧l.length≤cap)∧V.atsD D w l c o))
def V.atsD (D:Nat→Prop) (w:I):List V→Nat→Nat→Prop
 | [],_,_=>True
 | x::r,b,off=>V.atD D w x b off∧V.atsD D w r b (off+4)
end
def y5j (D:Nat→Prop) (w:I) (l:List V) (lv:Z):Prop :=
 (l=[]∧∃ oa cap,lv=R oa 0 cap)∨(l≠[]∧∃ c o cap,lv=R (J ⟨c,o,X⟩) l.length cap∧(l.length≤Y∧l.length≤cap)∧V.atsD D w l c o)
def x2f (D:Nat→Prop) (w:I) (x:V) (v:Z):Prop :=
 I64 x.kind∧I64 x.n∧x.s.size≤Y∧∃ lv,v=.agg #[M .i64 x.kind,M .i64 x.n,.string x.s,lv]∧y5j D w x.l lv
mutual
theorem V.atD_keep {D D':Nat→Prop} {w w':I} (hB:∀ k,D k→D' k) (hs:∀ k,D k→w'.heap[k]? = w.heap[k]?):∀ (x:V) (b off:Nat),V.atD D w x b off→V.atD D' w' x b off
 | .mk k n s l,b,off,h=>by
  simp only [V.atD] at h ⊢
  obtain ⟨h0,h1,h2,h3,h4,h5,h6,lv,h7,h8⟩:=h
  have hc:∀ o,w'.cell? ⟨b,o,X⟩=w.cell? ⟨b,o,X⟩:=fun o=>World.cell?_of_block (w:=w) (hs b h0)
  refine ⟨hB _ h0,h1,h2,h3,(hc _).trans h4,(hc _).trans h5,(hc _).trans h6,lv,(hc _).trans h7,?_⟩
  rcases h8 with h8|⟨hne,c,o,cap,he,hl,ha⟩
  ·exact .inl h8
  ·exact .inr ⟨hne,c,o,cap,he,hl,V.atsD_keep hB hs l c o ha⟩
theorem V.atsD_keep {D D':Nat→Prop} {w w':I} (hB:∀ k,D k→D' k) (hs:∀ k,D k→w'.heap[k]? = w.heap[k]?):∀ (l:List V) (b off:Nat),V.atsD D w l b off→V.atsD D' w' l b off
 | [],_,_,_=>by simp [V.atsD]
 | x::r,b,off,h=>by
  simp only [V.atsD] at h ⊢
  exact ⟨V.atD_keep hB hs x b off h.1,V.atsD_keep hB hs r b (off+4) h.2⟩
end
theorem y5j.keep {D D':Nat→Prop} {w w':I} {l:List V} {lv:Value} (h:y5j D w l lv) (hB:∀ k,D k→D' k) (hs:∀ k,D k→w'.heap[k]? = w.heap[k]?):y5j D' w' l lv:=by
 rcases h with h|⟨hne,c,o,cap,he,hl,ha⟩
 ·exact .inl h
 ·exact .inr ⟨hne,c,o,cap,he,hl,V.atsD_keep hB hs l c o ha⟩
theorem x2f.keep {D D':Nat→Prop} {w w':I} {x:V} {v:Value} (h:x2f D w x v) (hB:∀ k,D k→D' k) (hs:∀ k,D k→w'.heap[k]? = w.heap[k]?):x2f D' w' x v:=by
 obtain ⟨h1,h2,h3,lv,h4,h5⟩:=h
 exact ⟨h1,h2,h3,lv,h4,h5.keep hB hs⟩
mutual
theorem V.atD_at {D:Nat→Prop} {B:Nat} {w:I} (hB:∀ k,D k→k<B):∀ (x:V) (b off:Nat),V.atD D w x b off→V.at B w x b off
 | .mk k n s l,b,off,h=>by
  simp only [V.atD,V.at] at h ⊢
  obtain ⟨h0,h1,h2,h3,h4,h5,h6,lv,h7,h8⟩:=h
  refine ⟨hB _ h0,h1,h2,h3,h4,h5,h6,lv,h7,?_⟩
  rcases h8 with h8|⟨hne,c,o,cap,he,hl,ha⟩
  ·exact .inl h8
  ·exact .inr ⟨hne,c,o,cap,he,hl.1,V.atsD_ats hB l c o ha⟩
theorem V.atsD_ats {D:Nat→Prop} {B:Nat} {w:I} (hB:∀ k,D k→k<B):∀ (l:List V) (b off:Nat),V.atsD D w l b off→V.ats B w l b off
 | [],_,_,_=>by simp [V.ats]
 | x::r,b,off,h=>by
  simp only [V.atsD,V.ats] at h ⊢
  exact ⟨V.atD_at hB x b off h.1,V.atsD_ats hB r b (off+4) h.2⟩
end
theorem y5j.sl {D:Nat→Prop} {B:Nat} {w:I} {l:List V} {lv:Value} (h:y5j D w l lv) (hB:∀ k,D k→k<B):SlV B w l lv:=by
 rcases h with h|⟨hne,c,o,cap,he,hl,ha⟩
 ·exact .inl h
 ·exact .inr ⟨hne,c,o,cap,he,hl.1,V.atsD_ats hB l c o ha⟩
theorem x2f.rd {D:Nat→Prop} {B:Nat} {w:I} {x:V} {v:Value} (h:x2f D w x v) (hB:∀ k,D k→k<B):RdV B w x v:=by
 obtain ⟨h1,h2,h3,lv,h4,h5⟩:=h
 exact ⟨h1,h2,h3,lv,h4,h5.sl hB⟩
def z8f:List V→List Z→List Z
 | x::r,lv::s=>(v4 x lv)++z8f r s
 | _,_=>[]
theorem z2t:∀ (l:List V) (lvs:List Z),l.length=lvs.length→(z8f l lvs).length=l.length * 4
 | [],[],_=>rfl
 | x::r,lv::s,h=>by simp only [z8f,List.length_append,List.length_cons,List.length_nil,z2t r s (by simpa using h)];omega
 | [],_::_,h=>by simp at h
 | _::_,[],h=>by simp at h
theorem z6p:∀ (l:List V) (lvs:List Z) (x:V) (lv:Z),l.length=lvs.length→z8f (l++[x]) (lvs++[lv])=z8f l lvs++(v4 x lv)
 | [],[],_,_,_=>rfl
 | y::r,lv::s,x,l',h=>by simp only [List.cons_append,z8f,z6p r s x l' (by simpa using h),List.append_assoc]
 | [],_::_,_,_,h=>by simp at h
 | _::_,[],_,_,h=>by simp at h
def z7u (D:Nat→Prop) (w:I):List V→List Z→Prop
 | x::r,lv::s=>(I64 x.kind∧I64 x.n∧x.s.size≤Y∧y5j D w x.l lv)∧z7u D w r s
 | [],[]=>True
 | _,_=>False
theorem z5f {D D':Nat→Prop} {w w':I} (hB:∀ k,D k→D' k) (hs:∀ k,D k→w'.heap[k]? = w.heap[k]?):∀ (l:List V) (lvs:List Z),z7u D w l lvs→z7u D' w' l lvs
 | [],[],_=>trivial
 | _::r,_::s,h=>⟨⟨h.1.1,h.1.2.1,h.1.2.2.1,h.1.2.2.2.keep hB hs⟩,z5f hB hs r s h.2⟩
 | [],_::_,h=>h.elim
 | _::_,[],h=>h.elim
theorem z3t {D:Nat→Prop} {w:I}:∀ (l:List V) (lvs:List Z),z7u D w l lvs→l.length=lvs.length
 | [],[],_=>rfl
 | _::r,_::s,h=>by simp [z3t r s h.2]
 | [],_::_,h=>h.elim
 | _::_,[],h=>h.elim
theorem z7p {D:Nat→Prop} {w:I}:∀ (l:List V) (lvs:List Z) (x:V) (lv:Z),z7u D w l lvs→(I64 x.kind∧I64 x.n∧x.s.size≤Y∧y5j D w x.l lv)→z7u D w (l++[x]) (lvs++[lv])
 | [],[],_,_,_,h=>⟨h,trivial⟩
 | _::r,_::s,y,l',h,h'=>⟨h.1,z7p r s y l' h.2 h'⟩
 | [],_::_,_,_,h,_=>h.elim
 | _::_,[],_,_,h,_=>h.elim
def x0e (e:O) (D:Nat→Prop) (w:I) (base:Nat) (v:Z) (l:List V):Prop :=
 ∃ lvs,w.ownsRow base e 4 v l.length (z8f l lvs)∧z7u D w l lvs∧l.length≤Y∧∀ k,D k→J k≠v.ownBlock
theorem x0e.nil (e:O) (D:Nat→Prop) (w:I) (base:Nat):x0e e D w base (R X 0 0) [] :=
 ⟨[],World.ownsRow_nil w base e 4,trivial,by simp,by simp [Value.ownBlock]⟩
theorem x0e.kept {e:O} {D:Nat→Prop} {w w':I} {base:Nat} {v:Value} {l:List V} {row:Option Nat} (h:x0e e D w base v l) (hg:w.grownBy w' row) (hne:v.ownBlock=X∨v.ownBlock≠row) (hD:∀ k,D k→J k≠row) (hlt:∀ k,D k→k<w.heap.size):x0e e D w' base v l:=by
 obtain ⟨lvs,h1,h2,h3,h4⟩:=h
 exact ⟨lvs,h1.kept hg hne,z5f (fun _ h=>h) (fun k hk=>hg.block k (hlt k hk) (hD k hk)) l lvs h2,h3,h4⟩
theorem z0x {D:Nat→Prop} {w:I} {g:Nat} (hg:D g):∀ (l:List V) (lvs:List Z) (off:Nat),z7u D w l lvs→(∀ j u,(z8f l lvs)[j]? = J u→w.cell? ⟨g,off+j,X⟩=J u)→V.atsD D w l g off
 | [],[],_,_,_=>trivial
 | x::r,lv::s,off,h,hc=>by
  obtain ⟨k,n,st,l⟩:=x
  obtain ⟨⟨h1,h2,h3,h4⟩,h5⟩:=h
  simp only [V.atsD,V.atD]
  refine ⟨⟨hg,h1,h2,h3,hc 0 _ rfl,hc 1 _ rfl,hc 2 _ rfl,lv,hc 3 _ rfl,h4⟩,z0x hg r s (off+4) h5 fun j u hj=>?_⟩
  rw [Nat.add_assoc]
  refine hc (4+j) u ?_
  rw [Nat.add_comm 4 j]
  simpa [z8f] using hj
 | [],_::_,_,h,_=>h.elim
 | _::_,[],_,h,_=>h.elim
theorem x0e.sl {e:O} {D D':Nat→Prop} {w:I} {base:Nat} {v:Value} {l:List V} (h:x0e e D w base v l) (hD:∀ k,D k→D' k) (hv:∀ g,v.ownBlock=J g→D' g):y5j D' w l v:=by
 obtain ⟨lvs,h1,h2,h3,h4⟩:=h
 rcases h1.2 with ⟨rfl,h0⟩|⟨g,cap,cur,rfl,hb,hg,hn,hm,hcs,ht⟩
 ·exact .inl ⟨List.eq_nil_of_length_eq_zero h0,X,0,rfl⟩
 ·by_cases hl:l=[]
  ·subst hl;exact .inl ⟨rfl,_,cap,rfl⟩
  ·refine .inr ⟨hl,g,0,cap,rfl,⟨h3,hn⟩,?_⟩
   refine z0x (hv g rfl) l lvs 0 (z5f hD (fun _ _=>rfl) l lvs h2) fun j u hu=>?_
   have:=World.ownsRow.cells h1 (g:=g) rfl j u hu
   have hadd:(⟨g,0,X⟩:Addr).add j=⟨g,j,X⟩:=by unfold Addr.add;split <;> simp_all
   rw [hadd] at this;rw [Nat.zero_add];exact this
section
variable {P:Program} {w:I} {ops:Array Oper} {rest:List Oper} {o:Oper} {a:Act} {Q:Exit→Act→I→Prop}
theorem z8p {K:Act→I→Prop} {E:Prop} {t e:O} {z:Value} {bytes:Nat} (ht:P.underlying t=J (.slice e)) (he:(P.info? e).map (fun i=>(i.zero,i.size,i.bytes))=J (J z,4,bytes)) (hzs:z.cells.size=4) (hby:bytes≤64)
 (hgd:o.guard=X) (s y:Operand) (ho:o.op=.call { callee:=.builtin .append,args:=#[s,y],argTypes:=#[t,t] })
 (D:Nat→Prop) (base:Nat) (v:Z) (l:List V) (hs:a.eval s=v) (hown:x0e e D w base v l)
 (B:Nat) (x:V) (lv:Z) (hx:a.eval y=R (J ⟨B,0,X⟩) 1 1) (hsl:I64 x.kind∧I64 x.n∧x.s.size≤Y∧y5j D w x.l lv) (h1:lv.oneCell'=true)
 (hc:w.cell? ⟨B,0,X⟩=J (M .i64 x.kind)∧w.cell? ⟨B,1,X⟩=J (M .i64 x.n)∧w.cell? ⟨B,2,X⟩=J (.string x.s)∧w.cell? ⟨B,3,X⟩=J lv)
 (hl:l.length≤1000000) (hbase:base≤w.heap.size) (hD:∀ k,D k→k<w.heap.size)
 (h:∀ v' w',x0e e D w' base v' (l++[x])→w.grownBy w' v.ownBlock→y4j w v v'→K (a.put o.dst v') w') :
 if Region.wanted o (yielded ops a.tmps)=true then Oper.wp P o a w K Q else E:=by
 obtain ⟨lvs,h2,h3,h4,h5⟩:=hown
 have hlen:=z3t l lvs h3
 have hsrc:Src P 4 t (R (J ⟨B,0,X⟩) 1 1) 1 (v4 x lv) w:=by
  refine Src.ofSlice (P:=P) w ht ⟨B,0,X⟩ 1 1 _ rfl (fun j u hu=>?_) (fun u hu=>?_)
  ·match j,hu with
   | 0,hu=>simp at hu;subst hu;simpa [Addr.add] using hc.1
   | 1,hu=>simp at hu;subst hu;simpa [Addr.add] using hc.2.1
   | 2,hu=>simp at hu;subst hu;simpa [Addr.add] using hc.2.2.1
   | 3,hu=>simp at hu;subst hu;simpa [Addr.add] using hc.2.2.2
  ·simp at hu;rcases hu with rfl|rfl|rfl|rfl
   ·rfl
   ·rfl
   ·rfl
   ·exact h1
 refine z8k ht he hzs hgd s y ho base v l.length (z8f l lvs) hs h2 _ 1 _ hx hsrc (by unfold Y;omega) ?_ hbase fun v' w' g1 g2 g3=>h v' w' ⟨lvs++[lv],?_,?_,by unfold Y;simp;omega,?_⟩ g2 g3
 ·calc (l.length+1) * bytes≤(l.length+1) * 64:=Nat.mul_le_mul_left _ hby
   _≤_:=by omega
 ·rw [z6p l lvs x lv hlen,List.length_append];exact g1
 ·refine z5f (fun _ h=>h) (fun k hk=>g2.block k (hD k hk) (h5 k hk)) _ _ (z7p l lvs x lv h3 hsl)
 ·intro k hk he
  rcases g3 with g3|g3
  ·exact h5 k hk (he.trans g3)
  ·have:=g3 k he.symm;have:=hD k hk;omega
end
open Go.RowKit
def x0m (l:List UInt8) (w:I) (e:Ending) (w':I):Prop:=∃ v,e=.returned v∧z3o 5 w' w.heap.size v l∧Below w.heap.size w w'
theorem z3o.lit1 {e:O} (w:I) (base:Nat) (x:Int) (c:UInt8) (hx:x=(c.toNat:Int)) (hb:base≤w.heap.size):z3o e (w.alloc (.cells #[M .u8 x] e)) base (R (J ⟨w.heap.size,0,X⟩) 1 1) [c]:=by
 subst hx
 exact World.ownsRow_lit (w:=w) (base:=base) (e:=e) (size:=1) #[M .u8 (c.toNat:Int)] 1 hb (by unfold Y;omega) rfl
theorem z3o.lit1' {e:O} (w:I) (base B:Nat) (x:Int) (c:UInt8) (hx:x=(c.toNat:Int)) (hB:w.heap.size=B) (hb:base≤B):z3o e (w.alloc (.cells #[M .u8 x] e)) base (R (J ⟨B,0,X⟩) 1 1) [c]:=by
 subst hB;exact z3o.lit1 w base x c hx hb
theorem z3o.mono {e:O} {w:I} {base base':Nat} {v:Value} {l:List UInt8} (h:z3o e w base v l) (hb:base'≤base):z3o e w base' v l:=by
 refine ⟨h.1,?_⟩
 rcases h.2 with h|⟨g,cap,cur,h1,h2,h3⟩
 ·exact .inl h
 ·exact .inr ⟨g,cap,cur,h1,Nat.le_trans hb h2,h3⟩
theorem z3o.below {e:O} {w w':I} {base:Nat} {v:Value} {l:List UInt8} (h:z3o e w base v l) (hb:Below w.heap.size w w'):z3o e w' base v l:=by
 refine h.kept (row:=X) ⟨hb.os,hb.tape,hb.output,hb.size,fun k hk _=>hb.block k hk⟩ ?_
 cases v.ownBlock <;> simp
theorem z3n (f:Nat):∀ (u:Nat) (ui:Int) (_:ui=(u:Int)) (_:Hid (u<128 ^ (f+1))) (_:f≤9) (w:I),Calls prog 167 #[M .u64 ui] w (x0m (y2e f u) w):=by
 induction f with
 | zero =>
  intro u ui hui hu _ w
  subst hui
  have h:u<128:=by have:=hu.out;simpa using this
  have hn:=Lib.hid (y4o 0 u h)
  go_enter func167,ntmps167
  go_wp2
  go_ret
  refine ⟨_,rfl,?_,(Below.refl _ _).alloc (Nat.le_refl _) _⟩
  rw [hn.out]
  exact z3o.lit1 w _ _ _ (by rw [y3o];omega) (Nat.le_refl _)
 | succ f ih =>
  have IH:=Lib.hid ih;clear ih
  intro u ui hui hu hf w
  subst hui
  by_cases h:u<128
  ·have hn:=Lib.hid (y4o (f+1) u h)
   go_enter func167,ntmps167
   go_wp2
   go_ret
   refine ⟨_,rfl,?_,(Below.refl _ _).alloc (Nat.le_refl _) _⟩
   rw [hn.out]
   exact z3o.lit1 w _ _ _ (by rw [y3o];omega) (Nat.le_refl _)
  ·have hn:=Lib.hid (y4u f u h)
   have hp:Hid (u / 128<128 ^ (f+1)):=by
    have:=hu.out;rw [Nat.pow_succ] at this;exact Nat.div_lt_of_lt_mul (by omega)
   have hb:Hid (u / 128<18446744073709551616):=by
    have h1:=hp.out
    have h2:(128:Nat) ^ (f+1)≤128 ^ 9:=Nat.pow_le_pow_right (by decide) (by omega)
    have h3:(128:Nat) ^ 9=9223372036854775808:=by decide
    show _<_;omega
   go_enter func167,ntmps167
   go_wp2_with (first
    | (go_at_call 167;refine (IH.out (u / 128) _ ?hui hp (by omega) _).mono ?_
       case hui=>have:=hb.out;rw [IntKind.wrap_u64];omega
       rintro e w1 ⟨v1,rfl,js,af⟩)
    | (at_builtin;refine z0e (e:=5) underlying50 (by kernel_rfl) rfl _ _ rfl w.heap.size _ [y2o u] rfl ?own _ (y2e f (u / 128)) rfl ?c1 ?c2 ?c3 ?_))
   case own=>exact (z3o.lit1 w _ _ _ (by rw [x7e];omega) (Nat.le_refl _)).below af
   case c1=>exact k2b.ofRd underlying50 js.rd
   case c2=>have:=z0i f (u / 128);simp;omega
   case c3=>have:=af.size;simp at this;omega
   intro v2 w2 da al bv
   go_wp2
   go_ret
   refine ⟨_,rfl,?_,?_⟩
   ·rw [hn.out];exact da
   ·exact (z7d af).grown al (by have:=af.size;simp at this;omega) (fun k hk=>by simp [Value.ownBlock] at hk;omega)
open Go.RowKit
theorem y8o (n:Int) (hn:Hid (I64 n)) (w:I):Calls prog 168 #[M .i64 n] w fun e w'=>e=.returned (M .u64 (uns n))∧w=w':=by
 go_enter func168,ntmps168
 go_wp2
 all_goals go_ret
 all_goals refine ⟨?_,rfl⟩
 all_goals
  have h:=hn.out;unfold I64 at h
  refine congrArg (fun z=>Ending.returned (M .u64 z)) ?_
 ·have h0:0≤n:=by assumption
  simp only [IntKind.wrap_u64,uns,if_pos h0];omega
 ·have h0:n<0:=by assumption
  simp only [IntKind.wrap_u64,uns,if_neg (show ¬ 0≤n by omega),wrap64];omega
end Go.Proofs.YtdblnbnofjggnaaGreatDoor
