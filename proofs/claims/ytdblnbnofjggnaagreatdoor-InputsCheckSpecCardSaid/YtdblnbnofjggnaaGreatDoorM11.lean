/- Parts of the proofs of chapter 49's laws: Enc Vd Rnum Rui. -/
import Derived.Test.YtdblnbnofjggnaaGreatDoorM09
import Derived.Test.YtdblnbnofjggnaaGreatDoorM06
set_option maxHeartbeats 1000000
set_option maxRecDepth 100000
namespace Go.Proofs.YtdblnbnofjggnaaGreatDoor
open Go.RowKit
theorem z0k.drew {e:TypeId} {w:World} {base:Nat} {v:Value} {l:List UInt8} (h:z0k e w base v l):z0k e w.drew base v l:=h
theorem z7k {w w1:World} {G:Option Nat} (h:w.grownBy w1 G):w.grownBy w1.drew G:=⟨h.os,h.tape,h.output,h.size,h.block⟩
theorem z2b {w w':World} {row:Option Nat} (hg:w.grownBy w' row) {a:Addr} {v:Value} (h:w.cell? a = some v) (hne:some a.block ≠ row):w'.cell? a = some v:=hg.cell h hne
def uns (n:Int):Nat:=if 0 ≤ n then (2 * n).toNat else (2 * (-(n + 1)) + 1).toNat
theorem x2j (n:Int) (h:I64 n):uns n < 18446744073709551616:=by unfold I64 at h;unfold uns;split <;> omega
mutual
def enc:V→List UInt8
 | .mk k n s l=>if k = 1 then 1 :: num (uns n) else if k = 2 then 2 :: (num s.size ++ s.data.toList) else 3 :: (num l.length ++ z0n l)
def z0n:List V→List UInt8
 | []=>[]
 | x :: r=>enc x ++ z0n r
end
theorem x4o (n:Int) (s:ByteArray) (l:List V):enc (.mk 1 n s l) = [1] ++ num (uns n):=by simp [enc]
theorem x5o (n:Int) (s:ByteArray) (l:List V):enc (.mk 2 n s l) = [2] ++ num s.size ++ s.data.toList:=by simp [enc]
theorem x8w (n:Int) (s:ByteArray) (l:List V):enc (.mk 3 n s l) = [3] ++ num l.length ++ z0n l:=by simp [enc]
mutual
theorem y9h:∀ x:V,(enc x).length ≤ sz x
 | .mk k n s l=>by
  have h1:=z7g 9 (uns n);have h2:=z7g 9 s.size;have h3:=z7g 9 l.length;have h4:=x9w l
  have h5:s.data.toList.length = s.size:=by simp
  simp only [enc,sz]
  split
  · simp only [List.length_cons,num];omega
  · split
    · simp only [List.length_cons,List.length_append,num,h5];omega
    · simp only [List.length_cons,List.length_append,num];omega
theorem x9w:∀ l:List V,(z0n l).length ≤ szs l
 | []=>by simp [z0n]
 | x :: r=>by have:=y9h x;have:=x9w r;simp only [z0n,szs,List.length_append];omega
end
theorem z1v {l:List V} {i:Nat} {x:V} (h:l[i]? = some x):z0n (l.take (i + 1)) = z0n (l.take i) ++ enc x:=by
 induction l generalizing i with
 | nil=>simp at h
 | cons y r ih=>cases i with
  | zero=>simp at h;subst h;simp [z0n]
  | succ i=>simp only [List.take_succ_cons,z0n];rw [ih (by simpa using h),List.append_assoc]
theorem j2w (n:Int) (h0:0 ≤ n) (hn:I64 n):bits BinOp.xor IntKind.u64 (IntKind.u64.wrap (IntKind.u64.wrap n * 2)) (IntKind.u64.wrap (n / 9223372036854775808)) = (uns n:Int):=by
 unfold I64 at hn
 obtain ⟨m,rfl⟩:=Int.eq_ofNat_of_zero_le h0
 rw [IntKind.wrap_u64,IntKind.wrap_u64,IntKind.wrap_u64]
 rw [show (m:Int) % 18446744073709551616 * 2 % 18446744073709551616 = ((2 * m:Nat):Int) from by omega,show (m:Int) / 9223372036854775808 % 18446744073709551616 = ((0:Nat):Int) from by omega,
  bits_xor_u64_nat _ _ (by omega) (by omega),Nat.xor_zero]
 unfold uns;rw [if_pos h0];omega
theorem j4l (a:Nat) (h:a < 18446744073709551616):a ^^^ 18446744073709551615 = 18446744073709551615 - a:=by
 have h1:(BitVec.ofNat 64 a ^^^ BitVec.allOnes 64).toNat = (~~~ BitVec.ofNat 64 a).toNat:=by rw [BitVec.xor_allOnes]
 rw [BitVec.toNat_xor,BitVec.toNat_not,BitVec.toNat_allOnes,BitVec.toNat_ofNat,Nat.mod_eq_of_lt (by simpa using h)] at h1
 simpa using h1
theorem j3w (n:Int) (h0:n < 0) (hn:I64 n):bits BinOp.xor IntKind.u64 (IntKind.u64.wrap (IntKind.u64.wrap n * 2)) (IntKind.u64.wrap (n / 9223372036854775808)) = (uns n:Int):=by
 unfold I64 at hn
 rw [IntKind.wrap_u64,IntKind.wrap_u64,IntKind.wrap_u64]
 obtain ⟨m,rfl⟩:∃ m:Nat,n = -(m:Int) - 1:=⟨(-n - 1).toNat,by omega⟩
 rw [show (-(m:Int) - 1) % 18446744073709551616 * 2 % 18446744073709551616 = ((18446744073709551614 - 2 * m:Nat):Int) from by omega,show (-(m:Int) - 1) / 9223372036854775808 % 18446744073709551616 = ((18446744073709551615:Nat):Int) from by omega,
  bits_xor_u64_nat _ _ (by omega) (by omega),j4l _ (by omega)]
 unfold uns;rw [if_neg (by omega)];omega
theorem y2s (n:Int) (hn:Hid (I64 n)) (w:World):Calls Tryz.prog 159 #[.int .i64 n] w fun e w'=>e = .returned (.int .u64 (uns n))∧w = w':=by
 go_enter Tryz.func159,Tryz.ntmps159
 go_wp2
 go_ret
 refine ⟨?_,rfl⟩
 rcases Int.lt_or_le n 0 with h | h
 · exact congrArg (fun z=>Ending.returned (.int .u64 z)) (j3w n h hn.out)
 · exact congrArg (fun z=>Ending.returned (.int .u64 z)) (j2w n h hn.out)
open Go.RowKit
mutual
def V.atD (D:Nat→Prop) (w:World):V→Nat→Nat→Prop
 | .mk k n s l,b,off=>D b∧I64 k∧I64 n∧s.size ≤ maxLen∧w.cell? ⟨b,off,none⟩ = some (.int .i64 k)∧w.cell? ⟨b,off + 1,none⟩ = some (.int .i64 n)∧w.cell? ⟨b,off + 2,none⟩ = some (.string s) ∧
  ∃ lv,w.cell? ⟨b,off + 3,none⟩ = some lv∧((l = []∧∃ oa cap,lv = .slice oa 0 cap)∨(l ≠ []∧∃ c o cap,lv = .slice (some ⟨c,o,none⟩) l.length cap∧(l.length ≤ maxLen∧l.length ≤ cap)∧V.atsD D w l c o))
def V.atsD (D:Nat→Prop) (w:World):List V→Nat→Nat→Prop
 | [],_,_=>True
 | x :: r,b,off=>V.atD D w x b off∧V.atsD D w r b (off + 4)
end
def y0i (D:Nat→Prop) (w:World) (l:List V) (lv:Value):Prop :=
 (l = []∧∃ oa cap,lv = .slice oa 0 cap)∨(l ≠ []∧∃ c o cap,lv = .slice (some ⟨c,o,none⟩) l.length cap∧(l.length ≤ maxLen∧l.length ≤ cap)∧V.atsD D w l c o)
def x0x (D:Nat→Prop) (w:World) (x:V) (v:Value):Prop :=
 I64 x.kind∧I64 x.n∧x.s.size ≤ maxLen∧∃ lv,v = .agg #[.int .i64 x.kind,.int .i64 x.n,.string x.s,lv]∧y0i D w x.l lv
mutual
theorem V.atD_keep {D D':Nat→Prop} {w w':World} (hB:∀ k,D k→D' k) (hs:∀ k,D k→w'.heap[k]? = w.heap[k]?):∀ (x:V) (b off:Nat),V.atD D w x b off→V.atD D' w' x b off
 | .mk k n s l,b,off,h=>by
  simp only [V.atD] at h ⊢
  obtain ⟨h0,h1,h2,h3,h4,h5,h6,lv,h7,h8⟩:=h
  have hc:∀ o,w'.cell? ⟨b,o,none⟩ = w.cell? ⟨b,o,none⟩:=fun o=>World.cell?_of_block (w:=w) (hs b h0)
  refine ⟨hB _ h0,h1,h2,h3,(hc _).trans h4,(hc _).trans h5,(hc _).trans h6,lv,(hc _).trans h7,?_⟩
  rcases h8 with h8 | ⟨hne,c,o,cap,he,hl,ha⟩
  · exact .inl h8
  · exact .inr ⟨hne,c,o,cap,he,hl,V.atsD_keep hB hs l c o ha⟩
theorem V.atsD_keep {D D':Nat→Prop} {w w':World} (hB:∀ k,D k→D' k) (hs:∀ k,D k→w'.heap[k]? = w.heap[k]?):∀ (l:List V) (b off:Nat),V.atsD D w l b off→V.atsD D' w' l b off
 | [],_,_,_=>by simp [V.atsD]
 | x :: r,b,off,h=>by
  simp only [V.atsD] at h ⊢
  exact ⟨V.atD_keep hB hs x b off h.1,V.atsD_keep hB hs r b (off + 4) h.2⟩
end
theorem y0i.keep {D D':Nat→Prop} {w w':World} {l:List V} {lv:Value} (h:y0i D w l lv) (hB:∀ k,D k→D' k) (hs:∀ k,D k→w'.heap[k]? = w.heap[k]?):y0i D' w' l lv:=by
 rcases h with h | ⟨hne,c,o,cap,he,hl,ha⟩
 · exact .inl h
 · exact .inr ⟨hne,c,o,cap,he,hl,V.atsD_keep hB hs l c o ha⟩
theorem x0x.keep {D D':Nat→Prop} {w w':World} {x:V} {v:Value} (h:x0x D w x v) (hB:∀ k,D k→D' k) (hs:∀ k,D k→w'.heap[k]? = w.heap[k]?):x0x D' w' x v:=by
 obtain ⟨h1,h2,h3,lv,h4,h5⟩:=h
 exact ⟨h1,h2,h3,lv,h4,h5.keep hB hs⟩
mutual
theorem V.atD_at {D:Nat→Prop} {B:Nat} {w:World} (hB:∀ k,D k→k < B):∀ (x:V) (b off:Nat),V.atD D w x b off→V.at B w x b off
 | .mk k n s l,b,off,h=>by
  simp only [V.atD,V.at] at h ⊢
  obtain ⟨h0,h1,h2,h3,h4,h5,h6,lv,h7,h8⟩:=h
  refine ⟨hB _ h0,h1,h2,h3,h4,h5,h6,lv,h7,?_⟩
  rcases h8 with h8 | ⟨hne,c,o,cap,he,hl,ha⟩
  · exact .inl h8
  · exact .inr ⟨hne,c,o,cap,he,hl.1,V.atsD_ats hB l c o ha⟩
theorem V.atsD_ats {D:Nat→Prop} {B:Nat} {w:World} (hB:∀ k,D k→k < B):∀ (l:List V) (b off:Nat),V.atsD D w l b off→V.ats B w l b off
 | [],_,_,_=>by simp [V.ats]
 | x :: r,b,off,h=>by
  simp only [V.atsD,V.ats] at h ⊢
  exact ⟨V.atD_at hB x b off h.1,V.atsD_ats hB r b (off + 4) h.2⟩
end
theorem y0i.sl {D:Nat→Prop} {B:Nat} {w:World} {l:List V} {lv:Value} (h:y0i D w l lv) (hB:∀ k,D k→k < B):SlV B w l lv:=by
 rcases h with h | ⟨hne,c,o,cap,he,hl,ha⟩
 · exact .inl h
 · exact .inr ⟨hne,c,o,cap,he,hl.1,V.atsD_ats hB l c o ha⟩
theorem x0x.rd {D:Nat→Prop} {B:Nat} {w:World} {x:V} {v:Value} (h:x0x D w x v) (hB:∀ k,D k→k < B):RdV B w x v:=by
 obtain ⟨h1,h2,h3,lv,h4,h5⟩:=h
 exact ⟨h1,h2,h3,lv,h4,h5.sl hB⟩
def z7d:List V→List Value→List Value
 | x :: r,lv :: s=>[.int .i64 x.kind,.int .i64 x.n,.string x.s,lv] ++ z7d r s
 | _,_=>[]
theorem z6r:∀ (l:List V) (lvs:List Value),l.length = lvs.length→(z7d l lvs).length = l.length * 4
 | [],[],_=>rfl
 | x :: r,lv :: s,h=>by simp only [z7d,List.length_append,List.length_cons,List.length_nil,z6r r s (by simpa using h)];omega
 | [],_ :: _,h=>by simp at h
 | _ :: _,[],h=>by simp at h
theorem z3o:∀ (l:List V) (lvs:List Value) (x:V) (lv:Value),l.length = lvs.length→z7d (l ++ [x]) (lvs ++ [lv]) = z7d l lvs ++ [.int .i64 x.kind,.int .i64 x.n,.string x.s,lv]
 | [],[],_,_,_=>rfl
 | y :: r,lv :: s,x,l',h=>by simp only [List.cons_append,z7d,z3o r s x l' (by simpa using h),List.append_assoc]
 | [],_ :: _,_,_,h=>by simp at h
 | _ :: _,[],_,_,h=>by simp at h
def z2t (D:Nat→Prop) (w:World):List V→List Value→Prop
 | x :: r,lv :: s=>(I64 x.kind∧I64 x.n∧x.s.size ≤ maxLen∧y0i D w x.l lv)∧z2t D w r s
 | [],[]=>True
 | _,_=>False
theorem z9e {D D':Nat→Prop} {w w':World} (hB:∀ k,D k→D' k) (hs:∀ k,D k→w'.heap[k]? = w.heap[k]?):∀ (l:List V) (lvs:List Value),z2t D w l lvs→z2t D' w' l lvs
 | [],[],_=>trivial
 | _ :: r,_ :: s,h=>⟨⟨h.1.1,h.1.2.1,h.1.2.2.1,h.1.2.2.2.keep hB hs⟩,z9e hB hs r s h.2⟩
 | [],_ :: _,h=>h.elim
 | _ :: _,[],h=>h.elim
theorem z7r {D:Nat→Prop} {w:World}:∀ (l:List V) (lvs:List Value),z2t D w l lvs→l.length = lvs.length
 | [],[],_=>rfl
 | _ :: r,_ :: s,h=>by simp [z7r r s h.2]
 | [],_ :: _,h=>h.elim
 | _ :: _,[],h=>h.elim
theorem z4o {D:Nat→Prop} {w:World}:∀ (l:List V) (lvs:List Value) (x:V) (lv:Value),z2t D w l lvs→(I64 x.kind∧I64 x.n∧x.s.size ≤ maxLen∧y0i D w x.l lv)→z2t D w (l ++ [x]) (lvs ++ [lv])
 | [],[],_,_,_,h=>⟨h,trivial⟩
 | _ :: r,_ :: s,y,l',h,h'=>⟨h.1,z4o r s y l' h.2 h'⟩
 | [],_ :: _,_,_,h,_=>h.elim
 | _ :: _,[],_,_,h,_=>h.elim
def x3j (e:TypeId) (D:Nat→Prop) (w:World) (base:Nat) (v:Value) (l:List V):Prop :=
 ∃ lvs,w.ownsRow base e 4 v l.length (z7d l lvs)∧z2t D w l lvs∧l.length ≤ maxLen∧∀ k,D k→some k ≠ v.ownBlock
theorem x3j.nil (e:TypeId) (D:Nat→Prop) (w:World) (base:Nat):x3j e D w base (.slice none 0 0) [] :=
 ⟨[],World.ownsRow_nil w base e 4,trivial,by simp,by simp [Value.ownBlock]⟩
theorem x3j.kept {e:TypeId} {D:Nat→Prop} {w w':World} {base:Nat} {v:Value} {l:List V} {row:Option Nat} (h:x3j e D w base v l) (hg:w.grownBy w' row) (hne:v.ownBlock = none∨v.ownBlock ≠ row) (hD:∀ k,D k→some k ≠ row) (hlt:∀ k,D k→k < w.heap.size):x3j e D w' base v l:=by
 obtain ⟨lvs,h1,h2,h3,h4⟩:=h
 exact ⟨lvs,h1.kept hg hne,z9e (fun _ h=>h) (fun k hk=>hg.block k (hlt k hk) (hD k hk)) l lvs h2,h3,h4⟩
theorem z2v {D:Nat→Prop} {w:World} {g:Nat} (hg:D g):∀ (l:List V) (lvs:List Value) (off:Nat),z2t D w l lvs→(∀ j u,(z7d l lvs)[j]? = some u→w.cell? ⟨g,off + j,none⟩ = some u)→V.atsD D w l g off
 | [],[],_,_,_=>trivial
 | x :: r,lv :: s,off,h,hc=>by
  obtain ⟨k,n,st,l⟩:=x
  obtain ⟨⟨h1,h2,h3,h4⟩,h5⟩:=h
  simp only [V.atsD,V.atD]
  refine ⟨⟨hg,h1,h2,h3,hc 0 _ rfl,hc 1 _ rfl,hc 2 _ rfl,lv,hc 3 _ rfl,h4⟩,z2v hg r s (off + 4) h5 fun j u hj=>?_⟩
  rw [Nat.add_assoc]
  refine hc (4 + j) u ?_
  rw [Nat.add_comm 4 j]
  simpa [z7d] using hj
 | [],_ :: _,_,h,_=>h.elim
 | _ :: _,[],_,h,_=>h.elim
theorem x3j.sl {e:TypeId} {D D':Nat→Prop} {w:World} {base:Nat} {v:Value} {l:List V} (h:x3j e D w base v l) (hD:∀ k,D k→D' k) (hv:∀ g,v.ownBlock = some g→D' g):y0i D' w l v:=by
 obtain ⟨lvs,h1,h2,h3,h4⟩:=h
 rcases h1.2 with ⟨rfl,h0⟩ | ⟨g,cap,cur,rfl,hb,hg,hn,hm,hcs,ht⟩
 · exact .inl ⟨List.eq_nil_of_length_eq_zero h0,none,0,rfl⟩
 · by_cases hl:l = []
   · subst hl;exact .inl ⟨rfl,_,cap,rfl⟩
   · refine .inr ⟨hl,g,0,cap,rfl,⟨h3,hn⟩,?_⟩
     refine z2v (hv g rfl) l lvs 0 (z9e hD (fun _ _=>rfl) l lvs h2) fun j u hu=>?_
     have:=World.ownsRow.cells h1 (g:=g) rfl j u hu
     have hadd:(⟨g,0,none⟩:Addr).add j = ⟨g,j,none⟩:=by unfold Addr.add;split <;> simp_all
     rw [hadd] at this;rw [Nat.zero_add];exact this
section
variable {P:Program} {w:World} {ops:Array Oper} {rest:List Oper} {o:Oper} {a:Act} {Q:Exit→Act→World→Prop}
theorem z3v {K:Act→World→Prop} {E:Prop} {t e:TypeId} {z:Value} {bytes:Nat} (ht:P.underlying t = some (.slice e)) (he:(P.info? e).map (fun i=>(i.zero,i.size,i.bytes)) = some (some z,4,bytes)) (hzs:z.cells.size = 4) (hby:bytes ≤ 64)
 (hgd:o.guard = none) (s y:Operand) (ho:o.op = .call { callee:=.builtin .append,args:=#[s,y],argTypes:=#[t,t] })
 (D:Nat→Prop) (base:Nat) (v:Value) (l:List V) (hs:a.eval s = v) (hown:x3j e D w base v l)
 (B:Nat) (x:V) (lv:Value) (hx:a.eval y = .slice (some ⟨B,0,none⟩) 1 1) (hsl:I64 x.kind∧I64 x.n∧x.s.size ≤ maxLen∧y0i D w x.l lv) (h1:lv.oneCell' = true)
 (hc:w.cell? ⟨B,0,none⟩ = some (.int .i64 x.kind)∧w.cell? ⟨B,1,none⟩ = some (.int .i64 x.n)∧w.cell? ⟨B,2,none⟩ = some (.string x.s)∧w.cell? ⟨B,3,none⟩ = some lv)
 (hl:l.length ≤ 1000000) (hbase:base ≤ w.heap.size) (hD:∀ k,D k→k < w.heap.size)
 (h:∀ v' w',x3j e D w' base v' (l ++ [x])→w.grownBy w' v.ownBlock→y7g w v v'→K (a.put o.dst v') w') :
 if Region.wanted o (yielded ops a.tmps) = true then Oper.wp P o a w K Q else E:=by
 obtain ⟨lvs,h2,h3,h4,h5⟩:=hown
 have hlen:=z7r l lvs h3
 have hsrc:Src P 4 t (.slice (some ⟨B,0,none⟩) 1 1) 1 [.int .i64 x.kind,.int .i64 x.n,.string x.s,lv] w:=by
  refine Src.ofSlice (P:=P) w ht ⟨B,0,none⟩ 1 1 _ rfl (fun j u hu=>?_) (fun u hu=>?_)
  · match j,hu with
    | 0,hu=>simp at hu;subst hu;simpa [Addr.add] using hc.1
    | 1,hu=>simp at hu;subst hu;simpa [Addr.add] using hc.2.1
    | 2,hu=>simp at hu;subst hu;simpa [Addr.add] using hc.2.2.1
    | 3,hu=>simp at hu;subst hu;simpa [Addr.add] using hc.2.2.2
  · simp at hu;rcases hu with rfl | rfl | rfl | rfl
    · rfl
    · rfl
    · rfl
    · exact h1
 refine z1k ht he hzs hgd s y ho base v l.length (z7d l lvs) hs h2 _ 1 _ hx hsrc (by unfold maxLen;omega) ?_ hbase fun v' w' g1 g2 g3=>h v' w' ⟨lvs ++ [lv],?_,?_,by unfold maxLen;simp;omega,?_⟩ g2 g3
 · calc (l.length + 1) * bytes ≤ (l.length + 1) * 64:=Nat.mul_le_mul_left _ hby
    _ ≤ _:=by omega
 · rw [z3o l lvs x lv hlen,List.length_append];exact g1
 · refine z9e (fun _ h=>h) (fun k hk=>g2.block k (hD k hk) (h5 k hk)) _ _ (z4o l lvs x lv h3 hsl)
 · intro k hk he
   rcases g3 with g3 | g3
   · exact h5 k hk (he.trans g3)
   · have:=g3 k he.symm;have:=hD k hk;omega
end
open Go.RowKit
def x4j (l:List UInt8) (w:World) (e:Ending) (w':World):Prop:=∃ v,e = .returned v∧z0k 5 w' w.heap.size v l∧Below w.heap.size w w'
theorem z0k.lit1 {e:TypeId} (w:World) (base:Nat) (x:Int) (c:UInt8) (hx:x = (c.toNat:Int)) (hb:base ≤ w.heap.size):z0k e (w.alloc (.cells #[.int .u8 x] e)) base (.slice (some ⟨w.heap.size,0,none⟩) 1 1) [c]:=by
 subst hx
 exact World.ownsRow_lit (w:=w) (base:=base) (e:=e) (size:=1) #[.int .u8 (c.toNat:Int)] 1 hb (by unfold maxLen;omega) rfl
theorem z0k.lit1' {e:TypeId} (w:World) (base B:Nat) (x:Int) (c:UInt8) (hx:x = (c.toNat:Int)) (hB:w.heap.size = B) (hb:base ≤ B):z0k e (w.alloc (.cells #[.int .u8 x] e)) base (.slice (some ⟨B,0,none⟩) 1 1) [c]:=by
 subst hB;exact z0k.lit1 w base x c hx hb
theorem z0k.mono {e:TypeId} {w:World} {base base':Nat} {v:Value} {l:List UInt8} (h:z0k e w base v l) (hb:base' ≤ base):z0k e w base' v l:=by
 refine ⟨h.1,?_⟩
 rcases h.2 with h | ⟨g,cap,cur,h1,h2,h3⟩
 · exact .inl h
 · exact .inr ⟨g,cap,cur,h1,Nat.le_trans hb h2,h3⟩
theorem z0k.below {e:TypeId} {w w':World} {base:Nat} {v:Value} {l:List UInt8} (h:z0k e w base v l) (hb:Below w.heap.size w w'):z0k e w' base v l:=by
 refine h.kept (row:=none) ⟨hb.os,hb.tape,hb.output,hb.size,fun k hk _=>hb.block k hk⟩ ?_
 cases v.ownBlock <;> simp
theorem z9l (f:Nat):∀ (u:Nat) (ui:Int) (_:ui = (u:Int)) (_:Hid (u < 128 ^ (f + 1))) (_:f ≤ 9) (w:World),Calls Tryz.prog 167 #[.int .u64 ui] w (x4j (y3b f u) w):=by
 induction f with
 | zero =>
  intro u ui hui hu _ w
  subst hui
  have h:u < 128:=by have:=hu.out;simpa using this
  have hn:=Lib.hid (y3l 0 u h)
  go_enter Tryz.func167,Tryz.ntmps167
  go_wp2
  go_ret
  refine ⟨_,rfl,?_,(Below.refl _ _).alloc (Nat.le_refl _) _⟩
  rw [hn.out]
  exact z0k.lit1 w _ _ _ (by rw [y2l];omega) (Nat.le_refl _)
 | succ f ih =>
  have IH:=Lib.hid ih;clear ih
  intro u ui hui hu hf w
  subst hui
  by_cases h:u < 128
  · have hn:=Lib.hid (y3l (f + 1) u h)
    go_enter Tryz.func167,Tryz.ntmps167
    go_wp2
    go_ret
    refine ⟨_,rfl,?_,(Below.refl _ _).alloc (Nat.le_refl _) _⟩
    rw [hn.out]
    exact z0k.lit1 w _ _ _ (by rw [y2l];omega) (Nat.le_refl _)
  · have hn:=Lib.hid (y8r f u h)
    have hp:Hid (u / 128 < 128 ^ (f + 1)):=by
     have:=hu.out;rw [Nat.pow_succ] at this;exact Nat.div_lt_of_lt_mul (by omega)
    have hb:Hid (u / 128 < 18446744073709551616):=by
     have h1:=hp.out
     have h2:(128:Nat) ^ (f + 1) ≤ 128 ^ 9:=Nat.pow_le_pow_right (by decide) (by omega)
     have h3:(128:Nat) ^ 9 = 9223372036854775808:=by decide
     show _ < _;omega
    go_enter Tryz.func167,Tryz.ntmps167
    go_wp2_with (first
     | (go_at_call 167;refine (IH.out (u / 128) _ ?hui hp (by omega) _).mono ?_
        case hui=>have:=hb.out;rw [IntKind.wrap_u64];omega
        rintro e w1 ⟨v1,rfl,ho1,hb1⟩)
     | (at_builtin;refine z9b (e:=5) Tryz.underlying50 (by kernel_rfl) rfl _ _ rfl w.heap.size _ [y1l u] rfl ?own _ (y3b f (u / 128)) rfl ?c1 ?c2 ?c3 ?_))
    case own=>exact (z0k.lit1 w _ _ _ (by rw [x4b];omega) (Nat.le_refl _)).below hb1
    case c1=>exact j7v.ofRd Tryz.underlying50 ho1.rd
    case c2=>have:=z7g f (u / 128);simp;omega
    case c3=>have:=hb1.size;simp at this;omega
    intro v2 w2 ho2 hg2 hn2
    go_wp2
    go_ret
    refine ⟨_,rfl,?_,?_⟩
    · rw [hn.out];exact ho2
    · exact (z3d hb1).grown hg2 (by have:=hb1.size;simp at this;omega) (fun k hk=>by simp [Value.ownBlock] at hk;omega)
open Go.RowKit
theorem y7l (n:Int) (hn:Hid (I64 n)) (w:World):Calls Tryz.prog 168 #[.int .i64 n] w fun e w'=>e = .returned (.int .u64 (uns n))∧w = w':=by
 go_enter Tryz.func168,Tryz.ntmps168
 go_wp2
 all_goals go_ret
 all_goals refine ⟨?_,rfl⟩
 all_goals
  have h:=hn.out;unfold I64 at h
  refine congrArg (fun z=>Ending.returned (.int .u64 z)) ?_
 · have h0:0 ≤ n:=by assumption
   simp only [IntKind.wrap_u64,uns,if_pos h0];omega
 · have h0:n < 0:=by assumption
   simp only [IntKind.wrap_u64,uns,if_neg (show ¬ 0 ≤ n by omega),wrap64];omega
end Go.Proofs.YtdblnbnofjggnaaGreatDoor
