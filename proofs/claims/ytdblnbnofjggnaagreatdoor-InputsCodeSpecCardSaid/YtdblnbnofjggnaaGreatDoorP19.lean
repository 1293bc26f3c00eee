/- Parts of the proofs of chapter 49's laws. -/
import Derived.Test.YtdblnbnofjggnaaGreatDoorP16
import Derived.StillTailTactics
set_option maxHeartbeats 1000000
set_option maxRecDepth 100000
open Go.Lib renaming hid → hd_
open Nat renaming le_refl → lR
open Go.Value renaming int → Z, slice → X, string → Y, pointer → O
open Go.IntKind renaming i64 → Q
open Option renaming none → J, some → I
open Go renaming World → R
set_option linter.all false
namespace Go.Proofs.YtdblnbnofjggnaaGreatDoor
open Go.Proofs.Tryz
open Go.RowKit
structure WrAt (B:Nat) (w:R) (tb G:Nat):Prop where
 tlt:tb<B
 glt:G<B
 var:w.cell? ⟨tb,0,J⟩=I (O (I ⟨G,0,J⟩))
 w1:w.cell? ⟨G,1,J⟩=I (.func (.func 157) #[] #[])
 w2:w.cell? ⟨G,2,J⟩=I (.func (.func 160) #[] #[])
 w3:w.cell? ⟨G,3,J⟩=I (.func (.func 161) #[] #[O (I ⟨tb,0,J⟩)])
theorem WrAt.keep {B B':Nat} {w w':R} {tb G:Nat} (h:WrAt B w tb G) (hB:B≤B') (hs:∀ k,k<B→w'.heap[k]? = w.heap[k]?):WrAt B' w' tb G:=by
 have e1:∀ o,w'.cell? ⟨tb,o,J⟩=w.cell? ⟨tb,o,J⟩:=fun o=>World.cell?_of_block (w:=w) (hs tb h.tlt)
 have e2:∀ o,w'.cell? ⟨G,o,J⟩=w.cell? ⟨G,o,J⟩:=fun o=>World.cell?_of_block (w:=w) (hs G h.glt)
 exact ⟨Nat.lt_of_lt_of_le h.tlt hB,Nat.lt_of_lt_of_le h.glt hB,(e1 0).trans h.var,(e2 1).trans h.w1,(e2 2).trans h.w2,(e2 3).trans h.w3⟩
def k0z (base:Nat) (b0:Value) (pre:List UInt8) (l:List V) (w:R) (b i:Value) (wr:R):Prop :=
 ∃ k:Nat,k≤l.length∧i=Z Q k∧z3o 5 wr base b (pre++z6o (l.take k))∧w.grownBy wr b0.ownBlock∧y4j w b0 b
theorem x2g {x:V} (h:fm x=true):x.kind=1∨x.kind=2∨x.kind=3:=by
 obtain ⟨k,n,s,l⟩:=x
 simp only [fm] at h
 simp only [V.kind]
 by_cases h1:k=1
 ·exact .inl h1
 ·by_cases h2:k=2
  ·exact .inr (.inl h2)
  ·by_cases h3:k=3
   ·exact .inr (.inr h3)
   ·simp [h1,h2,h3] at h
theorem SlV.elemB {B:Nat} {w wr:R} {l:List V} {oa:Option Addr} {cap:Nat} (h:SlV B w l (X oa l.length cap)) (hs:∀ k,k<B→wr.heap[k]? = w.heap[k]?) {k:Nat} {x:V} (hx:l[k]? = I x) :
 ∃ c o xo xc,oa=I ⟨c,o,J⟩∧c<B∧wr.cell? ⟨c,o+k * 4,J⟩=I (Z Q x.kind)∧wr.cell? ⟨c,o+k * 4+1,J⟩=I (Z Q x.n)∧wr.cell? ⟨c,o+k * 4+2,J⟩=I (Y x.s) ∧
  wr.cell? ⟨c,o+k * 4+3,J⟩=I (X xo x.l.length xc)∧RdV B wr x (.agg #[Z Q x.kind,Z Q x.n,Y x.s,X xo x.l.length xc]):=by
 rcases h with ⟨rfl,_⟩|⟨_,c,o,cap',he,hlm,hat⟩
 ·simp at hx
 injection he with he1 he2 he3
 have hv:=V.at_keep (lR _) hs x c (o+k * 4) (V.ats_get hat k x hx)
 obtain ⟨aO,c0,c1,c2,xo,xc,c3,bk⟩:=V.at_def hv
 exact ⟨c,o,xo,xc,he1,aO,c0,c1,c2,c3,bk⟩
theorem j8b {l:List V} {i:Nat} {x:V} (h:fms l=true) (hx:l[i]? = I x):fm x=true:=by
 rcases Bool.eq_false_or_eq_true (fm x) with h'|h'
 ·exact h'
 ·rw [y7e hx h'] at h;cases h
theorem z6x {l:List V} {i:Nat} {x:V} (h:l[i]? = I x):(z6o (l.take i)).length+sz x≤szs l:=by
 induction l generalizing i with
 | nil=>simp at h
 | cons y r ih=>cases i with
  | zero=>simp at h;subst h;simp [z6o,szs]
  | succ i=>simp only [List.take_succ_cons,z6o,szs,List.length_append];have:=ih (i:=i) (by simpa using h);have:=y4l y;omega
theorem j6x (x:V) (h:x.kind=1):enc x=[1]++num (uns x.n):=by obtain ⟨k,n,s,l⟩:=x;simp only [V.kind] at h;subst h;exact x3r n s l
theorem j7x (x:V) (h:x.kind=2):enc x=[2]++num x.s.size++x.s.data.toList:=by obtain ⟨k,n,s,l⟩:=x;simp only [V.kind] at h;subst h;exact x4r n s l
theorem v0e (x:V):x.s.size+24≤sz x:=by obtain ⟨k,n,s,l⟩:=x;simp only [sz,V.s];omega
theorem k8w (x:V):szs x.l+24≤sz x:=by obtain ⟨k,n,s,l⟩:=x;simp only [sz,V.l];omega
theorem v1e (x:V) (h:x.kind=3) (hf:fm x=true):fms x.l=true:=by
 obtain ⟨k,n,s,l⟩:=x;simp only [V.kind] at h;subst h;simp only [fm] at hf;simp at hf;exact hf.2
theorem j8x (x:V) (h:x.kind=3):enc x=enc (.mk 3 x.n x.s x.l):=by obtain ⟨k,n,s,l⟩:=x;simp only [V.kind] at h;subst h;rfl
theorem RdV.sl {B:Nat} {w:R} {x:V} {a b c lv:Value} (h:RdV B w x (.agg #[a,b,c,lv])):SlV B w x.l lv:=by
 obtain ⟨_,_,_,lv',he,hs⟩:=h
 simp at he
 obtain ⟨_,_,_,rfl⟩:=he
 exact hs
def j9b (N:Nat):Prop:=∀ (l:List V),fms l=true→szs l≤N→∀ (base tb G:Nat) (b:Value) (pre:List UInt8) (n:Int) (s:ByteArray) (oa:Option Addr) (cap:Nat) (w:R) (out:List UInt8),
 SlV base w l (X oa l.length cap)→WrAt base w tb G→z3o 5 w base b pre→pre.length+N≤1000000000→base≤w.heap.size→Hid (out=pre++enc (.mk 3 n s l)) →
 Calls prog 161 #[b,.agg #[Z Q 3,Z Q n,Y s,X oa l.length cap],O (I ⟨tb,0,J⟩)] w (y5o base b out w)
theorem x3g (N:Nat) (hN:N≤50000000) (ih:∀ M,M<N→j9b M):j9b N:=by
 intro l hf hsz base tb G b pre n s oa cap w out hl hw hown hpre hbase hout
 have hll:=z3z l
 have ax:∀ g,b.ownBlock=I g→g<w.heap.size:=fun g hg=>(hown.lt g hg).2
 have hown1:=hown.alloc (.cells #[Z Q 3,Z Q n,Y s,X oa l.length cap] 80)
 have hne:I w.heap.size≠b.ownBlock:=fun h=>by have:=ax _ h.symm;omega
 have HL:=hd_ hl;have HF:=hd_ hf;have HW:=hd_ hw;have IH:=hd_ ih
 clear hl hf hw ih
 have hwl:IntKind.u64.wrap (l.length:Int)=(l.length:Int):=by rw [IntKind.wrap_u64];omega
 go_enter func161,ntmps161
 go_wp2
 go_region_held3 (fun w'=>w'.cell? ⟨w.heap.size,3,J⟩=I (X oa l.length cap)) (first|go_keep|exact z2b (row:=b.ownBlock) (by assumption) (by simp) hne)
  (first
   | (go_at_call 158;refine (z5v base v' (pre++[3]) l.length ?d0 _ da ?d1 ?d2).mono ?_
      case d0=>show l.length<_;omega
      case d1=>simp;omega
      case d2=>have:=al.size;simp at this;omega
      rintro e w2 ⟨v2,rfl,dG,bj,eJ⟩
      have hg4:=z2a al bj bv)
   | (refine z5p (e:=5) underlying50 (by kernel_rfl) rfl _ _ rfl base b pre rfl ?own _ 3 3 rfl ?c1 rfl ?c2 ?c3 ?_
      case own=>exact (hown1.alloc _).drew
      case c1=>simp
      case c2=>omega
      case c3=>simp;omega
      intro v' w1 da al bv))
 have c3:w2.cell? ⟨w.heap.size,3,J⟩=I (X oa l.length cap):=z2b (row:=b.ownBlock) hg4 (by simp) hne
 have eh:w.grownBy w2 b.ownBlock:=z2a (z2l (z4a (z4a (z1b w _) _) _)) hg4 (.inl rfl)
 have ir:y4j w b v2:=by
  have h8:=al.size;simp at h8
  exact y4j.trans (y4j.trans (y4j.refl w b) (by simp;omega) bv) (by omega) eJ
 have HO:=hd_ dG
 clear dG da bv eJ al bj hwl
 go_wp2
 go_loopw [0,19] (fun b' i wr=>k0z base b (pre++[3]++num l.length) l w b' i wr) (fun _ i _=>l.length - (intOf i).toNat)
 case atStart=>exact ⟨0,Nat.zero_le _,rfl,by simpa [z6o] using HO.out,eh,ir⟩
 case round =>
  obtain ⟨k,hkl,rfl,ho,hg,hn⟩:=hrel
  have hs:Hid (∀ k,k<base→wr.heap[k]? = w.heap[k]?):=fun j hj=>hg.block j (by omega) (fun e=>by have:=(hown.lt j e.symm).1;omega)
  have hbr:base≤wr.heap.size:=Nat.le_trans hbase hg.size
  have HO:=hd_ ho;clear ho
  have hlen5:(num l.length).length≤10:=z0i 9 l.length
  by_cases hlt:k<l.length
  case neg =>
   have hkk:Hid (l.take k=l):=List.take_of_length_le (by omega)
   go_wp2
   go_ret
   exact ⟨_,rfl,by rw [hout.out,j4a];have:=HO.out;rw [hkk.out] at this;simpa using this,hg,hn⟩
  case pos =>
   obtain ⟨x,iQ⟩:∃ x,l[k]? = I x:=⟨l[k],by simp [hlt]⟩
   have Hx:=hd_ iQ;clear iQ
   obtain ⟨c,o,xo,xc,rfl,aO,c0,c1,c2,c3',bk⟩:=HL.out.elemB hs.out Hx.out
   have hsx:=z2z Hx.out
   have hfx:=j8b HF.out Hx.out
   have hex:=z6x Hx.out
   obtain ⟨htb,hgb,hv0,mH,kd,hv3⟩:=HW.out.keep (lR _) hs.out
   have eB:I wr.heap.size≠u0.ownBlock:=fun e=>by have:=(HO.out.lt _ e.symm).2;omega
   have af:∀ g,u0.ownBlock=I g→g<wr.heap.size:=fun g hg=>(HO.out.lt g hg).2
   have hneT:I tb≠u0.ownBlock:=fun e=>by have:=(HO.out.lt _ e.symm).1;omega
   have hneG:I G≠u0.ownBlock:=fun e=>by have:=(HO.out.lt _ e.symm).1;omega
   have ne0:=World.new_ne wr _ hv0
   have ne1:=World.new_ne wr _ mH
   rcases x2g hfx with hk|hk|hk
   ·rw [hk] at c0 bk
    go_wp2
    go_region_held3 (fun w'=>w'.cell? ⟨tb,0,J⟩=I (O (I ⟨G,0,J⟩))∧w'.cell? ⟨G,1,J⟩=I (.func (.func 157) #[] #[])∧w'.cell? ⟨wr.heap.size,0,J⟩=I (Z Q 1) ∧
     w'.cell? ⟨wr.heap.size,1,J⟩=I (Z Q x.n)∧w'.cell? ⟨wr.heap.size,2,J⟩=I (Y x.s)∧w'.cell? ⟨wr.heap.size,3,J⟩=I (X xo x.l.length xc))
     (first|go_keep|exact ⟨z2b (row:=u0.ownBlock) ay (by simp [*]) hneT,z2b (row:=u0.ownBlock) ay (by simp [*]) hneG,
      z2b (row:=u0.ownBlock) ay (by simp) eB,z2b (row:=u0.ownBlock) ay (by simp) eB,z2b (row:=u0.ownBlock) ay (by simp) eB,z2b (row:=u0.ownBlock) ay (by simp) eB⟩)
     (first
      | (go_at_call 157;refine (y9l base u0 (pre++[3]++num l.length++z6o (l.take k)) x.n bk.2.1 x.s _ _ (HO.out.alloc _).drew ?d1 ?d2 (pre++[3]++num l.length++z6o (l.take k)++enc x) ?d3).mono ?_
         case d1=>simp;omega
         case d2=>simp;omega
         case d3=>show _=_;rw [j6x x hk]
         rintro e w9 ⟨v9,rfl,eC,ay,eM⟩))
    go_wp2
    go_roundw
    case rel=>exact ⟨k+1,by omega,by go_num,by rw [z9w Hx.out,← List.append_assoc];exact eC,z2a hg (z2a (z2l (z4a (z1b wr _) _)) ay (.inl rfl)) hn,y4j.trans (y4j.trans hn hg.size (y4j.refl wr u0)) (by have:=hg.size;simp;omega) eM⟩
    case measure=>simp [intOf];omega
   ·rw [hk] at c0 bk
    go_wp2
    go_region_held3 (fun w'=>w'.cell? ⟨tb,0,J⟩=I (O (I ⟨G,0,J⟩))∧w'.cell? ⟨G,2,J⟩=I (.func (.func 160) #[] #[])∧w'.cell? ⟨wr.heap.size,0,J⟩=I (Z Q 2) ∧
     w'.cell? ⟨wr.heap.size,1,J⟩=I (Z Q x.n)∧w'.cell? ⟨wr.heap.size,2,J⟩=I (Y x.s)∧w'.cell? ⟨wr.heap.size,3,J⟩=I (X xo x.l.length xc))
     (first|go_keep|exact ⟨z2b (row:=u0.ownBlock) ay (by simp [*]) hneT,z2b (row:=u0.ownBlock) ay (by simp [*]) hneG,
      z2b (row:=u0.ownBlock) ay (by simp) eB,z2b (row:=u0.ownBlock) ay (by simp) eB,z2b (row:=u0.ownBlock) ay (by simp) eB,z2b (row:=u0.ownBlock) ay (by simp) eB⟩)
     (first
      | (go_at_call 160;refine (y0m base u0 (pre++[3]++num l.length++z6o (l.take k)) x.n x.s _ _ (HO.out.alloc _).drew ?d1 ?d4 ?d2 (pre++[3]++num l.length++z6o (l.take k)++enc x) ?d3).mono ?_
         case d1=>simp;omega
         case d4=>have:=v0e x;omega
         case d2=>simp;omega
         case d3=>show _=_;rw [j7x x hk]
         rintro e w9 ⟨v9,rfl,eC,ay,eM⟩))
    go_wp2
    go_roundw
    case rel=>exact ⟨k+1,by omega,by go_num,by rw [z9w Hx.out,← List.append_assoc];exact eC,z2a hg (z2a (z2l (z4a (z1b wr _) _)) ay (.inl rfl)) hn,y4j.trans (y4j.trans hn hg.size (y4j.refl wr u0)) (by have:=hg.size;simp;omega) eM⟩
    case measure=>simp [intOf];omega
   ·rw [hk] at c0 bk
    go_wp2
    go_region_held3 (fun w'=>w'.cell? ⟨tb,0,J⟩=I (O (I ⟨G,0,J⟩))∧w'.cell? ⟨G,3,J⟩=I (.func (.func 161) #[] #[O (I ⟨tb,0,J⟩)])∧w'.cell? ⟨wr.heap.size,0,J⟩=I (Z Q 3) ∧
     w'.cell? ⟨wr.heap.size,1,J⟩=I (Z Q x.n)∧w'.cell? ⟨wr.heap.size,2,J⟩=I (Y x.s)∧w'.cell? ⟨wr.heap.size,3,J⟩=I (X xo x.l.length xc))
     (first|go_keep|exact ⟨z2b (row:=u0.ownBlock) ay (by simp [*]) hneT,z2b (row:=u0.ownBlock) ay (by simp [*]) hneG,
      z2b (row:=u0.ownBlock) ay (by simp) eB,z2b (row:=u0.ownBlock) ay (by simp) eB,z2b (row:=u0.ownBlock) ay (by simp) eB,z2b (row:=u0.ownBlock) ay (by simp) eB⟩)
     (first
      | (go_at_call 161;refine (IH.out (szs x.l) ?d5 x.l (v1e x hk hfx) (lR _) base tb G u0 (pre++[3]++num l.length++z6o (l.take k)) x.n x.s xo xc _ (pre++[3]++num l.length++z6o (l.take k)++enc x) ?d6 ?d7 (HO.out.alloc _).drew ?d1 ?d2 ?d3).mono ?_
         case d5=>have:=k8w x;omega
         case d6=>exact SlV.keep bk.sl (lR _) (fun j hj=>Below.heap_alloc wr _ j (by omega))
         case d7=>exact (HW.out.keep (lR _) hs.out).keep (lR _) (fun j hj=>Below.heap_alloc wr _ j (by omega))
         case d1=>have:=k8w x;simp;omega
         case d2=>simp;omega
         case d3=>show _=_;rw [j8x x hk]
         rintro e w9 ⟨v9,rfl,eC,ay,eM⟩))
    go_wp2
    go_roundw
    case rel=>exact ⟨k+1,by omega,by go_num,by rw [z9w Hx.out,← List.append_assoc];exact eC,z2a hg (z2a (z2l (z4a (z1b wr _) _)) ay (.inl rfl)) hn,y4j.trans (y4j.trans hn hg.size (y4j.refl wr u0)) (by have:=hg.size;simp;omega) eM⟩
    case measure=>simp [intOf];omega
theorem x2s (N:Nat) (hN:N≤50000000):j9b N:=by
 induction N using Nat.strongRecOn with
 | _ N ih=>exact x3g N hN fun M hM=>ih M hM (by omega)
theorem x2n {w:R} {k B:Nat} {v2:Value} (h:y4j w (X (I ⟨k,0,J⟩) 1 1) v2) (hk:B≤k) (hw:B≤w.heap.size):∀ g,v2.ownBlock=I g→B≤g:=by
 intro g hg
 rcases h with h|h
 ·rw [h] at hg;simp [Value.ownBlock] at hg;omega
 ·have:=h g hg;omega
theorem x3n {u:Nat} (h:u<18446744073709551616):Hid (u<128 ^ (9+1)):=Nat.lt_of_lt_of_le h (by decide)
def k7c (B0:Nat) (W:R) (pre:List UInt8) (l:List V) (base:Nat) (b i:Value) (wr:R):Prop :=
 ∃ k:Nat,k≤l.length∧i=Z Q k∧z3o 5 wr base b (pre++z6o (l.take k))∧Below B0 W wr∧(∀ g,b.ownBlock=I g→B0≤g)
theorem y1g (N:Nat) (hN:N≤60000):∀ (x:V) (_:fm x=true) (_:sz x≤N) (v:Value) (w:R) (_:RdV w.heap.size w x v),Calls prog 112 #[v] w (x0m (enc x) w):=by
 induction N with
 | zero=>intro x _ hx;obtain ⟨k,n,s,l⟩:=x;simp [sz] at hx
 | succ N ih =>
 have IH:=hd_ (ih (by omega));clear ih
 intro x hf hx v w hr
 have hkind:=x2g hf
 have aW:=hr.ok
 obtain ⟨k,n,s,l⟩:=x
 obtain ⟨oa,cap,rfl,hl⟩:=hr.form
 clear hr
 simp only [V.kind,V.n,V.s,V.l] at *
 simp only [okV] at aW
 obtain ⟨_,gG,_,_,_⟩:=aW
 have HL:=hd_ hl;clear hl
 have Hn64:=hd_ gG;clear gG
 have hszs:szs l+s.size+24≤N+1:=by have:=hx;simp only [sz] at this;omega
 have hll:l.length≤60000:=by have:=z3z l;omega
 have HF:=hd_ hf;clear hf
 rcases hkind with rfl|rfl|rfl
 ·have he:=hd_ (x3r n s l)
  go_enter func112,ntmps112
  go_wp2_with (first
   | (go_at_call 168;refine (y8o n Hn64 _).mono ?_;rintro e w' ⟨rfl,rfl⟩)
   | (go_at_call 167;refine (z3n 9 (uns n) _ rfl (x3n (x9l n Hn64.out)) (by decide) _).mono ?_
      rintro e w1 ⟨v1,rfl,js,af⟩)
   | (at_builtin;refine z0e (e:=5) underlying50 (by kernel_rfl) rfl _ _ rfl w.heap.size (X (I ⟨w.heap.size+1,0,J⟩) 1 1) [1] rfl ?own _ (num (uns n)) rfl ?c1 ?c2 ?c3 ?_))
  case own=>exact (z3o.lit1' (w.alloc _) w.heap.size (w.heap.size+1) 1 1 rfl (by simp) (by omega)).below af
  case c1=>exact k2b.ofRd underlying50 js.rd
  case c2=>have:=z0i 9 (uns n);simp [num];omega
  case c3=>have:=af.size;simp at this;omega
  intro v2 w2 da al bv
  go_wp2
  go_ret
  exact ⟨_,rfl,by rw [he.out];exact da,((((Below.refl _ w).alloc (lR _) _).alloc (by simp) _).trans (af.mono (by simp;omega))).grown al (by have:=af.size;simp at this;omega) (fun k hk=>by simp [Value.ownBlock] at hk;omega)⟩
 ·have he:=hd_ (x4r n s l)
  have hs64:Hid (s.size<18446744073709551616):=by show s.size<_;omega
  have hsd:Hid (s.data.toList.length=s.size):=by show _=_;simp
  have hw:IntKind.u64.wrap (s.size:Int)=(s.size:Int):=by rw [IntKind.wrap_u64];omega
  go_enter func112,ntmps112
  go_wp2
  have hst:Hid (w.heap.size+1≤(w.alloc (.cells #[Z Q 2,Z Q n,Y s,X oa l.length cap] 80)).heap.size):=by show _≤_;simp
  go_region_held3 (fun w'=>w'.cell? ⟨w.heap.size,2,J⟩=I (Y s)) (first|go_keep|exact (mz.cell (p:=⟨w.heap.size,2,J⟩) (by simp)).trans (by simp)|exact (gi.cell (p:=⟨w.heap.size,2,J⟩) (by simp)).trans (by simp)|exact (iU.cell (p:=⟨w.heap.size,2,J⟩) (by simp)).trans (by simp))
   (first
    | (go_at_call 167;refine (z3n 9 s.size _ rfl (x3n hs64.out) (by decide) _).mono ?_
       rintro e w1 ⟨v1,rfl,js,af⟩
       have iU:=(((Below.refl (w.heap.size+1) _).alloc hst.out _).drew).trans (af.mono (by simp)))
    | (go_at_call 167;refine (z3n 9 s.size _ rfl (x3n hs64.out) (by decide) _).mono ?_
       rintro e w1 ⟨v1,rfl,js,af⟩
       have iU:=((Below.refl (w.heap.size+1) _).drew).trans (af.mono (by simp)))
    | (refine z5i (e:=5) underlying50 (by kernel_rfl) rfl _ _ rfl w.heap.size (X (I ⟨w.heap.size+1,0,J⟩) 1 1) [2] rfl ?own v1 (num s.size) rfl ?c1 ?c2 ?c3 ?_
       case own=>exact (z3o.lit1' (w.alloc _) w.heap.size (w.heap.size+1) 2 2 rfl (by simp) (by omega)).drew.below af
       case c1=>exact k2b.ofRd underlying50 js.rd
       case c2=>have:=z0i 9 s.size;simp [num];omega
       case c3=>have:=af.size;simp at this;omega
       intro v2 w2 da al bv
       have bJ:=iU.size
       have gi:=iU.grown al (by simp at bJ;omega) (fun k hk=>by simp [Value.ownBlock] at hk;omega)
       have kd:=x2n bv (B:=w.heap.size+1) (lR _) (by simp at bJ;omega))
    | (refine z5i (e:=5) underlying50 (by kernel_rfl) rfl _ _ rfl w.heap.size (X (I ⟨w1.heap.size,0,J⟩) 1 1) [2] rfl ?own v1 (num s.size) rfl ?c1 ?c2 ?c3 ?_
       case own=>exact z3o.lit1' w1 w.heap.size w1.heap.size 2 2 rfl rfl (by have:=iU.size;simp at this;omega)
       case c1=>exact k2b.ofRd underlying50 (js.alloc _).rd
       case c2=>have:=z0i 9 s.size;simp [num];omega
       case c3=>have:=iU.size;simp at this;simp;omega
       intro v2 w2 da al bv
       have bJ:=iU.size
       have gi:=(iU.alloc (by simp at bJ;omega) _).grown al (by simp at bJ;simp;omega) (fun k hk=>by simp [Value.ownBlock] at hk;simp at bJ;omega)
       have kd:=x2n bv (B:=w.heap.size+1) (by simp at bJ;omega) (by simp at bJ;simp;omega))
    | (refine z5i (e:=5) underlying50 (by kernel_rfl) rfl _ _ rfl w.heap.size v2 ([2]++num s.size) rfl ?own3 _ s.data.toList rfl ?c4 ?c5 ?c6 ?_
       case own3=>exact da
       case c4=>exact k2b.ofString underlying9 s _
       case c5=>have:=z0i 9 s.size;rw [hsd.out];simp [num];omega
       case c6=>have h8:=gi.size;simp at h8;omega
       intro v3 w3 dG bj eJ
       have jX:=gi.size
       have mz:=gi.grown bj (by simp at jX;omega) kd))
  all_goals
   go_wp2
   go_ret
   exact ⟨_,rfl,by rw [he.out];exact dG,z6w mz⟩
 ·have he:=hd_ (j4a n s l)
  have hl64:Hid (l.length<18446744073709551616):=by show l.length<_;omega
  have hw:IntKind.u64.wrap (l.length:Int)=(l.length:Int):=by rw [IntKind.wrap_u64];omega
  go_enter func112,ntmps112
  go_wp2_with (first
   | (go_at_call 167;refine (z3n 9 l.length _ rfl (x3n hl64.out) (by decide) _).mono ?_
      rintro e w1 ⟨v1,rfl,js,af⟩)
   | (at_builtin;refine z0e (e:=5) underlying50 (by kernel_rfl) rfl _ _ rfl w.heap.size (X (I ⟨w.heap.size+1,0,J⟩) 1 1) [3] rfl ?own _ (num l.length) rfl ?c1 ?c2 ?c3 ?_))
  case own=>exact (z3o.lit1' (w.alloc _) w.heap.size (w.heap.size+1) 3 3 rfl (by simp) (by omega)).below af
  case c1=>exact k2b.ofRd underlying50 js.rd
  case c2=>have:=z0i 9 l.length;simp [num];omega
  case c3=>have:=af.size;simp at this;omega
  intro v2 w2 da al bv
  have bJ:=af.size
  have jX:=al.size
  simp at bJ
  have hbW:Below (w.heap.size+1) (w.alloc (.cells #[Z Q 3,Z Q n,Y s,X oa l.length cap] 80)) w2 :=
   ((((Below.refl _ _).alloc (by simp) _)).trans (af.mono (by simp))).grown al (by omega) (fun k hk=>by simp [Value.ownBlock] at hk;omega)
  have kd:∀ g,v2.ownBlock=I g→w.heap.size+1≤g:=fun g hg=>by
   rcases bv with h2|h2
   ·rw [h2] at hg;simp [Value.ownBlock] at hg;omega
   ·have:=h2 _ hg;omega
  have HO:=hd_ da
  clear da al bv af js hw
  go_wp2
  go_loopw [3,4] (fun b i wr=>k7c (w.heap.size+1) (w.alloc (.cells #[Z Q 3,Z Q n,Y s,X oa l.length cap] 80)) ([3]++num l.length) l w.heap.size b i wr) (fun _ i _=>l.length - (intOf i).toNat)
  case atStart=>exact ⟨0,Nat.zero_le _,rfl,by simpa [z6o] using HO.out,hbW,kd⟩
  case round =>
   obtain ⟨k,hkl,rfl,ho,hb,hv⟩:=hrel
   have HO':=hd_ ho;clear ho
   have hbox:=fun o=>hb.cell (p:=⟨w.heap.size,o,J⟩) (by simp)
   have hbw:Below w.heap.size w wr:=z6w hb
   have hlen5:(num l.length).length≤10:=z0i 9 l.length
   have hsw:=hb.size
   simp at hsw
   by_cases hlt:k<l.length
   case neg =>
    have hkk:Hid (l.take k=l):=List.take_of_length_le (by omega)
    go_wp2
    go_ret
    exact ⟨_,rfl,by rw [he.out];have:=HO'.out;rw [hkk.out] at this;exact this,hbw⟩
   case pos =>
    obtain ⟨x,iQ⟩:∃ x,l[k]? = I x:=⟨l[k],by simp [hlt]⟩
    have Hx:=hd_ iQ;clear iQ
    obtain ⟨c,o,xo,xc,rfl,aO,c0,c1,c2,c3,bk⟩:=HL.out.elem hbw.block hbw.size Hx.out
    have hsx:=z2z Hx.out
    have hfx:fm x=true:=by
     have h3:=HF.out;rw [k9l n s l _ _ rfl rfl] at h3;simp at h3;exact j8b h3.2 Hx.out
    have hex:=z6x Hx.out
    have hesz:=y4l x
    clear hbW kd
    go_wp2_with (first
     | (go_at_call 112;refine (IH.out x hfx (by omega) _ _ bk).mono ?_;rintro e w3 ⟨v3,rfl,dG,aB⟩)
     | (at_builtin;refine z0e (e:=5) underlying50 (by kernel_rfl) rfl _ _ rfl w.heap.size u3 ([3]++num l.length++z6o (l.take k)) rfl ?own _ (enc x) rfl ?c1 ?c2 ?c3 ?_))
    case own=>exact HO'.out.below aB
    case c1=>exact k2b.ofRd underlying50 dG.rd
    case c2=>simp;omega
    case c3=>have:=aB.size;omega
    intro v4 w4 gF hg4 lP
    go_wp2
    go_roundw
    case rel =>
     refine ⟨k+1,by omega,by go_num,?_,?_,?_⟩
     ·rw [z9w Hx.out,← List.append_assoc];simpa using gF
     ·exact (hb.trans (aB.mono (by omega))).grown hg4 (by have:=aB.size;omega) hv
     ·intro g hg
      rcases lP with h2|h2
      ·rw [h2] at hg;exact hv g hg
      ·have:=h2 _ hg;have:=aB.size;omega
    case measure=>simp [intOf];omega
end Go.Proofs.YtdblnbnofjggnaaGreatDoor
