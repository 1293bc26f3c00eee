/- Parts of the proofs of chapter 49's laws: Wr3 Renc. -/
import Derived.Test.YtdblnbnofjggnaaGreatDoorM16
import Derived.StillTailTactics
import Derived.Test.YtdblnbnofjggnaaGreatDoorM11
set_option maxHeartbeats 1000000
set_option maxRecDepth 100000
open Go
open Lib renaming hid → hd_
open Nat renaming le_refl → lR
namespace Go.Proofs.YtdblnbnofjggnaaGreatDoor
open Go.RowKit
structure WrAt (B:Nat) (w:World) (tb G:Nat):Prop where
 tlt:tb < B
 glt:G < B
 var:w.cell? ⟨tb,0,none⟩ = some (.pointer (some ⟨G,0,none⟩))
 w1:w.cell? ⟨G,1,none⟩ = some (.func (.func 157) #[] #[])
 w2:w.cell? ⟨G,2,none⟩ = some (.func (.func 160) #[] #[])
 w3:w.cell? ⟨G,3,none⟩ = some (.func (.func 161) #[] #[.pointer (some ⟨tb,0,none⟩)])
theorem WrAt.keep {B B':Nat} {w w':World} {tb G:Nat} (h:WrAt B w tb G) (hB:B ≤ B') (hs:∀ k,k < B→w'.heap[k]? = w.heap[k]?):WrAt B' w' tb G:=by
 have e1:∀ o,w'.cell? ⟨tb,o,none⟩ = w.cell? ⟨tb,o,none⟩:=fun o=>World.cell?_of_block (w:=w) (hs tb h.tlt)
 have e2:∀ o,w'.cell? ⟨G,o,none⟩ = w.cell? ⟨G,o,none⟩:=fun o=>World.cell?_of_block (w:=w) (hs G h.glt)
 exact ⟨Nat.lt_of_lt_of_le h.tlt hB,Nat.lt_of_lt_of_le h.glt hB,(e1 0).trans h.var,(e2 1).trans h.w1,(e2 2).trans h.w2,(e2 3).trans h.w3⟩
def k8q (base:Nat) (b0:Value) (pre:List UInt8) (l:List V) (w:World) (b i:Value) (wr:World):Prop :=
 ∃ k:Nat,k ≤ l.length∧i = .int .i64 k∧z0k 5 wr base b (pre ++ z0n (l.take k))∧w.grownBy wr b0.ownBlock∧y7g w b0 b
theorem x8c {x:V} (h:fm x = true):x.kind = 1∨x.kind = 2∨x.kind = 3:=by
 obtain ⟨k,n,s,l⟩:=x
 simp only [fm] at h
 simp only [V.kind]
 by_cases h1:k = 1
 · exact .inl h1
 · by_cases h2:k = 2
   · exact .inr (.inl h2)
   · by_cases h3:k = 3
     · exact .inr (.inr h3)
     · simp [h1,h2,h3] at h
theorem SlV.elemB {B:Nat} {w wr:World} {l:List V} {oa:Option Addr} {cap:Nat} (h:SlV B w l (.slice oa l.length cap)) (hs:∀ k,k < B→wr.heap[k]? = w.heap[k]?) {k:Nat} {x:V} (hx:l[k]? = some x) :
 ∃ c o xo xc,oa = some ⟨c,o,none⟩∧c < B∧wr.cell? ⟨c,o + k * 4,none⟩ = some (.int .i64 x.kind)∧wr.cell? ⟨c,o + k * 4 + 1,none⟩ = some (.int .i64 x.n)∧wr.cell? ⟨c,o + k * 4 + 2,none⟩ = some (.string x.s) ∧
  wr.cell? ⟨c,o + k * 4 + 3,none⟩ = some (.slice xo x.l.length xc)∧RdV B wr x (.agg #[.int .i64 x.kind,.int .i64 x.n,.string x.s,.slice xo x.l.length xc]):=by
 rcases h with ⟨rfl,_⟩ | ⟨_,c,o,cap',he,hlm,hat⟩
 · simp at hx
 injection he with he1 he2 he3
 have hv:=V.at_keep (lR _) hs x c (o + k * 4) (V.ats_get hat k x hx)
 obtain ⟨hcb,c0,c1,c2,xo,xc,c3,hrd⟩:=V.at_def hv
 exact ⟨c,o,xo,xc,he1,hcb,c0,c1,c2,c3,hrd⟩
theorem x3y {l:List V} {i:Nat} {x:V} (h:fms l = true) (hx:l[i]? = some x):fm x = true:=by
 rcases Bool.eq_false_or_eq_true (fm x) with h' | h'
 · exact h'
 · rw [y6b hx h'] at h;cases h
theorem z9v {l:List V} {i:Nat} {x:V} (h:l[i]? = some x):(z0n (l.take i)).length + sz x ≤ szs l:=by
 induction l generalizing i with
 | nil=>simp at h
 | cons y r ih=>cases i with
  | zero=>simp at h;subst h;simp [z0n,szs]
  | succ i=>simp only [List.take_succ_cons,z0n,szs,List.length_append];have:=ih (i:=i) (by simpa using h);have:=y9h y;omega
theorem j9r (x:V) (h:x.kind = 1):enc x = [1] ++ num (uns x.n):=by obtain ⟨k,n,s,l⟩:=x;simp only [V.kind] at h;subst h;exact x4o n s l
theorem j0s (x:V) (h:x.kind = 2):enc x = [2] ++ num x.s.size ++ x.s.data.toList:=by obtain ⟨k,n,s,l⟩:=x;simp only [V.kind] at h;subst h;exact x5o n s l
theorem k0w (x:V):x.s.size + 24 ≤ sz x:=by obtain ⟨k,n,s,l⟩:=x;simp only [sz,V.s];omega
theorem k9o (x:V):szs x.l + 24 ≤ sz x:=by obtain ⟨k,n,s,l⟩:=x;simp only [sz,V.l];omega
theorem k1w (x:V) (h:x.kind = 3) (hf:fm x = true):fms x.l = true:=by
 obtain ⟨k,n,s,l⟩:=x;simp only [V.kind] at h;subst h;simp only [fm] at hf;simp at hf;exact hf.2
theorem j1s (x:V) (h:x.kind = 3):enc x = enc (.mk 3 x.n x.s x.l):=by obtain ⟨k,n,s,l⟩:=x;simp only [V.kind] at h;subst h;rfl
theorem RdV.sl {B:Nat} {w:World} {x:V} {a b c lv:Value} (h:RdV B w x (.agg #[a,b,c,lv])):SlV B w x.l lv:=by
 obtain ⟨_,_,_,lv',he,hs⟩:=h
 simp at he
 obtain ⟨_,_,_,rfl⟩:=he
 exact hs
def x4y (N:Nat):Prop:=∀ (l:List V),fms l = true→szs l ≤ N→∀ (base tb G:Nat) (b:Value) (pre:List UInt8) (n:Int) (s:ByteArray) (oa:Option Addr) (cap:Nat) (w:World) (out:List UInt8),
 SlV base w l (.slice oa l.length cap)→WrAt base w tb G→z0k 5 w base b pre→pre.length + N ≤ 1000000000→base ≤ w.heap.size→Hid (out = pre ++ enc (.mk 3 n s l)) →
 Calls Tryz.prog 161 #[b,.agg #[.int .i64 3,.int .i64 n,.string s,.slice oa l.length cap],.pointer (some ⟨tb,0,none⟩)] w (y4l base b out w)
theorem x9c (N:Nat) (hN:N ≤ 50000000) (ih:∀ M,M < N→x4y M):x4y N:=by
 intro l hf hsz base tb G b pre n s oa cap w out hl hw hown hpre hbase hout
 have hll:=z8w l
 have hb0:∀ g,b.ownBlock = some g→g < w.heap.size:=fun g hg=>(hown.lt g hg).2
 have hown1:=hown.alloc (.cells #[.int .i64 3,.int .i64 n,.string s,.slice oa l.length cap] 80)
 have hne:some w.heap.size ≠ b.ownBlock:=fun h=>by have:=hb0 _ h.symm;omega
 have HL:=hd_ hl;have HF:=hd_ hf;have HW:=hd_ hw;have IH:=hd_ ih
 clear hl hf hw ih
 have hwl:IntKind.u64.wrap (l.length:Int) = (l.length:Int):=by rw [IntKind.wrap_u64];omega
 go_enter Tryz.func161,Tryz.ntmps161
 go_wp2
 go_region_held3 (fun w'=>w'.cell? ⟨w.heap.size,3,none⟩ = some (.slice oa l.length cap)) (first | go_keep | exact z2b (row:=b.ownBlock) (by assumption) (by simp) hne)
  (first
   | (go_at_call 158;refine (z6t base v' (pre ++ [3]) l.length ?d0 _ ho2 ?d1 ?d2).mono ?_
      case d0=>show l.length < _;omega
      case d1=>simp;omega
      case d2=>have:=hg2.size;simp at this;omega
      rintro e w2 ⟨v2,rfl,ho3,hg3,hn3⟩
      have hg4:=z2a hg2 hg3 hn2)
   | (refine z2o (e:=5) Tryz.underlying50 (by kernel_rfl) rfl _ _ rfl base b pre rfl ?own _ 3 3 rfl ?c1 rfl ?c2 ?c3 ?_
      case own=>exact (hown1.alloc _).drew
      case c1=>simp
      case c2=>omega
      case c3=>simp;omega
      intro v' w1 ho2 hg2 hn2))
 have c3:w2.cell? ⟨w.heap.size,3,none⟩ = some (.slice oa l.length cap):=z2b (row:=b.ownBlock) hg4 (by simp) hne
 have hg5:w.grownBy w2 b.ownBlock:=z2a (z7k (z8a (z8a (z7b w _) _) _)) hg4 (.inl rfl)
 have hn5:y7g w b v2:=by
  have h8:=hg2.size;simp at h8
  exact y7g.trans (y7g.trans (y7g.refl w b) (by simp;omega) hn2) (by omega) hn3
 have HO:=hd_ ho3
 clear ho3 ho2 hn2 hn3 hg2 hg3 hwl
 go_wp2
 go_loopw [0,19] (fun b' i wr=>k8q base b (pre ++ [3] ++ num l.length) l w b' i wr) (fun _ i _=>l.length - (intOf i).toNat)
 case atStart=>exact ⟨0,Nat.zero_le _,rfl,by simpa [z0n] using HO.out,hg5,hn5⟩
 case round =>
  obtain ⟨k,hkl,rfl,ho,hg,hn⟩:=hrel
  have hs:Hid (∀ k,k < base→wr.heap[k]? = w.heap[k]?):=fun j hj=>hg.block j (by omega) (fun e=>by have:=(hown.lt j e.symm).1;omega)
  have hbr:base ≤ wr.heap.size:=Nat.le_trans hbase hg.size
  have HO:=hd_ ho;clear ho
  have hlen5:(num l.length).length ≤ 10:=z7g 9 l.length
  by_cases hlt:k < l.length
  case neg =>
   have hkk:Hid (l.take k = l):=List.take_of_length_le (by omega)
   go_wp2
   go_ret
   exact ⟨_,rfl,by rw [hout.out,x8w];have:=HO.out;rw [hkk.out] at this;simpa using this,hg,hn⟩
  case pos =>
   obtain ⟨x,hx'⟩:∃ x,l[k]? = some x:=⟨l[k],by simp [hlt]⟩
   have Hx:=hd_ hx';clear hx'
   obtain ⟨c,o,xo,xc,rfl,hcb,c0,c1,c2,c3',hrd⟩:=HL.out.elemB hs.out Hx.out
   have hsx:=z7w Hx.out
   have hfx:=x3y HF.out Hx.out
   have hex:=z9v Hx.out
   obtain ⟨htb,hgb,hv0,hv1,hv2,hv3⟩:=HW.out.keep (lR _) hs.out
   have hne9:some wr.heap.size ≠ u0.ownBlock:=fun e=>by have:=(HO.out.lt _ e.symm).2;omega
   have hb1:∀ g,u0.ownBlock = some g→g < wr.heap.size:=fun g hg=>(HO.out.lt g hg).2
   have hneT:some tb ≠ u0.ownBlock:=fun e=>by have:=(HO.out.lt _ e.symm).1;omega
   have hneG:some G ≠ u0.ownBlock:=fun e=>by have:=(HO.out.lt _ e.symm).1;omega
   have ne0:=World.new_ne wr _ hv0
   have ne1:=World.new_ne wr _ hv1
   rcases x8c hfx with hk | hk | hk
   · rw [hk] at c0 hrd
     go_wp2
     go_region_held3 (fun w'=>w'.cell? ⟨tb,0,none⟩ = some (.pointer (some ⟨G,0,none⟩))∧w'.cell? ⟨G,1,none⟩ = some (.func (.func 157) #[] #[])∧w'.cell? ⟨wr.heap.size,0,none⟩ = some (.int .i64 1) ∧
      w'.cell? ⟨wr.heap.size,1,none⟩ = some (.int .i64 x.n)∧w'.cell? ⟨wr.heap.size,2,none⟩ = some (.string x.s)∧w'.cell? ⟨wr.heap.size,3,none⟩ = some (.slice xo x.l.length xc))
      (first | go_keep | exact ⟨z2b (row:=u0.ownBlock) hg9 (by simp [*]) hneT,z2b (row:=u0.ownBlock) hg9 (by simp [*]) hneG,
       z2b (row:=u0.ownBlock) hg9 (by simp) hne9,z2b (row:=u0.ownBlock) hg9 (by simp) hne9,z2b (row:=u0.ownBlock) hg9 (by simp) hne9,z2b (row:=u0.ownBlock) hg9 (by simp) hne9⟩)
      (first
       | (go_at_call 157;refine (y6i base u0 (pre ++ [3] ++ num l.length ++ z0n (l.take k)) x.n hrd.2.1 x.s _ _ (HO.out.alloc _).drew ?d1 ?d2 (pre ++ [3] ++ num l.length ++ z0n (l.take k) ++ enc x) ?d3).mono ?_
          case d1=>simp;omega
          case d2=>simp;omega
          case d3=>show _ = _;rw [j9r x hk]
          rintro e w9 ⟨v9,rfl,ho9,hg9,hn9⟩))
     go_wp2
     go_roundw
     case rel=>exact ⟨k + 1,by omega,by go_num,by rw [z1v Hx.out,← List.append_assoc];exact ho9,z2a hg (z2a (z7k (z8a (z7b wr _) _)) hg9 (.inl rfl)) hn,y7g.trans (y7g.trans hn hg.size (y7g.refl wr u0)) (by have:=hg.size;simp;omega) hn9⟩
     case measure=>simp [intOf];omega
   · rw [hk] at c0 hrd
     go_wp2
     go_region_held3 (fun w'=>w'.cell? ⟨tb,0,none⟩ = some (.pointer (some ⟨G,0,none⟩))∧w'.cell? ⟨G,2,none⟩ = some (.func (.func 160) #[] #[])∧w'.cell? ⟨wr.heap.size,0,none⟩ = some (.int .i64 2) ∧
      w'.cell? ⟨wr.heap.size,1,none⟩ = some (.int .i64 x.n)∧w'.cell? ⟨wr.heap.size,2,none⟩ = some (.string x.s)∧w'.cell? ⟨wr.heap.size,3,none⟩ = some (.slice xo x.l.length xc))
      (first | go_keep | exact ⟨z2b (row:=u0.ownBlock) hg9 (by simp [*]) hneT,z2b (row:=u0.ownBlock) hg9 (by simp [*]) hneG,
       z2b (row:=u0.ownBlock) hg9 (by simp) hne9,z2b (row:=u0.ownBlock) hg9 (by simp) hne9,z2b (row:=u0.ownBlock) hg9 (by simp) hne9,z2b (row:=u0.ownBlock) hg9 (by simp) hne9⟩)
      (first
       | (go_at_call 160;refine (y7i base u0 (pre ++ [3] ++ num l.length ++ z0n (l.take k)) x.n x.s _ _ (HO.out.alloc _).drew ?d1 ?d4 ?d2 (pre ++ [3] ++ num l.length ++ z0n (l.take k) ++ enc x) ?d3).mono ?_
          case d1=>simp;omega
          case d4=>have:=k0w x;omega
          case d2=>simp;omega
          case d3=>show _ = _;rw [j0s x hk]
          rintro e w9 ⟨v9,rfl,ho9,hg9,hn9⟩))
     go_wp2
     go_roundw
     case rel=>exact ⟨k + 1,by omega,by go_num,by rw [z1v Hx.out,← List.append_assoc];exact ho9,z2a hg (z2a (z7k (z8a (z7b wr _) _)) hg9 (.inl rfl)) hn,y7g.trans (y7g.trans hn hg.size (y7g.refl wr u0)) (by have:=hg.size;simp;omega) hn9⟩
     case measure=>simp [intOf];omega
   · rw [hk] at c0 hrd
     go_wp2
     go_region_held3 (fun w'=>w'.cell? ⟨tb,0,none⟩ = some (.pointer (some ⟨G,0,none⟩))∧w'.cell? ⟨G,3,none⟩ = some (.func (.func 161) #[] #[.pointer (some ⟨tb,0,none⟩)])∧w'.cell? ⟨wr.heap.size,0,none⟩ = some (.int .i64 3) ∧
      w'.cell? ⟨wr.heap.size,1,none⟩ = some (.int .i64 x.n)∧w'.cell? ⟨wr.heap.size,2,none⟩ = some (.string x.s)∧w'.cell? ⟨wr.heap.size,3,none⟩ = some (.slice xo x.l.length xc))
      (first | go_keep | exact ⟨z2b (row:=u0.ownBlock) hg9 (by simp [*]) hneT,z2b (row:=u0.ownBlock) hg9 (by simp [*]) hneG,
       z2b (row:=u0.ownBlock) hg9 (by simp) hne9,z2b (row:=u0.ownBlock) hg9 (by simp) hne9,z2b (row:=u0.ownBlock) hg9 (by simp) hne9,z2b (row:=u0.ownBlock) hg9 (by simp) hne9⟩)
      (first
       | (go_at_call 161;refine (IH.out (szs x.l) ?d5 x.l (k1w x hk hfx) (lR _) base tb G u0 (pre ++ [3] ++ num l.length ++ z0n (l.take k)) x.n x.s xo xc _ (pre ++ [3] ++ num l.length ++ z0n (l.take k) ++ enc x) ?d6 ?d7 (HO.out.alloc _).drew ?d1 ?d2 ?d3).mono ?_
          case d5=>have:=k9o x;omega
          case d6=>exact SlV.keep hrd.sl (lR _) (fun j hj=>Below.heap_alloc wr _ j (by omega))
          case d7=>exact (HW.out.keep (lR _) hs.out).keep (lR _) (fun j hj=>Below.heap_alloc wr _ j (by omega))
          case d1=>have:=k9o x;simp;omega
          case d2=>simp;omega
          case d3=>show _ = _;rw [j1s x hk]
          rintro e w9 ⟨v9,rfl,ho9,hg9,hn9⟩))
     go_wp2
     go_roundw
     case rel=>exact ⟨k + 1,by omega,by go_num,by rw [z1v Hx.out,← List.append_assoc];exact ho9,z2a hg (z2a (z7k (z8a (z7b wr _) _)) hg9 (.inl rfl)) hn,y7g.trans (y7g.trans hn hg.size (y7g.refl wr u0)) (by have:=hg.size;simp;omega) hn9⟩
     case measure=>simp [intOf];omega
theorem x1p (N:Nat) (hN:N ≤ 50000000):x4y N:=by
 induction N using Nat.strongRecOn with
 | _ N ih=>exact x9c N hN fun M hM=>ih M hM (by omega)
theorem x6k {w:World} {k B:Nat} {v2:Value} (h:y7g w (.slice (some ⟨k,0,none⟩) 1 1) v2) (hk:B ≤ k) (hw:B ≤ w.heap.size):∀ g,v2.ownBlock = some g→B ≤ g:=by
 intro g hg
 rcases h with h | h
 · rw [h] at hg;simp [Value.ownBlock] at hg;omega
 · have:=h g hg;omega
theorem x7k {u:Nat} (h:u < 18446744073709551616):Hid (u < 128 ^ (9 + 1)):=Nat.lt_of_lt_of_le h (by decide)
def j1x (B0:Nat) (W:World) (pre:List UInt8) (l:List V) (base:Nat) (b i:Value) (wr:World):Prop :=
 ∃ k:Nat,k ≤ l.length∧i = .int .i64 k∧z0k 5 wr base b (pre ++ z0n (l.take k))∧Below B0 W wr∧(∀ g,b.ownBlock = some g→B0 ≤ g)
theorem x0d (N:Nat) (hN:N ≤ 60000):∀ (x:V) (_:fm x = true) (_:sz x ≤ N) (v:Value) (w:World) (_:RdV w.heap.size w x v),Calls Tryz.prog 112 #[v] w (x4j (enc x) w):=by
 induction N with
 | zero=>intro x _ hx;obtain ⟨k,n,s,l⟩:=x;simp [sz] at hx
 | succ N ih =>
 have IH:=hd_ (ih (by omega));clear ih
 intro x hf hx v w hr
 have hkind:=x8c hf
 have hok:=hr.ok
 obtain ⟨k,n,s,l⟩:=x
 obtain ⟨oa,cap,rfl,hl⟩:=hr.form
 clear hr
 simp only [V.kind,V.n,V.s,V.l] at *
 simp only [okV] at hok
 obtain ⟨_,hn64,_,_,_⟩:=hok
 have HL:=hd_ hl;clear hl
 have Hn64:=hd_ hn64;clear hn64
 have hszs:szs l + s.size + 24 ≤ N + 1:=by have:=hx;simp only [sz] at this;omega
 have hll:l.length ≤ 60000:=by have:=z8w l;omega
 have HF:=hd_ hf;clear hf
 rcases hkind with rfl | rfl | rfl
 · have he:=hd_ (x4o n s l)
   go_enter Tryz.func112,Tryz.ntmps112
   go_wp2_with (first
    | (go_at_call 168;refine (y7l n Hn64 _).mono ?_;rintro e w' ⟨rfl,rfl⟩)
    | (go_at_call 167;refine (z9l 9 (uns n) _ rfl (x7k (x2j n Hn64.out)) (by decide) _).mono ?_
       rintro e w1 ⟨v1,rfl,ho1,hb1⟩)
    | (at_builtin;refine z9b (e:=5) Tryz.underlying50 (by kernel_rfl) rfl _ _ rfl w.heap.size (.slice (some ⟨w.heap.size + 1,0,none⟩) 1 1) [1] rfl ?own _ (num (uns n)) rfl ?c1 ?c2 ?c3 ?_))
   case own=>exact (z0k.lit1' (w.alloc _) w.heap.size (w.heap.size + 1) 1 1 rfl (by simp) (by omega)).below hb1
   case c1=>exact j7v.ofRd Tryz.underlying50 ho1.rd
   case c2=>have:=z7g 9 (uns n);simp [num];omega
   case c3=>have:=hb1.size;simp at this;omega
   intro v2 w2 ho2 hg2 hn2
   go_wp2
   go_ret
   exact ⟨_,rfl,by rw [he.out];exact ho2,((((Below.refl _ w).alloc (lR _) _).alloc (by simp) _).trans (hb1.mono (by simp;omega))).grown hg2 (by have:=hb1.size;simp at this;omega) (fun k hk=>by simp [Value.ownBlock] at hk;omega)⟩
 · have he:=hd_ (x5o n s l)
   have hs64:Hid (s.size < 18446744073709551616):=by show s.size < _;omega
   have hsd:Hid (s.data.toList.length = s.size):=by show _ = _;simp
   have hw:IntKind.u64.wrap (s.size:Int) = (s.size:Int):=by rw [IntKind.wrap_u64];omega
   go_enter Tryz.func112,Tryz.ntmps112
   go_wp2
   have hst:Hid (w.heap.size + 1 ≤ (w.alloc (.cells #[.int .i64 2,.int .i64 n,.string s,.slice oa l.length cap] 80)).heap.size):=by show _ ≤ _;simp
   go_region_held3 (fun w'=>w'.cell? ⟨w.heap.size,2,none⟩ = some (.string s)) (first | go_keep | exact (hB3.cell (p:=⟨w.heap.size,2,none⟩) (by simp)).trans (by simp) | exact (hB2.cell (p:=⟨w.heap.size,2,none⟩) (by simp)).trans (by simp) | exact (hB1.cell (p:=⟨w.heap.size,2,none⟩) (by simp)).trans (by simp))
    (first
     | (go_at_call 167;refine (z9l 9 s.size _ rfl (x7k hs64.out) (by decide) _).mono ?_
        rintro e w1 ⟨v1,rfl,ho1,hb1⟩
        have hB1:=(((Below.refl (w.heap.size + 1) _).alloc hst.out _).drew).trans (hb1.mono (by simp)))
     | (go_at_call 167;refine (z9l 9 s.size _ rfl (x7k hs64.out) (by decide) _).mono ?_
        rintro e w1 ⟨v1,rfl,ho1,hb1⟩
        have hB1:=((Below.refl (w.heap.size + 1) _).drew).trans (hb1.mono (by simp)))
     | (refine z5h (e:=5) Tryz.underlying50 (by kernel_rfl) rfl _ _ rfl w.heap.size (.slice (some ⟨w.heap.size + 1,0,none⟩) 1 1) [2] rfl ?own v1 (num s.size) rfl ?c1 ?c2 ?c3 ?_
        case own=>exact (z0k.lit1' (w.alloc _) w.heap.size (w.heap.size + 1) 2 2 rfl (by simp) (by omega)).drew.below hb1
        case c1=>exact j7v.ofRd Tryz.underlying50 ho1.rd
        case c2=>have:=z7g 9 s.size;simp [num];omega
        case c3=>have:=hb1.size;simp at this;omega
        intro v2 w2 ho2 hg2 hn2
        have hs1:=hB1.size
        have hB2:=hB1.grown hg2 (by simp at hs1;omega) (fun k hk=>by simp [Value.ownBlock] at hk;omega)
        have hv2:=x6k hn2 (B:=w.heap.size + 1) (lR _) (by simp at hs1;omega))
     | (refine z5h (e:=5) Tryz.underlying50 (by kernel_rfl) rfl _ _ rfl w.heap.size (.slice (some ⟨w1.heap.size,0,none⟩) 1 1) [2] rfl ?own v1 (num s.size) rfl ?c1 ?c2 ?c3 ?_
        case own=>exact z0k.lit1' w1 w.heap.size w1.heap.size 2 2 rfl rfl (by have:=hB1.size;simp at this;omega)
        case c1=>exact j7v.ofRd Tryz.underlying50 (ho1.alloc _).rd
        case c2=>have:=z7g 9 s.size;simp [num];omega
        case c3=>have:=hB1.size;simp at this;simp;omega
        intro v2 w2 ho2 hg2 hn2
        have hs1:=hB1.size
        have hB2:=(hB1.alloc (by simp at hs1;omega) _).grown hg2 (by simp at hs1;simp;omega) (fun k hk=>by simp [Value.ownBlock] at hk;simp at hs1;omega)
        have hv2:=x6k hn2 (B:=w.heap.size + 1) (by simp at hs1;omega) (by simp at hs1;simp;omega))
     | (refine z5h (e:=5) Tryz.underlying50 (by kernel_rfl) rfl _ _ rfl w.heap.size v2 ([2] ++ num s.size) rfl ?own3 _ s.data.toList rfl ?c4 ?c5 ?c6 ?_
        case own3=>exact ho2
        case c4=>exact j7v.ofString Tryz.underlying9 s _
        case c5=>have:=z7g 9 s.size;rw [hsd.out];simp [num];omega
        case c6=>have h8:=hB2.size;simp at h8;omega
        intro v3 w3 ho3 hg3 hn3
        have hs2:=hB2.size
        have hB3:=hB2.grown hg3 (by simp at hs2;omega) hv2))
   all_goals
    go_wp2
    go_ret
    exact ⟨_,rfl,by rw [he.out];exact ho3,z8u hB3⟩
 · have he:=hd_ (x8w n s l)
   have hl64:Hid (l.length < 18446744073709551616):=by show l.length < _;omega
   have hw:IntKind.u64.wrap (l.length:Int) = (l.length:Int):=by rw [IntKind.wrap_u64];omega
   go_enter Tryz.func112,Tryz.ntmps112
   go_wp2_with (first
    | (go_at_call 167;refine (z9l 9 l.length _ rfl (x7k hl64.out) (by decide) _).mono ?_
       rintro e w1 ⟨v1,rfl,ho1,hb1⟩)
    | (at_builtin;refine z9b (e:=5) Tryz.underlying50 (by kernel_rfl) rfl _ _ rfl w.heap.size (.slice (some ⟨w.heap.size + 1,0,none⟩) 1 1) [3] rfl ?own _ (num l.length) rfl ?c1 ?c2 ?c3 ?_))
   case own=>exact (z0k.lit1' (w.alloc _) w.heap.size (w.heap.size + 1) 3 3 rfl (by simp) (by omega)).below hb1
   case c1=>exact j7v.ofRd Tryz.underlying50 ho1.rd
   case c2=>have:=z7g 9 l.length;simp [num];omega
   case c3=>have:=hb1.size;simp at this;omega
   intro v2 w2 ho2 hg2 hn2
   have hs1:=hb1.size
   have hs2:=hg2.size
   simp at hs1
   have hbW:Below (w.heap.size + 1) (w.alloc (.cells #[.int .i64 3,.int .i64 n,.string s,.slice oa l.length cap] 80)) w2 :=
    ((((Below.refl _ _).alloc (by simp) _)).trans (hb1.mono (by simp))).grown hg2 (by omega) (fun k hk=>by simp [Value.ownBlock] at hk;omega)
   have hv2:∀ g,v2.ownBlock = some g→w.heap.size + 1 ≤ g:=fun g hg=>by
    rcases hn2 with h2 | h2
    · rw [h2] at hg;simp [Value.ownBlock] at hg;omega
    · have:=h2 _ hg;omega
   have HO:=hd_ ho2
   clear ho2 hg2 hn2 hb1 ho1 hw
   go_wp2
   go_loopw [3,4] (fun b i wr=>j1x (w.heap.size + 1) (w.alloc (.cells #[.int .i64 3,.int .i64 n,.string s,.slice oa l.length cap] 80)) ([3] ++ num l.length) l w.heap.size b i wr) (fun _ i _=>l.length - (intOf i).toNat)
   case atStart=>exact ⟨0,Nat.zero_le _,rfl,by simpa [z0n] using HO.out,hbW,hv2⟩
   case round =>
    obtain ⟨k,hkl,rfl,ho,hb,hv⟩:=hrel
    have HO':=hd_ ho;clear ho
    have hbox:=fun o=>hb.cell (p:=⟨w.heap.size,o,none⟩) (by simp)
    have hbw:Below w.heap.size w wr:=z8u hb
    have hlen5:(num l.length).length ≤ 10:=z7g 9 l.length
    have hsw:=hb.size
    simp at hsw
    by_cases hlt:k < l.length
    case neg =>
     have hkk:Hid (l.take k = l):=List.take_of_length_le (by omega)
     go_wp2
     go_ret
     exact ⟨_,rfl,by rw [he.out];have:=HO'.out;rw [hkk.out] at this;exact this,hbw⟩
    case pos =>
     obtain ⟨x,hx'⟩:∃ x,l[k]? = some x:=⟨l[k],by simp [hlt]⟩
     have Hx:=hd_ hx';clear hx'
     obtain ⟨c,o,xo,xc,rfl,hcb,c0,c1,c2,c3,hrd⟩:=HL.out.elem hbw.block hbw.size Hx.out
     have hsx:=z7w Hx.out
     have hfx:fm x = true:=by
      have h3:=HF.out;rw [k8e n s l _ _ rfl rfl] at h3;simp at h3;exact x3y h3.2 Hx.out
     have hex:=z9v Hx.out
     have hesz:=y9h x
     clear hbW hv2
     go_wp2_with (first
      | (go_at_call 112;refine (IH.out x hfx (by omega) _ _ hrd).mono ?_;rintro e w3 ⟨v3,rfl,ho3,hb3⟩)
      | (at_builtin;refine z9b (e:=5) Tryz.underlying50 (by kernel_rfl) rfl _ _ rfl w.heap.size u3 ([3] ++ num l.length ++ z0n (l.take k)) rfl ?own _ (enc x) rfl ?c1 ?c2 ?c3 ?_))
     case own=>exact HO'.out.below hb3
     case c1=>exact j7v.ofRd Tryz.underlying50 ho3.rd
     case c2=>simp;omega
     case c3=>have:=hb3.size;omega
     intro v4 w4 ho4 hg4 hn4
     go_wp2
     go_roundw
     case rel =>
      refine ⟨k + 1,by omega,by go_num,?_,?_,?_⟩
      · rw [z1v Hx.out,← List.append_assoc];simpa using ho4
      · exact (hb.trans (hb3.mono (by omega))).grown hg4 (by have:=hb3.size;omega) hv
      · intro g hg
        rcases hn4 with h2 | h2
        · rw [h2] at hg;exact hv g hg
        · have:=h2 _ hg;have:=hb3.size;omega
     case measure=>simp [intOf];omega
end Go.Proofs.YtdblnbnofjggnaaGreatDoor
