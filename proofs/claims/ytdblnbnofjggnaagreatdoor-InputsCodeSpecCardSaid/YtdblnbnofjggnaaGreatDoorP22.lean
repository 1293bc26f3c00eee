/- Parts of the proofs of chapter 49's laws. -/
import Derived.Test.YtdblnbnofjggnaaGreatDoorP20
import Derived.Laws.DeepNot64
set_option maxHeartbeats 1000000
set_option maxRecDepth 100000
open Go.Lib renaming hid → hd_
open Nat renaming le_refl → lR
open Go.Value renaming int → Q, pointer → Y
open Go.IntKind renaming i64 → X
open Option renaming none → I, some → J
open Go renaming World → Z, Calls → G
set_option linter.all false
namespace Go.Proofs.YtdblnbnofjggnaaGreatDoor
open Go.Proofs.Tryz
open Go.RowKit
def z8h (l:List UInt8):Option (Nat × List UInt8) :=
 match z9d 0 0 l with
 | some (n,r)=>if n≤r.length then J (n,r) else I
 | none=>I
theorem z9h:∀ (l:List UInt8) (k x n:Nat) (r:List UInt8),z9d k x l=J (n,r)→r.length<l.length
 | [],_,_,_,_,h=>by simp [z9d] at h
 | c::t,k,x,n,r,h=>by
  rw [z9d] at h
  split at h
  ·split at h
   ·simp at h;obtain ⟨_,rfl⟩:=h;simp
   ·have:=z9h t _ _ n r h;simp;omega
  ·cases h
theorem z9k:∀ (l:List UInt8) (k x n:Nat) (r:List UInt8),k≤9→x<2 ^ (7 * k)→z9d k x l=J (n,r)→n<18446744073709551616
 | [],_,_,_,_,_,_,h=>by simp [z9d] at h
 | c::t,k,x,n,r,hk,hx,h=>by
  rw [z9d] at h
  split at h
  ·rename_i hg
   split at h
   ·simp at h;obtain ⟨rfl,_⟩:=h
    by_cases h9:k=9
    ·subst h9;have:=hg.2;have h1:c.toNat≤1:=by omega
     have h2:c.toNat * 2 ^ (7 * 9)≤1 * 2 ^ (7 * 9):=Nat.mul_le_mul_right _ h1
     simp at hx h2 ⊢;omega
    ·have h2:(2:Nat) ^ (7 * k)≤2 ^ 56:=Nat.pow_le_pow_right (by decide) (by omega)
     have h3:c.toNat * 2 ^ (7 * k)≤255 * 2 ^ 56:=Nat.mul_le_mul (by have:=c.toNat_lt;omega) h2
     omega
   ·rename_i hc
    have:=c.toNat_lt
    have h1:(c.toNat - 128) * 2 ^ (7 * k)≤127 * 2 ^ (7 * k):=Nat.mul_le_mul_right _ (by omega)
    have h2:(2:Nat) ^ (7 * (k+1))=128 * 2 ^ (7 * k):=by rw [show 7 * (k+1)=7+7 * k from by omega,Nat.pow_add]
    exact z9k t (k+1) _ n r (by have:=hg.2;omega) (by omega) h
  ·cases h
theorem z6t (B R:Nat) (l:List UInt8) (hl:l.length≤1000000) (w:Z) (hr:RdrAt B w R l) :
 G prog 172 #[Y (J ⟨R,0,I⟩)] w (x5n B R ((z8h l).map fun p=>(Q X (p.1:Int),p.2)) w):=by
 cases hN:z9d 0 0 l with
 | none =>
  have hn:Hid (z8h l=I):=by show _=_;unfold z8h;rw [hN]
  have HN:=hd_ hN;clear hN
  go_enter func172,ntmps172
  go_wp2_with fail
  refine (z8o B R l hl w hr).mono ?_
  rw [HN.out]
  rintro e w1 ⟨rfl,hg⟩
  exact ⟨rfl,by rw [hn.out];exact And.intro rfl hg⟩
 | some p =>
  obtain ⟨n,r⟩:=p
  have gG:=hd_ (z9k l 0 0 n r (by decide) (by simp) hN)
  have hlen:=z9h l 0 0 n r hN
  have HN:=hd_ hN;clear hN
  have hwr:IntKind.u64.wrap (r.length:Int)=(r.length:Int):=by rw [IntKind.wrap_u64];omega
  by_cases hnr:n≤r.length
  ·have hn:Hid (z8h l=J (n,r)):=by show _=_;unfold z8h;rw [HN.out];simp [hnr]
   go_enter func172,ntmps172
   go_wp2_with fail
   refine (z8o B R l hl w hr).mono ?_
   rw [HN.out]
   rintro e w1 ⟨rfl,bk,hg⟩
   obtain ⟨hle,hfr,v,hv,hb⟩:=id bk
   obtain ⟨oa,cap,rfl,hlc,hcm⟩:=hb.form
   clear hb hlc hcm
   go_wp2_with (go_at_call 118;refine (z7j _ _).mono ?_;rintro e w' ⟨rfl,rfl⟩)
   go_ret
   rw [hn.out]
   exact And.intro rfl (And.intro bk hg)
  ·have hn:Hid (z8h l=I):=by show _=_;unfold z8h;rw [HN.out];simp [hnr]
   have hd:decide (n≤r.length)=false:=by simpa using hnr
   go_enter func172,ntmps172
   go_wp2_with fail
   refine (z8o B R l hl w hr).mono ?_
   rw [HN.out]
   rintro e w1 ⟨rfl,bk,hg⟩
   obtain ⟨hle,hfr,v,hv,hb⟩:=id bk
   obtain ⟨oa,cap,rfl,hlc,hcm⟩:=hb.form
   clear hb hlc hcm
   go_wp2_with (go_at_call 118;refine (z4l _ _).mono ?_;rintro e w' ⟨rfl,rfl⟩)
   exact ⟨rfl,by rw [hn.out];exact And.intro rfl hg⟩
def sgn (u:Nat):Int:=if u % 2=0 then ((u / 2:Nat):Int) else -((u / 2:Nat):Int) - 1
theorem y4w (x y:Int):bits BinOp.xor X x y=bits BinOp.xor X y x:=by
 show IntKind.i64.wrap _=IntKind.i64.wrap _
 simp only [BitVec.xor_comm]
theorem y5w (a:Nat) (ha:a<9223372036854775808):bits BinOp.xor X (a:Int) 0=(a:Int):=by
 show IntKind.i64.wrap ((BitVec.ofInt 64 (a:Int) ^^^ BitVec.ofInt 64 0).toNat:Int)=_
 have h1:(BitVec.ofInt 64 (a:Int)).toNat=a:=by
  rw [BitVec.ofInt_natCast,BitVec.toNat_ofNat];exact Nat.mod_eq_of_lt (by omega)
 have h2:BitVec.ofInt 64 0=0#64:=by decide
 rw [h2,BitVec.xor_zero,h1,IntKind.wrap_i64];omega
theorem k1p (u:Nat) (hu:u<18446744073709551616):bits BinOp.xor X (wrap64 ((u:Int) / 2)) (wrap64 (-wrap64 (bits BinOp.and IntKind.u64 (u:Int) 1)))=sgn u:=by
 have h1:bits BinOp.and IntKind.u64 (u:Int) 1=((u % 2:Nat):Int):=by
  have:=bits_and_u64_nat u 1 hu (by omega)
  rw [show ((1:Nat):Int)=1 from rfl] at this
  rw [this,Nat.and_one_is_mod]
 have h2:wrap64 ((u:Int) / 2)=((u / 2:Nat):Int):=by unfold wrap64;omega
 rw [h1,h2]
 unfold sgn
 rcases Nat.mod_two_eq_zero_or_one u with h|h
 ·rw [h,if_pos rfl]
  rw [show wrap64 (-wrap64 ((0:Nat):Int))=0 from by unfold wrap64;omega]
  exact y5w _ (by omega)
 ·rw [h,if_neg (by omega)]
  rw [show wrap64 (-wrap64 ((1:Nat):Int)) = -1 from by unfold wrap64;omega,y4w,i64_not _ (by omega)]
  omega
theorem x5s (u:Nat) (hu:Hid (u<18446744073709551616)) (w:Z):G prog 170 #[Q .u64 u] w fun e w'=>e=.returned (Q X (sgn u))∧w=w':=by
 go_enter func170,ntmps170
 go_wp2
 go_ret
 refine ⟨congrArg (fun z=>Ending.returned (Q X z)) (k1p u hu.out),rfl⟩
def z7t (f:List UInt8→Option (V × List UInt8)):Nat→List UInt8→Option (List V × List UInt8)
 | 0,l=>J ([],l)
 | n+1,l=>match z7t f n l with
  | some (xs,r)=>(match f r with|some (x,r')=>J (xs++[x],r')|none=>I)
  | none=>I
def rdV:Nat→List UInt8→Option (V × List UInt8)
 | d,l=>match l with
  | []=>I
  | c::r =>
   if c=1 then (match z9d 0 0 r with|some (u,r')=>J (.mk 1 (sgn u) ⟨#[]⟩ [],r')|none=>I)
   else if c=2 then (match z8h r with|some (n,r')=>J (.mk 2 0 ⟨(r'.take n).toArray⟩ [],r'.drop n)|none=>I)
   else if c=3 then (match d with
    | 0=>I
    | d+1=>(match z8h r with|some (n,r')=>(match z7t (rdV d) n r' with|some (xs,r'')=>J (.mk 3 0 ⟨#[]⟩ xs,r'')|none=>I)|none=>I))
   else I
def z9z (B R:Nat) (o:Option (V × List UInt8)) (w:Z) (e:Ending) (w':Z):Prop :=
 match o with
 | some (x,r)=>∃ v,e=.returned v∧x2f (fun k=>w.heap.size≤k∧k<w'.heap.size) w' x v∧RdrAt B w' R r∧w.grownBy w' (J R)
 | none=>e=.panicked z5t∧w.grownBy w' (J R)
def j1c (d:Nat):Prop:=∀ (B R:Nat) (l:List UInt8) (di:Int) (_:di=16 - (d:Int)) (_:l.length≤1000000) (w:Z) (_:RdrAt B w R l) (_:R<w.heap.size),
 G prog 117 #[Y (J ⟨R,0,I⟩),Q X di] w (z9z B R (rdV d l) w)
theorem RdrAt.keep {B R:Nat} {w w':Z} {l:List UInt8} (h:RdrAt B w R l) (hs:∀ k,k≤R→w'.heap[k]? = w.heap[k]?):RdrAt B w' R l:=by
 obtain ⟨hle,hfr,v,hv,hb⟩:=h
 exact ⟨hle,by rw [World.frozen?_of_block (w:=w) (hs R (lR _))];exact hfr,v,by rw [World.cell?_of_block (w:=w) (hs R (lR _))];exact hv,hb.keep (lR _) fun k hk=>hs k (by omega)⟩
structure BoxAt (w:Z) (T:Nat) (a b c d:Value):Prop where
 c0:w.cell? ⟨T,0,I⟩=J a
 c1:w.cell? ⟨T,1,I⟩=J b
 c2:w.cell? ⟨T,2,I⟩=J c
 c3:w.cell? ⟨T,3,I⟩=J d
 fr:∀ o,w.frozen? ⟨T,o,I⟩=false
theorem BoxAt.grown {w w2:Z} {T R:Nat} {a b c d:Value} (h:BoxAt w T a b c d) (hg:w.grownBy w2 (J R)) (hR:R≠T):BoxAt w2 T a b c d:=by
 have hne:J T≠J R:=fun e=>hR (by injection e with e;exact e.symm)
 have hlt:=World.block_lt_of_cell? w _ h.c0
 exact ⟨hg.cell h.c0 hne,hg.cell h.c1 hne,hg.cell h.c2 hne,hg.cell h.c3 hne,fun o=>by rw [World.frozen?_of_block (w:=w) (hg.block T hlt hne)];exact h.fr o⟩
theorem BoxAt.made (w:Z) (t:TypeId) (a b c d:Value):BoxAt (w.alloc (.cells #[a,b,c,d] t)) w.heap.size a b c d :=
 ⟨by simp,by simp,by simp,by simp,fun o=>World.frozen?_alloc_at _ _ _ _ rfl⟩
theorem RdrAt.set {B R T i:Nat} {w:Z} {l:List UInt8} {v:Value} (h:RdrAt B w R l) (hT:R<T):RdrAt B (w.setCell ⟨T,i,I⟩ v) R l :=
 h.keep fun k hk=>Below.heap_setCell _ _ _ _ (by show k≠T;omega)
theorem y0a (d:Nat):rdV d []=I:=by cases d <;> simp [rdV]
theorem x6g (d:Nat) (r:List UInt8):rdV d (1::r)=match z9d 0 0 r with|some (u,r')=>J (.mk 1 (sgn u) ⟨#[]⟩ [],r')|none=>I:=by cases d <;> simp [rdV]
theorem y2p (d:Nat) (r:List UInt8):rdV d (2::r)=match z8h r with|some (n,r')=>J (.mk 2 0 ⟨(r'.take n).toArray⟩ [],r'.drop n)|none=>I:=by cases d <;> simp [rdV]
theorem y6w (r:List UInt8):rdV 0 (3::r)=I:=by simp [rdV]
theorem x7g (d:Nat) (r:List UInt8):rdV (d+1) (3::r)=match z8h r with|some (n,r')=>(match z7t (rdV d) n r' with|some (xs,r'')=>J (.mk 3 0 ⟨#[]⟩ xs,r'')|none=>I)|none=>I:=by simp [rdV]
theorem y4g (d:Nat) (c:UInt8) (r:List UInt8) (h1:c≠1) (h2:c≠2) (h3:c≠3):rdV d (c::r)=I:=by cases d <;> simp [rdV,h1,h2,h3]
theorem z3i (B R:Nat) (c:UInt8) (r:List UInt8) (hl:(c::r).length≤1000000) (w:Z) (hr:RdrAt B w R (c::r)) (aE:R<w.heap.size) (ob:Obj) :
 G prog 169 #[Y (J ⟨R,0,I⟩),Q X 1] (w.alloc ob) fun e w1 =>
  ∃ b off cap v',e=.returned (.slice (J ⟨b,off,I⟩) 1 cap)∧w1=(w.alloc ob).setCell ⟨R,0,I⟩ v'∧R≠b∧b<w.heap.size∧w.cell? ⟨b,off,I⟩=J (Q .u8 (c.toNat:Int))∧RdrAt B (w.setCell ⟨R,0,I⟩ v') R r:=by
 have hrA:RdrAt B (w.alloc ob) R (c::r):=hr.keep fun k hk=>Below.heap_alloc w _ k (by omega)
 refine (y2g B R (c::r) 1 1 rfl _ hrA (by simp) hl).mono ?_
 rintro e w1 ⟨v,v',rfl,hv,hv',rfl⟩
 have hBR:=hr.le
 have hback:∀ k,k<B→w.heap[k]? = (w.alloc ob).heap[k]?:=fun k hk=>(Below.heap_alloc w _ k (by omega)).symm
 have kd:=hv'.keep (w':=w) (lR B) hback
 have mH:=hv.keep (w':=w) (lR B) hback
 rcases mH with ⟨h,_⟩|⟨_,b,off,cap,rfl,_,_,h4,h5⟩
 ·cases h
 ·exact ⟨b,off,cap,v',rfl,rfl,by omega,by omega,by simpa using h5 0 c rfl,hr.took (by simpa using kd)⟩
theorem z0s {l r:List UInt8} {n:Nat} (h:z8h l=J (n,r)):n≤r.length∧r.length<l.length:=by
 unfold z8h at h
 cases hN:z9d 0 0 l with
 | none=>rw [hN] at h;cases h
 | some p =>
  obtain ⟨m,t⟩:=p
  rw [hN] at h
  simp only at h
  split at h
  ·rename_i hm
   simp at h;obtain ⟨rfl,rfl⟩:=h
   exact ⟨hm,z9h l 0 0 _ _ hN⟩
  ·cases h
theorem x8g (u:Nat) (h:u<18446744073709551616):I64 (sgn u):=by unfold I64 sgn;split <;> omega
theorem j2c (d:Nat) (B R:Nat) (r:List UInt8) (di:Int) (hl:(1::r).length≤1000000) (w:Z) (hr:RdrAt B w R (1::r)) (aE:R<w.heap.size) :
 G prog 117 #[Y (J ⟨R,0,I⟩),Q X di] w (z9z B R (rdV d (1::r)) w):=by
 have HR:=hd_ hr;clear hr
 have hrl:r.length≤1000000:=by simp at hl;omega
 have hv:=hd_ (x6g d r)
 cases hN:z9d 0 0 r with
 | none =>
  have hn:Hid (rdV d (1::r)=I):=by show _=_;rw [hv.out,hN]
  have HN:=hd_ hN;clear hN
  go_enter func117,ntmps117
  go_wp2_with (first
   | (go_at_call 169;refine (z3i B R 1 r hl w HR.out aE _).mono ?_;rintro e w1 ⟨b,off,cap,v',rfl,rfl,jL,hbw,hc,bk⟩))
  have hszw:(w.setCell ⟨R,0,I⟩ v').heap.size=w.heap.size:=by simp [World.setCell]
  refine (z8o B R r hrl _ (bk.keep fun k hk=>Below.heap_alloc _ _ k (by omega))).mono ?_
  rw [HN.out]
  rintro e w2 ⟨rfl,hg⟩
  exact ⟨rfl,by rw [hn.out];exact And.intro rfl (z2a (z4a (z7c w R v') _) hg (.inl rfl))⟩
 | some p =>
  obtain ⟨u,r'⟩:=p
  have hn:Hid (rdV d (1::r)=J (.mk 1 (sgn u) ⟨#[]⟩ [],r')):=by show _=_;rw [hv.out,hN]
  have hu64:=hd_ (z9k r 0 0 u r' (by decide) (by simp) hN)
  have HN:=hd_ hN;clear hN
  go_enter func117,ntmps117
  go_wp2_with (first
   | (go_at_call 169;refine (z3i B R 1 r hl w HR.out aE _).mono ?_;rintro e w1 ⟨b,off,cap,v',rfl,rfl,jL,hbw,hc,bk⟩))
  have hszw:(w.setCell ⟨R,0,I⟩ v').heap.size=w.heap.size:=by simp [World.setCell]
  refine (z8o B R r hrl _ (bk.keep fun k hk=>Below.heap_alloc _ _ k (by omega))).mono ?_
  rw [HN.out]
  rintro e w2 ⟨rfl,gH,hg⟩
  have hbx:=(BoxAt.made (w.setCell ⟨R,0,I⟩ v') 80 (Q X 1) (Q X 0) (.string ⟨#[]⟩) (.slice I 0 0)).grown hg (by omega)
  rw [hszw] at hbx
  obtain ⟨x0,x1,x2,x3,xf⟩:=hbx
  have bB:w.grownBy w2 (J R):=z2a (z4a (z7c w R v') _) hg (.inl rfl)
  have hszw2:=bB.size
  clear hg
  go_wp2_with (first|(go_at_call 170;refine (x5s u hu64 _).mono ?_;rintro e w' ⟨rfl,rfl⟩))
  have hI:=hd_ (x8g u hu64.out)
  refine bodyPost_ret (v:=.agg #[Q X 1,Q X (sgn u),.string ⟨#[]⟩,.slice I 0 0]) (by simp [results,results117,go_sem,x0,x1,x2,x3]) rfl ?_
  rw [hn.out]
  exact ⟨_,rfl,⟨by show I64 1;unfold I64;omega,hI.out,Nat.zero_le maxLen,_,rfl,.inl ⟨rfl,I,0,rfl⟩⟩,by repeat (first|exact gH|refine RdrAt.set ?_ aE),by repeat (first|exact bB|refine z5a ?_ (lR _))⟩
theorem j3c (d:Nat) (B R:Nat) (r:List UInt8) (di:Int) (hl:(2::r).length≤1000000) (w:Z) (hr:RdrAt B w R (2::r)) (aE:R<w.heap.size) :
 G prog 117 #[Y (J ⟨R,0,I⟩),Q X di] w (z9z B R (rdV d (2::r)) w):=by
 have HR:=hd_ hr;clear hr
 have hrl:r.length≤1000000:=by simp at hl;omega
 have hv:=hd_ (y2p d r)
 cases hN:z8h r with
 | none =>
  have hn:Hid (rdV d (2::r)=I):=by show _=_;rw [hv.out,hN]
  have HN:=hd_ hN;clear hN
  go_enter func117,ntmps117
  go_wp2_with (first
   | (go_at_call 169;refine (z3i B R 2 r hl w HR.out aE _).mono ?_;rintro e w1 ⟨b,off,cap,v',rfl,rfl,jL,hbw,hc,bk⟩))
  have hszw:(w.setCell ⟨R,0,I⟩ v').heap.size=w.heap.size:=by simp [World.setCell]
  refine (z6t B R r hrl _ (bk.keep fun k hk=>Below.heap_alloc _ _ k (by omega))).mono ?_
  rw [HN.out]
  rintro e w2 ⟨rfl,hg⟩
  exact ⟨rfl,by rw [hn.out];exact And.intro rfl (z2a (z4a (z7c w R v') _) hg (.inl rfl))⟩
 | some p =>
  obtain ⟨n,r'⟩:=p
  have hn:Hid (rdV d (2::r)=J (.mk 2 0 ⟨(r'.take n).toArray⟩ [],r'.drop n)):=by show _=_;rw [hv.out,hN]
  have hlen:=z0s hN
  have HN:=hd_ hN;clear hN
  go_enter func117,ntmps117
  go_wp2_with (first
   | (go_at_call 169;refine (z3i B R 2 r hl w HR.out aE _).mono ?_;rintro e w1 ⟨b,off,cap,v',rfl,rfl,jL,hbw,hc,bk⟩))
  have hszw:(w.setCell ⟨R,0,I⟩ v').heap.size=w.heap.size:=by simp [World.setCell]
  refine (z6t B R r hrl _ (bk.keep fun k hk=>Below.heap_alloc _ _ k (by omega))).mono ?_
  rw [HN.out]
  rintro e w2 ⟨rfl,gH,hg⟩
  have hbx:=(BoxAt.made (w.setCell ⟨R,0,I⟩ v') 80 (Q X 2) (Q X 0) (.string ⟨#[]⟩) (.slice I 0 0)).grown hg (by omega)
  rw [hszw] at hbx
  have bB:w.grownBy w2 (J R):=z2a (z4a (z7c w R v') _) hg (.inl rfl)
  clear hg hc bk
  go_wp2_with (first|(go_at_call 169;refine (y2g B R r' n _ rfl _ gH hlen.1 (by omega)).mono ?_;rintro e w3 ⟨v3,v4,rfl,hv3,ny,rfl⟩))
  have hcv:=z5r (P:=prog) underlying50 underlying5 underlying9 (hv3.keep (w':=w2.setCell ⟨R,0,I⟩ v4) (lR B) fun k hk=>Below.heap_setCell _ _ _ _ (by have:=gH.le;show k≠R;omega))
  obtain ⟨x0,x1,x2,x3,xf⟩:=hbx.grown (z7c w2 R v4) (by omega)
  have hrd3:=gH.took ny
  have hgw3:=z2a bB (z7c w2 R v4) (.inl rfl)
  clear hv3 ny hbx bB gH
  rw [hcv]
  clear hcv
  generalize w2.setCell ⟨R,0,I⟩ v4=w3 at *
  have hsz3:=hgw3.size
  go_wp2
  refine bodyPost_ret (v:=.agg #[Q X 2,Q X 0,.string ⟨(List.take n r').toArray⟩,.slice I 0 0]) (by simp [results,results117,go_sem,x0,x1,x2,x3]) rfl ?_
  rw [hn.out]
  exact ⟨_,rfl,⟨by show I64 2;unfold I64;omega,by show I64 0;unfold I64;omega,by show (List.take n r').toArray.size≤maxLen;simp;unfold maxLen;omega,_,rfl,.inl ⟨rfl,I,0,rfl⟩⟩,by repeat (first|exact hrd3|refine RdrAt.set ?_ aE),by repeat (first|exact hgw3|refine z5a ?_ (lR _))⟩
theorem j4c (d:Nat) (B R:Nat) (c:UInt8) (r:List UInt8) (di:Int) (hl:(c::r).length≤1000000) (w:Z) (hr:RdrAt B w R (c::r)) (aE:R<w.heap.size) (h1:c≠1) (h2:c≠2) (h3:c≠3) :
 G prog 117 #[Y (J ⟨R,0,I⟩),Q X di] w (z9z B R (rdV d (c::r)) w):=by
 have HR:=hd_ hr;clear hr
 have hn:=hd_ (y4g d c r h1 h2 h3)
 have n1:((c.toNat:Int) == 1)=false:=by rw [beq_eq_false_iff_ne];intro h;exact h1 (UInt8.toNat_inj.1 (by simpa using (by omega:c.toNat=1)))
 have n2:((c.toNat:Int) == 2)=false:=by rw [beq_eq_false_iff_ne];intro h;exact h2 (UInt8.toNat_inj.1 (by simpa using (by omega:c.toNat=2)))
 have n3:((c.toNat:Int) == 3)=false:=by rw [beq_eq_false_iff_ne];intro h;exact h3 (UInt8.toNat_inj.1 (by simpa using (by omega:c.toNat=3)))
 clear h1 h2 h3
 have aO:(c.toNat:Int)≤255:=by have:=c.toNat_lt;omega
 go_enter func117,ntmps117
 go_wp2_with (first
  | (go_at_call 169;refine (z3i B R c r hl w HR.out aE _).mono ?_;rintro e w1 ⟨b,off,cap,v',rfl,rfl,jL,hbw,hc,bk⟩))
 refine (z4l _ _).mono ?_
 rintro e w' ⟨rfl,rfl⟩
 exact ⟨rfl,by rw [hn.out];exact And.intro rfl (z4a (z7c w R v') _)⟩
end Go.Proofs.YtdblnbnofjggnaaGreatDoor
