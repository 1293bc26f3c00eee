/- Parts of the proofs of chapter 49's laws. -/
import Derived.Test.YtdblnbnofjggnaaGreatDoorP08
import Derived.Deep.QuietTactic
import Derived.BigQuiet
import Derived.StillTailTactics
set_option maxHeartbeats 1000000
set_option maxRecDepth 100000
open Go.Lib renaming hid → hd_
open Go.World renaming cell?_of_block → cB
open Nat renaming le_refl → lR
open Go.Value renaming int → I, slice → M
open Go.IntKind renaming i64 → O
open Go.Obj renaming cells → Y
open Option renaming none → J, some → X
open Bool renaming false → R
open Decidable renaming decide → Q
open Go renaming World → Z, Value → U, maxLen → F
set_option linter.all false
namespace Go.Proofs.YtdblnbnofjggnaaGreatDoor
open Go.Proofs.Tryz
open Go.RowKit
def wcs (l:List W32):List U:=(l++List.replicate (64 - l.length) 0).map z0h
theorem z4x (x:W32) (r:Nat) (n:Int) (hn:n = -(r:Int)) (h1:1≤r) (h2:r≤31) (w:Z):Calls prog 211 #[I .u32 (iw x),I O n] w fun e w'=>e=.returned (I .u32 (iw (ror x r)))∧w'=w:=(y6o x r n hn h1 h2 w).mono fun _ _ h=>⟨h.1,h.2.symm⟩
theorem k3o (a b c d:W32):(iw a+iw b+iw c+iw d) % 4294967296=iw (a+b+c+d):=by unfold iw;simp only [BitVec.toNat_add];omega
theorem j4r (a x c y:W32):(iw a+bits BinOp.xor .u32 (iw (ror x 7 ^^^ ror x 18)) (iw x / 8)+iw c+bits BinOp.xor .u32 (iw (ror y 17 ^^^ ror y 19)) (iw y / 1024)) % 4294967296=iw (j2q a x c y):=by
 have f2:iw x / (8:Int)=iw (x >>> 3):=k0y x 3
 have f7:iw y / (1024:Int)=iw (y >>> 10):=k0y y 10
 rw [f2,f7,j8w,j8w]
 exact k3o a (k7n x) c (k8n y)
theorem x5f (l:List W32) (h:l.length≤64) (j:Nat) (hj:j<64):(wcs l)[j]? = X (I .u32 (iw (l.getD j 0))):=by
 unfold wcs
 rw [List.getElem?_map]
 by_cases h1:j<l.length
 ·rw [List.getElem?_append_left h1,List.getElem?_eq_getElem h1];simp [z0h,h1]
 ·rw [List.getElem?_append_right (by omega),List.getElem?_replicate,if_pos (by omega)];simp [z0h,List.getD,List.getElem?_eq_none (show l.length≤j by omega)]
theorem j9a (l:List W32) (k:Nat) (hk:l.length=k) (h:k<64) (x:W32):(wcs l).set k (I .u32 (iw x))=wcs (l++[x]):=by
 subst hk
 unfold wcs
 rw [show (64 - l.length)=(64 - (l++[x]).length)+1 by simp;omega,List.replicate_succ]
 show (List.map z0h _).set _ (z0h x)=_
 rw [← List.map_set,List.set_append_right _ _ (lR _),Nat.sub_self]
 simp
theorem x7r (l:List UInt8) (k:Nat) (hk:k<16):(y6c l).take (k+1)=(y6c l).take k++[k8l (l.drop (4 * k))]:=by
 rw [List.take_succ_eq_append_getElem (by rw [z7w];exact hk)];simp [y6c]
theorem z8u (l:List UInt8) (k:Nat) (hk:k≤16):((y6c l).take k).length=k:=by rw [List.length_take,z7w];omega
def k3y (T:Nat) (ws:List W32) (w:Z) (i:U) (wr:Z):Prop :=
 ∃ k:Nat,k≤48∧i=I O (k+16:Nat)∧CB wr T 229 (wcs (z7k k ws))∧w.grownBy wr J
theorem v3f (v:S8) (k x:W32):((iw v.h+iw (k7l v.e 6 11 25)+bits BinOp.xor IntKind.u32 (iw v.g) (bits BinOp.and IntKind.u32 (iw v.e) (bits BinOp.xor IntKind.u32 (iw v.f) (iw v.g)))+iw k) % 4294967296+iw x) % 4294967296=iw (k6w v k x):=by
 rw [j8w,k9x,j8w,k3o,k6n];rfl
theorem v4f (v:S8):(iw (k7l v.a 2 13 22)+bits BinOp.or IntKind.u32 (bits BinOp.and IntKind.u32 (iw v.a) (iw v.b)) (bits BinOp.and IntKind.u32 (iw v.c) (bits BinOp.or IntKind.u32 (iw v.a) (iw v.b)))) % 4294967296=iw (k2y v):=by
 rw [k9x,bor,k9x,bor,k6n];rfl
theorem y6f {B:Nat} {w0 w:Z} (h:Below B w0 w) (n:Nat):Below B w0 (w.drewN n):=h.trans ⟨rfl,rfl,rfl,lR _,fun _ _=>rfl⟩
theorem x8r (v:S8):splice (v.l.map z0h) 1 [z0h v.a,z0h v.b,z0h v.c,z0h v.d,z0h v.e,z0h v.f,z0h v.g]=((⟨v.a,v.a,v.b,v.c,v.d,v.e,v.f,v.g⟩:S8).l.map z0h):=rfl
theorem j5r {w:Z} {V:Nat} {t:TypeId} {v:S8} (h:CB w V t (v.l.map z0h)):∀ j x,[z0h v.a,z0h v.b,z0h v.c,z0h v.d,z0h v.e,z0h v.f,z0h v.g][j]? = X x→w.drew.cell? ((⟨V,0,J⟩:Addr).add j)=X x:=by
 intro j x hj
 have hpl:(⟨V,0,J⟩:Addr).add j=⟨V,j,J⟩:=by unfold Addr.add;split <;> simp_all
 rw [hpl]
 have hjl:j<7:=by
  rcases Nat.lt_or_ge j 7 with h|h
  ·exact h
  ·rw [List.getElem?_eq_none (by simpa using h)] at hj;cases hj
 have h2:(v.l.map z0h)[j]? = X x:=by
  rw [← hj]
  have:v.l.map z0h=[z0h v.a,z0h v.b,z0h v.c,z0h v.d,z0h v.e,z0h v.f,z0h v.g]++[z0h v.h]:=rfl
  rw [this,List.getElem?_append_left (by simpa using hjl)]
 exact (h.cell j).trans h2
theorem j6r (v:S8):∀ x∈[z0h v.a,z0h v.b,z0h v.c,z0h v.d,z0h v.e,z0h v.f,z0h v.g],x.oneCell'=true:=by
 intro x hx;simp only [List.mem_cons,List.not_mem_nil,or_false] at hx
 rcases hx with rfl|rfl|rfl|rfl|rfl|rfl|rfl <;> rfl
def x9r (i:Nat) (s v:S8):List W32:=s.l.zipWith (· + ·) v.l |>.take i |> (· ++ s.l.drop i)
theorem j0b (s v:S8):x9r 8 s v=(s.add v).l:=rfl
theorem x0s (i:Nat) (s v:S8) (h:i<8):((x9r i s v).map z0h)[i]? = X (I .u32 (iw (s.l.getD i 0)))∧(v.l.map z0h)[i]? = X (I .u32 (iw (v.l.getD i 0))):=by
 rcases (by omega:i=0∨i=1∨i=2∨i=3∨i=4∨i=5∨i=6∨i=7) with rfl|rfl|rfl|rfl|rfl|rfl|rfl|rfl <;> exact ⟨rfl,rfl⟩
theorem j1b (i:Nat) (s v:S8) (h:i<8):((x9r i s v).map z0h).set i (I .u32 (iw (s.l.getD i 0+v.l.getD i 0)))=(x9r (i+1) s v).map z0h:=by
 rcases (by omega:i=0∨i=1∨i=2∨i=3∨i=4∨i=5∨i=6∨i=7) with rfl|rfl|rfl|rfl|rfl|rfl|rfl|rfl <;> rfl
def k4y (S V:Nat) (s v:S8) (w:Z) (i:U) (wr:Z):Prop :=
 ∃ t:Nat,t≤8∧i=I O t∧CB wr S 217 ((x9r t s v).map z0h)∧CB wr V 217 (v.l.map z0h)∧w.grownBy wr (X S)
theorem cb8 {w:Z} {V:Nat} {t:TypeId} {v:S8} (h:CB w V t (v.l.map z0h)) :
 w.cell? ⟨V,0,J⟩=X (I .u32 (iw v.a))∧w.cell? ⟨V,1,J⟩=X (I .u32 (iw v.b))∧w.cell? ⟨V,2,J⟩=X (I .u32 (iw v.c))∧w.cell? ⟨V,3,J⟩=X (I .u32 (iw v.d)) ∧
  w.cell? ⟨V,4,J⟩=X (I .u32 (iw v.e))∧w.cell? ⟨V,5,J⟩=X (I .u32 (iw v.f))∧w.cell? ⟨V,6,J⟩=X (I .u32 (iw v.g))∧w.cell? ⟨V,7,J⟩=X (I .u32 (iw v.h)) :=
 ⟨h.cell 0,h.cell 1,h.cell 2,h.cell 3,h.cell 4,h.cell 5,h.cell 6,h.cell 7⟩
def k5y (V:Nat) (s:S8) (W:List W32) (w:Z) (i:U) (wr:Z):Prop :=
 ∃ t:Nat,t≤64∧i=I O t∧CB wr V 217 ((y4e s W t).l.map z0h)∧Below V w wr
structure Laid (w:Z):Prop where
 num:∀ t,t<64→w.cell? ⟨3,t,J⟩=X (I .u32 (iw (kK t)))
 start:∀ t,t<8→w.cell? ⟨2,t,J⟩=X (I .u32 (iw (z1n.l.getD t 0)))
theorem Laid.lt {w:Z} (h:Laid w):3 < w.heap.size∧2 < w.heap.size :=
 ⟨World.block_lt_of_cell? w _ (h.num 0 (by decide)),World.block_lt_of_cell? w _ (h.start 0 (by decide))⟩
theorem Laid.keep {w w':Z} (h:Laid w) (h1:w'.heap[3]? = w.heap[3]?) (h2:w'.heap[2]? = w.heap[2]?):Laid w' :=
 ⟨fun t ht=>by rw [cB (w:=w) h1];exact h.num t ht,fun t ht=>by rw [cB (w:=w) h2];exact h.start t ht⟩
theorem Laid.below {B:Nat} {w w':Z} (h:Laid w) (hb:Below B w w') (hB:w.heap.size≤B):Laid w':=h.keep (hb.block _ (by have:=h.lt;omega)) (hb.block _ (by have:=h.lt;omega))
theorem Laid.ext {w w':Z} (h:Laid w) (hb:Below w.heap.size w w'):Laid w':=h.below hb (lR _)
theorem Laid.grown {w w':Z} {G:Option Nat} (h:Laid w) (hb:w.grownBy w' G) (hG:∀ g,G=X g→g≠3∧g≠2):Laid w' :=
 h.keep (hb.block _ h.lt.1 (fun e=>(hG _ e.symm).1 rfl)) (hb.block _ h.lt.2 (fun e=>(hG _ e.symm).2 rfl))
theorem z5x (x:W32) (a b c:Nat) (ai bi ci:Int) (ha:ai=(a:Int)) (hb:bi=(b:Int)) (hc:ci=(c:Int)) (ha1:1≤a) (ha2:a≤31) (af:1≤b) (aj:b≤31) (cE:1≤c) (bY:c≤31) (w:Z) :
 Calls prog 212 #[I .u32 (iw x),I O ai,I O bi,I O ci] w fun e w'=>e=.returned (I .u32 (iw (k7l x a b c)))∧w'=w :=
 (x0f x a b c ai bi ci ha hb hc ha1 ha2 af aj cE bY w).mono fun _ _ h=>⟨h.1,h.2.symm⟩
def k6y (T:Nat) (l:List UInt8) (w:Z) (i:U) (wr:Z):Prop :=
 ∃ k:Nat,k≤16∧i=I O k∧CB wr T 229 (wcs ((y6c l).take k))∧w.grownBy wr J
theorem z5z (S b off cap:Nat) (s:S8) (l:List UInt8) (w:Z) (hl:l.length=64) (hcap:64≤cap) (hm:cap≤F) (hb:b<w.heap.size) (hbl:BL w b off l) (hS:CB w S 217 (s.l.map z0h)) (_hne:b≠S) (gW:Laid w) :
 Calls prog 200 #[.pointer (X ⟨S,0,J⟩),M (X ⟨b,off,J⟩) 64 cap] w fun e w'=>e=.returned (.tuple #[])∧CB w' S 217 ((z6k s l).l.map z0h)∧w.grownBy w' (X S):=by
 have g1:(64:Int)≤(cap:Int):=by omega
 have hL:=hd_ hl;have HBL:=hd_ hbl;have HS:=hd_ hS;have HM:=hd_ hm
 unfold F at hm
 clear hl hbl hS
 have HLd:=hd_ gW;clear gW
 go_enter func200,ntmps200
 go_wp2
 go_loopw [14] (fun i wr=>k6y w.heap.size l w i wr) (fun i _=>16 - (intOf i).toNat)
 case atStart=>exact ⟨0,by omega,rfl,heap_alloc_new w _,World.grownBy_alloc w _ J⟩
 case round =>
  obtain ⟨k,hk,rfl,aO,hg⟩:=hrel
  have HG:=hd_ hg
  by_cases hlt:k<16
  ·have hfz:=aO.frozen k
   have hc:=aO.cell k
   have ii:=hd_ aO
   clear aO hg
   have hw:=hd_ (x7r l k hlt)
   have hst:=hd_ (j9a ((y6c l).take k) k (z8u l k (by omega)) (by omega) (k8l (l.drop (4 * k))))
   rw [x5f _ (by rw [z8u l k (by omega)];omega) k (by omega)] at hc
   go_wp2_with fail
   refine (j4q b (off+4 * k) (64 - 4 * k) (cap - 4 * k) (l.drop (4 * k)) _ (by rw [List.length_drop,hL.out];omega) (by omega) (by omega) (by have:=HM.out;omega) ((HBL.out.keep (HG.out.block b hb (by simp))).drop (4 * k))).mono ?_
   rintro e w1 ⟨rfl,rfl⟩
   go_wp2_with fail
   go_roundw
   case rel=>exact ⟨k+1,by omega,by go_num,by rw [hw.out,← hst.out];exact ii.out.set _ _,z5a HG.out (lR _)⟩
   case measure=>simp [intOf];omega
  ·have hke:k=16:=by omega
   rw [hke] at aO
   have ii:=hd_ aO
   have tk:Q ((k:Int)<16)=R:=by simp;omega
   clear aO hg hke
   go_wp2
   have hws:(y6c l).take 16=y6c l:=List.take_of_length_le (by rw [z7w];omega)
   have aO:=ii.out
   rw [hws] at aO
   have HW:=hd_ aO
   have hwl:=hd_ (z7w l)
   obtain ⟨ws,hwe⟩:∃ ws,y6c l=ws:=⟨_,rfl⟩
   rw [hwe] at HW hwl
   have ka:=hd_ hwe
   clear aO ii hws hwe
   go_loopw [6] (fun i wr=>k3y w.heap.size ws w i wr) (fun i _=>64 - (intOf i).toNat)
   case atStart=>exact ⟨0,by omega,rfl,HW.out,HG.out⟩
   case round =>
    obtain ⟨k,hk,rfl,aO,hg⟩:=hrel
    obtain ⟨t,ht⟩:∃ t,k+16=t:=⟨_,rfl⟩
    rw [ht]
    have HG:=hd_ hg
    have ii:=hd_ aO
    by_cases hlt:k<48
    ·have hsl:(z7k k ws).length=t:=by rw [y6u,hwl.out];omega
     obtain ⟨x16,h16⟩:∃ x,(z7k k ws).getD (t - 16) 0=x:=⟨_,rfl⟩
     obtain ⟨x15,h15⟩:∃ x,(z7k k ws).getD (t - 15) 0=x:=⟨_,rfl⟩
     obtain ⟨x7,h7⟩:∃ x,(z7k k ws).getD (t - 7) 0=x:=⟨_,rfl⟩
     obtain ⟨x2,h2⟩:∃ x,(z7k k ws).getD (t - 2) 0=x:=⟨_,rfl⟩
     have hsc:Hid (z7k (k+1) ws=z7k k ws++[j2q x16 x15 x7 x2]):=by
      show z7k (k+1) ws=_
      rw [← h16,← h15,← h7,← h2,← ht];rfl
     have hst:=hd_ (j9a (z7k k ws) t hsl (by omega) (j2q x16 x15 x7 x2))
     have hcell:∀ j,j<64→wr.cell? ⟨w.heap.size,j,J⟩=X (I .u32 (iw ((z7k k ws).getD j 0))):=fun j hj=>(aO.cell j).trans (x5f _ (by omega) j hj)
     have mx:=hcell (t - 16) (by omega)
     have c15:=hcell (t - 15) (by omega)
     have c7:=hcell (t - 7) (by omega)
     have c2:=hcell (t - 2) (by omega)
     have c0:=hcell t (by omega)
     rw [h16] at mx;rw [h15] at c15;rw [h7] at c7;rw [h2] at c2
     have hfz:=aO.frozen t
     have n1:t - 15<64:=by omega
     have n2:t - 2<64:=by omega
     have n3:t - 16<64:=by omega
     have n4:t - 7<64:=by omega
     have n5:(16:Int)≤(t:Int):=by omega
     have n6:(t:Int)<64:=by omega
     have eK:IntKind.i64.wrap ((t:Int) - 15)=(t:Int) - 15:=IntWalk.i64_in _ (by omega)
     have q2:IntKind.i64.wrap ((t:Int) - 2)=(t:Int) - 2:=IntWalk.i64_in _ (by omega)
     have m15:((t:Int) - 15).toNat=t - 15:=by omega
     have m2:((t:Int) - 2).toNat=t - 2:=by omega
     have z15:(0:Int)≤(t:Int) - 15:=by omega
     have z2:(0:Int)≤(t:Int) - 2:=by omega
     have y15:(t:Int) - 15<64:=by omega
     have y2:(t:Int) - 2<64:=by omega
     have Ht:=hd_ ht
     clear hcell aO hg h16 h15 h7 h2 hsl ht
     go_wp2
     go_quiet (fail)
     have f1:=j8w (ror x15 7) (ror x15 18)
     have f6:=j8w (ror x2 17) (ror x2 19)
     have q16:IntKind.i64.wrap ((t:Int) - 16)=(t:Int) - 16:=IntWalk.i64_in _ (by omega)
     have q7:IntKind.i64.wrap ((t:Int) - 7)=(t:Int) - 7:=IntWalk.i64_in _ (by omega)
     have m16:((t:Int) - 16).toNat=t - 16:=by omega
     have m7:((t:Int) - 7).toNat=t - 7:=by omega
     have z16:(0:Int)≤(t:Int) - 16:=by omega
     have z7:(0:Int)≤(t:Int) - 7:=by omega
     have o7:(7:Int)≤(t:Int):=by omega
     have y16:(t:Int) - 16<64:=by omega
     have y7:(t:Int) - 7<64:=by omega
     have ik:Hid (CB (wr.drewN nq) w.heap.size 229 (wcs (z7k k ws))):=ii.out
     have al:=hd_ (z4d HG.out nq)
     have d16:(wr.drewN nq).cell? ⟨w.heap.size,t - 16,J⟩=X (I .u32 (iw x16)):=mx
     have d7:(wr.drewN nq).cell? ⟨w.heap.size,t - 7,J⟩=X (I .u32 (iw x7)):=c7
     have d0:(wr.drewN nq).cell? ⟨w.heap.size,t,J⟩=X (I .u32 (iw ((z7k k ws).getD t 0))):=c0
     have df:(wr.drewN nq).frozen? ⟨w.heap.size,t,J⟩=R:=hfz
     clear ii HG mx c15 c7 c2 c0 hfz eK q2 m15 m2 z15 z2 y15 y2
     generalize wr.drewN nq=w2 at *
     go_wp2
     go_still_tail 29,(by kernel_rfl)
     still_call (z4x x15 7 _ rfl (by decide) (by decide) _)
     repeat still_step
     still_call (z4x x15 18 _ rfl (by decide) (by decide) _)
     repeat still_step
     still_call (z4x x2 17 _ rfl (by decide) (by decide) _)
     repeat still_step
     still_call (z4x x2 19 _ rfl (by decide) (by decide) _)
     repeat still_step
     refine wpStill_nil ?_
     change wpList _ _ _ _ _ w2.drew
     have im:Hid (CB w2.drew w.heap.size 229 (wcs (z7k k ws))):=ik.out
     have bj:=hd_ (z3g al.out)
     have b0:w2.drew.cell? ⟨w.heap.size,t,J⟩=X (I .u32 (iw ((z7k k ws).getD t 0))):=d0
     have bf:w2.drew.frozen? ⟨w.heap.size,t,J⟩=R:=df
     clear ik al d16 d7 d0 df
     generalize w2.drew=w3 at *
     go_wp2
     go_roundw
     case rel=>exact ⟨k+1,by omega,by have:=Ht.out;go_num,by rw [hsc.out,← hst.out,j4r];exact im.out.set _ _,z5a bj.out (lR _)⟩
     case measure=>simp [intOf];omega
    ·have hke:k=48:=by omega
     rw [hke] at aO
     have tk:Q ((t:Int)<64)=R:=by simp;omega
     have HT:=hd_ aO
     clear aO hg hke ii ht
     have fN:=HS.out
     have lN:CB wr S 217 (s.l.map z0h):=fN.keep (HG.out.block S fN.lt (by simp))
     obtain ⟨s0,s1,s2,s3,s4,s5,s6,s7⟩:=cb8 lN
     have bC:=hd_ lN
     clear fN lN
     go_wp2
     have hV:=hd_ (heap_alloc_new wr (Y #[I .u32 (iw s.a),I .u32 (iw s.b),I .u32 (iw s.c),I .u32 (iw s.d),I .u32 (iw s.e),I .u32 (iw s.f),I .u32 (iw s.g),I .u32 (iw s.h)] 217))
     have hB:=hd_ ((Below.refl wr.heap.size wr).alloc (lR _) (Y #[I .u32 (iw s.a),I .u32 (iw s.b),I .u32 (iw s.c),I .u32 (iw s.d),I .u32 (iw s.e),I .u32 (iw s.f),I .u32 (iw s.g),I .u32 (iw s.h)] 217))
     clear s0 s1 s2 s3 s4 s5 s6 s7
     obtain ⟨W,hW⟩:∃ W,z7k 48 ws=W:=⟨_,rfl⟩
     rw [hW] at HT
     have HW:=hd_ hW
     clear hW
     obtain ⟨wo,rfl⟩:∃ wo:Z,wo=wr:=⟨_,rfl⟩
     obtain ⟨V,hVe⟩:∃ V,wo.heap.size=V:=⟨_,rfl⟩
     rw [hVe] at hV hB ⊢
     go_loopw [69] (fun i wx=>k5y V s W wo i wx) (fun i _=>64 - (intOf i).toNat)
     case atStart=>exact ⟨0,by omega,rfl,hV.out,hB.out⟩
     case round =>
      obtain ⟨t,hte,rfl,aO,hbx⟩:=hrel
      have ii:=hd_ aO;have gD:=hd_ hbx
      by_cases hlt:t<64
      ·have tk:Q ((t:Int)<64)=true:=by simp;omega
       clear aO hbx
       go_wp2
       obtain ⟨v,hv⟩:∃ v,y4e s W t=v:=⟨_,rfl⟩
       have Hv:=hd_ hv
       have aO:=ii.out
       rw [hv] at aO
       have HCB2:=hd_ aO
       obtain ⟨v0,v1,v2,v3,v4,v5,v6,v7⟩:=cb8 aO
       have hT:=HT.out.lt
       have hTW:CB wr w.heap.size 229 (wcs W):=HT.out.keep (gD.out.block _ (by omega))
       obtain ⟨wt,hwt⟩:∃ x,W.getD t 0=x:=⟨_,rfl⟩
       obtain ⟨kt,hkt⟩:∃ x,kK t=x:=⟨_,rfl⟩
       have cw:=(hTW.cell t).trans (x5f W (by rw [← HW.out,y6u,hwl.out];decide) t hlt)
       have hgx:wo.grownBy wr J:=⟨gD.out.os,gD.out.tape,gD.out.output,gD.out.size,fun j hj _=>gD.out.block j (by rw [hVe] at hj;exact hj)⟩
       have ck:=((HLd.out.grown HG.out (by simp)).grown hgx (by simp)).num t hlt
       rw [hwt] at cw
       rw [hkt] at ck
       have my:=hd_ hwt;have Hkt:=hd_ hkt
       have n6:(t:Int)<64:=by omega
       clear aO ii hTW hwt hkt hv hgx
       go_quiet ((go_at_call 212;exact Calls.quiet_of_same (z5x v.e 6 11 25 _ _ _ rfl rfl rfl (by decide) (by decide) (by decide) (by decide) (by decide) (by decide) _)))
       have bY:CB (wr.drewN nq) V 217 (v.l.map z0h):=HCB2.out
       have gi:Hid (Below V wo (wr.drewN nq)):=y6f gD.out nq
       generalize wr.drewN nq=w2 at *
       clear v0 v1 v2 v3 v4 v5 v6 v7 cw ck HCB2
       obtain ⟨v0,v1,v2,v3,v4,v5,v6,v7⟩:=cb8 bY
       have aP:=hd_ bY
       clear bY
       rw [v3f]
       obtain ⟨pp,hpp⟩:∃ x,k6w v kt wt=x:=⟨_,rfl⟩
       rw [hpp]
       have Hpp:=hd_ hpp
       clear hpp
       go_wp2
       go_quiet ((go_at_call 212;exact Calls.quiet_of_same (z5x v.a 2 13 22 _ _ _ rfl rfl rfl (by decide) (by decide) (by decide) (by decide) (by decide) (by decide) _)))
       have ev:Hid (CB (w2.drewN nq) V 217 (v.l.map z0h)):=aP.out
       have mz:Hid (Below V wo (w2.drewN nq)):=y6f gi.out nq
       generalize w2.drewN nq=w3 at *
       clear v0 v1 v2 v3 v4 v5 v6 v7 aP gi
       rw [v4f]
       obtain ⟨qq,hqq⟩:∃ x,k2y v=x:=⟨_,rfl⟩
       rw [hqq]
       have jY:=hd_ hqq
       clear hqq
       go_wp2
       have hsrc:=hd_ (j5r ev.out)
       go_region_law ((refine step_copy_splice rfl (.tmp 116) (.tmp 117) 233 233 rfl 215 underlying233 (by kernel_rfl) (X ⟨V,1,J⟩) (X ⟨V,0,J⟩) 7 7 7 8 (by rfl) (by rfl) V 1 (v.l.map z0h) 217 ev.out [z0h v.a,z0h v.b,z0h v.c,z0h v.d,z0h v.e,z0h v.f,z0h v.g] rfl (fun _=>⟨rfl,_,rfl,hsrc.out⟩) (by simp [S8.l]) (j6r v) V wo (mz.out.trans ⟨rfl,rfl,rfl,lR _,fun _ _=>rfl⟩) (lR _) ?_;intro w4 hc4 mA))
       have jJ:CB w4 V 217 ((⟨v.a,v.a,v.b,v.c,v.d,v.e,v.f,v.g⟩:S8).l.map z0h):=by rw [← x8r];exact hc4.out
       clear hc4 hsrc ev mz
       obtain ⟨v0,v1,v2,v3,v4,v5,v6,v7⟩:=cb8 jJ
       have f0:=jJ.frozen 0
       have f4:=jJ.frozen 4
       have dF:=hd_ jJ
       have cH:=hd_ mA
       clear jJ mA
       go_wp2
       go_roundw
       case rel =>
        refine ⟨t+1,by omega,by go_num,?_,?_⟩
        ·rw [k6n,k6n]
         have h5:=(dF.out.set 4 (I .u32 (iw (v.d+pp)))).set 0 (I .u32 (iw (pp+qq)))
         have hr:(y4e s W (t+1)).l.map z0h=(((⟨v.a,v.a,v.b,v.c,v.d,v.e,v.f,v.g⟩:S8).l.map z0h).set 4 (I .u32 (iw (v.d+pp)))).set 0 (I .u32 (iw (pp+qq))):=by
          show (rnd (y4e s W t) (kK t) (W.getD t 0)).l.map z0h=_
          rw [Hv.out,Hkt.out,my.out,← Hpp.out,← jY.out];rfl
         rw [hr];exact h5
        ·exact (cH.out.setCell (p:=⟨V,4,J⟩) (lR _) _).setCell (p:=⟨V,0,J⟩) (lR _) _
       case measure=>simp [intOf];omega
      ·have hte2:t=64:=by omega
       have hcb4:=aO
       rw [hte2] at hcb4
       have tk:Q ((t:Int)<64)=R:=by simp;omega
       have hVS:S<V:=by rw [← hVe];exact Nat.lt_of_lt_of_le HS.out.lt HG.out.size
       have bB:w.grownBy wr (X S):=⟨gD.out.os.trans HG.out.os,gD.out.tape.trans HG.out.tape,gD.out.output.trans HG.out.output,Nat.le_trans HG.out.size gD.out.size,fun j hj _=>(gD.out.block j (by rw [← hVe];exact Nat.lt_of_lt_of_le hj HG.out.size)).trans (HG.out.block j hj (by simp))⟩
       have hSS:CB wr S 217 (s.l.map z0h):=bC.out.keep (gD.out.block S hVS)
       obtain ⟨v,hv⟩:∃ v,y4e s W 64=v:=⟨_,rfl⟩
       rw [hv] at hcb4
       have Hv:=hd_ hv
       have lO:=hd_ hSS;have HV4:=hd_ hcb4;have HGW:=hd_ bB
       clear aO hbx ii gD hcb4 hSS bB hv hte2 hV hB
       go_wp2
       obtain ⟨wp,rfl⟩:∃ wp:Z,wp=wr:=⟨_,rfl⟩
       go_loopw [129] (fun i wx=>k4y S V s v w i wx) (fun i _=>8 - (intOf i).toNat)
       case atStart=>exact ⟨0,by omega,rfl,lO.out,HV4.out,HGW.out⟩
       case round =>
        obtain ⟨i,hi,rfl,nx,ny,hg4⟩:=hrel
        have fe:=hd_ nx;have HVV:=hd_ ny;have iR:=hd_ hg4
        by_cases hlt:i<8
        ·have tk2:Q ((i:Int)<8)=true:=by simp;omega
         have hc:=x0s i s v hlt
         have ci:=(nx.cell i).trans hc.1
         have cv:=(ny.cell i).trans hc.2
         have fi:=nx.frozen i
         have n6:(i:Int)<8:=by omega
         have hset:=hd_ (j1b i s v hlt)
         obtain ⟨a,ha⟩:∃ a,s.l.getD i 0=a:=⟨_,rfl⟩
         obtain ⟨c,hc'⟩:∃ c,v.l.getD i 0=c:=⟨_,rfl⟩
         rw [ha] at ci hset;rw [hc'] at cv hset
         clear nx ny hg4 hc ha hc'
         go_wp2
         go_still_tail 11,(by kernel_rfl)
         change wpList _ _ _ _ _ wr.drew
         have d0:wr.drew.cell? ⟨S,i,J⟩=X (I .u32 (iw a)):=ci
         have df:wr.drew.frozen? ⟨S,i,J⟩=R:=fi
         have hs5:Hid (CB wr.drew S 217 ((x9r i s v).map z0h)):=fe.out
         have hv5:Hid (CB wr.drew V 217 (v.l.map z0h)):=HVV.out
         have eh:=hd_ (z3g iR.out)
         generalize wr.drew=w5 at *
         clear ci cv fi fe HVV iR
         go_wp2
         go_roundw
         case rel=>exact ⟨i+1,by omega,by go_num,by rw [← hset.out,k6n];exact hs5.out.set _ _,hv5.out.far (by show V≠S;omega) _,z8d eh.out⟩
         case measure=>simp [intOf];omega
        ·have hi8:i=8:=by omega
         rw [hi8,j0b] at nx
         have HE:=hd_ nx
         have tk2:Q ((i:Int)<8)=R:=by simp;omega
         clear nx ny hg4 fe
         go_wp2
         go_end0
         refine ⟨rfl,?_,iR.out⟩
         have hbk:z6k s l=s.add v:=by unfold z6k;rw [ka.out,HW.out,Hv.out]
         rw [hbk];exact HE.out
theorem z7r:∀ (k:Nat) (s:S8) (l:List UInt8),z5c (k+1) s l=z6k (z5c k s l) ((l.drop (64 * k)).take 64)
 | 0,s,l=>by simp [z5c]
 | k+1,s,l=>by
  rw [z5c,z7r k,z5c,List.drop_drop,show 64+64 * k=64 * (k+1) by omega]
theorem y7f (m:Nat):∀ (k:Nat) (s:S8) (l:List UInt8),z5c (k+m) s l=z5c m (z5c k s l) (l.drop (64 * k))
 | 0,s,l=>by simp [z5c]
 | k+1,s,l=>by
  rw [show k+1+m=(k+m)+1 by omega,z5c,y7f m k,z5c,List.drop_drop,show 64+64 * k=64 * (k+1) by omega]
theorem y8f:∀ (k:Nat) (s:S8) (l r:List UInt8),64 * k≤l.length→z5c k s (l++r)=z5c k s l
 | 0,_,_,_,_=>rfl
 | k+1,s,l,r,h=>by
  rw [z5c,z5c,List.take_append_of_le_length (by omega),List.drop_append_of_le_length (by omega),y8f k _ _ r (by simp;omega)]
def y3d:List UInt8:=List.replicate 128 0
def k7y:U→Nat | M _ n _=>n|_=>0
theorem k4o (w:Z):(Instr.makeSlice 50 (I O 64) (I O 128)).run prog w=.ok (M (X ⟨w.heap.size,0,J⟩) 64 128) (w.alloc (Y (z8a y3d).toArray 5)):=by kernel_rfl
theorem j2b {wr:Z} {B:Nat} {l:List UInt8} {oa:Option Addr} {n cap:Nat} (h:z6c B wr l (M oa n cap)) (hB:B≤wr.heap.size) (o:Obj) (hpos:0<(z8a l).length):∃ ad,oa=X ad∧∀ j v,(z8a l)[j]? = X v→(wr.alloc o).cell? (ad.add j)=X v:=by
 rcases h with ⟨rfl,_⟩|⟨_,b,off,cap',he,h2,h3,h4,h5⟩
 ·simp [z8a] at hpos
 ·injection he with he1 he2 he3
  refine ⟨_,he1,fun j v hv=>?_⟩
  obtain ⟨c,hc,rfl⟩:=z7n l j v hv
  have hpl:(⟨b,off,J⟩:Addr).add j=⟨b,off+j,J⟩:=by unfold Addr.add;split <;> simp_all
  rw [hpl,cB (w:=wr) (Below.heap_alloc wr o b (by omega))]
  exact h5 j c hc
theorem z6z {α β:Type} (f:α→β) (L:List α) (off:Nat) (cs:List α):splice (L.map f) off (cs.map f)=(splice L off cs).map f:=by simp [splice]
def ub (c:UInt8):U:=I .u8 c.toNat
theorem z3l (l:List UInt8):z8a l=l.map ub:=rfl
theorem j3b (r B:List UInt8) (m:Nat) (hB:B.length=8) (h1:r.length+9≤m) (h2:m≤128) :
 splice ((splice y3d 0 r).set r.length 128) (m - 8) B=r++128::(List.replicate (m - 9 - r.length) 0++(B++List.replicate (128 - m) 0)):=by
 have e1:splice y3d 0 r=r++0::List.replicate (127 - r.length) 0:=by
  simp only [splice,List.take_zero,List.nil_append,y3d,List.drop_replicate]
  rw [← List.replicate_succ];congr 2;omega
 have e2:(splice y3d 0 r).set r.length 128=r++128::List.replicate (127 - r.length) 0:=by
  rw [e1,List.set_append_right _ _ (lR _),Nat.sub_self];rfl
 rw [e2]
 have e3:(r++128::List.replicate (127 - r.length) 0).take (m - 8)=r++128::List.replicate (m - 9 - r.length) 0:=by
  rw [List.take_append,List.take_of_length_le (by omega),show m - 8 - r.length=(m - 9 - r.length)+1 by omega,List.take_succ_cons,List.take_replicate]
  congr 3;omega
 have e4:(r++128::List.replicate (127 - r.length) 0).drop (m - 8+B.length)=List.replicate (128 - m) (0:UInt8):=by
  rw [List.drop_append,List.drop_of_length_le (by omega),hB,show m - 8+8 - r.length=(m - 1 - r.length)+1 by omega,List.drop_succ_cons,List.drop_replicate,List.nil_append]
  congr 1;omega
 unfold splice
 rw [e3,e4];simp
theorem y8l (r:List UInt8) (m n:Nat) (h1:r.length+9≤m) (h2:m≤128) :
 splice ((splice (z8a y3d) 0 (z8a r)).set r.length (I .u8 128)) (m - 8) (z8a (be 8 n))=z8a (r++128::(List.replicate (m - 9 - r.length) 0++(be 8 n++List.replicate (128 - m) 0))):=by
 have e:(I .u8 128)=ub 128:=rfl
 rw [z3l y3d,z3l r,z6z,e,← List.map_set,z3l (be 8 n),z6z,j3b r (be 8 n) m (y3b 8 n) h1 h2];rfl
def y6v (l r:List UInt8) (m:Nat):List UInt8:=r++128::(List.replicate (m - 9 - r.length) 0++be 8 (8 * l.length))
theorem y0p (l r:List UInt8) (m:Nat) (h1:r.length+9≤m):(y6v l r m).length=m:=by simp [y6v,y3b];omega
theorem j4b (l:List UInt8) (k m:Nat) (hk:64 * k≤l.length) (lK:(l.drop (64 * k)).length≤63) (hm:(m=64∧(l.drop (64 * k)).length≤55)∨(m=128∧55<(l.drop (64 * k)).length)) :
 pad l=l.take (64 * k)++y6v l (l.drop (64 * k)) m:=by
 unfold pad y6v
 conv=>lhs;lhs;rw [← List.take_append_drop (64 * k) l]
 rw [List.append_assoc]
 rw [List.length_drop] at *
 congr 5;omega
theorem y7v (l:List UInt8) (k m:Nat) (hk:64 * k≤l.length) (lK:(l.drop (64 * k)).length≤63) (hm:(m=64∧(l.drop (64 * k)).length≤55)∨(m=128∧55<(l.drop (64 * k)).length)) :
 sha l=(z5c (m / 64) (z5c k z1n l) (y6v l (l.drop (64 * k)) m)).l.flatMap fun x=>be 4 x.toNat:=by
 have hp:=j4b l k m hk lK hm
 have hl:(l.take (64 * k)).length=64 * k:=by rw [List.length_take];omega
 have hpl:(pad l).length / 64=k+m / 64:=by rw [hp,List.length_append,hl,y0p _ _ _ (by omega)];omega
 unfold sha
 rw [hpl,y7f]
 have h1:(pad l).drop (64 * k)=y6v l (l.drop (64 * k)) m:=by rw [hp,List.drop_append_of_le_length (by omega),List.drop_of_length_le (by omega),List.nil_append]
 have h2:z5c k z1n (pad l)=z5c k z1n l:=by unfold pad;exact y8f k z1n l _ hk
 rw [h1,h2]
theorem x6f (s:S8) (t:List UInt8) (h:t.length=64):z5c (64 / 64) s t=z6k s t:=by
 show z5c 1 s t=_;simp only [z5c];rw [List.take_of_length_le (by omega)]
theorem x7f (s:S8) (t:List UInt8) (h:t.length=128):z5c (128 / 64) s t=z6k (z6k s (t.take 64)) (t.drop 64):=by
 show z5c 2 s t=_;simp only [z5c];rw [List.take_of_length_le (l:=t.drop 64) (by simp;omega)]
def j2x (w:Z) (l:List UInt8) (v:U) (wr:Z):Prop :=
 ∃ k:Nat,64 * k≤l.length∧z6c w.heap.size wr (l.drop (64 * k)) v∧CB wr (w.heap.size+1) 217 ((z5c k z1n l).l.map z0h)∧CB wr w.heap.size 165 (z8a (List.replicate 32 0))∧w.grownBy wr J
theorem y9f {w wr w1:Z} {l:List UInt8} {k b off n cp cp':Nat} {oa:Option Addr} (hk:64 * k+64≤l.length) (hn:(l.drop (64 * k)).length=n) (h2:n≤cp) (h3:cp≤F) (h4:b<w.heap.size) (h5:∀ j c,(l.drop (64 * k))[j]? = X c→wr.cell? ⟨b,off+j,J⟩=X (I .u8 (c.toNat:Int)))
 (hcp:(n=64∧cp'≤F)∨(oa=X ⟨b,off+64,J⟩∧cp'=cp - 64)) (hs:CB w1 (w.heap.size+1) 217 ((z6k (z5c k z1n l) ((l.drop (64 * k)).take 64)).l.map z0h)) (hd:CB wr w.heap.size 165 (z8a (List.replicate 32 0)))
 (hg:w.grownBy wr J) (aK:wr.grownBy w1 (X (w.heap.size+1))):j2x w l (M oa (n - 64) cp') w1:=by
 have hdl:(l.drop (64 * (k+1))).length=n - 64:=by rw [List.length_drop] at *;omega
 have hgs:=hg.size
 refine ⟨k+1,by omega,?_,by rw [z7r];exact hs,hd.keep (aK.block _ hd.lt (by simp)),z2a hg aK (.inr fun g hg=>by injection hg;omega)⟩
 rcases hcp with ⟨h64,hcm⟩|⟨rfl,rfl⟩
 ·have h0:l.drop (64 * (k+1))=[]:=List.eq_nil_of_length_eq_zero (by omega)
  rw [h0,h64];exact .inl ⟨rfl,oa,cp',rfl,hcm⟩
 ·refine z6c.mk' hdl.symm (by omega) (by omega) h4 fun j c hj=>?_
  have h1:(l.drop (64 * k))[64+j]? = X c:=by rw [← hj,List.getElem?_drop,List.getElem?_drop];congr 1;omega
  have h2:=h5 _ c h1
  rw [cB (w:=wr) (aK.block b (by omega) (fun e=>by injection e;omega)),Nat.add_assoc];exact h2
structure SumMid (w w5:Z) (E:Nat) (e:List UInt8) (st:S8):Prop where
 he:CB w5 E 5 (z8a e)
 hs:CB w5 (w.heap.size+1) 217 (st.l.map z0h)
 hd:CB w5 w.heap.size 165 (z8a (List.replicate 32 0))
 hg:w.grownBy w5 J
 hE:w.heap.size+2≤E
theorem SumMid.next {w w5 w6:Z} {E:Nat} {e:List UInt8} {st st':S8} (h:SumMid w w5 E e st) (hs:CB w6 (w.heap.size+1) 217 (st'.l.map z0h)) (hg:w5.grownBy w6 (X (w.heap.size+1))):SumMid w w6 E e st' :=
 ⟨h.he.keep (hg.block E h.he.lt (by have:=h.hE;intro e;injection e;omega)),hs,h.hd.keep (hg.block _ h.hd.lt (by simp)),z2a h.hg hg (.inr fun g hg=>by injection hg;omega),h.hE⟩
theorem CB.bl {w:Z} {E:Nat} {t:TypeId} {e:List UInt8} (h:CB w E t (z8a e)) (off:Nat):BL w E off (e.drop off):=fun j c hj=>by
 rw [h.cell,z8a];rw [List.getElem?_drop] at hj;simp [hj]
theorem SumMid.absorb {w w5:Z} {E:Nat} {e:List UInt8} {st:S8} (h:SumMid w w5 E e st) (hL:Laid w) (off cap:Nat) (hoff:off+64≤e.length) (hcap:64≤cap) (hc:cap≤128) :
 Calls prog 200 #[.pointer (X ⟨w.heap.size+1,0,J⟩),M (X ⟨E,off,J⟩) 64 cap] w5 fun x w6=>x=.returned (.tuple #[])∧SumMid w w6 E e (z6k st ((e.drop off).take 64)):=by
 refine (z5z (w.heap.size+1) E off cap st ((e.drop off).take 64) w5 (by simp;omega) hcap (by unfold F;omega) h.he.lt ((h.he.bl off).take 64) h.hs (by have:=h.hE;omega) (hL.grown h.hg (by simp))).mono ?_
 rintro x w6 ⟨rfl,h1,h2⟩
 exact ⟨rfl,h.next h1 h2⟩
def j3x (w:Z) (st:S8) (i:U) (wr:Z):Prop :=
 ∃ k:Nat,k≤8∧i=I O k∧CB wr w.heap.size 165 (z8a (((st.l.take k).flatMap fun x=>be 4 x.toNat)++List.replicate (32 - 4 * k) 0))∧w.grownBy wr J
theorem x8f (st:S8) (k:Nat) (h:k≤8):((st.l.take k).flatMap fun x=>be 4 x.toNat).length=4 * k:=by
 rcases (by omega:k=0∨k=1∨k=2∨k=3∨k=4∨k=5∨k=6∨k=7∨k=8) with rfl|rfl|rfl|rfl|rfl|rfl|rfl|rfl|rfl <;> simp [S8.l,y3b]
theorem x7m (st:S8) (k:Nat) (h:k<8):splice (z8a (((st.l.take k).flatMap fun x=>be 4 x.toNat)++List.replicate (32 - 4 * k) 0)) (4 * k) (z8a (be 4 (st.l.getD k 0).toNat))=z8a (((st.l.take (k+1)).flatMap fun x=>be 4 x.toNat)++List.replicate (32 - 4 * (k+1)) 0):=by
 have hl:=x8f st k (by omega)
 have hk:k<st.l.length:=by simp [S8.l];omega
 have h1:st.l.take (k+1)=st.l.take k++[st.l.getD k 0]:=by rw [List.take_succ_eq_append_getElem hk];simp [hk]
 rw [h1,List.flatMap_append]
 generalize ((st.l.take k).flatMap fun x=>be 4 x.toNat)=A at *
 rw [z3l,z3l (be 4 _),z6z,z3l]
 congr 1
 unfold splice
 rw [List.take_append_of_le_length (by omega),List.take_of_length_le (by omega),y3b,List.drop_append,List.drop_of_length_le (by omega),List.nil_append,List.drop_replicate,hl]
 simp only [List.flatMap_cons,List.flatMap_nil,List.append_nil,List.append_assoc]
 congr 3;omega
theorem v8d (st:S8) (k:Nat) (h:k<8) (w:Z):(Instr.index 217 (.agg #[I .u32 (iw st.a),I .u32 (iw st.b),I .u32 (iw st.c),I .u32 (iw st.d),I .u32 (iw st.e),I .u32 (iw st.f),I .u32 (iw st.g),I .u32 (iw st.h)]) (I O (k:Int))).run prog w=.ok (I .u32 (iw (st.l.getD k 0))) w:=by
 rcases (by omega:k=0∨k=1∨k=2∨k=3∨k=4∨k=5∨k=6∨k=7) with rfl|rfl|rfl|rfl|rfl|rfl|rfl|rfl <;> kernel_rfl
theorem v9d (D:Nat) (j:Nat) (h:j<8) (w:Z):(Instr.sliceAt 165 (.pointer (X ⟨D,0,J⟩)) (X (I O (4 * (j:Int)))) (X (I O (4 * (j:Int)+4))) J).run prog w=.ok (M (X ⟨D,4 * j,J⟩) 4 (32 - 4 * j)) w:=by
 rcases (by omega:j=0∨j=1∨j=2∨j=3∨j=4∨j=5∨j=6∨j=7) with rfl|rfl|rfl|rfl|rfl|rfl|rfl|rfl <;> kernel_rfl
theorem x9f (l:List UInt8):(z8a l).toArray.all (·.oneCell')=true:=by
 rw [Array.all_eq_true_iff_forall_mem];intro x hx;exact z5o l x (by simpa using hx)
theorem x8m {l:List UInt8} (h:l.length=32):(prog.info? 165).map (·.size)=X (z8a l).toArray.size:=by
 rw [List.size_toArray,z8b,h];kernel_rfl
theorem z7z {w w':Z} (h:w.grownBy w' J):Below w.heap.size w w':=⟨h.os,h.tape,h.output,h.size,fun k hk=>h.block k hk (by simp)⟩
theorem y8v {w wo w4 w5:Z} {E:Nat} {e:List UInt8} {st:S8} (hE:wo.heap.size=E) (hs:CB wo (w.heap.size+1) 217 (st.l.map z0h)) (hd:CB wo w.heap.size 165 (z8a (List.replicate 32 0))) (hg:w.grownBy wo J)
 (hB:Below E wo w4) (he:CB w5 E 5 (z8a e)) (eh:w4.grownBy w5 (X E)):SumMid w w5 E e st:=by
 have h1:=hs.lt
 have hg4:wo.grownBy w4 J:=⟨hB.os,hB.tape,hB.output,hB.size,fun j hj _=>hB.block j (by omega)⟩
 have hB5:∀ j,j<E→w5.heap[j]? = wo.heap[j]?:=fun j hj=>(eh.block j (by have:=hB.size;omega) (by intro e;injection e;omega)).trans (hB.block j hj)
 exact ⟨he,hs.keep (hB5 _ (by omega)),hd.keep (hB5 _ (by omega)),z2a (z2a hg hg4 (.inl rfl)) eh (.inr fun g kc=>by injection kc;have:=hg.size;omega),by omega⟩
theorem j7r (oa:Option Addr) (cap:Nat) (l:List UInt8) (w:Z) (hl:l.length≤1000000) (hbl:z6c w.heap.size w l (M oa l.length cap)) (gW:Laid w) :
 Calls prog 180 #[M oa l.length cap] w fun e w'=>e=.returned (.agg (z8a (sha l)).toArray)∧Below w.heap.size w w':=by
 have hmf:∀ (fn:Fn) (first cap:Array U) (w:Z),(Instr.makeFunc fn first cap).run prog w=.ok (.func fn first cap) w:=fun _ _ _ _=>rfl
 have hmk:∀ w:Z,(Instr.makeSlice 50 (I O 64) (I O 128)).run prog w=.ok (M (X ⟨w.heap.size,0,J⟩) 64 128) (w.alloc (Y (z8a y3d).toArray 5)):=fun w=>k4o w
 have al:2 < w.heap.size:=gW.lt.2
 have s0:w.cell? ⟨2,0,J⟩=X (I .u32 (iw z1n.a)):=gW.start 0 (by decide)
 have s1:w.cell? ⟨2,1,J⟩=X (I .u32 (iw z1n.b)):=gW.start 1 (by decide)
 have s2:w.cell? ⟨2,2,J⟩=X (I .u32 (iw z1n.c)):=gW.start 2 (by decide)
 have s3:w.cell? ⟨2,3,J⟩=X (I .u32 (iw z1n.d)):=gW.start 3 (by decide)
 have s4:w.cell? ⟨2,4,J⟩=X (I .u32 (iw z1n.e)):=gW.start 4 (by decide)
 have s5:w.cell? ⟨2,5,J⟩=X (I .u32 (iw z1n.f)):=gW.start 5 (by decide)
 have s6:w.cell? ⟨2,6,J⟩=X (I .u32 (iw z1n.g)):=gW.start 6 (by decide)
 have s7:w.cell? ⟨2,7,J⟩=X (I .u32 (iw z1n.h)):=gW.start 7 (by decide)
 go_enter func180,ntmps180
 go_wp2
 have HB:=hd_ hbl;have HLd:=hd_ gW
 clear hbl gW s0 s1 s2 s3 s4 s5 s6 s7
 go_loopw [5] (fun v wr=>j2x w l v wr) (fun v _=>k7y v)
 case atStart =>
  refine ⟨0,Nat.zero_le _,?_,?_,?_,z4a (z4a (z1b w _) _) _⟩
  ·exact HB.out.keep (lR _) fun k hk=>(Below.heap_alloc _ _ k (by rw [World.size_alloc];omega)).trans (Below.heap_alloc w _ k hk)
  ·have h:=heap_alloc_new (w.alloc (Y #[I .u8 0,I .u8 0,I .u8 0,I .u8 0,I .u8 0,I .u8 0,I .u8 0,I .u8 0,I .u8 0,I .u8 0,I .u8 0,I .u8 0,I .u8 0,I .u8 0,I .u8 0,I .u8 0,I .u8 0,I .u8 0,I .u8 0,I .u8 0,I .u8 0,I .u8 0,I .u8 0,I .u8 0,I .u8 0,I .u8 0,I .u8 0,I .u8 0,I .u8 0,I .u8 0,I .u8 0,I .u8 0] 165)) (Y #[I .u32 (iw z1n.a),I .u32 (iw z1n.b),I .u32 (iw z1n.c),I .u32 (iw z1n.d),I .u32 (iw z1n.e),I .u32 (iw z1n.f),I .u32 (iw z1n.g),I .u32 (iw z1n.h)] 217)
   rw [World.size_alloc] at h
   exact h
  ·exact (Below.heap_alloc _ _ _ (by rw [World.size_alloc];omega)).trans (heap_alloc_new w _)
 case round =>
  obtain ⟨k,hk,hb,hs,hd,hg⟩:=hrel
  have HS:=hd_ hs;have HD:=hd_ hd;have HG:=hd_ hg
  have hlen:(l.drop (64 * k)).length=l.length - 64 * k:=List.length_drop
  by_cases hge:64 * k+64≤l.length
  ·rcases hb with ⟨h0,_⟩|⟨_,b,off,cp,rfl,h2,h3,h4,h5⟩
   ·rw [h0] at hlen;simp at hlen;omega
   have H5:=hd_ h5;have fA:=hd_ hlen
   obtain ⟨n,hn⟩:∃ n,(l.drop (64 * k)).length=n:=⟨_,rfl⟩
   rw [hn] at h2 ⊢
   have Hn:=hd_ hn
   have g1:(64:Int)≤(n:Int):=by omega
   have g2:(n:Int)≤(cp:Int):=by omega
   have h3':=hd_ h3
   unfold F at h3
   have tk:Q ((64:Int)≤(n:Int))=true:=by simp;omega
   clear hs hd hg h5 hlen hn
   have hne:b≠w.heap.size+1:=by omega
   have hLw:=hd_ (HLd.out.grown HG.out (by simp))
   have hbt:BL wr b off ((l.drop (64 * k)).take 64):=BL.take (fun j c hj=>H5.out j c hj) 64
   have HBT:=hd_ hbt
   have hwl:b<wr.heap.size:=Nat.lt_of_lt_of_le h4 HG.out.size
   have hab:=hd_ (z7r k z1n l)
   clear hbt
   by_cases hcp:cp=64
   ·subst hcp
    go_wp2_with fail
    refine (z5z (w.heap.size+1) b off 64 (z5c k z1n l) ((l.drop (64 * k)).take 64) wr (by rw [List.length_take,Hn.out];omega) (by omega) h3'.out hwl HBT.out HS.out hne hLw.out).mono ?_
    rintro e w1 ⟨rfl,bJ,aK⟩
    have bC:=hd_ bJ;have nz:=hd_ aK
    clear bJ aK
    go_wp2_with fail
    go_roundw
    case rel =>
     have h0:=y9f (oa:=X ⟨b,off,J⟩) (cp':=0) hge Hn.out h2 h3'.out h4 H5.out (.inl ⟨by omega,Nat.zero_le _⟩) bC.out HD.out HG.out nz.out
     rw [show n - 64=0 by omega] at h0;exact h0
    case measure=>simp [k7y];omega
   ·have hcp2:¬ (cp:Int)=64:=by omega
    have hcp3:64<cp:=by omega
    go_wp2_with fail
    refine (z5z (w.heap.size+1) b off cp (z5c k z1n l) ((l.drop (64 * k)).take 64) wr (by rw [List.length_take,Hn.out];omega) (by omega) h3'.out hwl HBT.out HS.out hne hLw.out).mono ?_
    rintro e w1 ⟨rfl,bJ,aK⟩
    have bC:=hd_ bJ;have nz:=hd_ aK
    clear bJ aK
    go_wp2_with fail
    go_roundw
    case rel=>exact y9f hge Hn.out h2 h3'.out h4 H5.out (.inr ⟨rfl,rfl⟩) bC.out HD.out HG.out nz.out
    case measure=>simp [k7y];omega
  ·obtain ⟨dg,cp,rfl,cE,bY⟩:=hb.form
   have au:=hd_ hb
   obtain ⟨r,hr⟩:∃ r,l.drop (64 * k)=r:=⟨_,rfl⟩
   rw [hr] at au hlen cE ⊢
   have hr63:r.length≤63:=by omega
   have tk:Q ((64:Int)≤(r.length:Int))=R:=by simp;omega
   have Hr:=hd_ hr;have fA:=hd_ hlen
   unfold F at bY
   clear hb hs hd hg hr hlen
   obtain ⟨wo,rfl⟩:∃ wo:Z,wo=wr:=⟨_,rfl⟩
   have mB:(wo.alloc (Y (z8a y3d).toArray 5)).heap[wo.heap.size]? = X (Y (z8a y3d).toArray 5 (0,0)):=heap_alloc_new wo _
   have eL:=hd_ mB
   have hB0:=hd_ ((Below.refl wo.heap.size wo).alloc (lR _) (Y (z8a y3d).toArray 5))
   have hsrc:=hd_ (j2b au.out HG.out.size (Y (z8a y3d).toArray 5))
   have hone:=hd_ (z5o r)
   clear mB
   go_wp2_with (with_reducible refine wpList_copy_splice rfl (.tmp 22) (.tmp 23) 50 50 rfl 5 underlying50 (by kernel_rfl) (X ⟨wo.heap.size,0,J⟩) dg 64 128 r.length cp rfl rfl wo.heap.size 0 (z8a y3d) 5 eL.out (z8a r) ?c1 ?c2 ?c3 hone.out wo.heap.size wo hB0.out (lR _) ?_)
   case c1=>rw [z8b];exact (Nat.min_eq_left (by omega)).symm
   case c2=>exact fun h=>hsrc.out h
   case c3=>simp [z8b,y3d];omega
   intro w3 hE3 mz
   have ff:Hid (CB w3 wo.heap.size 5 (splice (z8a y3d) 0 (z8a r))):=hE3.out
   have aA:=hd_ mz
   clear hE3 mz eL hB0 hsrc hone
   obtain ⟨E,hE⟩:∃ E,wo.heap.size=E:=⟨_,rfl⟩
   rw [hE] at ff aA
   have Hr63:=hd_ hr63
   have b1:(r.length:Int)<128:=by omega
   have b2:(r.length:Int)<64:=by omega
   have fz:=ff.out.frozen r.length
   have hlen3:(splice (z8a y3d) 0 (z8a r)).length=128:=by rw [length_splice _ _ _ (by simp [z8b,y3d];omega)];simp [z8b,y3d]
   obtain ⟨x0,fX⟩:∃ x,w3.cell? ⟨E,r.length,J⟩=X x:=⟨_,(ff.out.cell _).trans (List.getElem?_eq_getElem (by omega))⟩
   clear hlen3
   by_cases h55:55<r.length
   ·have t55:Q ((55:Int)<(r.length:Int))=true:=by simp;omega
    go_wp2_with fail
    have ei:Hid (CB (w3.setCell ⟨E,r.length,J⟩ (I .u8 128)) E 5 ((splice (z8a y3d) 0 (z8a r)).set r.length (I .u8 128))):=ff.out.set _ _
    have mA:Hid (Below E wo (w3.setCell ⟨E,r.length,J⟩ (I .u8 128))):=aA.out.setCell (lR _) _
    have hl8:((l.length:Int) * 8)=((8 * l.length:Nat):Int):=by omega
    refine (y7o E 120 8 8 (8 * l.length) _ hl8 5 _ _ ei.out (by decide) (by decide) ?c128).mono ?_
    case c128=>rw [List.length_set,length_splice _ _ _ (by simp [z8b,y3d];omega)];simp [z8b,y3d]
    rintro e w5 ⟨rfl,nA,eh,mD⟩
    rw [y8l r 128 (8 * l.length) (by omega) (by omega)] at nA
    have HM0:=hd_ (y8v (e:=y6v l r 128++List.replicate (128 - 128) 0) hE HS.out HD.out HG.out mA.out (by unfold y6v;simp only [List.append_assoc,List.cons_append];exact nA) eh)
    have aC:=hd_ (y0p l r 128 (by omega))
    clear nA eh mD ei mA hl8
    go_wp2_with fail
    refine wp_loop_rounds 3 ?_
    rw [rounds_succ];go_wp2_with fail
    refine (HM0.out.absorb HLd.out 0 128 (by rw [List.length_append,aC.out];simp) (by decide) (by decide)).mono ?_
    rintro e w6 ⟨rfl,mE⟩
    have nB:=hd_ mE
    clear mE
    go_wp2_with fail
    rw [rounds_succ];go_wp2_with fail
    refine (nB.out.absorb HLd.out 64 64 (by rw [List.length_append,aC.out];simp) (by decide) (by decide)).mono ?_
    rintro e w6 ⟨rfl,mE⟩
    have HM2:=hd_ mE
    clear mE
    go_wp2_with fail
    have hfin:Hid (sha l=((z6k (z6k (z5c k z1n l) ((y6v l r 128++List.replicate (128 - 128) 0).drop 0 |>.take 64)) ((y6v l r 128++List.replicate (128 - 128) 0).drop 64 |>.take 64)).l.flatMap fun x=>be 4 x.toNat)):=by
     show sha l=_
     have h0:=y7v l k 128 hk (by rw [Hr.out];omega) (by rw [Hr.out];omega)
     rw [Hr.out] at h0
     rw [h0,x7f _ _ aC.out]
     rw [show (128 - 128)=0 from rfl,List.replicate_zero,List.append_nil,List.drop_zero,List.take_of_length_le (l:=List.drop 64 (y6v l r 128)) (by rw [List.length_drop,aC.out];decide)]
    have hm:=HM2.out
    generalize (z6k (z6k (z5c k z1n l) ((y6v l r 128++List.replicate (128 - 128) 0).drop 0 |>.take 64)) ((y6v l r 128++List.replicate (128 - 128) 0).drop 64 |>.take 64))=st at hm hfin
    obtain ⟨z0,z1,z2,z3,z4,z5,z6,z7⟩:=cb8 hm.hs
    have HMd:=hd_ hm.hd;have HMg:=hd_ hm.hg
    clear hm HM0 nB HM2 ff aA au HS HD HG
    rw [rounds_succ];go_wp2
    have hix:=fun (k:Nat) (h:k<8)=>v8d st k h
    have HIX:=hd_ hix
    clear hix
    go_loopw [54] (fun i wr=>j3x w st i wr) (fun i _=>8 - (intOf i).toNat)
    case atStart=>exact ⟨0,by omega,rfl,HMd.out,HMg.out⟩
    case round =>
     obtain ⟨j,hj,rfl,hdj,hgj⟩:=hrel
     have HDJ:=hd_ hdj;have HGJ:=hd_ hgj
     by_cases hlt:j<8
     ·have tk2:Q ((j:Int)<8)=true:=by simp;omega
      have hix:=HIX.out j hlt
      obtain ⟨x,hx⟩:∃ x,st.l.getD j 0=x:=⟨_,rfl⟩
      rw [hx] at hix
      have hst:=hd_ (x7m st j hlt)
      rw [hx] at hst
      have e64:IntKind.u64.wrap (iw x)=iw x:=by have:=j1q x;rw [IntKind.wrap_u64];omega
      have n6:(j:Int)<8:=by omega
      have hsl:=v9d w.heap.size j hlt wr
      have hol:=hd_ (x8f st j (by omega))
      clear hdj hgj hx
      go_wp2_with fail
      refine (y7o w.heap.size (4 * j) 4 (32 - 4 * j) x.toNat _ rfl 165 _ _ HDJ.out (by decide) (by decide) ?c3).mono ?_
      case c3=>rw [z8b,List.length_append,hol.out,List.length_replicate];omega
      rintro e w7 ⟨rfl,nC,io,iS⟩
      rw [hst.out] at nC
      have iT:=hd_ nC;have kI:=hd_ io
      clear nC io iS
      go_wp2_with fail
      go_roundw
      case rel=>exact ⟨j+1,by omega,by go_num,iT.out,z2a HGJ.out kI.out (.inr fun g hg=>by injection hg;omega)⟩
      case measure=>simp [intOf];omega
     ·have hj8:j=8:=by omega
      rw [hj8] at hdj
      have tk2:Q ((j:Int)<8)=R:=by simp;omega
      have hsha:Hid ((st.l.take 8).flatMap (fun x=>be 4 x.toNat)++List.replicate (32 - 4 * 8) 0=sha l):=by
       show _=_;rw [hfin.out,List.take_of_length_le (by simp [S8.l])];simp
      rw [hsha.out] at hdj
      have hrow:Hid (wr.heap[w.heap.size]? = X (Y (z8a (sha l)).toArray 165 (0,0))):=hdj
      have hone:=hd_ (x9f (sha l))
      have hi:=hd_ (x8m (l:=sha l) (y5e l))
      clear hgj hdj HDJ z0 z1 z2 z3 z4 z5 z6 z7
      go_wp2_with (first
       | (with_reducible refine wpList_load_row rfl 165 (.tmp 2) rfl w.heap.size rfl 165 (z8a (sha l)).toArray (0,0) _ hrow.out underlying165 rfl hi.out ?_)
       | (with_reducible refine wpList_store_row rfl 165 (.tmp 2) (.tmp 68) rfl w.heap.size (z8a (sha l)).toArray rfl rfl 165 (z8a (sha l)).toArray hrow.out hi.out rfl hone.out ?_))
      refine bodyPost_ret (v:=.agg (z8a (sha l)).toArray) (results_cell_row rfl _ _ w.heap.size 165 (z8a (sha l)).toArray (0,0) _ rfl (setRow_heap _ _ _ _ _ _ hrow.out) underlying165 rfl hi.out) rfl ?_
      exact ⟨rfl,below_setRow (z7z HGJ.out) (lR _) _⟩
   ·have t55:Q ((55:Int)<(r.length:Int))=R:=by simp;omega
    go_wp2_with fail
    have ei:Hid (CB (w3.setCell ⟨E,r.length,J⟩ (I .u8 128)) E 5 ((splice (z8a y3d) 0 (z8a r)).set r.length (I .u8 128))):=ff.out.set _ _
    have mA:Hid (Below E wo (w3.setCell ⟨E,r.length,J⟩ (I .u8 128))):=aA.out.setCell (lR _) _
    have hl8:((l.length:Int) * 8)=((8 * l.length:Nat):Int):=by omega
    refine (y7o E 56 8 72 (8 * l.length) _ hl8 5 _ _ ei.out (by decide) (by decide) ?c64).mono ?_
    case c64=>rw [List.length_set,length_splice _ _ _ (by simp [z8b,y3d];omega)];simp [z8b,y3d]
    rintro e w5 ⟨rfl,nA,eh,mD⟩
    rw [y8l r 64 (8 * l.length) (by omega) (by omega)] at nA
    have HM0:=hd_ (y8v (e:=y6v l r 64++List.replicate (128 - 64) 0) hE HS.out HD.out HG.out mA.out (by unfold y6v;simp only [List.append_assoc,List.cons_append];exact nA) eh)
    have aC:=hd_ (y0p l r 64 (by omega))
    clear nA eh mD ei mA hl8
    go_wp2_with fail
    refine wp_loop_rounds 2 ?_
    rw [rounds_succ];go_wp2_with fail
    refine (HM0.out.absorb HLd.out 0 128 (by rw [List.length_append,aC.out];simp) (by decide) (by decide)).mono ?_
    rintro e w6 ⟨rfl,mE⟩
    have nB:=hd_ mE
    clear mE
    go_wp2_with fail
    have hfin:Hid (sha l=((z6k (z5c k z1n l) ((y6v l r 64++List.replicate (128 - 64) 0).drop 0 |>.take 64)).l.flatMap fun x=>be 4 x.toNat)):=by
     show sha l=_
     have h0:=y7v l k 64 hk (by rw [Hr.out];omega) (by rw [Hr.out];omega)
     rw [Hr.out] at h0
     rw [h0,x6f _ _ aC.out]
     rw [List.drop_zero,List.take_append_of_le_length (by rw [aC.out];exact lR _),List.take_of_length_le (by rw [aC.out];exact lR _)]
    have hm:=nB.out
    generalize (z6k (z5c k z1n l) ((y6v l r 64++List.replicate (128 - 64) 0).drop 0 |>.take 64))=st at hm hfin
    obtain ⟨z0,z1,z2,z3,z4,z5,z6,z7⟩:=cb8 hm.hs
    have HMd:=hd_ hm.hd;have HMg:=hd_ hm.hg
    clear hm HM0 nB ff aA au HS HD HG
    rw [rounds_succ];go_wp2
    have hix:=fun (k:Nat) (h:k<8)=>v8d st k h
    have HIX:=hd_ hix
    clear hix
    go_loopw [54] (fun i wr=>j3x w st i wr) (fun i _=>8 - (intOf i).toNat)
    case atStart=>exact ⟨0,by omega,rfl,HMd.out,HMg.out⟩
    case round =>
     obtain ⟨j,hj,rfl,hdj,hgj⟩:=hrel
     have HDJ:=hd_ hdj;have HGJ:=hd_ hgj
     by_cases hlt:j<8
     ·have tk2:Q ((j:Int)<8)=true:=by simp;omega
      have hix:=HIX.out j hlt
      obtain ⟨x,hx⟩:∃ x,st.l.getD j 0=x:=⟨_,rfl⟩
      rw [hx] at hix
      have hst:=hd_ (x7m st j hlt)
      rw [hx] at hst
      have e64:IntKind.u64.wrap (iw x)=iw x:=by have:=j1q x;rw [IntKind.wrap_u64];omega
      have n6:(j:Int)<8:=by omega
      have hsl:=v9d w.heap.size j hlt wr
      have hol:=hd_ (x8f st j (by omega))
      clear hdj hgj hx
      go_wp2_with fail
      refine (y7o w.heap.size (4 * j) 4 (32 - 4 * j) x.toNat _ rfl 165 _ _ HDJ.out (by decide) (by decide) ?c3).mono ?_
      case c3=>rw [z8b,List.length_append,hol.out,List.length_replicate];omega
      rintro e w7 ⟨rfl,nC,io,iS⟩
      rw [hst.out] at nC
      have iT:=hd_ nC;have kI:=hd_ io
      clear nC io iS
      go_wp2_with fail
      go_roundw
      case rel=>exact ⟨j+1,by omega,by go_num,iT.out,z2a HGJ.out kI.out (.inr fun g hg=>by injection hg;omega)⟩
      case measure=>simp [intOf];omega
     ·have hj8:j=8:=by omega
      rw [hj8] at hdj
      have tk2:Q ((j:Int)<8)=R:=by simp;omega
      have hsha:Hid ((st.l.take 8).flatMap (fun x=>be 4 x.toNat)++List.replicate (32 - 4 * 8) 0=sha l):=by
       show _=_;rw [hfin.out,List.take_of_length_le (by simp [S8.l])];simp
      rw [hsha.out] at hdj
      have hrow:Hid (wr.heap[w.heap.size]? = X (Y (z8a (sha l)).toArray 165 (0,0))):=hdj
      have hone:=hd_ (x9f (sha l))
      have hi:=hd_ (x8m (l:=sha l) (y5e l))
      clear hgj hdj HDJ z0 z1 z2 z3 z4 z5 z6 z7
      go_wp2_with (first
       | (with_reducible refine wpList_load_row rfl 165 (.tmp 2) rfl w.heap.size rfl 165 (z8a (sha l)).toArray (0,0) _ hrow.out underlying165 rfl hi.out ?_)
       | (with_reducible refine wpList_store_row rfl 165 (.tmp 2) (.tmp 68) rfl w.heap.size (z8a (sha l)).toArray rfl rfl 165 (z8a (sha l)).toArray hrow.out hi.out rfl hone.out ?_))
      refine bodyPost_ret (v:=.agg (z8a (sha l)).toArray) (results_cell_row rfl _ _ w.heap.size 165 (z8a (sha l)).toArray (0,0) _ rfl (setRow_heap _ _ _ _ _ _ hrow.out) underlying165 rfl hi.out) rfl ?_
      exact ⟨rfl,below_setRow (z7z HGJ.out) (lR _) _⟩
end Go.Proofs.YtdblnbnofjggnaaGreatDoor
