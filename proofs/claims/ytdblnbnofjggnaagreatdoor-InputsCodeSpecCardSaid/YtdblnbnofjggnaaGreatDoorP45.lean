/- Parts of the proofs of chapter 49's laws. -/
import Derived.Test.YtdblnbnofjggnaaGreatDoorP18
import Derived.Deep.DeepCutAuto
import Derived.Deep.RegionHeld3
import Derived.Test.YtdblnbnofjggnaaGreatDoorP23
import Derived.Test.YtdblnbnofjggnaaGreatDoorP44
set_option maxHeartbeats 2000000
set_option maxRecDepth 100000
open Go.Lib renaming hid → hd_
open Go.Value renaming int → I
open Go.IntKind renaming i64 → Q
open Go.Obj renaming cells → J
open Go.Ending renaming returned → X
open Option renaming none → R, some → Y
open Bool renaming true → E, false → F
open Decidable renaming decide → O
open Go renaming World → Z, Calls → U
open Go.RowKit renaming Below → T, Hid → S
set_option linter.all false
namespace Go.Proofs.YtdblnbnofjggnaaGreatDoor
open Go.Proofs.Tryz
open Go.RowKit
def cM:Nat:=2305843009213688668
theorem j6u:Lib.bitLen cM+3=64:=by decide +kernel
def x0l (n:Nat) (b:UInt8):Nat:=(256 * n+b.toNat) % cM
theorem v6a (n:Nat) (b:UInt8):bits BinOp.or .u64 (IntKind.u64.wrap ((n:Int) * 256)) (IntKind.u64.wrap (b.toNat:Int))=((n * 256 % 18446744073709551616+b.toNat:Nat):Int):=by
 have hb:=b.toNat_lt
 have e1:IntKind.u64.wrap ((n:Int) * 256)=((n * 256 % 18446744073709551616:Nat):Int):=by
  have:=y0d (n * 256)
  rw [Int.natCast_mul] at this;exact this
 have e2:IntKind.u64.wrap (b.toNat:Int)=((b.toNat:Nat):Int):=Go.Proofs.Mul64.wrapN _ (by omega)
 rw [e1,e2]
 have hA:n * 256 % 18446744073709551616=(n % 72057594037927936) * 2 ^ 8:=by omega
 have ho:=j7w (n * 256 % 18446744073709551616) b.toNat 8 (n % 72057594037927936) hA (by omega)
 have hbo:=bits_or_u64_nat (n * 256 % 18446744073709551616) b.toNat (Nat.mod_lt _ (by decide)) (by omega)
 rw [hbo,ho]
theorem j7u (n:Nat) (b:UInt8) (hn:n<cM):n / 72057594037927936<cM∧n * 256 % 18446744073709551616+b.toNat<18446744073709551616∧(n / 72057594037927936 * 18446744073709551616+(n * 256 % 18446744073709551616+b.toNat)) % cM=x0l n b:=by
 have hb:=b.toNat_lt
 unfold cM at *
 refine ⟨by omega,by omega,?_⟩
 unfold x0l cM
 congr 1;omega
theorem j8u (b:UInt8) (N M n:Nat) (w:Z) (hn:n<cM) (hN:w.cell? ⟨N,0,R⟩=Y (I .u64 n)) (hM:w.cell? ⟨M,0,R⟩=Y (I .u64 (cM:Int))) (hf:w.frozen? ⟨N,0,R⟩=F) :
 U prog 208 #[I .u8 b.toNat,.pointer (Y ⟨N,0,R⟩),.pointer (Y ⟨M,0,R⟩)] w fun e w'=>e=X (.tuple #[])∧w'.cell? ⟨N,0,R⟩=Y (I .u64 (x0l n b:Nat))∧w'.frozen? ⟨N,0,R⟩=F∧w.grownBy w' (Y N):=by
 obtain ⟨h1,h2,h3⟩:=j7u n b hn
 have e0:(n:Int) / 72057594037927936=((n / 72057594037927936:Nat):Int):=by omega
 have e1:=v6a n b
 obtain ⟨hi,hhi⟩:∃ hi,n / 72057594037927936=hi:=⟨_,rfl⟩
 obtain ⟨lo,hlo⟩:∃ lo,n * 256 % 18446744073709551616+b.toNat=lo:=⟨_,rfl⟩
 obtain ⟨m,hm⟩:∃ m,cM=m:=⟨_,rfl⟩
 obtain ⟨r,hr⟩:∃ r,x0l n b=r:=⟨_,rfl⟩
 rw [hhi] at h1 h3 e0;rw [hlo] at h2 h3 e1;rw [hr] at h3 ⊢
 have H1:=hd_ h1;have H2:=hd_ h2;have H3:=hd_ h3
 have hcont:=hd_ (y1e hi lo cM 3 j6u (by decide) (by decide) (by decide) (by decide) h1 h2)
 rw [hm] at hM hcont H3
 clear h1 h2 h3 hhi hlo hr hm H1 H2 hn
 go_enter func208,ntmps208
 go_wp2_with fail
 refine (hcont.out _).mono ?_
 rw [H3.out]
 generalize (hi * 18446744073709551616+lo) / m=qq
 rintro e w1 ⟨rfl,af⟩
 have hNl:=World.block_lt_of_cell? w _ hN
 have c1:=(af.cell (p:=⟨N,0,R⟩) hNl).trans hN
 have f1:=(af.frozen (p:=⟨N,0,R⟩) hNl).trans hf
 have aG:=hd_ af
 clear af
 go_wp2
 go_end0
 refine ⟨rfl,World.cell?_setCell_same _ _ _ c1,by rw [World.frozen?_setCell];exact f1,?_⟩
 exact z8d ⟨aG.out.os,aG.out.tape,aG.out.output,aG.out.size,fun k hk _=>aG.out.block k hk⟩
theorem v7a (l:List UInt8) (hl:l.length=32) (k:Nat) (c:UInt8) (hc:l[k]? = Y c) (w:Z):(Instr.index 165 (dv l) (I Q (k:Int))).run prog w=.ok (I .u8 (c.toNat:Int)) w:=by
 obtain ⟨i,hi,hz,hs,hby⟩:=info_parts (P:=prog) (e:=5) (z:=I .u8 0) (size:=1) (bytes:=1) (by kernel_rfl)
 have hk:k<32:=by have:=(List.getElem?_eq_some_iff.1 hc).1;omega
 have hu:=underlying165
 have hcc:(z8a l)[k]? = Y (I .u8 (c.toNat:Int)):=by simp [z8a,hc]
 have hk2:((k:Int)<32):=by omega
 unfold dv
 simp [Instr.index,asIntOf,run_underlying hu,sizeOf,typeInfo,hi,hs,hk,part,hcc]
def y6i (l:List UInt8):Nat:=l.foldl x0l 0
theorem j9u (n:Nat) (b:UInt8):x0l n b<cM:=Nat.mod_lt _ (by decide)
theorem y6s (l:List UInt8):y6i l<cM:=by
 unfold y6i
 rcases List.eq_nil_or_concat l with rfl|⟨p,c,rfl⟩
 ·decide
 ·rw [List.concat_eq_append,List.foldl_append];exact j9u _ _
theorem x8x (l:List UInt8) (k:Nat) (c:UInt8) (hc:l[k]? = Y c):y6i (l.take (k+1))=x0l (y6i (l.take k)) c:=by
 unfold y6i
 obtain ⟨h1,h2⟩:=List.getElem?_eq_some_iff.1 hc
 rw [List.take_succ_eq_append_getElem h1,h2,List.foldl_append];rfl
def k5h (l:List UInt8) (N:Nat) (w:Z) (i:Value) (wr:Z):Prop :=
 ∃ k:Nat,k≤32∧i=I Q k∧wr.cell? ⟨N,0,R⟩=Y (I .u64 (y6i (l.take k):Nat))∧wr.frozen? ⟨N,0,R⟩=F∧w.grownBy wr (Y N)
theorem j7m (l:List UInt8) (hl:l.length=32) (mi:Int) (hmi:mi=(cM:Int)) (w:Z) :
 U prog 198 #[dv l,I .u64 mi] w fun e w'=>e=X (I .u64 (y6i l:Nat))∧T w.heap.size w w':=by
 have hmf:∀ (fn:Fn) (first cap:Array Value) (w:Z),(Instr.makeFunc fn first cap).run prog w=.ok (.func fn first cap) w:=fun _ _ _ _=>rfl
 have hl':=hd_ hl
 obtain ⟨m,hm⟩:∃ m,cM=m:=⟨_,rfl⟩
 rw [hm] at hmi
 subst hmi
 have Hm:=hd_ hm
 clear hl hm
 have hA:S (CB (((w.alloc (J (z8a l).toArray 165)).alloc (J #[I .u64 m] 183)).alloc (J #[I .u64 0] 183)) w.heap.size 165 (z8a l)):=(Below.heap_alloc _ _ _ (by simp;omega)).trans ((Below.heap_alloc _ _ _ (by simp)).trans (heap_alloc_new w _))
 have hG:=hd_ (z4a (G:=R) (z4a (z4a (z1b w _) (J (z8a l).toArray 165)) (J #[I .u64 m] 183)) (J #[I .u64 0] 183))
 have cM':(((w.alloc (J (z8a l).toArray 165)).alloc (J #[I .u64 m] 183)).alloc (J #[I .u64 0] 183)).cell? ⟨w.heap.size+1,0,R⟩=Y (I .u64 m):=by
  have h:=heap_alloc_new (w.alloc (J (z8a l).toArray 165)) (J #[I .u64 m] 183)
  rw [World.size_alloc] at h
  have aO:CB (((w.alloc (J (z8a l).toArray 165)).alloc (J #[I .u64 m] 183)).alloc (J #[I .u64 0] 183)) (w.heap.size+1) 183 [I .u64 m]:=(Below.heap_alloc _ _ _ (by simp)).trans h
  exact aO.cell 0
 have cN:(((w.alloc (J (z8a l).toArray 165)).alloc (J #[I .u64 m] 183)).alloc (J #[I .u64 0] 183)).cell? ⟨w.heap.size+1+1,0,R⟩=Y (I .u64 0)∧(((w.alloc (J (z8a l).toArray 165)).alloc (J #[I .u64 m] 183)).alloc (J #[I .u64 0] 183)).frozen? ⟨w.heap.size+1+1,0,R⟩=F:=by
  have h:=heap_alloc_new ((w.alloc (J (z8a l).toArray 165)).alloc (J #[I .u64 m] 183)) (J #[I .u64 0] 183)
  rw [World.size_alloc,World.size_alloc] at h
  have aO:CB (((w.alloc (J (z8a l).toArray 165)).alloc (J #[I .u64 m] 183)).alloc (J #[I .u64 0] 183)) (w.heap.size+1+1) 183 [I .u64 0]:=h
  exact ⟨aO.cell 0,aO.frozen 0⟩
 have HcM:=hd_ cM';have HcN:=hd_ cN
 clear cM' cN
 change U prog 198 #[.agg (z8a l).toArray,I .u64 m] w _
 go_enter func198,ntmps198
 go_wp2_with (with_reducible refine y1p (hgd:=rfl) 165 (.tmp 2) rfl w.heap.size l hl'.out rfl 165 _ hA.out underlying165 rfl y1w ?_)
 generalize (((w.alloc (J (z8a l).toArray 165)).alloc (J #[I .u64 m] 183)).alloc (J #[I .u64 0] 183))=w0 at *
 obtain ⟨d,hd⟩:∃ d,dv l=d:=⟨_,rfl⟩
 rw [hd]
 have hidx:=hd_ (fun k c hc w=>v7a l hl'.out k c hc w)
 rw [hd] at hidx
 clear hd
 go_loopw [10] (fun i wr=>k5h l (w.heap.size+1+1) w0 i wr) (fun i _=>32 - (intOf i).toNat)
 case atStart=>exact ⟨0,by omega,rfl,HcN.out.1,HcN.out.2,z1b _ _⟩
 case round =>
  obtain ⟨k,hk,rfl,hc,hf,hg⟩:=hrel
  have HG:=hd_ hg
  by_cases hlt:k<32
  ·have tk:O ((k:Int)<32)=E:=by simp;omega
   obtain ⟨c,hck⟩:∃ c,l[k]? = Y c:=⟨_,List.getElem?_eq_getElem (by rw [hl'.out];exact hlt)⟩
   have hix:=hidx.out k c hck
   have hst:=hd_ (x8x l k c hck)
   obtain ⟨n,hn⟩:∃ n,y6i (l.take k)=n:=⟨_,rfl⟩
   have hnl:n<cM:=by rw [← hn];exact y6s _
   rw [hn] at hc hst
   have hMr:wr.cell? ⟨w.heap.size+1,0,R⟩=Y (I .u64 (cM:Int)):=by rw [Hm.out];exact hg.cell (a:=⟨w.heap.size+1,0,R⟩) HcM.out (by simp)
   have HMr:=hd_ hMr;have ph:=hd_ hnl
   clear hg hck hn hMr hnl
   go_wp2_with fail
   refine (j8u c (w.heap.size+1+1) (w.heap.size+1) n wr ph.out hc HMr.out hf).mono ?_
   rintro e w1 ⟨rfl,cE,hf1,aK⟩
   have cY:=hd_ cE;have HF1:=hd_ hf1;have nz:=hd_ aK
   clear cE hf1 aK
   go_wp2_with fail
   go_roundw
   case rel=>exact ⟨k+1,by omega,by go_num,by rw [hst.out];exact cY.out,HF1.out,z2a HG.out nz.out (.inl rfl)⟩
   case measure=>simp [intOf];omega
  ·have hk32:k=32:=by omega
   have tk:O ((k:Int)<32)=F:=by simp;omega
   rw [hk32,List.take_of_length_le (by rw [hl'.out];exact Nat.le_refl _)] at hc
   obtain ⟨n,hn⟩:∃ n,y6i l=n:=⟨_,rfl⟩
   rw [hn] at hc
   have Hn:=hd_ hn
   have bB:=hd_ (z2a hG.out hg (.inr fun g hg=>by injection hg;omega))
   clear hg hn hk32
   go_wp2
   refine bodyPost_ret (v:=I .u64 n) (by simp [results,results198,go_sem,hc]) rfl ?_
   exact ⟨by rw [Hn.out],(z7z bB.out).setCell (by simp;omega) _⟩
def y8a (t l:List UInt8):Nat:=1+y6i (y7b t l)
theorem x9x (s:ByteArray) (v:Value) (l:List UInt8) (w:Z) (hs:s.size≤100000) (hl:l.length≤100000) (hb:z6c w.heap.size w l v) (hL:Laid w) :
 U prog 176 #[.string s,v] w fun e w'=>e=X (I Q (y8a s.data.toList l:Nat))∧T w.heap.size w w':=by
 have HB:=hd_ hb;have HL:=hd_ hL
 obtain ⟨oa,cap,rfl⟩:=hb.shape
 clear hb hL
 obtain ⟨d,hd⟩:∃ d,y7b s.data.toList l=d:=⟨_,rfl⟩
 have hdl:=hd_ (z4t s.data.toList l)
 rw [hd] at hdl
 have Hd:=hd_ hd
 obtain ⟨n,hn⟩:∃ n,y6i d=n:=⟨_,rfl⟩
 have hnl:n<2305843009213688668:=by rw [← hn];exact y6s d
 have e1:wrap64 (n:Int)=(n:Int):=by unfold wrap64;omega
 have e3:wrap64 (1+(n:Int))=((1+n:Nat):Int):=by unfold wrap64;omega
 have Hn:=hd_ hn;have ph:=hd_ hnl
 have hfin:S (y8a s.data.toList l=1+n):=by show y8a s.data.toList l=1+n;unfold y8a;rw [hd,hn]
 clear hd hn hnl
 go_enter func176,ntmps176
 go_wp2_with fail
 refine (y1m s _ l _ hs hl HB.out HL.out).mono ?_
 rw [Hd.out]
 rintro e w1 ⟨rfl,af⟩
 go_wp2_with fail
 refine (j7m d hdl.out _ rfl _).mono ?_
 rw [Hn.out]
 rintro e w2 ⟨rfl,aj⟩
 have au:=hd_ (z0a af aj)
 clear af aj
 go_wp2
 go_ret
 refine ⟨?_,au.out⟩
 show Ending.returned (I Q (wrap64 (1+(n:Int))))=_
 rw [e3,hfin.out]
section
open Go.RowKit
def u64 (n:Int):Nat:=(IntKind.u64.wrap n).toNat
theorem j0v (n:Int):IntKind.u64.wrap n=(u64 n:Int):=by
 have h:0≤IntKind.u64.wrap n:=by simp only [IntKind.wrap_u64];omega
 unfold u64;omega
def b8 (n:Int):List UInt8:=be 8 (u64 n)
theorem k0v (n:Int):(b8 n).length=8:=y3b _ _
theorem v8a (u j:Nat) (h:j<8) (c:UInt8) (hc:(be 8 u)[j]? = Y c):(u:Int) / 2 ^ (8 * (7 - j)) % 256=(c.toNat:Int):=by
 have h1:=j9w 8 u (7 - j) (by omega)
 rw [show 8 - 1 - (7 - j)=j by omega] at h1
 simp only [z8a,List.getElem?_map,hc,Option.map_some,Option.some.injEq,Value.int.injEq,true_and] at h1
 exact h1.symm
end
section
open Go.RowKit
def v0h (w:Z) (ns:List Int) (v i:Value) (wr:Z):Prop :=
 ∃ k:Nat,k≤ns.length∧i=I Q k∧z3o 5 wr w.heap.size v ((ns.take k).flatMap b8)∧T w.heap.size w wr
def v9a (w:Z) (p B:List UInt8) (v i:Value) (wr:Z):Prop :=
 ∃ j:Nat,j≤8∧i=I Q (56 - 8 * (j:Int))∧z3o 5 wr w.heap.size v (p++B.take j)∧T w.heap.size w wr
theorem flat_len (ns:List Int):(ns.flatMap b8).length=8 * ns.length:=by
 induction ns with
 | nil=>rfl
 | cons a r ih=>rw [List.flatMap_cons,List.length_append,ih,k0v,List.length_cons];omega
theorem y7s (s:ByteArray) (v:Value) (l:List UInt8) (nb n cap:Nat) (ns:List Int) (w:Z) (hs:s.size≤100000) (hl:l.length≤50000) (hb:z6c w.heap.size w l v) (hL:Laid w) (hnl:ns.length=n) (bv:n≤1000)
 (hc:∀ j x,ns[j]? = Y x→w.cell? ⟨nb,j,R⟩=Y (I Q x)) :
 U prog 129 #[.string s,v,.slice (Y ⟨nb,0,R⟩) n cap] w fun e w'=>e=X (I Q (y8a s.data.toList (ns.flatMap b8++l):Nat))∧T w.heap.size w w':=by
 have HB:=hd_ hb;have HL:=hd_ hL;have HC:=hd_ hc;have Hs:=hd_ hs;have Hl:=hd_ hl;have ph:=hd_ hnl;have Hn2:=hd_ bv
 have bn:(n:Int)≤1000:=by omega
 obtain ⟨oa,capm,rfl⟩:=hb.shape
 clear hb hL hc hs hl hnl bv
 go_enter func129,ntmps129
 go_wp2
 go_loopw [7,13] (fun v i wr=>v0h w ns v i wr) (fun _ i _=>n - (intOf i).toNat)
 case atStart=>exact ⟨0,Nat.zero_le _,rfl,z3o.nil _ _ _,Below.refl _ _⟩
 case round =>
  obtain ⟨k,hk,rfl,ho,hb⟩:=hrel
  have HO:=hd_ ho;have aq:=hd_ hb
  obtain ⟨oa3,cp3,rfl⟩:=z3o.form ho
  have hkn:k≤n:=by have:=ph.out;omega
  obtain ⟨p,hp⟩:∃ p,(ns.take k).flatMap b8=p:=⟨_,rfl⟩
  have hpl:p.length=8 * k:=by rw [← hp,flat_len,List.length_take];omega
  rw [hp] at HO ⊢
  have Hp:=hd_ hp;have Hpl:=hd_ hpl
  rw [hpl] at HO ⊢
  clear ho hb hp hpl hk
  by_cases hlt:k<n
  ·have tk:O ((k:Int)<(n:Int))=E:=by simp;omega
   have kQ:O (k<n)=E:=by simp;omega
   obtain ⟨x,hx⟩:∃ x,ns[k]? = Y x:=⟨_,List.getElem?_eq_getElem (by rw [ph.out];exact hlt)⟩
   have cc:wr.cell? ⟨nb,k,R⟩=Y (I Q x):=z1a aq.out (HC.out k x hx)
   have Hx:=hd_ hx
   obtain ⟨u,hu⟩:∃ u,u64 x=u:=⟨_,rfl⟩
   have e0:IntKind.u64.wrap x=(u:Int):=by rw [j0v,hu]
   have Hu:=hd_ hu
   clear hx hu
   go_wp2
   clear cc
   obtain ⟨wo,rfl⟩:∃ wo:Z,wo=wr:=⟨_,rfl⟩
   go_loopw [7,10] (fun v i wr=>v9a w p (be 8 u) v i wr) (fun _ i _=>(intOf i+8).toNat)
   case atStart=>exact ⟨0,Nat.zero_le _,rfl,by rw [List.take_zero,List.append_nil];have h:=HO.out;exact h,aq.out⟩
   case round =>
    obtain ⟨j,hj,rfl,ho,hb⟩:=hrel
    obtain ⟨oa4,cp4,rfl⟩:=z3o.form ho
    have hbl:(be 8 u).length=8:=y3b _ _
    have ia:=hd_ ho;have cH:=hd_ hb
    have hlt4:=hd_ (fun g hg=>(World.ownsRow.lt ho g hg).1)
    obtain ⟨q,hq⟩:∃ q,p++(be 8 u).take j=q:=⟨_,rfl⟩
    have hql:q.length=8 * k+j:=by rw [← hq,List.length_append,Hpl.out,List.length_take,hbl];omega
    rw [hq] at ia hlt4 ⊢
    rw [hql] at ia hlt4 ⊢
    have Hq:=hd_ hq;have Hql:=hd_ hql
    clear ho hb hq hql
    by_cases h8:j<8
    ·have tj:O ((0:Int)≤56 - 8 * (j:Int))=E:=by simp;omega
     have tj2:(0:Int)≤56 - 8 * (j:Int):=by omega
     have tj3:(56:Int) - 8 * (j:Int)≤56:=by omega
     have e5:((56:Int) - 8 * (j:Int)).toNat=8 * (7 - j):=by omega
     have e6:wrap64 (56 - 8 * (j:Int) - 8)=56 - 8 * ((j+1:Nat):Int):=by unfold wrap64;omega
     obtain ⟨c,hc⟩:∃ c,(be 8 u)[j]? = Y c:=⟨_,List.getElem?_eq_getElem (by omega)⟩
     have hxi:=hd_ (v8a u j h8 c hc)
     have htk:=hd_ (k0d _ j c hc)
     have hw1:=hd_ (ia.out.alloc (J #[I .u8 ((u:Int) / 2 ^ (8 * (7 - j)) % 256)] 5));have jE:=hd_ (cH.out.alloc cH.out.size (J #[I .u8 ((u:Int) / 2 ^ (8 * (7 - j)) % 256)] 5))
     clear hc hbl
     go_wp2_with (at_builtin;refine y6e (e:=5) underlying50 (by kernel_rfl) rfl _ _ rfl w.heap.size (.slice oa4 (8 * k+j) cp4) q rfl hw1.out wr.heap.size ((u:Int) / 2 ^ (8 * (7 - j)) % 256) c rfl (by simp) hxi.out (by have:=Hql.out;omega) jE.out.size ?_;intro v5 w5 eA eh ir)
     have bp:T w.heap.size w w5:=jE.out.grown eh jE.out.size hlt4.out
     go_roundw
     case rel=>exact ⟨j+1,by omega,by rw [show (56:Int) - 8 * (j:Int) - 8=56 - 8 * ((j+1:Nat):Int) by omega],by rw [htk.out,← List.append_assoc,Hq.out];exact eA,bp⟩
     case measure=>simp [intOf];omega
    ·have h8':j=8:=by omega
     have tj:O ((0:Int)≤56 - 8 * (j:Int))=F:=by simp;omega
     have hfin:S (q=(ns.take (k+1)).flatMap b8):=by
      show q=_
      rw [← Hq.out,h8',List.take_of_length_le (by rw [hbl];exact Nat.le_refl _),List.take_add_one,Hx.out,List.flatMap_append,Hp.out,← Hu.out]
      simp [b8]
     have hk8:S (8 * k+j=8 * (k+1)):=by show _=_;omega
     clear hbl h8'
     go_wp2
     go_roundw
     case rel=>exact ⟨k+1,by have:=ph.out;omega,by go_num,by rw [← hfin.out];have h:=ia.out;exact h,cH.out⟩
     case measure=>simp [intOf];omega
  ·have hkn':k=n:=by omega
   have tk:O ((k:Int)<(n:Int))=F:=by simp;omega
   have kQ:O (k<n)=F:=by simp;omega
   have hpf:S (p=ns.flatMap b8):=by show p=_;rw [← Hp.out,List.take_of_length_le (by rw [ph.out];omega)]
   have S2:=hd_ (k2b.ofBts (P:=prog) underlying50 (HB.out.ext aq.out))
   have hlt:=hd_ (fun g hg=>(World.ownsRow.lt HO.out g hg).1)
   have h8k:S (8 * k≤8000):=by show _≤_;omega
   clear hkn'
   go_wp2_with (at_builtin;refine z0e (e:=5) underlying50 (by kernel_rfl) rfl _ _ rfl w.heap.size (.slice oa3 (8 * k) cp3) p rfl HO.out _ l rfl S2.out (by have:=Hpl.out;have:=Hl.out;have:=h8k.out;omega) aq.out.size ?_;intro v5 w5 eA eh ir)
   have bp:T w.heap.size w w5:=aq.out.grown eh aq.out.size hlt.out
   have iq:=hd_ (j7b eA);have bZ:=hd_ bp
   clear eA eh ir bp
   go_wp2_with fail
   refine (x9x s _ (p++l) _ Hs.out (by rw [List.length_append,Hpl.out];have:=Hl.out;have:=h8k.out;omega) iq.out (HL.out.ext bZ.out)).mono ?_
   rw [hpf.out]
   rintro e w6 ⟨rfl,dC⟩
   have kM:=hd_ (z0a bZ.out dC)
   clear dC
   go_wp2
   go_ret
   exact ⟨rfl,kM.out⟩
end
open Go.Shelf
def ZSc (x:Int):Prop:=0≤x∧x<(cQ:Int)
theorem j8m {x:Int} (h:¬ ZSc x):x<0∨(cQ:Int)≤x:=by unfold ZSc at h;omega
theorem v6e {x:Int} (h:x<0):O (x<0)=E:=decide_eq_true h
theorem v7e {x:Int} (h:(cQ:Int)≤x):O (x<0)=F∧O ((2305843009213688669:Int)≤x)=E :=
 ⟨decide_eq_false (Int.not_lt.2 (Int.le_trans (by decide:(0:Int)≤(cQ:Int)) h)),decide_eq_true h⟩
theorem x3d (x:Int) (b cap:Nat) (h:S (¬ ZSc x)) (w:Z) (hc:w.cell? ⟨b,0,R⟩=Y (I Q x)) :
 U prog 177 #[.slice (Y ⟨b,0,R⟩) 2 cap] w fun e w'=>e=X (.bool F)∧w=w':=by
 rcases j8m h.out with hx|hx
 ·have t1:=v6e hx
  clear hx
  go_enter func177,ntmps177
  go_wp2
  refine wp_loop_rounds 3 ?_
  rw [rounds_succ];go_wp2
  go_ret
  exact ⟨rfl,rfl⟩
 ·obtain ⟨t1,t2⟩:=v7e hx
  clear hx
  go_enter func177,ntmps177
  go_wp2
  refine wp_loop_rounds 3 ?_
  rw [rounds_succ];go_wp2
  go_ret
  exact ⟨rfl,rfl⟩
theorem x4d (x y:Int) (b cap:Nat) (hx:S (ZSc x)) (h:S (¬ ZSc y)) (w:Z) (hc:w.cell? ⟨b,0,R⟩=Y (I Q x)) (bY:w.cell? ⟨b,1,R⟩=Y (I Q y)) :
 U prog 177 #[.slice (Y ⟨b,0,R⟩) 2 cap] w fun e w'=>e=X (.bool F)∧w=w':=by
 obtain ⟨s1,s2⟩:=y9d hx.out
 rcases j8m h.out with hy|hy
 ·have t1:=v6e hy
  clear hy
  go_enter func177,ntmps177
  go_wp2
  refine wp_loop_rounds 3 ?_
  rw [rounds_succ];go_wp2
  rw [rounds_succ];go_wp2
  go_ret
  exact ⟨rfl,rfl⟩
 ·obtain ⟨t1,t2⟩:=v7e hy
  clear hy
  go_enter func177,ntmps177
  go_wp2
  refine wp_loop_rounds 3 ?_
  rw [rounds_succ];go_wp2
  rw [rounds_succ];go_wp2
  go_ret
  exact ⟨rfl,rfl⟩
def j9m (x y:Int) (f:Nat→Nat→Nat) (w:Z) (e:Ending) (w':Z):Prop :=
 (∃ r k:Int,e=X (.tuple #[I Q r,I Q k])∧((ZSc x∧ZSc y∧r=(f x.toNat y.toNat:Nat)∧k=0)∨(¬ (ZSc x∧ZSc y)∧r=0∧k=1)))∧T w.heap.size w w'
theorem j9m.bad {x y:Int} {f:Nat→Nat→Nat} {w w':Z} (h:¬ (ZSc x∧ZSc y)) (hb:T w.heap.size w w'):j9m x y f w (.returned (.tuple #[I Q 0,I Q 1])) w':=⟨⟨0,1,rfl,.inr ⟨h,rfl,rfl⟩⟩,hb⟩
theorem j1v (x y:Int) (w:Z):U prog 132 #[I Q x,I Q y] w (j9m x y (fun a b=>(a+b) % cQ) w):=by
 by_cases hx:ZSc x
 case neg =>
  have h:=hd_ hx
  have hxy:=hd_ (show ¬ (ZSc x∧ZSc y) from fun h=>hx h.1)
  clear hx
  go_enter func132,ntmps132
  go_wp2_with fail
  refine (x3d x _ _ h _ (by simp)).mono ?_
  rintro e w2 ⟨rfl,rfl⟩
  go_wp2_with fail
  go_ret2
  exact j9m.bad hxy.out ((Below.refl _ _).alloc (Nat.le_refl _) _)
 case pos =>
  by_cases hy:ZSc y
  case neg =>
   have h:=hd_ hy;have h1:=hd_ hx
   have hxy:=hd_ (show ¬ (ZSc x∧ZSc y) from fun h=>hy h.2)
   clear hx hy
   go_enter func132,ntmps132
   go_wp2_with fail
   refine (x4d x y _ _ h1 h _ (by simp) (by simp)).mono ?_
   rintro e w2 ⟨rfl,rfl⟩
   go_wp2_with fail
   go_ret2
   exact j9m.bad hxy.out ((Below.refl _ _).alloc (Nat.le_refl _) _)
  case pos =>
   obtain ⟨a,rfl⟩:∃ a:Nat,x=(a:Int):=⟨x.toNat,by have:=hx.1;omega⟩
   obtain ⟨b,rfl⟩:∃ b:Nat,y=(b:Int):=⟨y.toNat,by have:=hy.1;omega⟩
   refine (x8k a b _ (hd_ (Int.ofNat_lt.1 hx.2)) (hd_ (Int.ofNat_lt.1 hy.2)) (hd_ rfl) w).mono ?_
   rintro e w' ⟨rfl,hb⟩
   exact ⟨⟨_,_,rfl,.inl ⟨hx,hy,rfl,rfl⟩⟩,hb⟩
def ZPr (x:Int):Prop:=1≤x∧x<(cQ:Int)
theorem k6h {x:Int} (h:¬ ZPr x):x<1∨(cQ:Int)≤x:=by unfold ZPr at h;omega
theorem k2a {x:Int} (h:ZPr x):∃ n:Nat,x=(n:Int)∧1≤n∧n<cQ:=⟨x.toNat,by have:=h.1;omega,by have:=h.1;omega,by have:=h.1;have:=h.2;omega⟩
theorem x5d (x:Int) (h:S (ZPr x)) (w:Z):U prog 71 #[I Q x] w fun e w'=>e=X (.bool E)∧w=w':=by
 have t1:O (1≤x)=E:=decide_eq_true h.out.1
 have t2:O (x<(2305843009213688669:Int))=E:=decide_eq_true h.out.2
 go_enter func71,ntmps71
 go_wp2
 go_ret
 exact ⟨rfl,rfl⟩
theorem x5q (x:Int) (h:S (¬ ZPr x)) (w:Z):U prog 71 #[I Q x] w fun e w'=>e=X (.bool F)∧w=w':=by
 rcases k6h h.out with hx|hx
 ·have t1:O (1≤x)=F:=decide_eq_false (by omega)
  clear hx
  go_enter func71,ntmps71
  go_wp2
  go_ret
  exact ⟨rfl,rfl⟩
 ·have t1:O (1≤x)=E:=decide_eq_true (Int.le_trans (by decide:(1:Int)≤(cQ:Int)) hx)
  have t2:O (x<(2305843009213688669:Int))=F:=decide_eq_false (Int.not_lt.2 hx)
  clear hx
  go_enter func71,ntmps71
  go_wp2
  go_ret
  exact ⟨rfl,rfl⟩
theorem y0o (n r:Nat) (hn:S (n<cQ)) (hr:S (pw 4 n=r)) (w:Z):U prog 72 #[I Q n] w fun e w'=>e=X (I Q r)∧T w.heap.size w w':=by
 go_enter func72,ntmps72
 go_wp2_with fail
 refine (x9k n r hn hr _).mono ?_
 rintro e w1 ⟨rfl,hb⟩
 go_wp2_with fail
 go_ret
 exact ⟨rfl,hb⟩
theorem j0n (n r:Nat) (hn:S (ZPr (n:Int))) (hr:S (pw 4 n=r)) (w:Z):U prog 25 #[I Q n] w fun e w'=>e=X (.tuple #[I Q r,I Q 0])∧T w.heap.size w w':=by
 have hnl:S (n<cQ):=Int.ofNat_lt.1 hn.out.2
 go_enter func25,ntmps25
 go_wp2_with fail
 refine (x5d n hn _).mono ?_
 rintro e w1 ⟨rfl,rfl⟩
 go_wp2_with fail
 refine (y0o n r hnl hr _).mono ?_
 rintro e w1 ⟨rfl,hb⟩
 go_wp2_with fail
 go_ret2
 exact ⟨rfl,hb⟩
theorem x0y (x:Int) (hx:S (¬ ZPr x)) (w:Z):U prog 25 #[I Q x] w fun e w'=>e=X (.tuple #[I Q 0,I Q 40])∧w=w':=by
 go_enter func25,ntmps25
 go_wp2_with fail
 refine (x5q x hx _).mono ?_
 rintro e w1 ⟨rfl,rfl⟩
 go_wp2_with fail
 go_ret2
 exact ⟨rfl,rfl⟩
theorem x1y (x:Int) (hx:S (ZSc x)) (w:Z):U prog 143 #[I Q x] w fun e w'=>e=X (I Q 0)∧T w.heap.size w w':=by
 obtain ⟨n,rfl⟩:∃ n:Nat,x=(n:Int):=⟨x.toNat,by have:=hx.out.1;omega⟩
 have hn:S (n<cQ):=Int.ofNat_lt.1 hx.out.2
 have ig:S ((n+0) % cQ=n):=Nat.mod_eq_of_lt hn.out
 go_enter func143,ntmps143
 go_wp2_with fail
 refine (x8k n 0 n hn (hd_ (by decide)) ig _).mono ?_
 rintro e w1 ⟨rfl,hb⟩
 go_wp2_with fail
 go_ret
 exact ⟨rfl,hb⟩
theorem j1n (x:Int) (hx:S (¬ ZSc x)) (w:Z):U prog 143 #[I Q x] w fun e w'=>e=X (I Q 1)∧T w.heap.size w w':=by
 go_enter func143,ntmps143
 go_wp2_with fail
 refine (j1v x 0 _).mono ?_
 rintro e w1 ⟨⟨r,k,rfl,hc⟩,hb⟩
 obtain ⟨rfl,rfl⟩:r=0∧k=1:=by
  rcases hc with ⟨h1,_⟩|⟨_,h1,h2⟩
  ·exact absurd h1 hx.out
  ·exact ⟨h1,h2⟩
 clear hc
 go_wp2_with fail
 go_ret
 exact ⟨rfl,hb⟩
end Go.Proofs.YtdblnbnofjggnaaGreatDoor
