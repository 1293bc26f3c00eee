/- Parts of the proofs of chapter 49's laws. -/
import Derived.Test.YtdblnbnofjggnaaGreatDoorP03
import Derived.Test.YtdblnbnofjggnaaGreatDoorP05
import Derived.RangeFuncFrom
import Derived.RangeFuncNested
import Derived.RangeFuncBound
import Derived.Shelf.RegionOpen
import Derived.OwnWalkIn
import Derived.LoopNIn
import Derived.LoopIn
set_option maxHeartbeats 2000000
set_option maxRecDepth 100000
open Go.Lib renaming hid → hd_
open Go.World renaming size_alloc → sA
open Go.Value renaming int → I, bool → E, pointer → S
open Go.IntKind renaming i64 → Y
open Go.Obj renaming cells → T
open Go.Ending renaming returned → X
open Option renaming none → Z, some → M
open Bool renaming false → O
open Go renaming World → Q, Calls → F
open Go.RowKit renaming Below → U, Hid → G
set_option linter.all false
namespace Go.Proofs.YtdblnbnofjggnaaGreatDoor
open Go.Proofs.Tryz
open Go.RowKit Go.Shelf
theorem z6h {w w':Q} (h:U w.heap.size w w'):KeepsOthers w w' :=
 KeepsOthers.of_grownBy (row:=Z) ⟨h.os,h.tape,h.output,h.size,fun k hk _=>h.block k hk⟩ (by simp)
theorem j9t:Lib.bitLen cP+2=64:=by decide +kernel
theorem j0u:Lib.bitLen cQ+3=64:=by decide +kernel
theorem j1u (hi lo:Nat) (yi:Int) (hyi:yi=(cP:Int)) (hh:hi<cP) (hlo:G (lo<18446744073709551616)) (w:Q) :
 F prog 179 #[I .u64 hi,I .u64 lo,I .u64 yi] w fun e w'=>e=X (.tuple #[I .u64 (((hi * 18446744073709551616+lo) / cP:Nat):Int),I .u64 (((hi * 18446744073709551616+lo) % cP:Nat):Int)])∧U w.heap.size w w':=by
 subst hyi
 exact y1e hi lo cP 2 j9t (by decide) (by decide) (by decide) (by decide) hh hlo w
theorem j2u (hi lo:Nat) (yi:Int) (hyi:yi=(cQ:Int)) (hh:hi<cQ) (hlo:G (lo<18446744073709551616)) (w:Q) :
 F prog 179 #[I .u64 hi,I .u64 lo,I .u64 yi] w fun e w'=>e=X (.tuple #[I .u64 (((hi * 18446744073709551616+lo) / cQ:Nat):Int),I .u64 (((hi * 18446744073709551616+lo) % cQ:Nat):Int)])∧U w.heap.size w w':=by
 subst hyi
 exact y1e hi lo cQ 3 j0u (by decide) (by decide) (by decide) (by decide) hh hlo w
theorem j1m {x y m:Nat} (hx:x<m) (hy:y<m) (hm:m≤18446744073709551616):x * y / 18446744073709551616<m:=by
 refine (Nat.div_lt_iff_lt_mul (by decide)).2 ?_
 have h1:x * y<m * m:=Nat.mul_lt_mul'' hx hy
 have h2:m * m≤m * 18446744073709551616:=Nat.mul_le_mul_left _ hm
 omega
theorem j2m (x y:Nat) (hx:G (x<cP)) (hy:G (y<cP)) (w:Q):F prog 189 #[I .u64 x,I .u64 y] w fun e w'=>e=X (I .u64 ((x * y % cP:Nat):Int))∧U w.heap.size w w':=by
 have hP:cP≤18446744073709551616:=by decide
 have hhi:=hd_ (j1m hx.out hy.out hP)
 have hlo:G (x * y % 18446744073709551616<18446744073709551616):=Nat.mod_lt _ (by decide)
 have hdm:G (x * y / 18446744073709551616 * 18446744073709551616+x * y % 18446744073709551616=x * y):=by show _=_;rw [Nat.mul_comm];exact Nat.div_add_mod _ _
 clear hP
 go_enter func189,ntmps189
 go_wp2_with fail
 refine (y0u x y (Nat.lt_trans hx.out (by decide)) (Nat.lt_trans hy.out (by decide)) _).mono ?_
 rintro e w1 ⟨rfl,rfl⟩
 generalize x * y / 18446744073709551616=hi at *
 generalize x * y % 18446744073709551616=lo at *
 go_wp2_with fail
 refine (j1u hi lo _ rfl hhi.out hlo _).mono ?_
 rw [hdm.out]
 rintro e w2 ⟨rfl,hb⟩
 generalize x * y / cP=qq
 generalize hR:x * y % cP=R
 have HR:=hd_ hR;clear hR
 go_wp2_with fail
 go_ret
 exact ⟨by rw [HR.out];rfl,hb⟩
theorem x9c (k:Nat) (h:k<18446744073709551616):k<2 ^ Lib.bitLen k∧Lib.bitLen k≤64:=by
 refine ⟨?_,Lib.bitLen_le k 64 (Nat.le_refl _) (by simpa using h)⟩
 induction k using Nat.strongRecOn with
 | ind k ih =>
  by_cases h0:k=0
  ·subst h0;exact Nat.two_pow_pos _
  ·have hk:=Lib.bitLen_half k h0 (by simpa using h)
   have:=ih (k / 2) (by omega) (by omega)
   rw [hk,Nat.add_comm,Nat.pow_succ];omega
attribute [local go_sem] Oper.semAt_some
theorem x4x (k:Nat) (w:Q):F prog 205 #[I .u64 k] w fun e w'=>e=X (.func (.func 216) #[] #[S (M ⟨w.heap.size,0,Z⟩)])∧w'=w.alloc (T #[I .u64 k] 183):=by
 have hmf:∀ (fn:Fn) (first cap:Array Value) (w:Q),(Instr.makeFunc fn first cap).run prog w=.ok (.func fn first cap) w:=fun _ _ _ _=>rfl
 go_enter func205,ntmps205
 go_wp2
 go_ret
 exact ⟨rfl,rfl⟩
theorem x5x (n k c:Nat) (h:c<n):(z4u n k).take (c+1)=(z4u n k).take c++[k / 2 ^ (n - 1 - c) % 2 == 1]:=by
 rw [List.take_add_one,y9t n k c h];rfl
theorem k4h (d:Nat) (h:d<18446744073709551616):bits .and .u64 (d:Int) 1=((d % 2:Nat):Int):=by
 have:=bits_and_u64_nat d 1 h (by decide)
 rw [Nat.and_one_is_mod] at this
 exact this
def y2c (Bk:Nat) (A B:Q):Prop:=B.heap[Bk]? = A.heap[Bk]?
theorem y2c.trans {Bk:Nat} {A B C:Q} (h:y2c Bk A B) (h2:y2c Bk B C):y2c Bk A C:=Eq.trans h2 h
theorem x6x (n:Nat) (hn:1≤n) (l Bk k:Nat) (hk:G (k<18446744073709551616)) (J Jx:List Bool→Q→Prop)
 (hY:∀ pre x W,J pre W→pre.length<Lib.bitLen k→YieldAt Fence.wide (n - 1) prog l #[E x] W fun e W' =>
  (e=X (E true)∧J (pre++[x]) W'∧y2c Bk W W')∨(e=X (E O)∧Jx (pre++[x]) W'))
 (W:Q) (hc:W.cell? ⟨Bk,0,Z⟩=M (I .u64 k)) (h0:J [] W) :
 CallsIn Fence.wide n prog 216 #[.func (.yield l) #[] #[],S (M ⟨Bk,0,Z⟩)] W fun e W'=>(∃ v,e=X v) ∧
  ((∃ ys,ys=z4u (Lib.bitLen k) k∧J ys W')∨(∃ pre,(pre <+: z4u (Lib.bitLen k) k)∧Jx pre W')):=by
 have hlen:=(x9c k hk.out).2
 refine callsIn_of_wp func216 rfl trivial ?_ rfl
 simp only [ntmps216,List.size_toArray,List.length_cons,List.length_nil,Nat.reduceAdd,Nat.reduceSub,Array.replicate_succ,Array.replicate_zero,List.push_toArray,List.append_toArray,List.nil_append,List.cons_append]
 have HY:=hd_ hY;clear hY
 gi_wp2_with (refine ⟨trivial,?_⟩;gi_at_call 209;refine (callsIn_wide.2 (y9k (k:Int) _ (by omega) (by have:=hk.out;omega))).mono ?_;rintro e w' ⟨rfl,hw⟩;obtain rfl:=hw.symm)
 obtain ⟨L,hL⟩:∃ L,Lib.bitLen k=L:=⟨_,rfl⟩
 rw [hL] at hlen HY ⊢
 have HL:=hd_ hL;clear hL
 gi_loopw [3] (fun i wr=>∃ (c:Nat) (z:Int),c≤L∧i=I Y z∧G (z=(L:Int) - 1 - (c:Int))∧J ((z4u L k).take c) wr∧y2c Bk W wr) (fun i _=>(intOf i+1).toNat)
 case atStart=>exact ⟨0,_,Nat.zero_le _,rfl,(by show _=_;omega),by simpa using h0,(rfl:y2c Bk W W)⟩
 case round =>
  obtain ⟨c,z,hcl,rfl,hz,hJ,hb⟩:=hrel
  have hkc:wr.cell? ⟨Bk,0,Z⟩=M (I .u64 k):=(World.cell?_of_block (w:=W) (show wr.heap[Bk]? = W.heap[Bk]? from hb)).trans hc
  by_cases hlt:c<L
  case neg =>
   have hz':z<0:=by have:=hz.out;omega
   gi_wp2
   go_end0
   exact ⟨⟨_,rfl⟩,.inl ⟨_,rfl,by rw [List.take_of_length_le (by rw [z0m];omega)] at hJ;rw [HL.out];exact hJ⟩⟩
  case pos =>
   obtain ⟨j,hj⟩:∃ j:Nat,z=(j:Int):=⟨L - 1 - c,by have:=hz.out;omega⟩
   subst hj
   have hjL:L - 1 - c=j:=by have:=hz.out;omega
   have hj63:(j:Int)≤63:=by omega
   obtain ⟨d,hd⟩:∃ d,k / 2 ^ j=d:=⟨_,rfl⟩
   have hdk:d<18446744073709551616:=by rw [← hd];exact Nat.lt_of_le_of_lt (Nat.div_le_self _ _) hk.out
   have g1:(k:Int) / 2 ^ j=(d:Int):=by rw [← hd,Int.natCast_ediv,Int.natCast_pow];rfl
   have g2:=k4h d hdk
   have Ht:=hd_ (x5x L k c hlt)
   have Hd:=hd_ hd
   have HjL:=hd_ hjL
   clear hdk hd hjL
   rcases Nat.mod_two_eq_zero_or_one d with hm|hm
   all_goals
    have Hm:=hd_ hm
    rw [hm] at g2
    clear hm
   ·obtain ⟨fn,tmps,assign,body,hy,hR⟩:=HY.out _ O wr hJ (by rw [List.length_take,z0m];omega)
    gi_wp2
    refine hR.mono ?_
    rintro e W3 (⟨rfl,hJ3,hk3⟩|⟨rfl,hJx3⟩)
    ·gi_wp2
     have ht:=Ht.out
     rw [HjL.out,Hd.out,Hm.out] at ht
     refine ⟨⟨c+1,_,by omega,rfl,(by show _=_;have:=hz.out;omega),by rw [ht];exact hJ3,hb.trans hk3⟩,by simp [intOf] <;> omega⟩
    ·gi_wp2
     refine bodyPost_ret (results_none rfl _ _ _) rfl ?_
     have ht:=Ht.out
     rw [HjL.out,Hd.out,Hm.out] at ht
     exact ⟨⟨_,rfl⟩,.inr ⟨_,List.take_prefix (c+1) _,by rw [HL.out,ht];exact hJx3⟩⟩
   ·obtain ⟨fn,tmps,assign,body,hy,hR⟩:=HY.out _ true wr hJ (by rw [List.length_take,z0m];omega)
    gi_wp2
    refine hR.mono ?_
    rintro e W3 (⟨rfl,hJ3,hk3⟩|⟨rfl,hJx3⟩)
    ·gi_wp2
     have ht:=Ht.out
     rw [HjL.out,Hd.out,Hm.out] at ht
     refine ⟨⟨c+1,_,by omega,rfl,(by show _=_;have:=hz.out;omega),by rw [ht];exact hJ3,hb.trans hk3⟩,by simp [intOf] <;> omega⟩
    ·gi_wp2
     refine bodyPost_ret (results_none rfl _ _ _) rfl ?_
     have ht:=Ht.out
     rw [HjL.out,Hd.out,Hm.out] at ht
     exact ⟨⟨_,rfl⟩,.inr ⟨_,List.take_prefix (c+1) _,by rw [HL.out,ht];exact hJx3⟩⟩
attribute [local go_sem] Oper.semAt_some
theorem y5s {W:Q} {B:Nat} {v:Value} {t:TypeId} (h:W.heap[B]? = M (T #[v] t (0,0))):W.cell? ⟨B,0,Z⟩=M v∧W.frozen? ⟨B,0,Z⟩=O:=by
 constructor <;> simp [World.cell?,World.frozen?,h]
theorem z1u (W:Q) (v:Value) (t:TypeId):(W.alloc (T #[v] t)).cell? ⟨W.heap.size,0,Z⟩=M v∧(W.alloc (T #[v] t)).frozen? ⟨W.heap.size,0,Z⟩=O :=
 y5s (World.alloc_heap_new W _)
theorem z5s {W:Q} {a:Addr} {v:Value} (o:Obj) (h:W.cell? a=M v):(W.alloc o).cell? a=M v:=cell_kept h (World.grownBy_alloc W o Z) (fun r e=>by cases e)
theorem y4k {W:Q} {a:Addr} {v:Value} (o:Obj) (h:W.cell? a=M v) (hf:W.frozen? a=O):(W.alloc o).frozen? a=O:=(frozen_kept h (World.grownBy_alloc W o Z) (fun r e=>by cases e)).trans hf
theorem y7d (x y r:Nat) (hr:G (x * y % cP=r)) (hx:G (x<cP)) (hy:G (y<cP)) (w:Q):F prog 189 #[I .u64 x,I .u64 y] w fun e w'=>e=X (I .u64 (r:Int))∧U w.heap.size w w':=by
 have h:=j2m x y hx hy w
 rw [hr.out] at h;exact h
theorem x0d (n:Nat) (hn:1≤n) (Bk k:Nat) (hk:G (k<18446744073709551616)) (w:Q) (hBk:Bk<w.heap.size) (hc:w.cell? ⟨Bk,0,Z⟩=M (I .u64 k)) :
 SeqStopsK Fence.wide n prog 216 #[S (M ⟨Bk,0,Z⟩)] (fun x:Bool=>#[E x]) (y2c Bk) (fun ys=>ys=z4u (Lib.bitLen k) k) (fun pre=>pre <+: z4u (Lib.bitLen k) k) (Lib.bitLen k) w:=fun l J Jx W hW _ _ hY h0=>by
 have hc':=(hW.cell (p:=⟨Bk,0,Z⟩) (by show Bk<w.heap.size;omega)).trans hc
 exact (x6x n hn l Bk k hk J Jx hY W hc' h0)
theorem j3u {w:Q} {Bk:Nat} (h:Bk<w.heap.size):∀ (W:Q) (l:Nat) (o o':Obj),w.heap.size≤l→W.heap[l]? = M o→o.isCells=O→o.isWalk=O→y2c Bk W (W.putObj l o') :=
 fun W l o o' hl _ _ _=>World.putObj_heap_other (by omega)
theorem x1d (a k:Nat) (ha:G (a<cP)) (hk:G (k<18446744073709551616)) (w:Q):F prog 188 #[I .u64 a,I .u64 k] w fun e w'=>e=X (I .u64 ((pw a k:Nat):Int))∧U w.heap.size w w':=by
 refine (callsIn_wide (n:=9)).1 ?_
 refine callsIn_of_wp_marks func188 rfl trivial ?_ rfl
 simp only [ntmps188,List.size_toArray,List.length_cons,List.length_nil,Nat.reduceAdd,Nat.reduceSub,Array.replicate_succ,Array.replicate_zero,List.push_toArray,List.append_toArray,List.nil_append,List.cons_append]
 gi_wp2_with (refine ⟨trivial,?_⟩;gi_at_call 205;refine (callsIn_wide.2 (x4x k _)).mono ?_;rintro e w' ⟨rfl,hw⟩;obtain rfl:=hw.symm)
 obtain ⟨W0,ng⟩:∃ W0,((w.alloc (T #[I .u64 a] 183)).alloc (T #[I .u64 1] 183)).alloc (T #[I .u64 k] 183)=W0:=⟨_,rfl⟩
 have hs0:W0.heap.size=w.heap.size+1+1+1:=by rw [← ng,sA,sA,sA]
 have ca:W0.cell? ⟨w.heap.size,0,Z⟩=M (I .u64 a):=by rw [← ng];exact z5s _ (z5s _ (z1u w _ _).1)
 have cc:W0.cell? ⟨w.heap.size+1,0,Z⟩=M (I .u64 1):=by
  rw [← ng]
  have h:=(z1u (w.alloc (T #[I .u64 a] 183)) (I .u64 1) 183).1
  rw [sA] at h;exact z5s _ h
 have fc:W0.frozen? ⟨w.heap.size+1,0,Z⟩=O:=by
  rw [← ng]
  have h:=z1u (w.alloc (T #[I .u64 a] 183)) (I .u64 1) 183
  rw [sA] at h
  exact y4k _ h.1 h.2
 have ck:W0.cell? ⟨w.heap.size+1+1,0,Z⟩=M (I .u64 k):=by
  rw [← ng]
  have h:=(z1u ((w.alloc (T #[I .u64 a] 183)).alloc (T #[I .u64 1] 183)) (I .u64 k) 183).1
  rw [sA,sA] at h;exact h
 have hB0:U w.heap.size w W0:=by rw [← ng];exact (((Below.refl _ w).alloc (Nat.le_refl _) _).alloc (by simp) _).alloc (by simp;omega) _
 rw [ng]
 clear ng
 refine wpIn_rangeFunc_ownF rfl (by decide) (gf:=216) (lb:=#[S (M ⟨w.heap.size+1+1,0,Z⟩)]) rfl trivial (enters_of func216 (by kernel_rfl) rfl)
  (x0d 8 (by decide) (w.heap.size+1+1) k hk W0 (by omega) ck) y2c.trans (j3u (by omega)) (Below.refl _ _) (fun _=>rfl)
  (fun pre W=>(W.cell? ⟨w.heap.size,0,Z⟩=M (I .u64 a)∧W.cell? ⟨w.heap.size+1,0,Z⟩=M (I .u64 ((pw a (x5z pre):Nat):Int))∧W.frozen? ⟨w.heap.size+1,0,Z⟩=O∧W.cell? ⟨w.heap.size+1+1,0,Z⟩=M (I .u64 k))∧U w.heap.size w W)
  (fun _ _ _=>False)
  (OwnFrom.and (Own.from (fun s A B row hs hg hr=>⟨cell_kept hs.1 hg hr,cell_kept hs.2.1 hg hr,(frozen_kept hs.2.1 hg hr).trans hs.2.2.1,cell_kept hs.2.2.2 hg hr⟩) _) (ownFrom_below (Nat.le_refl _) (by omega)))
  (fun _ _ _ _ _ hs _ _=>hs)
  ⟨⟨ca,by rw [cc];exact congrArg (fun z=>M (I .u64 z)) (by have:=k9a a;show (1:Int)=((pw a (x5z []):Nat):Int);rw [show x5z []=0 from rfl,this];rfl),fc,ck⟩,hB0⟩
  (fun x=>{ tmps:=#[I .u64 a,I .u64 k,S (M ⟨w.heap.size,0,Z⟩),undef,I .u64 0,S (M ⟨w.heap.size+1,0,Z⟩),E x,I .u64 k,.func (.func 216) #[] #[S (M ⟨w.heap.size+1+1,0,Z⟩)],E x,undef,undef,undef,undef,undef,undef,undef,undef],defers:=[] }) ?assign ?body ?done ?stop
 case assign =>
  intro l x W K hK
  gi_wp2
  exact hK
 case body =>
  rintro l pre x W ⟨⟨cE,bY,pb,hc4⟩,hB⟩ _
  have hW2:w.heap.size+1+1<W.heap.size:=World.block_lt_of_cell? W _ hc4
  have hbl:w.heap.size+1<W.heap.size:=World.block_lt_of_cell? W _ bY
  have hlt:=k8a a (x5z pre)
  obtain ⟨v,hv⟩:∃ v,x5z pre=v:=⟨_,rfl⟩
  have hsn:=hd_ (y8t pre x)
  rw [hv] at bY hlt hsn
  obtain ⟨c,hc⟩:∃ c,pw a v=c:=⟨_,rfl⟩
  rw [hc] at bY hlt
  have aN:=hd_ hlt
  have h0:=hd_ (j5p a v)
  have h1:=hd_ (j6p a v)
  rw [hc] at h0
  clear hlt hv hc
  obtain ⟨c2,e2⟩:∃ c2,pw a (2 * v)=c2:=⟨_,rfl⟩
  obtain ⟨c3,e3⟩:∃ c3,pw a (2 * v+1)=c3:=⟨_,rfl⟩
  rw [e2] at h0 h1
  rw [e3] at h1
  have Hc2:G (c2<cP):=by show _<_;rw [← e2];exact k8a _ _
  have E2:=hd_ e2;have E3:=hd_ e3
  clear e2 e3
  cases x with
  | false =>
   gi_wp2_with fail
   refine ⟨trivial,?_⟩
   refine (CallsIn.inRound l (callsIn_wide.2 (y7d c c c2 h0 aN aN _))).mono ?_
   rintro e W1 ⟨rfl,af⟩
   have d1:=z1a af cE
   have d2:=z1a af bY
   have d4:=z1a af hc4
   have df:W1.frozen? ⟨w.heap.size+1,0,Z⟩=O:=(af.frozen (p:=⟨w.heap.size+1,0,Z⟩) hbl).trans pb
   have hbl1:w.heap.size+1<W1.heap.size:=World.block_lt_of_cell? W1 _ d2
   clear cE bY pb hc4
   gi_wp2_with fail
   refine ⟨(z6h af).trans (KeepsOthers.setCell _ _ _),(Below.heap_setCell _ _ _ _ (by show w.heap.size+1+1≠w.heap.size+1;omega)).trans (af.block _ hW2),⟨?_,?_,?_,?_⟩,?_⟩
   ·rw [World.cell?_setCell_other _ _ _ _ (by simp)];exact d1
   ·rw [hsn.out];simp only [Bool.false_eq_true,if_false,Nat.add_zero];rw [E2.out];exact World.cell?_setCell_same' _ _ _ (by rw [d2];rfl)
   ·rw [World.frozen?_setCell];exact df
   ·rw [World.cell?_setCell_other _ _ _ _ (by simp)];exact d4
   ·exact (z0a hB af).setCell (p:=⟨w.heap.size+1,0,Z⟩) (by show _≤w.heap.size+1;omega) _
  | true =>
   gi_wp2_with fail
   refine ⟨trivial,?_⟩
   refine (CallsIn.inRound l (callsIn_wide.2 (y7d c c c2 h0 aN aN _))).mono ?_
   rintro e W1 ⟨rfl,af⟩
   have d1:=z1a af cE
   have d2:=z1a af bY
   have d4:=z1a af hc4
   have df:W1.frozen? ⟨w.heap.size+1,0,Z⟩=O:=(af.frozen (p:=⟨w.heap.size+1,0,Z⟩) hbl).trans pb
   have hbl1:w.heap.size+1<W1.heap.size:=World.block_lt_of_cell? W1 _ d2
   clear cE bY pb hc4
   have s1:(W1.setCell ⟨w.heap.size+1,0,Z⟩ (I .u64 (c2:Int))).cell? ⟨w.heap.size,0,Z⟩=M (I .u64 a):=by rw [World.cell?_setCell_other _ _ _ _ (by simp)];exact d1
   have s2:(W1.setCell ⟨w.heap.size+1,0,Z⟩ (I .u64 (c2:Int))).cell? ⟨w.heap.size+1,0,Z⟩=M (I .u64 (c2:Int)):=World.cell?_setCell_same' _ _ _ (by rw [d2];rfl)
   have s4:(W1.setCell ⟨w.heap.size+1,0,Z⟩ (I .u64 (c2:Int))).cell? ⟨w.heap.size+1+1,0,Z⟩=M (I .u64 k):=by rw [World.cell?_setCell_other _ _ _ _ (by simp)];exact d4
   have sf:(W1.setCell ⟨w.heap.size+1,0,Z⟩ (I .u64 (c2:Int))).frozen? ⟨w.heap.size+1,0,Z⟩=O:=by rw [World.frozen?_setCell];exact df
   gi_wp2_with fail
   refine ⟨trivial,?_⟩
   refine (CallsIn.inRound l (callsIn_wide.2 (y7d c2 a c3 h1 Hc2 ha _))).mono ?_
   rintro e W2 ⟨rfl,aj⟩
   have z1:=z1a aj s1
   have z2:=z1a aj s2
   have z4:=z1a aj s4
   have zf:W2.frozen? ⟨w.heap.size+1,0,Z⟩=O:=(aj.frozen (p:=⟨w.heap.size+1,0,Z⟩) (World.block_lt_of_cell? _ _ s2)).trans sf
   have hW12:w.heap.size+1+1<W1.heap.size:=World.block_lt_of_cell? W1 _ d4
   have hsz:(W1.setCell ⟨w.heap.size+1,0,Z⟩ (I .u64 (c2:Int))).heap.size=W1.heap.size:=by simp [World.setCell]
   have iU:=(z0a hB af).setCell (p:=⟨w.heap.size+1,0,Z⟩) (by show _≤w.heap.size+1;omega) (I .u64 (c2:Int))
   clear s1 s2 s4 sf d1 d2 d4 df
   gi_wp2_with fail
   refine ⟨(((z6h af).trans (KeepsOthers.setCell _ _ _)).trans (z6h aj)).trans (KeepsOthers.setCell _ _ _),?_,⟨?_,?_,?_,?_⟩,?_⟩
   ·exact (Below.heap_setCell _ _ _ _ (by show w.heap.size+1+1≠w.heap.size+1;omega)).trans ((aj.block _ (by rw [hsz];exact hW12)).trans ((Below.heap_setCell _ _ _ _ (by show w.heap.size+1+1≠w.heap.size+1;omega)).trans (af.block _ hW2)))
   ·rw [World.cell?_setCell_other _ _ _ _ (by simp)];exact z1
   ·rw [hsn.out];simp only [if_true];rw [E3.out];exact World.cell?_setCell_same' _ _ _ (by rw [z2];rfl)
   ·rw [World.frozen?_setCell];exact zf
   ·rw [World.cell?_setCell_other _ _ _ _ (by simp)];exact z4
   ·exact (iU.trans (aj.mono iU.size)).setCell (p:=⟨w.heap.size+1,0,Z⟩) (by show _≤w.heap.size+1;omega) _
 case done =>
  rintro D ys W hD rfl ⟨⟨_,hc,_,_⟩,hB⟩ hK
  gi_wp2
  refine ⟨by simp,.inl ⟨_,_,rfl,run_takeDeferred hK,?_⟩⟩
  have hv:x5z (z4u (Lib.bitLen k) k)=k:=y8k _ _ (x9c k hk.out).1
  exact ⟨_,results_tmp rfl _ _ _,by show Ending.returned (I .u64 ((pw a (x5z (z4u (Lib.bitLen k) k)):Nat):Int))=_;rw [hv],hB.trans (belowK_b (w:=w) (Nat.le_refl _) W D _ _ (by omega) hK rfl rfl)⟩
 case stop =>
  rintro D c pre W _ _ h _
  exact h.elim
theorem j3m (a r:Nat) (hr:G (pw a cQ=r)) (ha:G (a<cP)) (yi:Int) (hy:yi=(cQ:Int)) (w:Q):F prog 188 #[I .u64 a,I .u64 yi] w fun e w'=>e=X (I .u64 (r:Int))∧U w.heap.size w w':=by
 subst hy
 have h:=x1d a cQ ha (hd_ (by decide)) w
 rw [hr.out] at h;exact h
theorem j4u (a k r:Nat) (hr:G (pw a k=r)) (ha:G (a<cP)) (hk:G (k<18446744073709551616)) (w:Q):F prog 188 #[I .u64 a,I .u64 k] w fun e w'=>e=X (I .u64 (r:Int))∧U w.heap.size w w':=by
 have h:=x1d a k ha hk w
 rw [hr.out] at h;exact h
theorem j4m (a:Int) (ha:G (a<1)) (w:Q):F prog 142 #[I Y a] w fun e w'=>e=X (I Y 30)∧U w.heap.size w w':=by
 have t1:decide (a<1)=true:=decide_eq_true ha.out
 go_enter func142,ntmps142
 go_wp2
 go_ret
 exact ⟨rfl,Below.refl _ w⟩
theorem x7x (a:Int) (ha:G ((cP:Int)≤a)) (w:Q):F prog 142 #[I Y a] w fun e w'=>e=X (I Y 30)∧U w.heap.size w w':=by
 have h:=ha.out
 have t1:decide (a<1)=O:=by
   rw [decide_eq_false_iff_not];have:(1:Int)≤(cP:Int):=by decide
   omega
 have t2:decide ((4611686018427377339:Int)≤a)=true:=decide_eq_true h
 clear h
 go_enter func142,ntmps142
 go_wp2
 go_ret
 exact ⟨rfl,Below.refl _ w⟩
theorem x2d (a r:Nat) (h1:G (1≤a)) (h2:G (a<cP)) (hr:G (pw a cQ=r)) (w:Q):F prog 142 #[I Y a] w fun e w'=>e=X (I Y (if r=1 then 0 else 30))∧U w.heap.size w w':=by
 have t1:decide ((a:Int)<1)=O:=by rw [decide_eq_false_iff_not];have:=h1.out;omega
 have t2:decide ((4611686018427377339:Int)≤(a:Int))=O:=by
   rw [decide_eq_false_iff_not];have h:(a:Int)<(cP:Int):=Int.ofNat_lt.2 h2.out
   exact Int.not_le.2 h
 have e1:IntKind.u64.wrap (a:Int)=(a:Int):=Go.Proofs.Mul64.wrapN _ (Nat.lt_trans h2.out (by decide))
 go_enter func142,ntmps142
 go_wp2_with fail
 refine (j3m a r hr h2 _ rfl _).mono ?_
 rintro e w1 ⟨rfl,hb⟩
 by_cases hr1:r=1
 ·subst hr1
  go_wp2_with fail
  go_ret
  exact ⟨rfl,hb⟩
 ·have t3:((r:Int) == 1)=O:=by rw [beq_eq_false_iff_ne];omega
  go_wp2_with fail
  go_ret
  exact ⟨rfl,hb⟩
theorem y8d (a:Nat) (h:G (y7k a)) (w:Q):F prog 142 #[I Y a] w fun e w'=>e=X (I Y 0)∧U w.heap.size w w' :=
 x2d a 1 (hd_ h.out.1) (hd_ h.out.2.1) (hd_ h.out.2.2) w
def ZEl (a:Int):Prop:=1≤a∧y7k a.toNat
theorem j5m (a:Int) (h:G (¬ ZEl a)) (w:Q):F prog 142 #[I Y a] w fun e w'=>e=X (I Y 30)∧U w.heap.size w w':=by
 by_cases h1:a<1
 ·exact j4m a (hd_ h1) w
 ·by_cases h2:(cP:Int)≤a
  ·exact x7x a (hd_ h2) w
  ·obtain ⟨n,rfl⟩:∃ n:Nat,a=(n:Int):=⟨a.toNat,by omega⟩
   have lH:1≤n:=by omega
   have bv:n<cP:=by omega
   have hne:pw n cQ≠1:=fun hh=>h.out ⟨by omega,lH,bv,hh⟩
   have:=x2d n _ (hd_ lH) (hd_ bv) (hd_ rfl) w
   rw [if_neg hne] at this
   exact this
theorem y9d {x:Int} (h:0≤x∧x<(cQ:Int)):decide (x<0)=O∧decide ((2305843009213688669:Int)≤x)=O:=by
 refine ⟨decide_eq_false (by omega),decide_eq_false ?_⟩
 have:x<(2305843009213688669:Int):=h.2
 omega
theorem x7k (x:Int) (b cap:Nat) (h:G (0≤x∧x<(cQ:Int))) (w:Q) (hc:w.cell? ⟨b,0,Z⟩=M (I Y x)) :
 F prog 177 #[.slice (M ⟨b,0,Z⟩) 1 cap] w fun e w'=>e=X (E true)∧w=w':=by
 obtain ⟨t1,t2⟩:=y9d h.out
 go_enter func177,ntmps177
 go_wp2
 refine wp_loop_rounds 2 ?_
 rw [rounds_succ];go_wp2
 rw [rounds_succ];go_wp2
 go_ret
 exact ⟨rfl,rfl⟩
theorem y5i (x y:Int) (b cap:Nat) (h:G (0≤x∧x<(cQ:Int))) (h2:G (0≤y∧y<(cQ:Int))) (w:Q) (hc:w.cell? ⟨b,0,Z⟩=M (I Y x)) (bY:w.cell? ⟨b,1,Z⟩=M (I Y y)) :
 F prog 177 #[.slice (M ⟨b,0,Z⟩) 2 cap] w fun e w'=>e=X (E true)∧w=w':=by
 obtain ⟨t1,t2⟩:=y9d h.out
 obtain ⟨t3,t4⟩:=y9d h2.out
 go_enter func177,ntmps177
 go_wp2
 refine wp_loop_rounds 3 ?_
 rw [rounds_succ];go_wp2
 rw [rounds_succ];go_wp2
 rw [rounds_succ];go_wp2
 go_ret
 exact ⟨rfl,rfl⟩
theorem x8k (x y r:Nat) (hx:G (x<cQ)) (hy:G (y<cQ)) (hr:G ((x+y) % cQ=r)) (w:Q) :
 F prog 132 #[I Y x,I Y y] w fun e w'=>e=X (.tuple #[I Y r,I Y 0])∧U w.heap.size w w':=by
 obtain ⟨s,hs⟩:∃ s,x+y=s:=⟨_,rfl⟩
 have e1:IntKind.i64.wrap ((x:Int)+(y:Int))=(s:Int):=by
  have h1:x<2305843009213688669:=hx.out
  have h2:y<2305843009213688669:=hy.out
  rw [show (x:Int)+(y:Int)=(s:Int) from by omega];simp only [IntKind.wrap_i64];omega
 have e2:(s:Int).tmod 2305843009213688669=(r:Int):=by
  rw [← hr.out,hs,Int.ofNat_tmod];rfl
 have hxx:G (0≤(x:Int)∧(x:Int)<(cQ:Int)):=⟨by omega,Int.ofNat_lt.2 hx.out⟩
 have hyy:G (0≤(y:Int)∧(y:Int)<(cQ:Int)):=⟨by omega,Int.ofNat_lt.2 hy.out⟩
 clear hs
 go_enter func132,ntmps132
 go_wp2_with fail
 refine (y5i x y _ _ hxx hyy _ (by simp) (by simp)).mono ?_
 rintro e w1 ⟨rfl,rfl⟩
 go_wp2
 go_ret2
 exact ⟨rfl,(Below.refl _ w).alloc (Nat.le_refl _) _⟩
theorem j5u (x y r:Nat) (hx:G (x<cQ)) (hy:G (y<cQ)) (hr:G (x * y % cQ=r)) (w:Q) :
 F prog 131 #[I Y x,I Y y] w fun e w'=>e=X (.tuple #[I Y r,I Y 0])∧U w.heap.size w w':=by
 have hxx:G (0≤(x:Int)∧(x:Int)<(cQ:Int)):=⟨by omega,Int.ofNat_lt.2 hx.out⟩
 have hyy:G (0≤(y:Int)∧(y:Int)<(cQ:Int)):=⟨by omega,Int.ofNat_lt.2 hy.out⟩
 have e1:IntKind.u64.wrap (x:Int)=(x:Int):=Go.Proofs.Mul64.wrapN _ (Nat.lt_trans hx.out (by decide))
 have e2:IntKind.u64.wrap (y:Int)=(y:Int):=Go.Proofs.Mul64.wrapN _ (Nat.lt_trans hy.out (by decide))
 have hrl:r<cQ:=by rw [← hr.out];exact Nat.mod_lt _ (by decide)
 have e3:IntKind.i64.wrap (r:Int)=(r:Int):=by
  have h:r<2305843009213688669:=hrl
  simp only [IntKind.wrap_i64];omega
 have hhi:=hd_ (j1m hx.out hy.out (by decide:cQ≤18446744073709551616))
 have hlo:G (x * y % 18446744073709551616<18446744073709551616):=Nat.mod_lt _ (by decide)
 have hdm:G (x * y / 18446744073709551616 * 18446744073709551616+x * y % 18446744073709551616=x * y):=by show _=_;rw [Nat.mul_comm];exact Nat.div_add_mod _ _
 clear hrl
 go_enter func131,ntmps131
 go_wp2_with fail
 refine (y5i x y _ _ hxx hyy _ (by simp) (by simp)).mono ?_
 rintro e w1 ⟨rfl,rfl⟩
 go_wp2_with fail
 refine (y0u x y (Nat.lt_trans hx.out (by decide)) (Nat.lt_trans hy.out (by decide)) _).mono ?_
 rintro e w1 ⟨rfl,rfl⟩
 generalize x * y / 18446744073709551616=hi at *
 generalize x * y % 18446744073709551616=lo at *
 go_wp2_with fail
 refine (j2u hi lo _ rfl hhi.out hlo _).mono ?_
 rw [hdm.out,hr.out]
 rintro e w2 ⟨rfl,hb⟩
 generalize x * y / cQ=qq
 go_wp2_with fail
 go_ret2
 exact ⟨rfl,z7d hb⟩
theorem k1a (a k r:Nat) (ha:G (y7k a)) (hk:G (k<cQ)) (hr:G (pw a k=r)) (w:Q) :
 F prog 144 #[I Y a,I Y k] w fun e w'=>e=X (.tuple #[I Y r,I Y 0])∧U w.heap.size w w':=by
 have hkk:G (0≤(k:Int)∧(k:Int)<(cQ:Int)):=⟨by omega,Int.ofNat_lt.2 hk.out⟩
 have hal:G (a<cP):=ha.out.2.1
 have hk2:G (k<18446744073709551616):=Nat.lt_trans hk.out (by decide)
 have e1:IntKind.u64.wrap (a:Int)=(a:Int):=Go.Proofs.Mul64.wrapN _ (Nat.lt_trans hal.out (by decide))
 have e2:IntKind.u64.wrap (k:Int)=(k:Int):=Go.Proofs.Mul64.wrapN _ hk2.out
 have hrl:r<cP:=by rw [← hr.out];exact k8a _ _
 have e3:IntKind.i64.wrap (r:Int)=(r:Int):=by
  have h:r<4611686018427377339:=hrl
  simp only [IntKind.wrap_i64];omega
 clear hrl
 go_enter func144,ntmps144
 go_wp2_with fail
 refine (y8d a ha _).mono ?_
 rintro e w1 ⟨rfl,af⟩
 go_wp2_with fail
 refine (x7k k _ _ hkk _ (by simp)).mono ?_
 rintro e w2 ⟨rfl,rfl⟩
 go_wp2_with fail
 refine (j4u a k r hr hal hk2 _).mono ?_
 rintro e w3 ⟨rfl,aB⟩
 go_wp2_with fail
 go_ret2
 exact ⟨rfl,z0a af (z7d aB)⟩
theorem y7a:y7k 4:=⟨by decide,by decide,by rw [← x3z cP 64 4 cQ (by decide)];decide +kernel⟩
theorem x9k (k r:Nat) (hk:G (k<cQ)) (hr:G (pw 4 k=r)) (w:Q) :
 F prog 130 #[I Y k] w fun e w'=>e=X (.tuple #[I Y r,I Y 0])∧U w.heap.size w w':=by
 go_enter func130,ntmps130
 go_wp2_with fail
 refine (k1a 4 k r (hd_ y7a) hk hr _).mono ?_
 rintro e w1 ⟨rfl,af⟩
 go_wp2_with fail
 go_ret2
 exact ⟨rfl,af⟩
theorem k8u (a b r:Nat) (ha:G (y7k a)) (hb:G (y7k b)) (hr:G (a * b % cP=r)) (w:Q) :
 F prog 145 #[I Y a,I Y b] w fun e w'=>e=X (.tuple #[I Y r,I Y 0])∧U w.heap.size w w':=by
 have hal:G (a<cP):=ha.out.2.1
 have hbl:G (b<cP):=hb.out.2.1
 have e1:IntKind.u64.wrap (a:Int)=(a:Int):=Go.Proofs.Mul64.wrapN _ (Nat.lt_trans hal.out (by decide))
 have e2:IntKind.u64.wrap (b:Int)=(b:Int):=Go.Proofs.Mul64.wrapN _ (Nat.lt_trans hbl.out (by decide))
 have hrl:r<cP:=by rw [← hr.out];exact Nat.mod_lt _ (by decide)
 have e3:IntKind.i64.wrap (r:Int)=(r:Int):=by
  have h:r<4611686018427377339:=hrl
  simp only [IntKind.wrap_i64];omega
 clear hrl
 have i0:∀ w:Q,(Instr.index 203 (.agg #[I Y a,I Y b]) (I Y 0)).run prog w=.ok (I Y a) w:=fun _=>by kernel_rfl
 have i1:∀ w:Q,(Instr.index 203 (.agg #[I Y a,I Y b]) (I Y 1)).run prog w=.ok (I Y b) w:=fun _=>by kernel_rfl
 go_enter func145,ntmps145
 go_wp2_with fail
 refine wp_loop_rounds 3 ?_
 rw [rounds_succ];go_wp2_with fail
 refine (y8d a ha _).mono ?_
 rintro e w1 ⟨rfl,af⟩
 go_wp2_with fail
 rw [rounds_succ];go_wp2_with fail
 refine (y8d b hb _).mono ?_
 rintro e w2 ⟨rfl,aj⟩
 go_wp2_with fail
 rw [rounds_succ];go_wp2_with fail
 refine (y7d a b r hr hal hbl _).mono ?_
 rintro e w3 ⟨rfl,aB⟩
 go_wp2_with fail
 go_ret2
 exact ⟨rfl,z0a (z0a af aj) aB⟩
def k4x (k c x:Nat):Nat:=(k+c * x % cQ) % cQ
theorem j6m (k:Nat):pw 4 (k % cQ)=pw 4 k:=k7m y7a k
theorem k9u (k c x:Nat):pw 4 (k4x k c x)=pw 4 k * pw (pw 4 x) c % cP:=by
 unfold k4x
 rw [j6m,← j5w,j6m,k8m,Nat.mul_comm c x]
theorem q1:cQ - 1+1=cQ:=by decide
end Go.Proofs.YtdblnbnofjggnaaGreatDoor
