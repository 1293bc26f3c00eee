/- Parts of the proofs of chapter 49's laws: Gti Gpw Gpo Gch Gsc Gex Gre Sla. -/
import Derived.Test.YtdblnbnofjggnaaGreatDoorM03
import Derived.Test.YtdblnbnofjggnaaGreatDoorM01
import Derived.Test.YtdblnbnofjggnaaGreatDoorM05
import Derived.RangeFuncFrom
import Derived.RangeFuncNested
import Derived.RangeFuncBound
import Derived.RangeFuncCalls
import Derived.RangeFuncLeaves
import Derived.Shelf.Abstract
import Derived.Shelf.RegionOpen
import Derived.OwnWalkIn
import Derived.TacticsInMore
import Derived.LoopNIn
import Derived.LoopIn
import Derived.LoopN
set_option maxHeartbeats 2000000
set_option maxRecDepth 100000
open Go
open Lib renaming hid → hd_
open World renaming size_alloc → sA
namespace Go.Proofs.YtdblnbnofjggnaaGreatDoor
open Go.RowKit Go.Shelf
theorem z4g {w w':World} (h:Below w.heap.size w w'):KeepsOthers w w' :=
 KeepsOthers.of_grownBy (row:=none) ⟨h.os,h.tape,h.output,h.size,fun k hk _=>h.block k hk⟩ (by simp)
theorem j1o:Lib.bitLen cP + 2 = 64:=by decide +kernel
theorem j2o:Lib.bitLen cQ + 3 = 64:=by decide +kernel
theorem j3o (hi lo:Nat) (yi:Int) (hyi:yi = (cP:Int)) (hh:hi < cP) (hlo:Hid (lo < 18446744073709551616)) (w:World) :
 Calls Tryz.prog 179 #[.int .u64 hi,.int .u64 lo,.int .u64 yi] w fun e w'=>e = .returned (.tuple #[.int .u64 (((hi * 18446744073709551616 + lo) / cP:Nat):Int),.int .u64 (((hi * 18446744073709551616 + lo) % cP:Nat):Int)])∧Below w.heap.size w w':=by
 subst hyi
 exact y2b hi lo cP 2 j1o (by decide) (by decide) (by decide) (by decide) hh hlo w
theorem j4o (hi lo:Nat) (yi:Int) (hyi:yi = (cQ:Int)) (hh:hi < cQ) (hlo:Hid (lo < 18446744073709551616)) (w:World) :
 Calls Tryz.prog 179 #[.int .u64 hi,.int .u64 lo,.int .u64 yi] w fun e w'=>e = .returned (.tuple #[.int .u64 (((hi * 18446744073709551616 + lo) / cQ:Nat):Int),.int .u64 (((hi * 18446744073709551616 + lo) % cQ:Nat):Int)])∧Below w.heap.size w w':=by
 subst hyi
 exact y2b hi lo cQ 3 j2o (by decide) (by decide) (by decide) (by decide) hh hlo w
theorem j2h {x y m:Nat} (hx:x < m) (hy:y < m) (hm:m ≤ 18446744073709551616):x * y / 18446744073709551616 < m:=by
 refine (Nat.div_lt_iff_lt_mul (by decide)).2 ?_
 have h1:x * y < m * m:=Nat.mul_lt_mul'' hx hy
 have h2:m * m ≤ m * 18446744073709551616:=Nat.mul_le_mul_left _ hm
 omega
theorem j3h (x y:Nat) (hx:Hid (x < cP)) (hy:Hid (y < cP)) (w:World):Calls Tryz.prog 189 #[.int .u64 x,.int .u64 y] w fun e w'=>e = .returned (.int .u64 ((x * y % cP:Nat):Int))∧Below w.heap.size w w':=by
 have hP:cP ≤ 18446744073709551616:=by decide
 have hhi:=hd_ (j2h hx.out hy.out hP)
 have hlo:Hid (x * y % 18446744073709551616 < 18446744073709551616):=Nat.mod_lt _ (by decide)
 have hdm:Hid (x * y / 18446744073709551616 * 18446744073709551616 + x * y % 18446744073709551616 = x * y):=by show _ = _;rw [Nat.mul_comm];exact Nat.div_add_mod _ _
 clear hP
 go_enter Tryz.func189,Tryz.ntmps189
 go_wp2_with fail
 refine (y4r x y (Nat.lt_trans hx.out (by decide)) (Nat.lt_trans hy.out (by decide)) _).mono ?_
 rintro e w1 ⟨rfl,rfl⟩
 generalize x * y / 18446744073709551616 = hi at *
 generalize x * y % 18446744073709551616 = lo at *
 go_wp2_with fail
 refine (j3o hi lo _ rfl hhi.out hlo _).mono ?_
 rw [hdm.out]
 rintro e w2 ⟨rfl,hb⟩
 generalize x * y / cP = qq
 generalize hR:x * y % cP = R
 have HR:=hd_ hR;clear hR
 go_wp2_with fail
 go_ret
 exact ⟨by rw [HR.out];rfl,hb⟩
theorem y2z (k:Nat) (h:k < 18446744073709551616):k < 2 ^ Lib.bitLen k∧Lib.bitLen k ≤ 64:=by
 refine ⟨?_,Lib.bitLen_le k 64 (Nat.le_refl _) (by simpa using h)⟩
 induction k using Nat.strongRecOn with
 | ind k ih =>
  by_cases h0:k = 0
  · subst h0;exact Nat.two_pow_pos _
  · have hk:=Lib.bitLen_half k h0 (by simpa using h)
    have:=ih (k / 2) (by omega) (by omega)
    rw [hk,Nat.add_comm,Nat.pow_succ];omega
attribute [local go_sem] Oper.semAt_some
theorem x0u (k:Nat) (w:World):Calls Tryz.prog 205 #[.int .u64 k] w fun e w'=>e = .returned (.func (.func 216) #[] #[.pointer (some ⟨w.heap.size,0,none⟩)])∧w' = w.alloc (.cells #[.int .u64 k] 183):=by
 have hmf:∀ (fn:Fn) (first cap:Array Value) (w:World),(Instr.makeFunc fn first cap).run Tryz.prog w = .ok (.func fn first cap) w:=fun _ _ _ _=>rfl
 go_enter Tryz.func205,Tryz.ntmps205
 go_wp2
 go_ret
 exact ⟨rfl,rfl⟩
theorem x1u (n k c:Nat) (h:c < n):(z8s n k).take (c + 1) = (z8s n k).take c ++ [k / 2 ^ (n - 1 - c) % 2 == 1]:=by
 rw [List.take_add_one,y3r n k c h];rfl
theorem k2c (d:Nat) (h:d < 18446744073709551616):bits .and .u64 (d:Int) 1 = ((d % 2:Nat):Int):=by
 have:=bits_and_u64_nat d 1 h (by decide)
 rw [Nat.and_one_is_mod] at this
 exact this
def z3z (Bk:Nat) (A B:World):Prop:=B.heap[Bk]? = A.heap[Bk]?
theorem z3z.trans {Bk:Nat} {A B C:World} (h:z3z Bk A B) (h2:z3z Bk B C):z3z Bk A C:=Eq.trans h2 h
theorem x2u (n:Nat) (hn:1 ≤ n) (l Bk k:Nat) (hk:Hid (k < 18446744073709551616)) (J Jx:List Bool→World→Prop)
 (hY:∀ pre x W,J pre W→pre.length < Lib.bitLen k→YieldAt Fence.wide (n - 1) Tryz.prog l #[.bool x] W fun e W' =>
  (e = .returned (.bool true)∧J (pre ++ [x]) W'∧z3z Bk W W')∨(e = .returned (.bool false)∧Jx (pre ++ [x]) W'))
 (W:World) (hc:W.cell? ⟨Bk,0,none⟩ = some (.int .u64 k)) (h0:J [] W) :
 CallsIn Fence.wide n Tryz.prog 216 #[.func (.yield l) #[] #[],.pointer (some ⟨Bk,0,none⟩)] W fun e W'=>(∃ v,e = .returned v) ∧
  ((∃ ys,ys = z8s (Lib.bitLen k) k∧J ys W')∨(∃ pre,(pre <+: z8s (Lib.bitLen k) k)∧Jx pre W')):=by
 have hlen:=(y2z k hk.out).2
 refine callsIn_of_wp Tryz.func216 rfl trivial ?_ rfl
 simp only [Tryz.ntmps216,List.size_toArray,List.length_cons,List.length_nil,Nat.reduceAdd,Nat.reduceSub,Array.replicate_succ,Array.replicate_zero,List.push_toArray,List.append_toArray,List.nil_append,List.cons_append]
 have HY:=hd_ hY;clear hY
 gi_wp2_with (refine ⟨trivial,?_⟩;gi_at_call 209;refine (callsIn_wide.2 (y3h (k:Int) _ (by omega) (by have:=hk.out;omega))).mono ?_;rintro e w' ⟨rfl,hw⟩;obtain rfl:=hw.symm)
 obtain ⟨L,hL⟩:∃ L,Lib.bitLen k = L:=⟨_,rfl⟩
 rw [hL] at hlen HY ⊢
 have HL:=hd_ hL;clear hL
 gi_loopw [3] (fun i wr=>∃ (c:Nat) (z:Int),c ≤ L∧i = .int .i64 z∧Hid (z = (L:Int) - 1 - (c:Int))∧J ((z8s L k).take c) wr∧z3z Bk W wr) (fun i _=>(intOf i + 1).toNat)
 case atStart=>exact ⟨0,_,Nat.zero_le _,rfl,(by show _ = _;omega),by simpa using h0,(rfl:z3z Bk W W)⟩
 case round =>
  obtain ⟨c,z,hcl,rfl,hz,hJ,hb⟩:=hrel
  have hkc:wr.cell? ⟨Bk,0,none⟩ = some (.int .u64 k):=(World.cell?_of_block (w:=W) (show wr.heap[Bk]? = W.heap[Bk]? from hb)).trans hc
  by_cases hlt:c < L
  case neg =>
   have hz':z < 0:=by have:=hz.out;omega
   gi_wp2
   go_end0
   exact ⟨⟨_,rfl⟩,.inl ⟨_,rfl,by rw [List.take_of_length_le (by rw [z1l];omega)] at hJ;rw [HL.out];exact hJ⟩⟩
  case pos =>
   obtain ⟨j,hj⟩:∃ j:Nat,z = (j:Int):=⟨L - 1 - c,by have:=hz.out;omega⟩
   subst hj
   have hjL:L - 1 - c = j:=by have:=hz.out;omega
   have hj63:(j:Int) ≤ 63:=by omega
   obtain ⟨d,hd⟩:∃ d,k / 2 ^ j = d:=⟨_,rfl⟩
   have hdk:d < 18446744073709551616:=by rw [← hd];exact Nat.lt_of_le_of_lt (Nat.div_le_self _ _) hk.out
   have g1:(k:Int) / 2 ^ j = (d:Int):=by rw [← hd,Int.natCast_ediv,Int.natCast_pow];rfl
   have g2:=k2c d hdk
   have Ht:=hd_ (x1u L k c hlt)
   have Hd:=hd_ hd
   have HjL:=hd_ hjL
   clear hdk hd hjL
   rcases Nat.mod_two_eq_zero_or_one d with hm | hm
   all_goals
    have Hm:=hd_ hm
    rw [hm] at g2
    clear hm
   · obtain ⟨fn,tmps,assign,body,hy,hR⟩:=HY.out _ false wr hJ (by rw [List.length_take,z1l];omega)
     gi_wp2
     refine hR.mono ?_
     rintro e W3 (⟨rfl,hJ3,hk3⟩ | ⟨rfl,hJx3⟩)
     · gi_wp2
       have ht:=Ht.out
       rw [HjL.out,Hd.out,Hm.out] at ht
       refine ⟨⟨c + 1,_,by omega,rfl,(by show _ = _;have:=hz.out;omega),by rw [ht];exact hJ3,hb.trans hk3⟩,by simp [intOf] <;> omega⟩
     · gi_wp2
       refine bodyPost_ret (results_none rfl _ _ _) rfl ?_
       have ht:=Ht.out
       rw [HjL.out,Hd.out,Hm.out] at ht
       exact ⟨⟨_,rfl⟩,.inr ⟨_,List.take_prefix (c + 1) _,by rw [HL.out,ht];exact hJx3⟩⟩
   · obtain ⟨fn,tmps,assign,body,hy,hR⟩:=HY.out _ true wr hJ (by rw [List.length_take,z1l];omega)
     gi_wp2
     refine hR.mono ?_
     rintro e W3 (⟨rfl,hJ3,hk3⟩ | ⟨rfl,hJx3⟩)
     · gi_wp2
       have ht:=Ht.out
       rw [HjL.out,Hd.out,Hm.out] at ht
       refine ⟨⟨c + 1,_,by omega,rfl,(by show _ = _;have:=hz.out;omega),by rw [ht];exact hJ3,hb.trans hk3⟩,by simp [intOf] <;> omega⟩
     · gi_wp2
       refine bodyPost_ret (results_none rfl _ _ _) rfl ?_
       have ht:=Ht.out
       rw [HjL.out,Hd.out,Hm.out] at ht
       exact ⟨⟨_,rfl⟩,.inr ⟨_,List.take_prefix (c + 1) _,by rw [HL.out,ht];exact hJx3⟩⟩
attribute [local go_sem] Oper.semAt_some
theorem y6p {W:World} {B:Nat} {v:Value} {t:TypeId} (h:W.heap[B]? = some (.cells #[v] t (0,0))):W.cell? ⟨B,0,none⟩ = some v∧W.frozen? ⟨B,0,none⟩ = false:=by
 constructor <;> simp [World.cell?,World.frozen?,h]
theorem z3s (W:World) (v:Value) (t:TypeId):(W.alloc (.cells #[v] t)).cell? ⟨W.heap.size,0,none⟩ = some v∧(W.alloc (.cells #[v] t)).frozen? ⟨W.heap.size,0,none⟩ = false :=
 y6p (World.alloc_heap_new W _)
theorem z1r {W:World} {a:Addr} {v:Value} (o:Obj) (h:W.cell? a = some v):(W.alloc o).cell? a = some v:=cell_kept h (World.grownBy_alloc W o none) (fun r e=>by cases e)
theorem y0h {W:World} {a:Addr} {v:Value} (o:Obj) (h:W.cell? a = some v) (hf:W.frozen? a = false):(W.alloc o).frozen? a = false:=(frozen_kept h (World.grownBy_alloc W o none) (fun r e=>by cases e)).trans hf
theorem y7a (x y r:Nat) (hr:Hid (x * y % cP = r)) (hx:Hid (x < cP)) (hy:Hid (y < cP)) (w:World):Calls Tryz.prog 189 #[.int .u64 x,.int .u64 y] w fun e w'=>e = .returned (.int .u64 (r:Int))∧Below w.heap.size w w':=by
 have h:=j3h x y hx hy w
 rw [hr.out] at h;exact h
theorem y3z (n:Nat) (hn:1 ≤ n) (Bk k:Nat) (hk:Hid (k < 18446744073709551616)) (w:World) (hBk:Bk < w.heap.size) (hc:w.cell? ⟨Bk,0,none⟩ = some (.int .u64 k)) :
 SeqStopsK Fence.wide n Tryz.prog 216 #[.pointer (some ⟨Bk,0,none⟩)] (fun x:Bool=>#[Value.bool x]) (z3z Bk) (fun ys=>ys = z8s (Lib.bitLen k) k) (fun pre=>pre <+: z8s (Lib.bitLen k) k) (Lib.bitLen k) w:=fun l J Jx W hW _ _ hY h0=>by
 have hc':=(hW.cell (p:=⟨Bk,0,none⟩) (by show Bk < w.heap.size;omega)).trans hc
 exact (x2u n hn l Bk k hk J Jx hY W hc' h0)
theorem j5o {w:World} {Bk:Nat} (h:Bk < w.heap.size):∀ (W:World) (l:Nat) (o o':Obj),w.heap.size ≤ l→W.heap[l]? = some o→o.isCells = false→o.isWalk = false→z3z Bk W (W.putObj l o') :=
 fun W l o o' hl _ _ _=>World.putObj_heap_other (by omega)
theorem y4z (a k:Nat) (ha:Hid (a < cP)) (hk:Hid (k < 18446744073709551616)) (w:World):Calls Tryz.prog 188 #[.int .u64 a,.int .u64 k] w fun e w'=>e = .returned (.int .u64 ((pw a k:Nat):Int))∧Below w.heap.size w w':=by
 refine (callsIn_wide (n:=9)).1 ?_
 refine callsIn_of_wp_marks Tryz.func188 rfl trivial ?_ rfl
 simp only [Tryz.ntmps188,List.size_toArray,List.length_cons,List.length_nil,Nat.reduceAdd,Nat.reduceSub,Array.replicate_succ,Array.replicate_zero,List.push_toArray,List.append_toArray,List.nil_append,List.cons_append]
 gi_wp2_with (refine ⟨trivial,?_⟩;gi_at_call 205;refine (callsIn_wide.2 (x0u k _)).mono ?_;rintro e w' ⟨rfl,hw⟩;obtain rfl:=hw.symm)
 obtain ⟨W0,hW0⟩:∃ W0,((w.alloc (.cells #[.int .u64 a] 183)).alloc (.cells #[.int .u64 1] 183)).alloc (.cells #[.int .u64 k] 183) = W0:=⟨_,rfl⟩
 have hs0:W0.heap.size = w.heap.size + 1 + 1 + 1:=by rw [← hW0,sA,sA,sA]
 have ca:W0.cell? ⟨w.heap.size,0,none⟩ = some (.int .u64 a):=by rw [← hW0];exact z1r _ (z1r _ (z3s w _ _).1)
 have cc:W0.cell? ⟨w.heap.size + 1,0,none⟩ = some (.int .u64 1):=by
  rw [← hW0]
  have h:=(z3s (w.alloc (.cells #[.int .u64 a] 183)) (.int .u64 1) 183).1
  rw [sA] at h;exact z1r _ h
 have fc:W0.frozen? ⟨w.heap.size + 1,0,none⟩ = false:=by
  rw [← hW0]
  have h:=z3s (w.alloc (.cells #[.int .u64 a] 183)) (.int .u64 1) 183
  rw [sA] at h
  exact y0h _ h.1 h.2
 have ck:W0.cell? ⟨w.heap.size + 1 + 1,0,none⟩ = some (.int .u64 k):=by
  rw [← hW0]
  have h:=(z3s ((w.alloc (.cells #[.int .u64 a] 183)).alloc (.cells #[.int .u64 1] 183)) (.int .u64 k) 183).1
  rw [sA,sA] at h;exact h
 have hB0:Below w.heap.size w W0:=by rw [← hW0];exact (((Below.refl _ w).alloc (Nat.le_refl _) _).alloc (by simp) _).alloc (by simp;omega) _
 rw [hW0]
 clear hW0
 refine wpIn_rangeFunc_ownF rfl (by decide) (gf:=216) (lb:=#[.pointer (some ⟨w.heap.size + 1 + 1,0,none⟩)]) rfl trivial (enters_of Tryz.func216 (by kernel_rfl) rfl)
  (y3z 8 (by decide) (w.heap.size + 1 + 1) k hk W0 (by omega) ck) z3z.trans (j5o (by omega)) (Below.refl _ _) (fun _=>rfl)
  (fun pre W=>(W.cell? ⟨w.heap.size,0,none⟩ = some (.int .u64 a)∧W.cell? ⟨w.heap.size + 1,0,none⟩ = some (.int .u64 ((pw a (x8v pre):Nat):Int))∧W.frozen? ⟨w.heap.size + 1,0,none⟩ = false∧W.cell? ⟨w.heap.size + 1 + 1,0,none⟩ = some (.int .u64 k))∧Below w.heap.size w W)
  (fun _ _ _=>False)
  (OwnFrom.and (Own.from (fun s A B row hs hg hr=>⟨cell_kept hs.1 hg hr,cell_kept hs.2.1 hg hr,(frozen_kept hs.2.1 hg hr).trans hs.2.2.1,cell_kept hs.2.2.2 hg hr⟩) _) (ownFrom_below (Nat.le_refl _) (by omega)))
  (fun _ _ _ _ _ hs _ _=>hs)
  ⟨⟨ca,by rw [cc];exact congrArg (fun z=>some (Value.int .u64 z)) (by have:=j3v a;show (1:Int) = ((pw a (x8v []):Nat):Int);rw [show x8v [] = 0 from rfl,this];rfl),fc,ck⟩,hB0⟩
  (fun x=>{ tmps:=#[.int .u64 a,.int .u64 k,.pointer (some ⟨w.heap.size,0,none⟩),undef,.int .u64 0,.pointer (some ⟨w.heap.size + 1,0,none⟩),.bool x,.int .u64 k,.func (.func 216) #[] #[.pointer (some ⟨w.heap.size + 1 + 1,0,none⟩)],.bool x,undef,undef,undef,undef,undef,undef,undef,undef],defers:=[] }) ?assign ?body ?done ?stop
 case assign =>
  intro l x W K hK
  gi_wp2
  exact hK
 case body =>
  rintro l pre x W ⟨⟨hc1,hc2,hf2,hc4⟩,hB⟩ _
  have hW2:w.heap.size + 1 + 1 < W.heap.size:=World.block_lt_of_cell? W _ hc4
  have hbl:w.heap.size + 1 < W.heap.size:=World.block_lt_of_cell? W _ hc2
  have hlt:=j2v a (x8v pre)
  obtain ⟨v,hv⟩:∃ v,x8v pre = v:=⟨_,rfl⟩
  have hsn:=hd_ (y2r pre x)
  rw [hv] at hc2 hlt hsn
  obtain ⟨c,hc⟩:∃ c,pw a v = c:=⟨_,rfl⟩
  rw [hc] at hc2 hlt
  have Hlt:=hd_ hlt
  have h0:=hd_ (j0k a v)
  have h1:=hd_ (j1k a v)
  rw [hc] at h0
  clear hlt hv hc
  obtain ⟨c2,e2⟩:∃ c2,pw a (2 * v) = c2:=⟨_,rfl⟩
  obtain ⟨c3,e3⟩:∃ c3,pw a (2 * v + 1) = c3:=⟨_,rfl⟩
  rw [e2] at h0 h1
  rw [e3] at h1
  have Hc2:Hid (c2 < cP):=by show _ < _;rw [← e2];exact j2v _ _
  have E2:=hd_ e2;have E3:=hd_ e3
  clear e2 e3
  cases x with
  | false =>
   gi_wp2_with fail
   refine ⟨trivial,?_⟩
   refine (CallsIn.inRound l (callsIn_wide.2 (y7a c c c2 h0 Hlt Hlt _))).mono ?_
   rintro e W1 ⟨rfl,hb1⟩
   have d1:=z1a hb1 hc1
   have d2:=z1a hb1 hc2
   have d4:=z1a hb1 hc4
   have df:W1.frozen? ⟨w.heap.size + 1,0,none⟩ = false:=(hb1.frozen (p:=⟨w.heap.size + 1,0,none⟩) hbl).trans hf2
   have hbl1:w.heap.size + 1 < W1.heap.size:=World.block_lt_of_cell? W1 _ d2
   clear hc1 hc2 hf2 hc4
   gi_wp2_with fail
   refine ⟨(z4g hb1).trans (KeepsOthers.setCell _ _ _),(Below.heap_setCell _ _ _ _ (by show w.heap.size + 1 + 1 ≠ w.heap.size + 1;omega)).trans (hb1.block _ hW2),⟨?_,?_,?_,?_⟩,?_⟩
   · rw [World.cell?_setCell_other _ _ _ _ (by simp)];exact d1
   · rw [hsn.out];simp only [Bool.false_eq_true,if_false,Nat.add_zero];rw [E2.out];exact World.cell?_setCell_same' _ _ _ (by rw [d2];rfl)
   · rw [World.frozen?_setCell];exact df
   · rw [World.cell?_setCell_other _ _ _ _ (by simp)];exact d4
   · exact (z0a hB hb1).setCell (p:=⟨w.heap.size + 1,0,none⟩) (by show _ ≤ w.heap.size + 1;omega) _
  | true =>
   gi_wp2_with fail
   refine ⟨trivial,?_⟩
   refine (CallsIn.inRound l (callsIn_wide.2 (y7a c c c2 h0 Hlt Hlt _))).mono ?_
   rintro e W1 ⟨rfl,hb1⟩
   have d1:=z1a hb1 hc1
   have d2:=z1a hb1 hc2
   have d4:=z1a hb1 hc4
   have df:W1.frozen? ⟨w.heap.size + 1,0,none⟩ = false:=(hb1.frozen (p:=⟨w.heap.size + 1,0,none⟩) hbl).trans hf2
   have hbl1:w.heap.size + 1 < W1.heap.size:=World.block_lt_of_cell? W1 _ d2
   clear hc1 hc2 hf2 hc4
   have s1:(W1.setCell ⟨w.heap.size + 1,0,none⟩ (.int .u64 (c2:Int))).cell? ⟨w.heap.size,0,none⟩ = some (.int .u64 a):=by rw [World.cell?_setCell_other _ _ _ _ (by simp)];exact d1
   have s2:(W1.setCell ⟨w.heap.size + 1,0,none⟩ (.int .u64 (c2:Int))).cell? ⟨w.heap.size + 1,0,none⟩ = some (.int .u64 (c2:Int)):=World.cell?_setCell_same' _ _ _ (by rw [d2];rfl)
   have s4:(W1.setCell ⟨w.heap.size + 1,0,none⟩ (.int .u64 (c2:Int))).cell? ⟨w.heap.size + 1 + 1,0,none⟩ = some (.int .u64 k):=by rw [World.cell?_setCell_other _ _ _ _ (by simp)];exact d4
   have sf:(W1.setCell ⟨w.heap.size + 1,0,none⟩ (.int .u64 (c2:Int))).frozen? ⟨w.heap.size + 1,0,none⟩ = false:=by rw [World.frozen?_setCell];exact df
   gi_wp2_with fail
   refine ⟨trivial,?_⟩
   refine (CallsIn.inRound l (callsIn_wide.2 (y7a c2 a c3 h1 Hc2 ha _))).mono ?_
   rintro e W2 ⟨rfl,hb2⟩
   have z1:=z1a hb2 s1
   have z2:=z1a hb2 s2
   have z4:=z1a hb2 s4
   have zf:W2.frozen? ⟨w.heap.size + 1,0,none⟩ = false:=(hb2.frozen (p:=⟨w.heap.size + 1,0,none⟩) (World.block_lt_of_cell? _ _ s2)).trans sf
   have hW12:w.heap.size + 1 + 1 < W1.heap.size:=World.block_lt_of_cell? W1 _ d4
   have hsz:(W1.setCell ⟨w.heap.size + 1,0,none⟩ (.int .u64 (c2:Int))).heap.size = W1.heap.size:=by simp [World.setCell]
   have hB1:=(z0a hB hb1).setCell (p:=⟨w.heap.size + 1,0,none⟩) (by show _ ≤ w.heap.size + 1;omega) (.int .u64 (c2:Int))
   clear s1 s2 s4 sf d1 d2 d4 df
   gi_wp2_with fail
   refine ⟨(((z4g hb1).trans (KeepsOthers.setCell _ _ _)).trans (z4g hb2)).trans (KeepsOthers.setCell _ _ _),?_,⟨?_,?_,?_,?_⟩,?_⟩
   · exact (Below.heap_setCell _ _ _ _ (by show w.heap.size + 1 + 1 ≠ w.heap.size + 1;omega)).trans ((hb2.block _ (by rw [hsz];exact hW12)).trans ((Below.heap_setCell _ _ _ _ (by show w.heap.size + 1 + 1 ≠ w.heap.size + 1;omega)).trans (hb1.block _ hW2)))
   · rw [World.cell?_setCell_other _ _ _ _ (by simp)];exact z1
   · rw [hsn.out];simp only [if_true];rw [E3.out];exact World.cell?_setCell_same' _ _ _ (by rw [z2];rfl)
   · rw [World.frozen?_setCell];exact zf
   · rw [World.cell?_setCell_other _ _ _ _ (by simp)];exact z4
   · exact (hB1.trans (hb2.mono hB1.size)).setCell (p:=⟨w.heap.size + 1,0,none⟩) (by show _ ≤ w.heap.size + 1;omega) _
 case done =>
  rintro D ys W hD rfl ⟨⟨_,hc,_,_⟩,hB⟩ hK
  gi_wp2
  refine ⟨by simp,.inl ⟨_,_,rfl,run_takeDeferred hK,?_⟩⟩
  have hv:x8v (z8s (Lib.bitLen k) k) = k:=y2h _ _ (y2z k hk.out).1
  exact ⟨_,results_tmp rfl _ _ _,by show Ending.returned (.int .u64 ((pw a (x8v (z8s (Lib.bitLen k) k)):Nat):Int)) = _;rw [hv],hB.trans (belowK_b (w:=w) (Nat.le_refl _) W D _ _ (by omega) hK rfl rfl)⟩
 case stop =>
  rintro D c pre W _ _ h _
  exact h.elim
theorem j4h (a r:Nat) (hr:Hid (pw a cQ = r)) (ha:Hid (a < cP)) (yi:Int) (hy:yi = (cQ:Int)) (w:World):Calls Tryz.prog 188 #[.int .u64 a,.int .u64 yi] w fun e w'=>e = .returned (.int .u64 (r:Int))∧Below w.heap.size w w':=by
 subst hy
 have h:=y4z a cQ ha (hd_ (by decide)) w
 rw [hr.out] at h;exact h
theorem j6o (a k r:Nat) (hr:Hid (pw a k = r)) (ha:Hid (a < cP)) (hk:Hid (k < 18446744073709551616)) (w:World):Calls Tryz.prog 188 #[.int .u64 a,.int .u64 k] w fun e w'=>e = .returned (.int .u64 (r:Int))∧Below w.heap.size w w':=by
 have h:=y4z a k ha hk w
 rw [hr.out] at h;exact h
theorem j5h (a:Int) (ha:Hid (a < 1)) (w:World):Calls Tryz.prog 142 #[.int .i64 a] w fun e w'=>e = .returned (.int .i64 30)∧Below w.heap.size w w':=by
 have t1:decide (a < 1) = true:=decide_eq_true ha.out
 go_enter Tryz.func142,Tryz.ntmps142
 go_wp2
 go_ret
 exact ⟨rfl,Below.refl _ w⟩
theorem x3u (a:Int) (ha:Hid ((cP:Int) ≤ a)) (w:World):Calls Tryz.prog 142 #[.int .i64 a] w fun e w'=>e = .returned (.int .i64 30)∧Below w.heap.size w w':=by
 have h:=ha.out
 have t1:decide (a < 1) = false:=by
   rw [decide_eq_false_iff_not];have:(1:Int) ≤ (cP:Int):=by decide
   omega
 have t2:decide ((4611686018427377339:Int) ≤ a) = true:=decide_eq_true h
 clear h
 go_enter Tryz.func142,Tryz.ntmps142
 go_wp2
 go_ret
 exact ⟨rfl,Below.refl _ w⟩
theorem y5z (a r:Nat) (h1:Hid (1 ≤ a)) (h2:Hid (a < cP)) (hr:Hid (pw a cQ = r)) (w:World):Calls Tryz.prog 142 #[.int .i64 a] w fun e w'=>e = .returned (.int .i64 (if r = 1 then 0 else 30))∧Below w.heap.size w w':=by
 have t1:decide ((a:Int) < 1) = false:=by rw [decide_eq_false_iff_not];have:=h1.out;omega
 have t2:decide ((4611686018427377339:Int) ≤ (a:Int)) = false:=by
   rw [decide_eq_false_iff_not];have h:(a:Int) < (cP:Int):=Int.ofNat_lt.2 h2.out
   exact Int.not_le.2 h
 have e1:IntKind.u64.wrap (a:Int) = (a:Int):=Go.Proofs.Mul64.wrapN _ (Nat.lt_trans h2.out (by decide))
 go_enter Tryz.func142,Tryz.ntmps142
 go_wp2_with fail
 refine (j4h a r hr h2 _ rfl _).mono ?_
 rintro e w1 ⟨rfl,hb⟩
 by_cases hr1:r = 1
 · subst hr1
   go_wp2_with fail
   go_ret
   exact ⟨rfl,hb⟩
 · have t3:((r:Int) == 1) = false:=by rw [beq_eq_false_iff_ne];omega
   go_wp2_with fail
   go_ret
   exact ⟨rfl,hb⟩
theorem y8a (a:Nat) (h:Hid (z4t a)) (w:World):Calls Tryz.prog 142 #[.int .i64 a] w fun e w'=>e = .returned (.int .i64 0)∧Below w.heap.size w w' :=
 y5z a 1 (hd_ h.out.1) (hd_ h.out.2.1) (hd_ h.out.2.2) w
def ZEl (a:Int):Prop:=1 ≤ a∧z4t a.toNat
theorem j6h (a:Int) (h:Hid (¬ ZEl a)) (w:World):Calls Tryz.prog 142 #[.int .i64 a] w fun e w'=>e = .returned (.int .i64 30)∧Below w.heap.size w w':=by
 by_cases h1:a < 1
 · exact j5h a (hd_ h1) w
 · by_cases h2:(cP:Int) ≤ a
   · exact x3u a (hd_ h2) w
   · obtain ⟨n,rfl⟩:∃ n:Nat,a = (n:Int):=⟨a.toNat,by omega⟩
     have hn1:1 ≤ n:=by omega
     have hn2:n < cP:=by omega
     have hne:pw n cQ ≠ 1:=fun hh=>h.out ⟨by omega,hn1,hn2,hh⟩
     have:=y5z n _ (hd_ hn1) (hd_ hn2) (hd_ rfl) w
     rw [if_neg hne] at this
     exact this
theorem y9a {x:Int} (h:0 ≤ x∧x < (cQ:Int)):decide (x < 0) = false∧decide ((2305843009213688669:Int) ≤ x) = false:=by
 refine ⟨decide_eq_false (by omega),decide_eq_false ?_⟩
 have:x < (2305843009213688669:Int):=h.2
 omega
theorem x2h (x:Int) (b cap:Nat) (h:Hid (0 ≤ x∧x < (cQ:Int))) (w:World) (hc:w.cell? ⟨b,0,none⟩ = some (.int .i64 x)) :
 Calls Tryz.prog 177 #[.slice (some ⟨b,0,none⟩) 1 cap] w fun e w'=>e = .returned (.bool true)∧w = w':=by
 obtain ⟨t1,t2⟩:=y9a h.out
 go_enter Tryz.func177,Tryz.ntmps177
 go_wp2
 refine wp_loop_rounds 2 ?_
 rw [rounds_succ];go_wp2
 rw [rounds_succ];go_wp2
 go_ret
 exact ⟨rfl,rfl⟩
theorem y8f (x y:Int) (b cap:Nat) (h:Hid (0 ≤ x∧x < (cQ:Int))) (h2:Hid (0 ≤ y∧y < (cQ:Int))) (w:World) (hc:w.cell? ⟨b,0,none⟩ = some (.int .i64 x)) (hc2:w.cell? ⟨b,1,none⟩ = some (.int .i64 y)) :
 Calls Tryz.prog 177 #[.slice (some ⟨b,0,none⟩) 2 cap] w fun e w'=>e = .returned (.bool true)∧w = w':=by
 obtain ⟨t1,t2⟩:=y9a h.out
 obtain ⟨t3,t4⟩:=y9a h2.out
 go_enter Tryz.func177,Tryz.ntmps177
 go_wp2
 refine wp_loop_rounds 3 ?_
 rw [rounds_succ];go_wp2
 rw [rounds_succ];go_wp2
 rw [rounds_succ];go_wp2
 go_ret
 exact ⟨rfl,rfl⟩
theorem x3h (x y r:Nat) (hx:Hid (x < cQ)) (hy:Hid (y < cQ)) (hr:Hid ((x + y) % cQ = r)) (w:World) :
 Calls Tryz.prog 132 #[.int .i64 x,.int .i64 y] w fun e w'=>e = .returned (.tuple #[.int .i64 r,.int .i64 0])∧Below w.heap.size w w':=by
 obtain ⟨s,hs⟩:∃ s,x + y = s:=⟨_,rfl⟩
 have e1:IntKind.i64.wrap ((x:Int) + (y:Int)) = (s:Int):=by
  have h1:x < 2305843009213688669:=hx.out
  have h2:y < 2305843009213688669:=hy.out
  rw [show (x:Int) + (y:Int) = (s:Int) from by omega];simp only [IntKind.wrap_i64];omega
 have e2:(s:Int).tmod 2305843009213688669 = (r:Int):=by
  rw [← hr.out,hs,Int.ofNat_tmod];rfl
 have hxx:Hid (0 ≤ (x:Int)∧(x:Int) < (cQ:Int)):=⟨by omega,Int.ofNat_lt.2 hx.out⟩
 have hyy:Hid (0 ≤ (y:Int)∧(y:Int) < (cQ:Int)):=⟨by omega,Int.ofNat_lt.2 hy.out⟩
 clear hs
 go_enter Tryz.func132,Tryz.ntmps132
 go_wp2_with fail
 refine (y8f x y _ _ hxx hyy _ (by simp) (by simp)).mono ?_
 rintro e w1 ⟨rfl,rfl⟩
 go_wp2
 go_ret2
 exact ⟨rfl,(Below.refl _ w).alloc (Nat.le_refl _) _⟩
theorem j7o (x y r:Nat) (hx:Hid (x < cQ)) (hy:Hid (y < cQ)) (hr:Hid (x * y % cQ = r)) (w:World) :
 Calls Tryz.prog 131 #[.int .i64 x,.int .i64 y] w fun e w'=>e = .returned (.tuple #[.int .i64 r,.int .i64 0])∧Below w.heap.size w w':=by
 have hxx:Hid (0 ≤ (x:Int)∧(x:Int) < (cQ:Int)):=⟨by omega,Int.ofNat_lt.2 hx.out⟩
 have hyy:Hid (0 ≤ (y:Int)∧(y:Int) < (cQ:Int)):=⟨by omega,Int.ofNat_lt.2 hy.out⟩
 have e1:IntKind.u64.wrap (x:Int) = (x:Int):=Go.Proofs.Mul64.wrapN _ (Nat.lt_trans hx.out (by decide))
 have e2:IntKind.u64.wrap (y:Int) = (y:Int):=Go.Proofs.Mul64.wrapN _ (Nat.lt_trans hy.out (by decide))
 have hrl:r < cQ:=by rw [← hr.out];exact Nat.mod_lt _ (by decide)
 have e3:IntKind.i64.wrap (r:Int) = (r:Int):=by
  have h:r < 2305843009213688669:=hrl
  simp only [IntKind.wrap_i64];omega
 have hhi:=hd_ (j2h hx.out hy.out (by decide:cQ ≤ 18446744073709551616))
 have hlo:Hid (x * y % 18446744073709551616 < 18446744073709551616):=Nat.mod_lt _ (by decide)
 have hdm:Hid (x * y / 18446744073709551616 * 18446744073709551616 + x * y % 18446744073709551616 = x * y):=by show _ = _;rw [Nat.mul_comm];exact Nat.div_add_mod _ _
 clear hrl
 go_enter Tryz.func131,Tryz.ntmps131
 go_wp2_with fail
 refine (y8f x y _ _ hxx hyy _ (by simp) (by simp)).mono ?_
 rintro e w1 ⟨rfl,rfl⟩
 go_wp2_with fail
 refine (y4r x y (Nat.lt_trans hx.out (by decide)) (Nat.lt_trans hy.out (by decide)) _).mono ?_
 rintro e w1 ⟨rfl,rfl⟩
 generalize x * y / 18446744073709551616 = hi at *
 generalize x * y % 18446744073709551616 = lo at *
 go_wp2_with fail
 refine (j4o hi lo _ rfl hhi.out hlo _).mono ?_
 rw [hdm.out,hr.out]
 rintro e w2 ⟨rfl,hb⟩
 generalize x * y / cQ = qq
 go_wp2_with fail
 go_ret2
 exact ⟨rfl,z3d hb⟩
theorem j4u (a k r:Nat) (ha:Hid (z4t a)) (hk:Hid (k < cQ)) (hr:Hid (pw a k = r)) (w:World) :
 Calls Tryz.prog 144 #[.int .i64 a,.int .i64 k] w fun e w'=>e = .returned (.tuple #[.int .i64 r,.int .i64 0])∧Below w.heap.size w w':=by
 have hkk:Hid (0 ≤ (k:Int)∧(k:Int) < (cQ:Int)):=⟨by omega,Int.ofNat_lt.2 hk.out⟩
 have hal:Hid (a < cP):=ha.out.2.1
 have hk2:Hid (k < 18446744073709551616):=Nat.lt_trans hk.out (by decide)
 have e1:IntKind.u64.wrap (a:Int) = (a:Int):=Go.Proofs.Mul64.wrapN _ (Nat.lt_trans hal.out (by decide))
 have e2:IntKind.u64.wrap (k:Int) = (k:Int):=Go.Proofs.Mul64.wrapN _ hk2.out
 have hrl:r < cP:=by rw [← hr.out];exact j2v _ _
 have e3:IntKind.i64.wrap (r:Int) = (r:Int):=by
  have h:r < 4611686018427377339:=hrl
  simp only [IntKind.wrap_i64];omega
 clear hrl
 go_enter Tryz.func144,Tryz.ntmps144
 go_wp2_with fail
 refine (y8a a ha _).mono ?_
 rintro e w1 ⟨rfl,hb1⟩
 go_wp2_with fail
 refine (x2h k _ _ hkk _ (by simp)).mono ?_
 rintro e w2 ⟨rfl,rfl⟩
 go_wp2_with fail
 refine (j6o a k r hr hal hk2 _).mono ?_
 rintro e w3 ⟨rfl,hb3⟩
 go_wp2_with fail
 go_ret2
 exact ⟨rfl,z0a hb1 (z3d hb3)⟩
theorem z2r:z4t 4:=⟨by decide,by decide,by rw [← x7v cP 64 4 cQ (by decide)];decide +kernel⟩
theorem x4h (k r:Nat) (hk:Hid (k < cQ)) (hr:Hid (pw 4 k = r)) (w:World) :
 Calls Tryz.prog 130 #[.int .i64 k] w fun e w'=>e = .returned (.tuple #[.int .i64 r,.int .i64 0])∧Below w.heap.size w w':=by
 go_enter Tryz.func130,Tryz.ntmps130
 go_wp2_with fail
 refine (j4u 4 k r (hd_ z2r) hk hr _).mono ?_
 rintro e w1 ⟨rfl,hb1⟩
 go_wp2_with fail
 go_ret2
 exact ⟨rfl,hb1⟩
theorem k2n (a b r:Nat) (ha:Hid (z4t a)) (hb:Hid (z4t b)) (hr:Hid (a * b % cP = r)) (w:World) :
 Calls Tryz.prog 145 #[.int .i64 a,.int .i64 b] w fun e w'=>e = .returned (.tuple #[.int .i64 r,.int .i64 0])∧Below w.heap.size w w':=by
 have hal:Hid (a < cP):=ha.out.2.1
 have hbl:Hid (b < cP):=hb.out.2.1
 have e1:IntKind.u64.wrap (a:Int) = (a:Int):=Go.Proofs.Mul64.wrapN _ (Nat.lt_trans hal.out (by decide))
 have e2:IntKind.u64.wrap (b:Int) = (b:Int):=Go.Proofs.Mul64.wrapN _ (Nat.lt_trans hbl.out (by decide))
 have hrl:r < cP:=by rw [← hr.out];exact Nat.mod_lt _ (by decide)
 have e3:IntKind.i64.wrap (r:Int) = (r:Int):=by
  have h:r < 4611686018427377339:=hrl
  simp only [IntKind.wrap_i64];omega
 clear hrl
 have i0:∀ w:World,(Instr.index 203 (.agg #[.int .i64 a,.int .i64 b]) (.int .i64 0)).run Tryz.prog w = .ok (.int .i64 a) w:=fun _=>by kernel_rfl
 have i1:∀ w:World,(Instr.index 203 (.agg #[.int .i64 a,.int .i64 b]) (.int .i64 1)).run Tryz.prog w = .ok (.int .i64 b) w:=fun _=>by kernel_rfl
 go_enter Tryz.func145,Tryz.ntmps145
 go_wp2_with fail
 refine wp_loop_rounds 3 ?_
 rw [rounds_succ];go_wp2_with fail
 refine (y8a a ha _).mono ?_
 rintro e w1 ⟨rfl,hb1⟩
 go_wp2_with fail
 rw [rounds_succ];go_wp2_with fail
 refine (y8a b hb _).mono ?_
 rintro e w2 ⟨rfl,hb2⟩
 go_wp2_with fail
 rw [rounds_succ];go_wp2_with fail
 refine (y7a a b r hr hal hbl _).mono ?_
 rintro e w3 ⟨rfl,hb3⟩
 go_wp2_with fail
 go_ret2
 exact ⟨rfl,z0a (z0a hb1 hb2) hb3⟩
theorem z4s (a b m r:Nat) (ha:Hid (a < m)) (hb:Hid (b < m)) (hm:Hid (m ≤ 4611686018427387904)) (hr:Hid ((a + b) % m = r)) (w:World) :
 Calls Tryz.prog 186 #[.int .i64 a,.int .i64 b,.int .i64 m] w fun e w'=>e = .returned (.int .i64 r)∧w = w':=by
 obtain ⟨c,hc⟩:∃ c,a + b = c:=⟨_,rfl⟩
 have e1:IntKind.i64.wrap ((a:Int) + (b:Int)) = (c:Int):=by
  have h1:=ha.out;have h2:=hb.out;have h3:=hm.out
  rw [show (a:Int) + (b:Int) = (c:Int) from by omega];simp only [IntKind.wrap_i64];omega
 by_cases h:m ≤ c
 · have t:decide (m ≤ c) = true:=decide_eq_true h
   have e2:IntKind.i64.wrap ((c:Int) - (m:Int)) = (r:Int):=by
    have h1:=ha.out;have h2:=hb.out;have h3:=hm.out;have h4:=hr.out
    have h5:(a + b) % m = c - m:=by rw [hc,Nat.mod_eq_sub_mod h,Nat.mod_eq_of_lt (by omega)]
    rw [show (c:Int) - (m:Int) = (r:Int) from by omega];simp only [IntKind.wrap_i64];omega
   clear hc h
   go_enter Tryz.func186,Tryz.ntmps186
   go_wp2
   go_ret
   exact ⟨rfl,rfl⟩
 · have t:decide (m ≤ c) = false:=decide_eq_false h
   have e2:Hid (c = r):=by
    have h4:=hr.out
    rw [hc,Nat.mod_eq_of_lt (by omega)] at h4;exact h4
   clear hc h
   go_enter Tryz.func186,Tryz.ntmps186
   go_wp2
   go_ret
   exact ⟨by rw [← e2.out];rfl,rfl⟩
theorem j8o {a b c m:Nat} (h:b % 2 = 1):((c + a) % m + (a + a) % m * (b / 2)) % m = (c + a * b) % m:=by
 rw [Nat.add_mod,Nat.mod_mod,Nat.mul_mod,Nat.mod_mod,← Nat.mul_mod,← Nat.add_mod]
 congr 1
 have:b = 2 * (b / 2) + 1:=by omega
 conv=>rhs;rw [this]
 rw [Nat.mul_add,Nat.mul_one,← Nat.mul_assoc,Nat.mul_two];omega
theorem j9o {a b c m:Nat} (h:b % 2 = 0):(c + (a + a) % m * (b / 2)) % m = (c + a * b) % m:=by
 rw [Nat.add_mod,Nat.mul_mod,Nat.mod_mod,← Nat.mul_mod,← Nat.add_mod]
 congr 1
 have:b = 2 * (b / 2):=by omega
 conv=>rhs;rw [this]
 rw [← Nat.mul_assoc,Nat.mul_two]
structure MdR (m t a b c:Nat):Prop where
 ha:a < m
 hc:c < m
 hb:b < m
 ht:(c + a * b) % m = t
theorem z9i (a b m r:Nat) (ha:Hid (a < m)) (hb:Hid (b < m)) (hm:Hid (m ≤ 4611686018427387904)) (hr:Hid (a * b % m = r)) (w:World) :
 Calls Tryz.prog 185 #[.int .i64 a,.int .i64 b,.int .i64 m] w fun e w'=>e = .returned (.int .i64 r)∧w = w':=by
 have hS:Hid (MdR m r a b 0):=⟨ha.out,Nat.lt_of_le_of_lt (Nat.zero_le _) ha.out,hb.out,by rw [Nat.zero_add];exact hr.out⟩
 go_enter Tryz.func185,Tryz.ntmps185
 go_wp2_with fail
 go_loopw [0,1,7] (fun va vb vc wr=>∃ x y z:Nat,va = .int .i64 (x:Int)∧vb = .int .i64 (y:Int)∧vc = .int .i64 (z:Int)∧MdR m r x y z∧w = wr) (fun _ vb _ _=>(intOf vb).toNat)
 case atStart=>exact ⟨a,b,0,rfl,rfl,rfl,hS.out,rfl⟩
 case round =>
  obtain ⟨x,y,z,rfl,rfl,rfl,hR,rfl⟩:=hrel
  have HR:=hd_ hR;clear hR
  by_cases hy:y = 0
  · subst hy
    go_wp2_with fail
    have hzr:z = r:=by have h1:=HR.out.ht;rw [Nat.mul_zero,Nat.add_zero,Nat.mod_eq_of_lt HR.out.hc] at h1;exact h1
    go_wp2_with fail
    go_ret
    exact ⟨by rw [← hzr];rfl,rfl⟩
  · have ty:decide (0 < y) = true:=decide_eq_true (by omega)
    obtain ⟨y2,hy2⟩:∃ y2,y / 2 = y2:=⟨_,rfl⟩
    have e2:(y:Int).tdiv 2 = (y2:Int):=by rw [← hy2];rw [Int.ofNat_tdiv];rfl
    have e4:wrap64 (y2:Int) = (y2:Int):=by
     have h1:=HR.out.hb;have h2:=hm.out
     unfold wrap64;omega
    obtain ⟨yb,hyb⟩:∃ yb,y % 2 = yb:=⟨_,rfl⟩
    have e3:(y:Int).tmod 2 = (yb:Int):=by rw [← hyb];rw [Int.ofNat_tmod];rfl
    have hlt:Hid ((intOf (.int .i64 (y2:Int))).toNat < (intOf (.int .i64 (y:Int))).toNat):=by show _ < _;simp [intOf];omega
    obtain ⟨x2,hx2⟩:∃ x2,(x + x) % m = x2:=⟨_,rfl⟩
    obtain ⟨z2,hz2⟩:∃ z2,(z + x) % m = z2:=⟨_,rfl⟩
    have hmp:0 < m:=by have:=HR.out.ha;omega
    have Hx:Hid (x < m):=HR.out.ha
    have Hz:Hid (z < m):=HR.out.hc
    have Hx2:=hd_ hx2;have Hz2:=hd_ hz2
    by_cases hb1:y % 2 = 1
    · have hN:Hid (MdR m r x2 y2 z2):=⟨by rw [← hx2];exact Nat.mod_lt _ hmp,by rw [← hz2];exact Nat.mod_lt _ hmp,by have:=HR.out.hb;omega,by rw [← hx2,← hy2,← hz2,j8o hb1];exact HR.out.ht⟩
      obtain rfl:yb = 1:=by omega
      clear hy hy2 hyb hx2 hz2 hmp hb1
      go_wp2_with fail
      refine (z4s z x m z2 Hz Hx hm Hz2 _).mono ?_
      rintro e w1 ⟨rfl,rfl⟩
      go_wp2_with fail
      refine (z4s x x m x2 Hx Hx hm Hx2 _).mono ?_
      rintro e w1 ⟨rfl,rfl⟩
      go_wp2_with fail
      go_roundw
      case rel=>exact ⟨x2,y2,z2,rfl,by rw [e4],rfl,hN.out,trivial⟩
      case measure=>rw [e4];exact hlt.out
    · have hN:Hid (MdR m r x2 y2 z):=⟨by rw [← hx2];exact Nat.mod_lt _ hmp,HR.out.hc,by have:=HR.out.hb;omega,by rw [← hx2,← hy2,j9o (by omega)];exact HR.out.ht⟩
      obtain rfl:yb = 0:=by omega
      clear hy hy2 hyb hx2 hz2 hmp hb1
      go_wp2_with fail
      refine (z4s x x m x2 Hx Hx hm Hx2 _).mono ?_
      rintro e w1 ⟨rfl,rfl⟩
      go_wp2_with fail
      go_roundw
      case rel=>exact ⟨x2,y2,z,rfl,by rw [e4],rfl,hN.out,trivial⟩
      case measure=>rw [e4];exact hlt.out
def k5p (k c x:Nat):Nat:=(k + c * x % cQ) % cQ
theorem j7h (k:Nat):pw 4 (k % cQ) = pw 4 k:=k4f z2r k
theorem k3n (k c x:Nat):pw 4 (k5p k c x) = pw 4 k * pw (pw 4 x) c % cP:=by
 unfold k5p
 rw [j7h,← j8q,j7h,k5f,Nat.mul_comm c x]
theorem q1:cQ - 1 + 1 = cQ:=by decide
end Go.Proofs.YtdblnbnofjggnaaGreatDoor
