/- Parts of the proofs of chapter 49's laws: Ern Erp. -/
import Derived.Test.YtdblnbnofjggnaaGreatDoorM18
import Derived.Deep.DeepCutAuto
set_option maxHeartbeats 2000000
set_option maxRecDepth 100000
open Go
open Lib renaming hid → hd_
open Nat renaming le_refl → lR
namespace Go.Proofs.YtdblnbnofjggnaaGreatDoor
open Go.RowKit
def kcs:List Value:=kL.map z6d
def y1d:Array Value:=kcs.toArray
theorem j4x:kcs.length = 64:=by kernel_rfl
theorem j5x (t:Nat) (h:t < 64):kcs[t]? = some (.int .u32 (iw (kK t))):=by
 have hl:kL.length = 64:=by kernel_rfl
 unfold kcs kK
 rw [List.getElem?_map,List.getElem?_eq_getElem (by omega)];simp [z6d,hl,h]
theorem x2z (l:List W32):∀ u ∈ l.map z6d,u.oneCell' = true:=by
 intro u hu;simp only [List.mem_map] at hu;obtain ⟨x,_,rfl⟩:=hu;rfl
theorem z3t {P:Program} {w:World} {ops:Array Oper} {rest:List Oper} {o:Oper} {a:Act} {Q:Exit→Act→World→Prop} {hgd:o.guard = none} (ty:TypeId) (x y:Operand) (ho:o.op = .store ty x y) (g:Nat) (cs:List Value) (n:Nat) (hn:cs.length = n) (hone:∀ u ∈ cs,u.oneCell' = true) (hx:a.eval x = .pointer (some ⟨g,0,none⟩)) (hy:a.eval y = .agg cs.toArray)
 (t:TypeId) (old:Array Value) (hg:w.heap[g]? = some (.cells old t (0,0))) (hold:old.size = n) (hi:(P.info? ty).map (·.size) = some n)
 (h:∀ w',Hid (CB w' g t cs)→Hid (w.grownBy w' (some g))→w'.heap.size = w.heap.size→wpList P ops Q rest (a.put o.dst undef) w'):wpList P ops Q (o :: rest) a w:=by
 have hsz:cs.toArray.size = n:=by rw [List.size_toArray,hn]
 refine wpList_store_row hgd ty x y ho g cs.toArray hx hy t old hg (by rw [hsz];exact hi) (by rw [hsz,hold]) (by rw [Array.all_eq_true_iff_forall_mem];intro x hx;exact hone x (by simpa using hx)) ?_
 refine h _ (setRow_heap _ _ _ _ _ _ hg) ?_ (size_setRow _ _ _)
 exact ⟨rfl,rfl,rfl,by rw [size_setRow];exact lR _,fun k hk hne=>by
  have hkg:k ≠ g:=fun e=>hne (by rw [e])
  simp [World.setRow,Array.getElem?_modify,Ne.symm hkg]⟩
theorem x3d (w:World):Calls Tryz.prog 215 #[] w fun e w'=>e = .returned (.agg kcs.toArray)∧Below w.heap.size w w':=by
 go_enter Tryz.func215,Tryz.ntmps215
 go_upto_region 1 with (fail)
 refine wp_region_list ?_
 refine wpList_build rfl 229 _ rfl (by kernel_rfl) ?_
 generalize hX:(Program.built _ _ _).getD #[] = X
 obtain rfl:X = y1d:=by rw [← hX];kernel_rfl
 clear hX
 refine wpList_store_row rfl 229 (.tmp 0) (.tmp 1) rfl w.heap.size y1d rfl rfl 229 _ (heap_alloc_new _ _) (by kernel_rfl) (by kernel_rfl) (by kernel_rfl) ?_
 have hr:=setRow_heap _ w.heap.size _ y1d _ _ (heap_alloc_new w (.cells (List.replicate 64 (Value.int .u32 0)).toArray 229))
 have hbl:=below_setRow (B:=w.heap.size) ((Below.refl _ w).alloc (lR _) (.cells (List.replicate 64 (Value.int .u32 0)).toArray 229)) (lR w.heap.size) y1d
 obtain ⟨w1,hw1⟩:∃ w1,(w.alloc (.cells (List.replicate 64 (Value.int .u32 0)).toArray 229)).setRow w.heap.size y1d = w1:=⟨_,rfl⟩
 rw [hw1] at hr hbl
 change wpList _ _ _ _ _ ((w.alloc (.cells (List.replicate 64 (Value.int .u32 0)).toArray 229)).setRow w.heap.size y1d)
 rw [hw1]
 have Hr:=hd_ hr;have Hbl:=hd_ hbl
 clear hr hbl hw1
 generalize hk:y1d = kc at *
 have Hk:=hd_ hk
 have hsz:=hd_ (show (Tryz.prog.info? 229).map (·.size) = some kc.size by rw [← hk];kernel_rfl)
 clear hk
 go_wp2
 refine bodyPost_ret (v:=.agg kc) (results_cell_row rfl _ _ w.heap.size 229 kc (0,0) _ rfl Hr.out Tryz.underlying229 rfl hsz.out) rfl ?_
 exact ⟨by rw [← Hk.out];rfl,Hbl.out⟩
def k9q (w:World) (l:List UInt8) (z:Nat) (v:Value) (wr:World):Prop :=
 ∃ k:Nat,k ≤ z∧z0k 5 wr w.heap.size v (l ++ 128 :: List.replicate k 0)∧Below w.heap.size w wr
def k9h (w:World) (p B:List UInt8) (v i:Value) (wr:World):Prop :=
 ∃ j:Nat,j ≤ 8∧i = .int .i64 (7 - (j:Int))∧z0k 5 wr w.heap.size v (p ++ B.take j)∧Below w.heap.size w wr
theorem z0k.form {e:TypeId} {w:World} {base:Nat} {v:Value} {l:List UInt8} (h:z0k e w base v l):∃ oa cap,v = .slice oa l.length cap:=by
 rcases h.2 with ⟨rfl,h0⟩ | ⟨g,cap,cur,rfl,_⟩
 · exact ⟨none,0,by rw [h0]⟩
 · exact ⟨_,cap,rfl⟩
theorem y7m (w:World):z0k 5 (w.alloc (.cells #[] 5)) w.heap.size (.slice (some ⟨w.heap.size,0,none⟩) 0 0) [] :=
 World.ownsRow_made (e:=5) (base:=w.heap.size) (size:=1) w #[] 0 (lR _) (Nat.zero_le _) rfl
theorem k0r (l:List UInt8) (j:Nat) (h:j < 8) (c:UInt8) (hc:(be 8 (8 * l.length))[j]? = some c):(l.length:Int) * 8 / 2 ^ (8 * (7 - j)) % 256 = (c.toNat:Int):=by
 have h1:=x0j 8 (8 * l.length) (7 - j) (by omega)
 rw [show 8 - 1 - (7 - j) = j by omega] at h1
 simp only [z5a,List.getElem?_map,hc,Option.map_some,Option.some.injEq,Value.int.injEq,true_and] at h1
 rw [h1,show (((8 * l.length:Nat)):Int) = (l.length:Int) * 8 by omega]
theorem x4d (B:List UInt8) (j:Nat) (c:UInt8) (hc:B[j]? = some c):B.take (j + 1) = B.take j ++ [c]:=by
 obtain ⟨h1,h2⟩:=List.getElem?_eq_some_iff.1 hc
 rw [List.take_succ_eq_append_getElem h1,h2]
theorem x7p (v:Value) (l:List UInt8) (w:World) (hl:l.length ≤ 1000000) (hb:z9c w.heap.size w l v) :
 Calls Tryz.prog 203 #[v] w fun e w'=>∃ v',e = .returned v'∧z0k 5 w' w.heap.size v' (pad l)∧Below w.heap.size w w':=by
 have HB:=hd_ hb
 obtain ⟨oa,cap,rfl⟩:=hb.shape
 have hS:=hd_ (j7v.ofBts (P:=Tryz.prog) Tryz.underlying50 ((hb.ext ((Below.refl _ w).alloc (lR _) (.cells #[] 5)))))
 have hO:=hd_ (y7m w)
 have hB:=hd_ ((Below.refl w.heap.size w).alloc (lR _) (.cells #[] 5))
 clear hb
 go_enter Tryz.func203,Tryz.ntmps203
 go_wp2_with (first
  | (at_builtin;refine z9b (e:=5) Tryz.underlying50 (by kernel_rfl) rfl (.tmp 6) (.tmp 7) rfl w.heap.size _ [] rfl hO.out _ l rfl hS.out (by simp;omega) hB.out.size ?_;intro v2 w2 ho2 hg2 hn2
     have hb2:Below w.heap.size w w2:=hB.out.grown hg2 hB.out.size (fun g hg=>by
       have h:some w.heap.size = some g:=hg
       injection h;omega)
     rw [List.nil_append] at ho2
     have HO2:=hd_ (ho2.alloc (.cells #[.int .u8 128] 5));have HB2:=hd_ (hb2.alloc hb2.size (.cells #[.int .u8 128] 5))
     have hlt2:=hd_ (fun g hg=>(World.ownsRow.lt ho2 g hg).1)
     obtain ⟨oa2,cp2,rfl⟩:=z0k.form ho2
     clear ho2 hb2 hg2 hn2)
  | (at_builtin;refine z6f (e:=5) Tryz.underlying50 (by kernel_rfl) rfl (.tmp 8) (.tmp 9) rfl w.heap.size _ l rfl HO2.out w2.heap.size 128 128 rfl (by simp) rfl (by omega) HB2.out.size ?_;intro v3 w3 ho3 hg3 hn3
     have hb3:Below w.heap.size w w3:=HB2.out.grown hg3 HB2.out.size hlt2.out
     have HO3:=hd_ ho3;have HB3:=hd_ hb3
     clear ho3 hb3 hg3 hn3 HO2 HB2 hlt2))
 obtain ⟨z,hz⟩:∃ z,(119 - l.length % 64) % 64 = z:=⟨_,rfl⟩
 have Hz:=hd_ hz
 have hz63:z ≤ 63:=by omega
 clear hz
 go_loopw [3] (fun v wr=>k9q w l z v wr) (fun v _=>l.length + 1 + z - k0h v)
 case atStart=>exact ⟨0,Nat.zero_le _,HO3.out,HB3.out⟩
 case round =>
  obtain ⟨k,hk,ho,hb⟩:=hrel
  obtain ⟨oa3,cp3,rfl⟩:=z0k.form ho
  have hln:(l ++ 128 :: List.replicate k (0:UInt8)).length = l.length + 1 + k:=by simp;omega
  have HO:=hd_ ho;have HBr:=hd_ hb
  have hlt:=hd_ (fun g hg=>(World.ownsRow.lt ho g hg).1)
  obtain ⟨p,hp⟩:∃ p,l ++ 128 :: List.replicate k (0:UInt8) = p:=⟨_,rfl⟩
  obtain ⟨n,hn⟩:∃ n,p.length = n:=⟨_,rfl⟩
  rw [hp] at HO hlt hln ⊢
  rw [hn] at hln
  rw [hn] at HO hlt ⊢
  have Hp:=hd_ hp;have Hn:=hd_ hn;have Hln:=hd_ hln
  by_cases hlt2:k < z
  · have e1:(((n:Int) % 64) != 56) = true:=by rw [bne_iff_ne];have:=Hz.out;omega
    have bn:(n:Int) ≤ 2000000:=by omega
    have hw1:=hd_ (HO.out.alloc (.cells #[.int .u8 0] 5));have hw2:=hd_ (HBr.out.alloc HBr.out.size (.cells #[.int .u8 0] 5))
    clear ho hb hp hn hln
    go_wp2_with (at_builtin;refine z6f (e:=5) Tryz.underlying50 (by kernel_rfl) rfl _ _ rfl w.heap.size (.slice oa3 n cp3) p rfl hw1.out wr.heap.size 0 0 rfl (by simp) rfl (by have:=Hn.out;omega) hw2.out.size ?_;intro v4 w4 ho4 hg4 hn4)
    have hb4:Below w.heap.size w w4:=hw2.out.grown hg4 hw2.out.size hlt.out
    obtain ⟨oa4,cp4,rfl⟩:=z0k.form ho4
    have hl4:(p ++ [(0:UInt8)]).length = n + 1:=by rw [List.length_append,Hn.out];rfl
    go_roundw
    case rel=>exact ⟨k + 1,by omega,by
      have h:p ++ [0] = l ++ 128 :: List.replicate (k + 1) (0:UInt8):=by rw [← Hp.out,List.replicate_succ'];simp
      rw [← h];exact ho4,hb4⟩
    case measure=>simp only [k0h,hl4];have:=Hln.out;omega
  · have hkz:k = z:=by omega
    have e1:(((n:Int) % 64) != 56) = false:=by rw [bne_eq_false_iff_eq];have:=Hz.out;omega
    have bn:(n:Int) ≤ 2000000:=by omega
    have bl:(l.length:Int) ≤ 1000000:=by omega
    clear ho hb hp hn hln
    go_wp2
    obtain ⟨wo,rfl⟩:∃ wo:World,wo = wr:=⟨_,rfl⟩
    go_loopw [3,5] (fun v i wr=>k9h w p (be 8 (8 * l.length)) v i wr) (fun _ i _=>(intOf i + 1).toNat)
    case atStart=>exact ⟨0,Nat.zero_le _,rfl,by rw [List.take_zero,List.append_nil];have h:=HO.out;exact h,HBr.out⟩
    case round =>
     obtain ⟨j,hj,rfl,ho,hb⟩:=hrel
     obtain ⟨oa4,cp4,rfl⟩:=z0k.form ho
     have hbl:(be 8 (8 * l.length)).length = 8:=z4p _ _
     have HO4:=hd_ ho;have HB4:=hd_ hb
     have hlt4:=hd_ (fun g hg=>(World.ownsRow.lt ho g hg).1)
     obtain ⟨q,hq⟩:∃ q,p ++ (be 8 (8 * l.length)).take j = q:=⟨_,rfl⟩
     have hql:q.length = n + j:=by rw [← hq,List.length_append,Hn.out,List.length_take,hbl];omega
     rw [hq] at HO4 hlt4 ⊢
     rw [hql] at HO4 hlt4 ⊢
     have Hq:=hd_ hq;have Hql:=hd_ hql
     clear ho hb hq hql
     by_cases h8:j < 8
     · have tk:decide ((0:Int) ≤ 7 - (j:Int)) = true:=by simp;omega
       have tk2:(0:Int) ≤ 7 - (j:Int):=by omega
       have tk3:(7:Int) - (j:Int) ≤ 7:=by omega
       have tk4:(j:Int) ≤ 7:=by omega
       have e5:((8:Int) * (7 - (j:Int))).toNat = 8 * (7 - j):=by omega
       have e6:wrap64 (7 - (j:Int) - 1) = 7 - ((j + 1:Nat):Int):=by unfold wrap64;omega
       obtain ⟨c,hc⟩:∃ c,(be 8 (8 * l.length))[j]? = some c:=⟨_,List.getElem?_eq_getElem (by omega)⟩
       have hxi:=hd_ (k0r l j h8 c hc)
       have htk:=hd_ (x4d _ j c hc)
       have hw1:=hd_ (HO4.out.alloc (.cells #[.int .u8 ((l.length:Int) * 8 / 2 ^ (8 * (7 - j)) % 256)] 5));have hw2:=hd_ (HB4.out.alloc HB4.out.size (.cells #[.int .u8 ((l.length:Int) * 8 / 2 ^ (8 * (7 - j)) % 256)] 5))
       clear hc hbl
       go_wp2_with (at_builtin;refine z6f (e:=5) Tryz.underlying50 (by kernel_rfl) rfl _ _ rfl w.heap.size (.slice oa4 (n + j) cp4) q rfl hw1.out wr.heap.size ((l.length:Int) * 8 / 2 ^ (8 * (7 - j)) % 256) c rfl (by simp) hxi.out (by have:=Hql.out;omega) hw2.out.size ?_;intro v5 w5 ho5 hg5 hn5)
       have hb5:Below w.heap.size w w5:=hw2.out.grown hg5 hw2.out.size hlt4.out
       go_roundw
       case rel=>exact ⟨j + 1,by omega,by rw [show (7:Int) - (j:Int) - 1 = 7 - ((j + 1:Nat):Int) by omega],by rw [htk.out,← List.append_assoc,Hq.out];exact ho5,hb5⟩
       case measure=>simp [intOf];omega
     · have h8':j = 8:=by omega
       have tk:decide ((0:Int) ≤ 7 - (j:Int)) = false:=by simp;omega
       have hfin:Hid (q = pad l):=by
        show q = pad l
        rw [← Hq.out,h8',List.take_of_length_le (by rw [hbl];exact lR _),← Hp.out,hkz,← Hz.out]
        unfold pad;simp
       clear hbl h8'
       go_wp2
       go_ret
       exact ⟨_,rfl,by rw [← hfin.out];have h:=HO4.out;exact h,HB4.out⟩
end Go.Proofs.YtdblnbnofjggnaaGreatDoor
