/- Parts of the proofs of chapter 49's laws: Erb Ers Ert. -/
import Derived.Test.YtdblnbnofjggnaaGreatDoorM23
import Derived.Deep.DeepCutAuto
import Derived.Deep.RegionHeld3
import Derived.StillTailTactics
set_option maxHeartbeats 3000000
set_option maxRecDepth 100000
open Go
open Lib renaming hid → hd_
open World renaming size_alloc → sA
namespace Go.Proofs.YtdblnbnofjggnaaGreatDoor
open Go.RowKit
theorem y9u (x:W32) (ri:Int) (h1:1 ≤ ri) (h2:ri ≤ 31) (w:World):Calls Tryz.prog 214 #[.int .u32 (iw x),.int .i64 ri] w fun e w'=>e = .returned (.int .u32 (iw (ror x ri.toNat)))∧∃ n,w' = w.drewN n:=j4m x ri.toNat ri (by omega) (by omega) (by omega) w
def z6y (w:World) (a:Addr):Value:=(w.cell? a).getD undef
theorem y5d {w:World} {a:Addr} {x:Value} (h:w.cell? a = some x):w.cell? a = some (z6y w a):=by unfold z6y;rw [h];rfl
theorem k2r {w:World} {T t i j:Nat} {x y:Value} (hi:i ≠ t) (hj:j ≠ t) (h:w.cell? ⟨T,i,none⟩ = some x∧w.cell? ⟨T,j,none⟩ = some y∧w.cell? ⟨T,t,none⟩ = some (z6y w ⟨T,t,none⟩)∧w.frozen? ⟨T,t,none⟩ = false) (v:Value) :
 (w.setCell ⟨T,t,none⟩ v).cell? ⟨T,i,none⟩ = some x∧(w.setCell ⟨T,t,none⟩ v).cell? ⟨T,j,none⟩ = some y∧(w.setCell ⟨T,t,none⟩ v).cell? ⟨T,t,none⟩ = some (z6y (w.setCell ⟨T,t,none⟩ v) ⟨T,t,none⟩)∧(w.setCell ⟨T,t,none⟩ v).frozen? ⟨T,t,none⟩ = false :=
 ⟨(World.cell?_setCell_other _ _ _ _ (by simp)).trans h.1,(World.cell?_setCell_other _ _ _ _ (by simp)).trans h.2.1,y5d (World.cell?_setCell_same' _ _ _ (by rw [h.2.2.1];rfl)),by rw [World.frozen?_setCell];exact h.2.2.2⟩
theorem k2i {w:World} {T t i j:Nat} {x y:Value} (h:w.cell? ⟨T,i,none⟩ = some x∧w.cell? ⟨T,j,none⟩ = some y∧w.cell? ⟨T,t,none⟩ = some (z6y w ⟨T,t,none⟩)∧w.frozen? ⟨T,t,none⟩ = false) (n:Nat) :
 (w.drewN n).cell? ⟨T,i,none⟩ = some x∧(w.drewN n).cell? ⟨T,j,none⟩ = some y∧(w.drewN n).cell? ⟨T,t,none⟩ = some (z6y (w.drewN n) ⟨T,t,none⟩)∧(w.drewN n).frozen? ⟨T,t,none⟩ = false:=h
theorem j9a (a x c y:W32):IntKind.u32.wrap (IntKind.u32.wrap (IntKind.u32.wrap (iw a + bits BinOp.xor IntKind.u32 (iw (ror x 7 ^^^ ror x 18)) (iw x / 8)) + iw c) + bits BinOp.xor IntKind.u32 (iw (ror y 17 ^^^ ror y 19)) (iw y / 1024)) = iw (x8b a x c y):=by
 have f2:iw x / (8:Int) = iw (x >>> 3):=k4e x 3
 have f7:iw y / (1024:Int) = iw (y >>> 10):=k4e y 10
 rw [f2,f7,y5h,y5h,IntKind.wrap_u32,IntKind.wrap_u32,IntKind.wrap_u32,y6h,y6h,y6h]
 rfl
def k3r (s:S8) (W:List W32) (w:World) (a b c d e f g h i:Value) (wr:World):Prop :=
 ∃ t n:Nat,t ≤ 64∧i = .int .i64 t∧wr = w.drewN n∧a = .int .u32 (iw (z2i s W t).a)∧b = .int .u32 (iw (z2i s W t).b)∧c = .int .u32 (iw (z2i s W t).c)∧d = .int .u32 (iw (z2i s W t).d)∧e = .int .u32 (iw (z2i s W t).e)∧f = .int .u32 (iw (z2i s W t).f)∧g = .int .u32 (iw (z2i s W t).g)∧h = .int .u32 (iw (z2i s W t).h)
theorem k4r (e f g:W32):e &&& f ^^^ ~~~e &&& g = g ^^^ e &&& (f ^^^ g):=by
 apply BitVec.eq_of_getLsbD_eq;intro i hi
 simp only [BitVec.getLsbD_xor,BitVec.getLsbD_and,BitVec.getLsbD_not,hi,decide_true,Bool.true_and]
 cases e.getLsbD i <;> cases f.getLsbD i <;> cases g.getLsbD i <;> rfl
theorem k3i (a b c:W32):a &&& b ^^^ a &&& c ^^^ b &&& c = a &&& b ||| c &&& (a ||| b):=by
 apply BitVec.eq_of_getLsbD_eq;intro i hi
 simp only [BitVec.getLsbD_xor,BitVec.getLsbD_and,BitVec.getLsbD_or]
 cases a.getLsbD i <;> cases b.getLsbD i <;> cases c.getLsbD i <;> rfl
theorem k0x (x:W32):bits BinOp.xor IntKind.u32 (if IntKind.u32.signed = true then -1 else IntKind.u32.max) (iw x) = iw (~~~x):=by
 have h1:(if IntKind.u32.signed = true then -1 else IntKind.u32.max) = iw (BitVec.allOnes 32):=by decide +kernel
 rw [h1,y5h,BitVec.allOnes_xor]
theorem k5r (v:S8) (k x:W32):(((iw v.h + bits BinOp.xor IntKind.u32 (bits BinOp.xor IntKind.u32 (iw (ror v.e 6)) (iw (ror v.e 11))) (iw (ror v.e 25)) + bits BinOp.xor IntKind.u32 (bits BinOp.and IntKind.u32 (iw v.e) (iw v.f)) (bits BinOp.and IntKind.u32 (iw (~~~v.e)) (iw v.g)) + iw k) % 4294967296 + iw x) % 4294967296) = iw (k7e v k x):=by
 rw [y5h,y5h,j1r,j1r,y5h,j6w,y6h,k4r];rfl
theorem k6r (v:S8):(bits BinOp.xor IntKind.u32 (bits BinOp.xor IntKind.u32 (iw (ror v.a 2)) (iw (ror v.a 13))) (iw (ror v.a 22)) + bits BinOp.xor IntKind.u32 (bits BinOp.xor IntKind.u32 (bits BinOp.and IntKind.u32 (iw v.a) (iw v.b)) (bits BinOp.and IntKind.u32 (iw v.a) (iw v.c))) (bits BinOp.and IntKind.u32 (iw v.b) (iw v.c))) % 4294967296 = iw (k4g v):=by
 rw [y5h,y5h,j1r,j1r,y5h,j1r,y5h,y6h,k3i];rfl
def z64:List Value:=List.replicate 64 (.int .u32 0)
theorem j0y:z64 = wcs []:=rfl
def k7r (T:Nat) (l:List UInt8) (w:World) (i:Value) (wr:World):Prop :=
 ∃ k:Nat,k ≤ 16∧i = .int .i64 k∧CB wr T 229 (wcs ((z1o l).take k))∧w.grownBy wr (some T)
def k8r (T:Nat) (ws:List W32) (w:World) (i:Value) (wr:World):Prop :=
 ∃ k:Nat,k ≤ 48∧i = .int .i64 (k + 16:Nat)∧CB wr T 229 (wcs (z4f k ws))∧w.grownBy wr (some T)
theorem j1y:∀ u ∈ kcs,u.oneCell' = true:=x2z kL
theorem j2y:(Tryz.prog.info? 229).map (·.size) = some 64:=by kernel_rfl
theorem x9p (b off cap:Nat) (s:S8) (l:List UInt8) (w:World) (hl:l.length = 64) (hcap:64 ≤ cap) (hm:cap ≤ maxLen) (hb:b < w.heap.size) (hbl:BL w b off l) :
 Calls Tryz.prog 204 #[.agg (s.l.map z6d).toArray,.slice (some ⟨b,off,none⟩) 64 cap] w fun e w'=>e = .returned (.agg ((z5g s l).l.map z6d).toArray)∧Below w.heap.size w w':=by
 have g1:(64:Int) ≤ (cap:Int):=by omega
 have hL:=hd_ hl;have HBL:=hd_ hbl;have HM:=hd_ hm
 unfold maxLen at hm
 clear hl hbl
 change Calls Tryz.prog 204 #[.agg #[.int .u32 (iw s.a),.int .u32 (iw s.b),.int .u32 (iw s.c),.int .u32 (iw s.d),.int .u32 (iw s.e),.int .u32 (iw s.f),.int .u32 (iw s.g),.int .u32 (iw s.h)],.slice (some ⟨b,off,none⟩) 64 cap] w _
 go_enter Tryz.func204,Tryz.ntmps204
 go_upto_region 1 with (fail)
 have hB0:Hid (CB ((w.alloc (.cells #[.int .u32 (iw s.a),.int .u32 (iw s.b),.int .u32 (iw s.c),.int .u32 (iw s.d),.int .u32 (iw s.e),.int .u32 (iw s.f),.int .u32 (iw s.g),.int .u32 (iw s.h)] 216)).alloc (.cells #[.int .u32 0,.int .u32 0,.int .u32 0,.int .u32 0,.int .u32 0,.int .u32 0,.int .u32 0,.int .u32 0] 216)) w.heap.size 216 (s.l.map z6d)):=(Below.heap_alloc _ _ _ (by rw [sA];omega)).trans (heap_alloc_new w _)
 have hG0:=hd_ (z8a (G:=none) (z8a (z7b w _) (.cells #[.int .u32 (iw s.a),.int .u32 (iw s.b),.int .u32 (iw s.c),.int .u32 (iw s.d),.int .u32 (iw s.e),.int .u32 (iw s.f),.int .u32 (iw s.g),.int .u32 (iw s.h)] 216)) (.cells #[.int .u32 0,.int .u32 0,.int .u32 0,.int .u32 0,.int .u32 0,.int .u32 0,.int .u32 0,.int .u32 0] 216))
 have hR0:=hd_ (heap_alloc_new (w.alloc (.cells #[.int .u32 (iw s.a),.int .u32 (iw s.b),.int .u32 (iw s.c),.int .u32 (iw s.d),.int .u32 (iw s.e),.int .u32 (iw s.f),.int .u32 (iw s.g),.int .u32 (iw s.h)] 216)) (.cells #[.int .u32 0,.int .u32 0,.int .u32 0,.int .u32 0,.int .u32 0,.int .u32 0,.int .u32 0,.int .u32 0] 216))
 rw [sA] at hR0
 have hz0:((w.alloc (.cells #[.int .u32 (iw s.a),.int .u32 (iw s.b),.int .u32 (iw s.c),.int .u32 (iw s.d),.int .u32 (iw s.e),.int .u32 (iw s.f),.int .u32 (iw s.g),.int .u32 (iw s.h)] 216)).alloc (.cells #[.int .u32 0,.int .u32 0,.int .u32 0,.int .u32 0,.int .u32 0,.int .u32 0,.int .u32 0,.int .u32 0] 216)).heap.size = w.heap.size + 2:=by rw [sA,sA]
 generalize (w.alloc (.cells #[.int .u32 (iw s.a),.int .u32 (iw s.b),.int .u32 (iw s.c),.int .u32 (iw s.d),.int .u32 (iw s.e),.int .u32 (iw s.f),.int .u32 (iw s.g),.int .u32 (iw s.h)] 216)).alloc (.cells #[.int .u32 0,.int .u32 0,.int .u32 0,.int .u32 0,.int .u32 0,.int .u32 0,.int .u32 0,.int .u32 0] 216) = w0 at *
 have Hz0:=hd_ hz0
 clear hz0
 refine wp_region_list ?_
 refine wpList_build rfl 229 _ rfl (by kernel_rfl) ?_
 generalize hX:(Program.built _ _ _).getD #[] = X
 obtain rfl:X = z64.toArray:=by rw [← hX];kernel_rfl
 clear hX
 go_wp2_with (with_reducible refine z3t (hgd:=rfl) 229 (.tmp 5) (.tmp 22) rfl w0.heap.size z64 64 ?z1 ?z2 rfl rfl 229 _ (heap_alloc_new _ _) rfl ?z3 ?_)
 case z1=>kernel_rfl
 case z2=>exact x2z (List.replicate 64 0)
 case z3=>kernel_rfl
 intro w1 hc1 hg1 hz1
 have HC1:=hc1
 have hgw:w0.grownBy w1 none:=z2a (World.grownBy_alloc w0 _ none) hg1.out (.inr fun g hg=>by injection hg;omega)
 have HGW:=hd_ (z2a hG0.out hgw (.inl rfl))
 have HGW0:=hd_ hgw
 have HB1:Hid (CB w1 w.heap.size 216 (s.l.map z6d)):=hB0.out.keep (hgw.block _ hB0.out.lt (by simp))
 have hTs:w0.heap.size < w1.heap.size:=hc1.out.lt
 have hTw:w.heap.size < w0.heap.size:=by rw [Hz0.out];omega
 obtain ⟨T,hT⟩:∃ T,w0.heap.size = T:=⟨_,rfl⟩
 have hTz:Hid (w0.heap.size ≤ T):=Nat.le_of_eq hT
 have hRz:Hid (w.heap.size + 1 < w0.heap.size):=by show _ < _;rw [Hz0.out];omega
 rw [hT] at HC1 hTs hTw ⊢
 rw [j0y] at HC1
 clear hc1 hg1 hz1 hgw hB0 hG0 hT Hz0
 go_wp2
 go_loopw [6] (fun i wr=>k7r T l w1 i wr) (fun i _=>16 - (intOf i).toNat)
 case atStart=>exact ⟨0,by omega,rfl,HC1.out,z7b _ _⟩
 case round =>
  obtain ⟨k,hk,rfl,hcb,hg⟩:=hrel
  have HG:=hd_ hg;have HCB:=hd_ hcb
  by_cases hlt:k < 16
  · have tk:decide ((k:Int) < 16) = true:=by simp;omega
    have hfz:=hcb.frozen k
    have hc:=hcb.cell k
    have hw:=hd_ (y4i l k hlt)
    have hst:=hd_ (y9l ((z1o l).take k) k (z1j l k (by omega)) (by omega) (j6k (l.drop (4 * k))))
    rw [z0x _ (by rw [z1j l k (by omega)];omega) k (by omega)] at hc
    have hbT:b ≠ T:=by omega
    have hbw:b < w1.heap.size:=by omega
    clear hcb hg
    go_wp2_with fail
    refine (x2y b (off + 4 * k) 4 (cap - 4 * k) (l.drop (4 * k)) _ (by rw [List.length_drop,hL.out];omega) (by omega) (((HBL.out.keep (HGW.out.block b hb (by simp))).keep (HG.out.block b hbw (by intro e;injection e;omega))).drop (4 * k))).mono ?_
    rintro e w2 ⟨rfl,nq,rfl⟩
    have hcb2:Hid (CB (wr.drewN nq) T 229 (wcs ((z1o l).take k))):=HCB.out
    have hg2:=hd_ (z9g HG.out nq)
    have hc2:(wr.drewN nq).cell? ⟨T,k,none⟩ = some (.int .u32 (iw (((z1o l).take k).getD k 0))):=hc
    have hf2:(wr.drewN nq).frozen? ⟨T,k,none⟩ = false:=hfz
    generalize wr.drewN nq = w3 at *
    clear HCB HG hc hfz
    go_wp2_with fail
    go_roundw
    case rel=>exact ⟨k + 1,by omega,by go_num,by rw [hw.out,← hst.out];exact hcb2.out.set _ _,z5d hg2.out⟩
    case measure=>simp [intOf];omega
  · have hke:k = 16:=by omega
    rw [hke] at hcb
    have tk:decide ((k:Int) < 16) = false:=by simp;omega
    have hws:(z1o l).take 16 = z1o l:=List.take_of_length_le (by rw [z9m];omega)
    rw [hws] at hcb
    have HW:=hd_ hcb
    have hwl:=hd_ (z9m l)
    obtain ⟨ws,hwe⟩:∃ ws,z1o l = ws:=⟨_,rfl⟩
    rw [hwe] at HW hwl
    have Hwe:=hd_ hwe
    clear hcb hg hke HCB hws hwe
    go_wp2
    go_loopw [7] (fun i wr=>k8r T ws w1 i wr) (fun i _=>64 - (intOf i).toNat)
    case atStart=>exact ⟨0,by omega,rfl,HW.out,HG.out⟩
    case round =>
     obtain ⟨k,hk,rfl,hcb,hg⟩:=hrel
     obtain ⟨t,ht⟩:∃ t,k + 16 = t:=⟨_,rfl⟩
     rw [ht]
     have HG:=hd_ hg
     have HCB:=hd_ hcb
     by_cases hlt:k < 48
     · have hsl:(z4f k ws).length = t:=by rw [z9u,hwl.out];omega
       obtain ⟨x16,h16⟩:∃ x,(z4f k ws).getD (t - 16) 0 = x:=⟨_,rfl⟩
       obtain ⟨x15,h15⟩:∃ x,(z4f k ws).getD (t - 15) 0 = x:=⟨_,rfl⟩
       obtain ⟨x7,h7⟩:∃ x,(z4f k ws).getD (t - 7) 0 = x:=⟨_,rfl⟩
       obtain ⟨x2,h2⟩:∃ x,(z4f k ws).getD (t - 2) 0 = x:=⟨_,rfl⟩
       have hsc:Hid (z4f (k + 1) ws = z4f k ws ++ [x8b x16 x15 x7 x2]):=by
        show z4f (k + 1) ws = _
        rw [← h16,← h15,← h7,← h2,← ht];rfl
       have hst:=hd_ (y9l (z4f k ws) t hsl (by omega) (x8b x16 x15 x7 x2))
       have hcell:∀ j,j < 64→wr.cell? ⟨T,j,none⟩ = some (.int .u32 (iw ((z4f k ws).getD j 0))):=fun j hj=>(hcb.cell j).trans (z0x _ (by omega) j hj)
       have c16:=hcell (t - 16) (by omega)
       have c15:=hcell (t - 15) (by omega)
       have c7:=hcell (t - 7) (by omega)
       have c2:=hcell (t - 2) (by omega)
       have c0:=y5d (hcell t (by omega))
       rw [h16] at c16;rw [h15] at c15;rw [h7] at c7;rw [h2] at c2
       have hfz:=hcb.frozen t
       have n5:(16:Int) ≤ (t:Int):=by omega
       have n6:(t:Int) < 64:=by omega
       have n1:t - 15 < 64:=by omega
       have n2:t - 2 < 64:=by omega
       have n3:t - 16 < 64:=by omega
       have n4:t - 7 < 64:=by omega
       have tk:decide ((t:Int) < 64) = true:=by simp;omega
       have Ht:=hd_ ht
       have f1:=y5h (ror x15 7) (ror x15 18)
       have f6:=y5h (ror x2 17) (ror x2 19)
       have q16:IntKind.i64.wrap ((t:Int) - 16) = (t:Int) - 16:=IntWalk.i64_in _ (by omega)
       have q7:IntKind.i64.wrap ((t:Int) - 7) = (t:Int) - 7:=IntWalk.i64_in _ (by omega)
       have m16:((t:Int) - 16).toNat = t - 16:=by omega
       have m7:((t:Int) - 7).toNat = t - 7:=by omega
       have z16:(0:Int) ≤ (t:Int) - 16:=by omega
       have z7:(0:Int) ≤ (t:Int) - 7:=by omega
       have o7:(7:Int) ≤ (t:Int):=by omega
       have y16:(t:Int) - 16 < 64:=by omega
       have y7:(t:Int) - 7 < 64:=by omega
       have hSw:=And.intro c16 (And.intro c7 (And.intro c0 hfz))
       have hSd:wr.drew.cell? ⟨T,t - 16,none⟩ = some (.int .u32 (iw x16))∧wr.drew.cell? ⟨T,t - 7,none⟩ = some (.int .u32 (iw x7))∧wr.drew.cell? ⟨T,t,none⟩ = some (z6y wr.drew ⟨T,t,none⟩)∧wr.drew.frozen? ⟨T,t,none⟩ = false:=hSw
       have nt16:t - 16 ≠ t:=by omega
       have nt7:t - 7 ≠ t:=by omega
       clear hcell hcb hg h16 h15 h7 h2 hsl ht
       go_wp2
       go_region_held3 (fun w'=>w'.cell? ⟨T,t - 16,none⟩ = some (.int .u32 (iw x16))∧w'.cell? ⟨T,t - 7,none⟩ = some (.int .u32 (iw x7))∧w'.cell? ⟨T,t,none⟩ = some (z6y w' ⟨T,t,none⟩)∧w'.frozen? ⟨T,t,none⟩ = false)
        (first | assumption | exact k2i hSw _ | exact k2r nt16 nt7 (k2i hSw _) _)
        ((go_at_call 214;refine (y9u _ _ (by decide) (by decide) _).mono ?_;rintro e w4 ⟨rfl,n4',rfl⟩))
       rw [j9a]
       generalize (1 + _ + _ + _ + _:Nat) = N
       have hcb3:Hid (CB (wr.drewN N) T 229 (wcs (z4f k ws))):=HCB.out
       have hg3:=hd_ (z9g HG.out N)
       generalize wr.drewN N = w3 at *
       clear HCB HG c16 c15 c7 c2 c0 hfz hSw hSd
       go_wp2
       go_roundw
       case rel=>exact ⟨k + 1,by omega,by have:=Ht.out;go_num,by rw [hsc.out,← hst.out];exact hcb3.out.set _ _,z5d hg3.out⟩
       case measure=>simp [intOf];omega
     · have hke:k = 48:=by omega
       rw [hke] at hcb
       have tk:decide ((t:Int) < 64) = false:=by simp;omega
       have HT:=hd_ hcb
       obtain ⟨W,hW⟩:∃ W,z4f 48 ws = W:=⟨_,rfl⟩
       rw [hW] at HT
       have HW2:=hd_ hW
       obtain ⟨wo,rfl⟩:∃ wo:World,wo = wr:=⟨_,rfl⟩
       have hBB:Hid (CB wo w.heap.size 216 (s.l.map z6d)):=HB1.out.keep (HG.out.block _ HB1.out.lt (by intro e;injection e;omega))
       have HWO:=hd_ (z2a HGW.out HG.out (.inr fun g hg=>by injection hg;omega))
       have HWO0:=hd_ (z2a HGW0.out HG.out (.inr fun g hg=>by injection hg;have:=hTz.out;omega))
       have hTo:=hd_ hcb.lt
       clear hcb hg hke HCB ht hW HG HB1 HGW
       go_wp2_with fail
       obtain ⟨kc,hkc⟩:∃ kc,kcs = kc:=⟨_,rfl⟩
       have Kl:=hd_ j4x
       have Ko:=hd_ j1y
       have Kg:=hd_ j5x
       rw [hkc] at Kl Ko Kg
       have Hkc:=hd_ hkc
       clear hkc
       refine (x3d _).mono ?_
       rw [Hkc.out]
       rintro e w2 ⟨rfl,hb2⟩
       have Hb2:=hd_ hb2
       clear hb2
       go_wp2_with (with_reducible refine z3t (hgd:=rfl) 229 (.tmp 10) (.tmp 78) rfl w2.heap.size kc 64 Kl.out Ko.out rfl rfl 229 _ (heap_alloc_new _ _) rfl j2y ?_;intro w3 hc3 hg3 hz3)
       have hg23:wo.grownBy w3 none:=z2a (z2a ⟨Hb2.out.os,Hb2.out.tape,Hb2.out.output,Hb2.out.size,fun j hj _=>Hb2.out.block j hj⟩ (World.grownBy_alloc w2 _ none) (.inl rfl)) hg3.out (.inr fun g hg=>by injection hg;have:=Hb2.out.size;omega)
       have hB3:Hid (CB w3 w.heap.size 216 (s.l.map z6d)):=hBB.out.keep (hg23.block _ hBB.out.lt (by simp))
       have hT3:Hid (CB w3 T 229 (wcs W)):=HT.out.keep (hg23.block _ hTo.out (by simp))
       have HG3:=hd_ (z2a HWO.out hg23 (.inl rfl))
       have HG30:=hd_ (z2a HWO0.out hg23 (.inl rfl))
       obtain ⟨s0,s1,s2,s3,s4,s5,s6,s7⟩:=cb8 hB3.out
       obtain ⟨K,hK⟩:∃ K,w2.heap.size = K:=⟨_,rfl⟩
       rw [hK] at hc3 ⊢
       clear hg23 hg3 hz3 Hb2 hBB HT HWO hTo hK
       go_wp2
       go_quiet (fail)
       have hB4:Hid (CB (w3.drewN nq) w.heap.size 216 (s.l.map z6d)):=hB3.out
       have hT4:Hid (CB (w3.drewN nq) T 229 (wcs W)):=hT3.out
       have hK4:Hid (CB (w3.drewN nq) K 229 kc):=hc3.out
       have HG4:=hd_ (z9g HG3.out nq)
       have HG40:=hd_ (z9g HG30.out nq)
       generalize w3.drewN nq = w4 at *
       clear hB3 hT3 hc3 HG3 s0 s1 s2 s3 s4 s5 s6 s7
       go_wp2
       go_loopw [11,12,13,14,15,16,17,18,19] (fun a b c d e f g h i wr=>k3r s W w4 a b c d e f g h i wr) (fun _ _ _ _ _ _ _ _ i _=>64 - (intOf i).toNat)
       case atStart=>exact ⟨0,0,by omega,rfl,rfl,rfl,rfl,rfl,rfl,rfl,rfl,rfl,rfl⟩
       case round =>
        obtain ⟨t,n,ht64,rfl,rfl,rfl,rfl,rfl,rfl,rfl,rfl,rfl,rfl⟩:=hrel
        obtain ⟨v,hv⟩:∃ v,z2i s W t = v:=⟨_,rfl⟩
        rw [hv]
        have Hv:=hd_ hv
        clear hv
        by_cases hlt:t < 64
        · have tk:decide ((t:Int) < 64) = true:=by simp;omega
          have n6:(t:Int) < 64:=by omega
          obtain ⟨wt,hwt⟩:∃ x,W.getD t 0 = x:=⟨_,rfl⟩
          obtain ⟨kt,hkt⟩:∃ x,kK t = x:=⟨_,rfl⟩
          have cw:(w4.drewN n).cell? ⟨T,t,none⟩ = some (.int .u32 (iw (W.getD t 0))):=(hT4.out.cell t).trans (z0x W (by rw [← HW2.out,z9u,hwl.out];decide) t hlt)
          have ck:(w4.drewN n).cell? ⟨K,t,none⟩ = some (.int .u32 (iw (kK t))):=(hK4.out.cell t).trans (Kg.out t hlt)
          rw [hwt] at cw
          rw [hkt] at ck
          have Hwt:=hd_ hwt;have Hkt:=hd_ hkt
          generalize hwn:w4.drewN n = w5 at *
          have Hwn:=hd_ hwn
          clear hwt hkt hwn
          go_wp2
          go_quiet ((go_at_call 214;exact Calls.quiet_of (y9u _ _ (by decide) (by decide) _)))
          rw [k0x,k5r]
          obtain ⟨nv,hnv⟩:∃ x,~~~v.e = x:=⟨_,rfl⟩
          rw [hnv]
          clear hnv
          obtain ⟨pp,hpp⟩:∃ x,k7e v kt wt = x:=⟨_,rfl⟩
          rw [hpp]
          have Hpp:=hd_ hpp
          have hW6:Hid (∃ N,w5.drewN nq = w4.drewN N):=⟨n + nq,by rw [← Hwn.out,World.drewN_drewN]⟩
          generalize w5.drewN nq = w6 at *
          clear hpp cw ck n6
          go_wp2_with fail
          refine (y9u _ _ (by decide) (by decide) _).mono ?_
          rintro e w6 ⟨rfl,n1,rfl⟩
          go_wp2_with fail
          refine (y9u _ _ (by decide) (by decide) _).mono ?_
          rintro e w6 ⟨rfl,n2,rfl⟩
          go_wp2_with fail
          refine (y9u _ _ (by decide) (by decide) _).mono ?_
          rintro e w6 ⟨rfl,n3,rfl⟩
          go_upto_region 19 with (fail)
          rw [k6r]
          obtain ⟨qq,hqq⟩:∃ x,k4g v = x:=⟨_,rfl⟩
          rw [hqq]
          have Hqq:=hd_ hqq
          clear hqq
          go_wp2
          go_roundw
          case rel =>
           obtain ⟨N,hN⟩:=hW6.out
           have hr:z2i s W (t + 1) = rnd v kt wt:=by
            show rnd (z2i s W t) (kK t) (W.getD t 0) = _
            rw [Hv.out,Hkt.out,Hwt.out]
           refine ⟨t + 1,N + (n1 + n2 + n3),by omega,by go_num,by rw [hN,World.drewN_drewN],?_,?_,?_,?_,?_,?_,?_,?_⟩
           all_goals rw [hr]
           · rw [y6h,← Hpp.out,← Hqq.out];rfl
           · rfl
           · rfl
           · rfl
           · rw [y6h,← Hpp.out];rfl
           · rfl
           · rfl
           · rfl
          case measure=>simp [intOf];omega
        · have hte:t = 64:=by omega
          have tk:decide ((t:Int) < 64) = false:=by simp;omega
          have hbx:CB (w4.drewN n) w.heap.size 216 (s.l.map z6d):=hB4.out
          have hrx:Hid ((w4.drewN n).heap[w.heap.size + 1]? = some (.cells #[.int .u32 0,.int .u32 0,.int .u32 0,.int .u32 0,.int .u32 0,.int .u32 0,.int .u32 0,.int .u32 0] 216 (0,0))):=(HG40.out.block (w.heap.size + 1) hRz.out (by simp)).trans hR0.out
          have hbl:Hid (z5g s l = s.add v):=by
           show z5g s l = _
           unfold z5g;rw [Hwe.out,HW2.out,← hte,Hv.out]
          have HGN:=hd_ (z9g HG4.out n)
          generalize w4.drewN n = w5 at *
          obtain ⟨s0,s1,s2,s3,s4,s5,s6,s7⟩:=cb8 hbx
          have b0:=y6h s.a v.a
          have b1:=y6h s.b v.b
          have b2:=y6h s.c v.c
          have b3:=y6h s.d v.d
          have b4:=y6h s.e v.e
          have b5:=y6h s.f v.f
          have b6:=y6h s.g v.g
          have b7:=y6h s.h v.h
          have r0:w5.cell? ⟨w.heap.size + 1,0,none⟩ = some (.int .u32 0):=by simp [World.cell?,hrx.out]
          have r1:w5.cell? ⟨w.heap.size + 1,1,none⟩ = some (.int .u32 0):=by simp [World.cell?,hrx.out]
          have r2:w5.cell? ⟨w.heap.size + 1,2,none⟩ = some (.int .u32 0):=by simp [World.cell?,hrx.out]
          have r3:w5.cell? ⟨w.heap.size + 1,3,none⟩ = some (.int .u32 0):=by simp [World.cell?,hrx.out]
          have r4:w5.cell? ⟨w.heap.size + 1,4,none⟩ = some (.int .u32 0):=by simp [World.cell?,hrx.out]
          have r5:w5.cell? ⟨w.heap.size + 1,5,none⟩ = some (.int .u32 0):=by simp [World.cell?,hrx.out]
          have r6:w5.cell? ⟨w.heap.size + 1,6,none⟩ = some (.int .u32 0):=by simp [World.cell?,hrx.out]
          have r7:w5.cell? ⟨w.heap.size + 1,7,none⟩ = some (.int .u32 0):=by simp [World.cell?,hrx.out]
          have rf:∀ o,w5.frozen? ⟨w.heap.size + 1,o,none⟩ = false:=fun o=>by simp [World.frozen?,hrx.out]
          clear hbx hte
          go_wp2
          refine bodyPost_ret (v:=.agg #[.int .u32 (iw (s.a + v.a)),.int .u32 (iw (s.b + v.b)),.int .u32 (iw (s.c + v.c)),.int .u32 (iw (s.d + v.d)),.int .u32 (iw (s.e + v.e)),.int .u32 (iw (s.f + v.f)),.int .u32 (iw (s.g + v.g)),.int .u32 (iw (s.h + v.h))]) (by simp [results,Tryz.results204,go_sem,r0,r1,r2,r3,r4,r5,r6,r7]) rfl ?_
          refine ⟨by rw [hbl.out];rfl,?_⟩
          have h0:=z5i HGN.out
          exact ((((((((h0.setCell (p:=⟨w.heap.size + 1,0,none⟩) (Nat.le_succ _) _).setCell (p:=⟨w.heap.size + 1,1,none⟩) (Nat.le_succ _) _).setCell (p:=⟨w.heap.size + 1,2,none⟩) (Nat.le_succ _) _).setCell (p:=⟨w.heap.size + 1,3,none⟩) (Nat.le_succ _) _).setCell (p:=⟨w.heap.size + 1,4,none⟩) (Nat.le_succ _) _).setCell (p:=⟨w.heap.size + 1,5,none⟩) (Nat.le_succ _) _).setCell (p:=⟨w.heap.size + 1,6,none⟩) (Nat.le_succ _) _).setCell (p:=⟨w.heap.size + 1,7,none⟩) (Nat.le_succ _) _)
theorem x0q (b off cap:Nat) (s:S8) (l:List UInt8) (w:World) (hl:l.length = 64) (hcap:64 ≤ cap) (hm:cap ≤ maxLen) (hb:b < w.heap.size) (hbl:BL w b off l) :
 Calls Tryz.prog 204 #[.agg #[.int .u32 (iw s.a),.int .u32 (iw s.b),.int .u32 (iw s.c),.int .u32 (iw s.d),.int .u32 (iw s.e),.int .u32 (iw s.f),.int .u32 (iw s.g),.int .u32 (iw s.h)],.slice (some ⟨b,off,none⟩) 64 cap] w fun e w'=>(∃ t,z5g s l = t∧e = .returned (.agg #[.int .u32 (iw t.a),.int .u32 (iw t.b),.int .u32 (iw t.c),.int .u32 (iw t.d),.int .u32 (iw t.e),.int .u32 (iw t.f),.int .u32 (iw t.g),.int .u32 (iw t.h)]))∧Below w.heap.size w w' :=
 (x9p b off cap s l w hl hcap hm hb hbl).mono fun _ _ h=>⟨⟨_,rfl,h.1⟩,h.2⟩
def k4i (st:S8):List UInt8:=st.l.flatMap fun x=>be 4 x.toNat
theorem j8m (st:S8):(k4i st).length = 32:=by simp [k4i,S8.l,z4p]
theorem k5i (st:S8) (j:Nat) (h:j < 8):(st.l.map z6d)[j]? = some (.int .u32 (iw (st.l.getD j 0))):=by
 rcases (by omega:j = 0∨j = 1∨j = 2∨j = 3∨j = 4∨j = 5∨j = 6∨j = 7) with rfl | rfl | rfl | rfl | rfl | rfl | rfl | rfl <;> rfl
theorem j3y (st:S8) (j q:Nat) (h:j < 8) (hq:q < 4):(z5a (k4i st))[4 * j + q]? = some (.int .u8 (iw (st.l.getD j 0) / 2 ^ (24 - 8 * q) % 256)):=by
 have h1:∀ x:W32,(z5a (be 4 x.toNat))[q]? = some (.int .u8 (iw x / 2 ^ (24 - 8 * q) % 256)):=fun x=>by
  have:=x0j 4 x.toNat (3 - q) (by omega)
  rw [show 4 - 1 - (3 - q) = q by omega,show 8 * (3 - q) = 24 - 8 * q by omega] at this
  exact this
 have h2:(z5a (k4i st))[4 * j + q]? = (z5a (be 4 (st.l.getD j 0).toNat))[q]?:=by
  rcases (by omega:j = 0∨j = 1∨j = 2∨j = 3∨j = 4∨j = 5∨j = 6∨j = 7) with rfl | rfl | rfl | rfl | rfl | rfl | rfl | rfl <;>
   rcases (by omega:q = 0∨q = 1∨q = 2∨q = 3) with rfl | rfl | rfl | rfl <;> rfl
 rw [h2];exact h1 _
theorem j9m (o:List UInt8) (k:Nat) (ho:o.length = 32) (hk:k < 32) (u:Value) (hu:(z5a o)[k]? = some u):(z5a (o.take k ++ List.replicate (32 - k) 0)).set k u = z5a (o.take (k + 1) ++ List.replicate (32 - (k + 1)) 0):=by
 obtain ⟨c,hc,rfl⟩:=z0j o k u hu
 obtain ⟨h1,h2⟩:=List.getElem?_eq_some_iff.1 hc
 have e:(Value.int .u8 (c.toNat:Int)) = ub c:=rfl
 rw [z0h,e,← List.map_set,z0h]
 congr 1
 rw [show 32 - k = (32 - (k + 1)) + 1 by omega,List.replicate_succ,List.set_append_right _ _ (by rw [List.length_take];omega),List.length_take,Nat.min_eq_left (by omega),Nat.sub_self,List.set_cons_zero,List.take_succ_eq_append_getElem h1,h2]
 simp
def k9r (D:Nat) (o:List UInt8) (w:World) (i:Value) (wr:World):Prop :=
 ∃ k:Nat,k ≤ 32∧i = .int .i64 k∧CB wr D 165 (z5a (o.take k ++ List.replicate (32 - k) 0))∧w.grownBy wr (some D)
def k0s (S:Nat) (p:List UInt8) (w:World) (i:Value) (wr:World):Prop :=
 ∃ k:Nat,64 * k ≤ p.length∧i = .int .i64 (64 * k:Nat)∧CB wr S 216 ((z2c k z3i p).l.map z6d)∧w.grownBy wr (some S)
theorem x6l (v:Value) (l:List UInt8) (w:World) (hl:l.length ≤ 1000000) (hb:z9c w.heap.size w l v) :
 Calls Tryz.prog 187 #[v] w fun e w'=>e = .returned (dv (sha l))∧Below w.heap.size w w':=by
 have HB:=hd_ hb
 obtain ⟨oa,cap,rfl⟩:=hb.shape
 clear hb
 go_enter Tryz.func187,Tryz.ntmps187
 go_wp2_with fail
 have hw0:∃ w0,(w.alloc (.cells #[.int .u8 0,.int .u8 0,.int .u8 0,.int .u8 0,.int .u8 0,.int .u8 0,.int .u8 0,.int .u8 0,.int .u8 0,.int .u8 0,.int .u8 0,.int .u8 0,.int .u8 0,.int .u8 0,.int .u8 0,.int .u8 0,.int .u8 0,.int .u8 0,.int .u8 0,.int .u8 0,.int .u8 0,.int .u8 0,.int .u8 0,.int .u8 0,.int .u8 0,.int .u8 0,.int .u8 0,.int .u8 0,.int .u8 0,.int .u8 0,.int .u8 0,.int .u8 0] 165)).alloc (.cells #[.int .u32 1779033703,.int .u32 3144134277,.int .u32 1013904242,.int .u32 2773480762,.int .u32 1359893119,.int .u32 2600822924,.int .u32 528734635,.int .u32 1541459225] 216) = w0:=⟨_,rfl⟩
 obtain ⟨w0,hw0⟩:=hw0
 rw [hw0]
 have hA:CB w0 w.heap.size 165 (z5a (List.replicate 32 0)):=by
  rw [← hw0];exact (Below.heap_alloc _ _ _ (by rw [sA];omega)).trans (heap_alloc_new w _)
 have hSx:=heap_alloc_new (w.alloc (.cells #[.int .u8 0,.int .u8 0,.int .u8 0,.int .u8 0,.int .u8 0,.int .u8 0,.int .u8 0,.int .u8 0,.int .u8 0,.int .u8 0,.int .u8 0,.int .u8 0,.int .u8 0,.int .u8 0,.int .u8 0,.int .u8 0,.int .u8 0,.int .u8 0,.int .u8 0,.int .u8 0,.int .u8 0,.int .u8 0,.int .u8 0,.int .u8 0,.int .u8 0,.int .u8 0,.int .u8 0,.int .u8 0,.int .u8 0,.int .u8 0,.int .u8 0,.int .u8 0] 165)) (.cells #[.int .u32 1779033703,.int .u32 3144134277,.int .u32 1013904242,.int .u32 2773480762,.int .u32 1359893119,.int .u32 2600822924,.int .u32 528734635,.int .u32 1541459225] 216)
 rw [hw0,sA] at hSx
 have hst:(#[.int .u32 1779033703,.int .u32 3144134277,.int .u32 1013904242,.int .u32 2773480762,.int .u32 1359893119,.int .u32 2600822924,.int .u32 528734635,.int .u32 1541459225]:Array Value) = (z3i.l.map z6d).toArray:=by kernel_rfl
 rw [hst] at hSx
 have hS:CB w0 (w.heap.size + 1) 216 (z3i.l.map z6d):=hSx
 have hG:w.grownBy w0 none:=by rw [← hw0];exact z8a (z8a (z7b w _) _) _
 have HA:=hd_ hA;have HS:=hd_ hS;have HG:=hd_ hG
 clear hA hSx hst hS hG hw0
 refine (x7p _ l w0 hl (HB.out.ext (z5i HG.out))).mono ?_
 rintro e w1 ⟨v1,rfl,ho1,hb1⟩
 obtain ⟨p,hp⟩:∃ p,pad l = p:=⟨_,rfl⟩
 have hpl:=j6v l
 rw [hp] at ho1 hpl
 have Hp:=hd_ hp
 obtain ⟨g,cp,rfl,hg0,hpc,hcm⟩:∃ g cp,v1 = .slice (some ⟨g,0,none⟩) p.length cp∧w0.heap.size ≤ g∧p.length ≤ cp∧cp ≤ maxLen:=by
  rcases ho1.2 with ⟨_,h⟩ | ⟨g',cap',cur,h,h2,_,h3,h4,_⟩
  · omega
  · exact ⟨g',cap',h,h2,h3,h4⟩
 have HBL:Hid (BL w1 g 0 p):=fun j c hj=>by
  have h:=World.ownsRow.cells (e:=5) ho1 (g:=g) rfl j (.int .u8 c.toNat) (by simp [z5a,hj])
  have hpl:(⟨g,0,none⟩:Addr).add j = ⟨g,0 + j,none⟩:=by unfold Addr.add;split <;> simp_all
  rw [hpl] at h;exact h
 have hgw1:=(World.ownsRow.lt ho1 g rfl).2
 have hSl:w.heap.size + 1 < w0.heap.size:=HS.out.lt
 have HS1:Hid (CB w1 (w.heap.size + 1) 216 (z3i.l.map z6d)):=HS.out.keep (hb1.block _ hSl)
 have HA1:Hid (CB w1 w.heap.size 165 (z5a (List.replicate 32 0))):=HA.out.keep (hb1.block _ HA.out.lt)
 have HG1:=hd_ (z2a HG.out (G1:=none) ⟨hb1.os,hb1.tape,hb1.output,hb1.size,fun j hj _=>hb1.block j hj⟩ (.inl rfl))
 obtain ⟨P,hP⟩:∃ P,p.length = P:=⟨_,rfl⟩
 have hP64:P % 64 = 0:=by rw [← hP];exact hpl.1
 have hPb:P ≤ 2000000:=by rw [← hP,hpl.2];omega
 rw [hP] at hpc ⊢
 have HP:=hd_ hP
 have HP64:=hd_ hP64;have Hcm:=hd_ hcm
 unfold maxLen at hcm
 clear ho1 hb1 hp hpl hP HS HA HG hP64
 have bP:(P:Int) ≤ 2000000:=by omega
 have bc:(P:Int) ≤ (cp:Int):=by omega
 go_wp2
 go_loopw [5] (fun i wr=>k0s (w.heap.size + 1) p w1 i wr) (fun i _=>P + 64 - (intOf i).toNat)
 case atStart=>exact ⟨0,Nat.zero_le _,rfl,HS1.out,z7b _ _⟩
 case round =>
  obtain ⟨k,hk,rfl,hs,hg⟩:=hrel
  obtain ⟨m,hm⟩:∃ m,64 * k = m:=⟨_,rfl⟩
  rw [hm]
  have Hm:=hd_ hm
  rw [hm,HP.out] at hk
  have hm64:m % 64 = 0:=by omega
  by_cases hlt:m < P
  · have hmP:m + 64 ≤ P:=by have:=HP64.out;omega
    have tk:decide (m < P) = true:=by simp;omega
    obtain ⟨s0,s1,s2,s3,s4,s5,s6,s7⟩:=cb8 hs
    obtain ⟨st,hst⟩:∃ st,z2c k z3i p = st:=⟨_,rfl⟩
    rw [hst] at s0 s1 s2 s3 s4 s5 s6 s7 hs
    have Hst:=hd_ hst
    have fz:∀ o,wr.frozen? ⟨w.heap.size + 1,o,none⟩ = false:=fun o=>hs.frozen o
    have e1:IntKind.i64.wrap ((m:Int) + 64) = (m:Int) + 64:=IntWalk.i64_in _ (by omega)
    have b1:(m:Int) + 64 ≤ (cp:Int):=by omega
    have b2:(m:Int) ≤ (m:Int) + 64:=by omega
    have b3:(0:Int) ≤ (m:Int) + 64:=by omega
    have e2:((m:Int) + 64).toNat = m + 64:=by omega
    have HSr:=hd_ hs;have HGr:=hd_ hg
    clear hst hs hg hm hm64
    go_wp2
    go_still_tail 6,(by kernel_rfl)
    change wpList _ _ _ _ _ wr.drew
    have hS5:Hid (CB wr.drew (w.heap.size + 1) 216 (st.l.map z6d)):=HSr.out
    have hG5:=hd_ (z5f HGr.out)
    generalize wr.drew = w5 at *
    clear HSr HGr s0 s1 s2 s3 s4 s5 s6 s7 fz
    have hgw5:g < w5.heap.size:=Nat.lt_of_lt_of_le hgw1 hG5.out.size
    have hgS:g ≠ w.heap.size + 1:=by omega
    have hblk:BL w5 g m (p.drop m):=by
     have h:=(HBL.out.keep (hG5.out.block g hgw1 (by intro e;injection e;omega))).drop m
     rwa [Nat.zero_add] at h
    have HBk:=hd_ (hblk.take 64)
    have hl64:=hd_ (show ((p.drop m).take 64).length = 64 by rw [List.length_take,List.length_drop,HP.out];omega)
    have hcm2:=hd_ (show cp - m ≤ maxLen by have:=Hcm.out;omega)
    have hc64:64 ≤ cp - m:=by omega
    clear hblk
    go_wp2_with fail
    refine (x0q g m (cp - m) st ((p.drop m).take 64) w5 hl64.out hc64 hcm2.out hgw5 HBk.out).mono ?_
    rintro e w6 ⟨⟨t,ht,rfl⟩,hb6⟩
    have hS6:=hS5.out.keep (hb6.block _ hS5.out.lt)
    have HS6:=hd_ hS6
    have hG6:=hd_ (z2a hG5.out (G1:=none) ⟨hb6.os,hb6.tape,hb6.output,hb6.size,fun j hj _=>hb6.block j hj⟩ (.inr (by simp)))
    obtain ⟨s0,s1,s2,s3,s4,s5,s6,s7⟩:=cb8 hS6
    have fz:∀ o,w6.frozen? ⟨w.heap.size + 1,o,none⟩ = false:=fun o=>hS6.frozen o
    have Ht:=hd_ ht
    clear hS6 hb6 ht hS5 hG5
    go_wp2
    go_roundw
    case rel =>
     refine ⟨k + 1,by rw [HP.out];have:=Hm.out;omega,by have:=Hm.out;go_num,?_,?_⟩
     · have h8:=(((((((HS6.out.set 0 (z6d t.a)).set 1 (z6d t.b)).set 2 (z6d t.c)).set 3 (z6d t.d)).set 4 (z6d t.e)).set 5 (z6d t.f)).set 6 (z6d t.g)).set 7 (z6d t.h)
       have hr:z2c (k + 1) z3i p = t:=by rw [z0m,Hst.out,Hm.out,Ht.out]
       rw [hr];exact h8
     · exact z5d (z5d (z5d (z5d (z5d (z5d (z5d (z5d hG6.out)))))))
    case measure=>simp [intOf];omega
  · have hmP:m = P:=by omega
    have tk:decide (m < P) = false:=by simp;omega
    obtain ⟨wo,rfl⟩:∃ wo:World,wo = wr:=⟨_,rfl⟩
    obtain ⟨st,hst⟩:∃ st,z2c k z3i p = st:=⟨_,rfl⟩
    rw [hst] at hs
    have hsha:sha l = st.l.flatMap fun x=>be 4 x.toNat:=by
     unfold sha;rw [Hp.out,HP.out,← hst,← hmP,← hm,Nat.mul_div_cancel_left k (by decide)]
    have Hsha:=hd_ hsha
    have HSo:=hd_ hs
    have HAo:Hid (CB wo w.heap.size 165 (z5a (List.replicate 32 0))):=HA1.out.keep (hg.block _ HA1.out.lt (by intro e;injection e;omega))
    have HGo:=hd_ (z2a HG1.out hg (.inr fun g' hg'=>by injection hg';omega))
    clear hst hs hg hm hm64 hmP hsha
    go_upto_region 7 with (fail)
    refine wp_region_list ?_
    refine wpList_build rfl 165 _ rfl (by kernel_rfl) ?_
    generalize hX:(Program.built _ _ _).getD #[] = X
    have hX2:Value.agg X = dv (List.replicate 32 0):=by rw [← hX];kernel_rfl
    rw [hX2]
    clear hX hX2
    obtain ⟨z,hz⟩:∃ z,List.replicate 32 (0:UInt8) = z:=⟨_,rfl⟩
    have hzl:Hid (z.length = 32):=by show _ = _;rw [← hz];rfl
    rw [hz]
    have Hz:=hd_ hz
    clear hz
    go_wp2_with (with_reducible refine z8d (hgd:=rfl) 165 (.tmp 6) (.tmp 24) rfl wo.heap.size z hzl.out rfl rfl 165 _ (heap_alloc_new _ _) rfl z3n ?_;intro w3 hc3 hg3 hz3)
    have hg23:wo.grownBy w3 none:=z2a (World.grownBy_alloc wo _ none) hg3.out (.inr fun g hg=>by injection hg;omega)
    have HS3:Hid (CB w3 (w.heap.size + 1) 216 (st.l.map z6d)):=HSo.out.keep (hg23.block _ HSo.out.lt (by simp))
    have HA3:Hid (CB w3 w.heap.size 165 (z5a (List.replicate 32 0))):=HAo.out.keep (hg23.block _ HAo.out.lt (by simp))
    have HG3:=hd_ (z2a HGo.out hg23 (.inl rfl))
    have hSD:w.heap.size + 1 < wo.heap.size:=HSo.out.lt
    have hgD:Hid (w.heap.size ≤ wo.heap.size):=HGo.out.size
    obtain ⟨D,hD⟩:∃ D,wo.heap.size = D:=⟨_,rfl⟩
    rw [hD] at hc3 hSD hgD ⊢
    obtain ⟨o,ho⟩:∃ o,k4i st = o:=⟨_,rfl⟩
    have hol:=hd_ (j8m st)
    have hoa:=hd_ (j3y st)
    have Hsho:Hid (sha l = o):=by show sha l = o;rw [Hsha.out,← ho];rfl
    rw [ho] at hol hoa
    have HC3:Hid (CB w3 D 165 (z5a (o.take 0 ++ List.replicate (32 - 0) 0))):=by
     have h:=hc3.out;rw [← Hz.out] at h;exact h
    clear hc3 hg3 hz3 hg23 hD ho Hsha HSo HAo HGo
    go_loopw [7] (fun i wr=>k9r D o w3 i wr) (fun i _=>32 - (intOf i).toNat)
    case atStart=>exact ⟨0,by omega,rfl,HC3.out,z7b _ _⟩
    case round =>
     obtain ⟨k,hk,rfl,hc,hg⟩:=hrel
     have HC:=hd_ hc;have HGr:=hd_ hg
     by_cases hlt:k < 32
     · have tk:decide ((k:Int) < 32) = true:=by simp;omega
       obtain ⟨j,hj⟩:∃ j,k / 4 = j:=⟨_,rfl⟩
       obtain ⟨q,hq⟩:∃ q,k % 4 = q:=⟨_,rfl⟩
       have hj8:j < 8:=by omega
       have hq4:q < 4:=by omega
       have hkjq:4 * j + q = k:=by omega
       have e0:(k:Int) / 4 = (j:Int):=by omega
       have e1:(k:Int) % 4 = (q:Int):=by omega
       have b0:(q:Int) ≤ 3:=by omega
       have b1:(j:Int) < 8:=by omega
       have b2:(k:Int) < 32:=by omega
       have e2:((24:Int) - 8 * (q:Int)).toNat = 24 - 8 * q:=by omega
       have b3:(0:Int) ≤ 24 - 8 * (q:Int):=by omega
       have b4:(8:Int) * (q:Int) ≤ 24:=by omega
       have cx:wr.cell? ⟨w.heap.size + 1,j,none⟩ = some (.int .u32 (iw (st.l.getD j 0))):=by
        rw [World.cell?_of_block (w:=w3) (HGr.out.block (w.heap.size + 1) HS3.out.lt (by intro e;injection e;omega))]
        exact (HS3.out.cell j).trans (k5i st j hj8)
       have hat:=hoa.out j q hj8 hq4
       obtain ⟨x,hx⟩:∃ x,st.l.getD j 0 = x:=⟨_,rfl⟩
       rw [hx] at cx hat
       rw [hkjq] at hat
       have hset:=hd_ (j9m o k hol.out hlt _ hat)
       have fz:=hc.frozen k
       have hlen:(z5a (o.take k ++ List.replicate (32 - k) (0:UInt8))).length = 32:=by rw [z3b,List.length_append,List.length_take,List.length_replicate,hol.out];omega
       obtain ⟨y,hy⟩:∃ y,wr.cell? ⟨D,k,none⟩ = some y:=⟨_,(hc.cell k).trans (List.getElem?_eq_getElem (by omega))⟩
       obtain ⟨bx1,bx2⟩:=x1o x
       clear hc hg hj hq hkjq hx hat hlen
       go_wp2
       go_roundw
       case rel=>exact ⟨k + 1,by omega,by go_num,by rw [← hset.out];exact HC.out.set _ _,z5d HGr.out⟩
       case measure=>simp [intOf];omega
     · have hk32:k = 32:=by omega
       have tk:decide ((k:Int) < 32) = false:=by simp;omega
       rw [hk32,List.take_of_length_le (by rw [hol.out];exact Nat.le_refl _),Nat.sub_self,List.replicate_zero,List.append_nil] at hc
       have HD:=hd_ hc
       have hT:Hid (wr.heap[w.heap.size]? = some (.cells (z5a (List.replicate 32 0)).toArray 165 (0,0))):=(HGr.out.block w.heap.size HA3.out.lt (by intro e;injection e;omega)).trans HA3.out
       have HGf:=hd_ (z2a HG3.out HGr.out (.inr fun g' hg'=>by injection hg';have:=hgD.out;omega))
       clear hc hg hk32 HC
       go_wp2_with (first
        | (with_reducible refine z8v (hgd:=rfl) 165 (.tmp 6) rfl D o hol.out rfl 165 _ HD.out Tryz.underlying165 rfl z3n ?_)
        | (with_reducible refine z8d (hgd:=rfl) 165 (.tmp 2) (.tmp 41) rfl w.heap.size o hol.out rfl rfl 165 _ hT.out rfl z3n ?_;intro w7 hc7 hg7 hz7))
       refine bodyPost_ret (v:=dv o) (results_cell_row rfl _ _ w.heap.size 165 (z5a o).toArray (0,0) _ rfl hc7.out Tryz.underlying165 rfl (by rw [List.size_toArray,z3b,hol.out];exact z3n)) rfl ?_
       exact ⟨by rw [Hsho.out],(z5i HGf.out).grown hg7.out HGf.out.size (fun k hk=>by injection hk;omega)⟩
theorem y6d (s:ByteArray) (v:Value) (l:List UInt8) (w:World) (hs:s.size ≤ 100000) (hl:l.length ≤ 100000) (hb:z9c w.heap.size w l v) :
 Calls Tryz.prog 141 #[.string s,v] w fun e w'=>e = .returned (dv (z0q s.data.toList l))∧Below w.heap.size w w':=by
 have HB:=hd_ hb
 obtain ⟨oa,cap,rfl⟩:=hb.shape
 clear hb
 go_enter Tryz.func141,Tryz.ntmps141
 obtain ⟨w0,hw0⟩:∃ w0,w.alloc (.cells #[.int .u8 0,.int .u8 0,.int .u8 0,.int .u8 0,.int .u8 0,.int .u8 0,.int .u8 0,.int .u8 0,.int .u8 0,.int .u8 0,.int .u8 0,.int .u8 0,.int .u8 0,.int .u8 0,.int .u8 0,.int .u8 0,.int .u8 0,.int .u8 0,.int .u8 0,.int .u8 0,.int .u8 0,.int .u8 0,.int .u8 0,.int .u8 0,.int .u8 0,.int .u8 0,.int .u8 0,.int .u8 0,.int .u8 0,.int .u8 0,.int .u8 0,.int .u8 0] 165) = w0:=⟨_,rfl⟩
 obtain ⟨k1,w1,hcv,hb1,hbt1⟩:=z2y s (by omega) w0
 have H0:Hid (CB w0 w.heap.size 165 (z5a (List.replicate 32 0))∧Below w.heap.size w w0∧w0.heap.size = w.heap.size + 1):=by
  show _∧_∧_
  rw [← hw0]
  exact ⟨heap_alloc_new w _,(Below.refl _ w).alloc (Nat.le_refl _) _,sA _ _⟩
 rw [← hw0] at hcv
 rw [H0.out.2.2] at hbt1
 have Hb1:=hd_ hb1;have Hbt1:=hd_ hbt1
 rw [hw0] at hcv
 subst hw0
 clear hb1 hbt1
 obtain ⟨d1,hd1⟩:∃ d,sha s.data.toList = d:=⟨_,rfl⟩
 have Hd1:=hd_ hd1
 have hlen:=hd_ (z7t s.data.toList)
 rw [hd1] at hlen
 clear hd1
 go_wp2_with fail
 clear hcv
 generalize w.alloc (.cells #[.int .u8 0,.int .u8 0,.int .u8 0,.int .u8 0,.int .u8 0,.int .u8 0,.int .u8 0,.int .u8 0,.int .u8 0,.int .u8 0,.int .u8 0,.int .u8 0,.int .u8 0,.int .u8 0,.int .u8 0,.int .u8 0,.int .u8 0,.int .u8 0,.int .u8 0,.int .u8 0,.int .u8 0,.int .u8 0,.int .u8 0,.int .u8 0,.int .u8 0,.int .u8 0,.int .u8 0,.int .u8 0,.int .u8 0,.int .u8 0,.int .u8 0,.int .u8 0] 165) = w0 at *
 obtain ⟨H00,H01,H02⟩:=H0.out
 have HT:=hd_ H00;have HW:=hd_ H01
 clear H0 H00 H01 H02
 refine (x6l _ s.data.toList w1 (by simp;omega) Hbt1.out).mono ?_
 rw [Hd1.out]
 rintro e w2 ⟨rfl,hb2⟩
 have HB2:=hd_ (z0a Hb1.out hb2)
 clear hb2
 go_wp2_with (first
  | (with_reducible refine z8d (hgd:=rfl) 165 (.tmp 5) (.tmp 8) rfl w2.heap.size d1 hlen.out rfl rfl 165 _ (heap_alloc_new _ _) rfl z3n ?_
     intro w3 hc3 hg3 hz3
     have hz3':w3.heap.size = w2.heap.size + 1:=by rw [hz3];exact sA _ _
     have hb3:Below w2.heap.size w2 w3:=(((Below.refl _ w2).alloc (Nat.le_refl _) _).grown hg3.out (by simp) (fun k hk=>by injection hk;omega))
     have hb4:Below w0.heap.size w0 (w3.alloc (.cells #[] 5)):=(z0a HB2.out hb3).alloc (z0a HB2.out hb3).size _
     have HB4:=hd_ hb4
     have hO:=hd_ (y7m w3)
     have hbd:=hd_ (j7v.ofBts (P:=Tryz.prog) Tryz.underlying50 (y3m (hc3.out.alloc (.cells #[] 5)) hlen.out))
     have Hz3:=hd_ hz3'
     clear hc3 hg3 hz3 hz3' hb3 hb4)
  | (at_builtin;refine z9b (e:=5) Tryz.underlying50 (by kernel_rfl) rfl (.tmp 9) (.tmp 10) rfl w3.heap.size _ [] rfl hO.out _ d1 rfl ?src (by simp [hlen.out]) ?sz ?_
     case src=>exact hbd.out
     case sz=>simp
     intro v4 w4 ho4 hg4 hn4
     have hb5:Below w0.heap.size w0 w4:=HB4.out.grown hg4 HB4.out.size (fun g hg=>by
       have h:some w3.heap.size = some g:=hg
       injection h;have:=Hz3.out;have:=HB2.out.size;omega)
     rw [List.nil_append] at ho4
     have HO4:=hd_ ho4;have HB45:=hd_ hb5
     have hlt4:=hd_ (fun g hg=>(World.ownsRow.lt ho4 g hg).1)
     have hS2:=hd_ (j7v.ofBts (P:=Tryz.prog) Tryz.underlying50 (HB.out.ext (z0a HW.out hb5)))
     have hsz4:Hid (w3.heap.size ≤ w4.heap.size):=Nat.le_trans (by simp) hg4.size
     clear ho4 hg4 hn4 hb5 hbd hO)
  | (at_builtin;refine z9b (e:=5) Tryz.underlying50 (by kernel_rfl) rfl (.tmp 11) (.tmp 12) rfl w3.heap.size v4 d1 rfl HO4.out _ l rfl hS2.out (by rw [hlen.out];omega) hsz4.out ?_
     intro v5 w5 ho5 hg5 hn5
     have hb5:Below w0.heap.size w0 w5:=HB45.out.grown hg5 HB45.out.size (fun g hg=>by have:=hlt4.out g hg;have:=Hz3.out;have:=HB2.out.size;omega)
     have HB5:=hd_ hb5
     have HO5:=hd_ (y8c ho5)
     clear ho5 hg5 hn5 hb5 HO4 HB45 hlt4 hS2 hsz4))
 obtain ⟨d2,hd2⟩:∃ d,sha (d1 ++ l) = d:=⟨_,rfl⟩
 have Hd2:=hd_ hd2
 have hlen2:=hd_ (z7t (d1 ++ l))
 rw [hd2] at hlen2
 clear hd2
 refine (x6l _ (d1 ++ l) w5 (by rw [List.length_append,hlen.out];omega) HO5.out).mono ?_
 rw [Hd2.out]
 rintro e w6 ⟨rfl,hb6⟩
 have hb6':=z0a HB5.out hb6
 have hT:Hid (w6.heap[w.heap.size]? = some (.cells (z5a (List.replicate 32 0)).toArray 165 (0,0))):=(hb6'.block _ HT.out.lt).trans HT.out
 have HB6:=hd_ (z0a HW.out hb6')
 clear hb6 hb6'
 go_wp2_with (with_reducible refine z8d (hgd:=rfl) 165 (.tmp 4) (.tmp 14) rfl w.heap.size d2 hlen2.out rfl rfl 165 _ hT.out rfl z3n ?_;intro w7 hc7 hg7 hz7)
 refine bodyPost_ret (v:=dv d2) (results_cell_row rfl _ _ w.heap.size 165 (z5a d2).toArray (0,0) _ rfl hc7.out Tryz.underlying165 rfl (by rw [List.size_toArray,z3b,hlen2.out];exact z3n)) rfl ?_
 refine ⟨?_,HB6.out.grown hg7.out HB6.out.size (fun k hk=>by injection hk;omega)⟩
 rw [← Hd2.out,← Hd1.out];rfl
end Go.Proofs.YtdblnbnofjggnaaGreatDoor
