/- Parts of the proofs of chapter 49's laws: Dab Dsu Dsm. -/
import Derived.Test.YtdblnbnofjggnaaGreatDoorM08
import Derived.Deep.QuietTactic
import Derived.BigQuiet
import Derived.StillTailTactics
import Derived.Deep.RegionLaw
import Derived.Laws.Tables
set_option maxHeartbeats 1000000
set_option maxRecDepth 100000
open Go
open Lib renaming hid → hd_
open World renaming cell?_of_block → cB
open Nat renaming le_refl → lR
namespace Go.Proofs.YtdblnbnofjggnaaGreatDoor
open Go.RowKit
def wcs (l:List W32):List Value:=(l ++ List.replicate (64 - l.length) 0).map z6d
theorem z6v (x:W32) (r:Nat) (n:Int) (hn:n = -(r:Int)) (h1:1 ≤ r) (h2:r ≤ 31) (w:World):Calls Tryz.prog 211 #[.int .u32 (iw x),.int .i64 n] w fun e w'=>e = .returned (.int .u32 (iw (ror x r)))∧w' = w:=(y5l x r n hn h1 h2 w).mono fun _ _ h=>⟨h.1,h.2.symm⟩
theorem j6w (a b c d:W32):(iw a + iw b + iw c + iw d) % 4294967296 = iw (a + b + c + d):=by unfold iw;simp only [BitVec.toNat_add];omega
theorem j9l (a x c y:W32):(iw a + bits BinOp.xor .u32 (iw (ror x 7 ^^^ ror x 18)) (iw x / 8) + iw c + bits BinOp.xor .u32 (iw (ror y 17 ^^^ ror y 19)) (iw y / 1024)) % 4294967296 = iw (x8b a x c y):=by
 have f2:iw x / (8:Int) = iw (x >>> 3):=k4e x 3
 have f7:iw y / (1024:Int) = iw (y >>> 10):=k4e y 10
 rw [f2,f7,y5h,y5h]
 exact j6w a (k2g x) c (k3g y)
theorem z0x (l:List W32) (h:l.length ≤ 64) (j:Nat) (hj:j < 64):(wcs l)[j]? = some (.int .u32 (iw (l.getD j 0))):=by
 unfold wcs
 rw [List.getElem?_map]
 by_cases h1:j < l.length
 · rw [List.getElem?_append_left h1,List.getElem?_eq_getElem h1];simp [z6d,h1]
 · rw [List.getElem?_append_right (by omega),List.getElem?_replicate,if_pos (by omega)];simp [z6d,List.getD,List.getElem?_eq_none (show l.length ≤ j by omega)]
theorem y9l (l:List W32) (k:Nat) (hk:l.length = k) (h:k < 64) (x:W32):(wcs l).set k (.int .u32 (iw x)) = wcs (l ++ [x]):=by
 subst hk
 unfold wcs
 rw [show (64 - l.length) = (64 - (l ++ [x]).length) + 1 by simp;omega,List.replicate_succ]
 show (List.map z6d _).set _ (z6d x) = _
 rw [← List.map_set,List.set_append_right _ _ (lR _),Nat.sub_self]
 simp
theorem y4i (l:List UInt8) (k:Nat) (hk:k < 16):(z1o l).take (k + 1) = (z1o l).take k ++ [j6k (l.drop (4 * k))]:=by
 rw [List.take_succ_eq_append_getElem (by rw [z9m];exact hk)];simp [z1o]
theorem z1j (l:List UInt8) (k:Nat) (hk:k ≤ 16):((z1o l).take k).length = k:=by rw [List.length_take,z9m];omega
def k2q (T:Nat) (ws:List W32) (w:World) (i:Value) (wr:World):Prop :=
 ∃ k:Nat,k ≤ 48∧i = .int .i64 (k + 16:Nat)∧CB wr T 229 (wcs (z4f k ws))∧w.grownBy wr none
theorem k7w (v:S8) (k x:W32):((iw v.h + iw (k6e v.e 6 11 25) + bits BinOp.xor IntKind.u32 (iw v.g) (bits BinOp.and IntKind.u32 (iw v.e) (bits BinOp.xor IntKind.u32 (iw v.f) (iw v.g))) + iw k) % 4294967296 + iw x) % 4294967296 = iw (k7e v k x):=by
 rw [y5h,j1r,y5h,j6w,y6h];rfl
theorem k8w (v:S8):(iw (k6e v.a 2 13 22) + bits BinOp.or IntKind.u32 (bits BinOp.and IntKind.u32 (iw v.a) (iw v.b)) (bits BinOp.and IntKind.u32 (iw v.c) (bits BinOp.or IntKind.u32 (iw v.a) (iw v.b)))) % 4294967296 = iw (k4g v):=by
 rw [j1r,bor,j1r,bor,y6h];rfl
theorem z0u {B:Nat} {w0 w:World} (h:Below B w0 w) (n:Nat):Below B w0 (w.drewN n):=h.trans ⟨rfl,rfl,rfl,lR _,fun _ _=>rfl⟩
theorem x7o (v:S8):splice (v.l.map z6d) 1 [z6d v.a,z6d v.b,z6d v.c,z6d v.d,z6d v.e,z6d v.f,z6d v.g] = ((⟨v.a,v.a,v.b,v.c,v.d,v.e,v.f,v.g⟩:S8).l.map z6d):=rfl
theorem j0m {w:World} {V:Nat} {t:TypeId} {v:S8} (h:CB w V t (v.l.map z6d)):∀ j x,[z6d v.a,z6d v.b,z6d v.c,z6d v.d,z6d v.e,z6d v.f,z6d v.g][j]? = some x→w.drew.cell? ((⟨V,0,none⟩:Addr).add j) = some x:=by
 intro j x hj
 have hpl:(⟨V,0,none⟩:Addr).add j = ⟨V,j,none⟩:=by unfold Addr.add;split <;> simp_all
 rw [hpl]
 have hjl:j < 7:=by
  rcases Nat.lt_or_ge j 7 with h | h
  · exact h
  · rw [List.getElem?_eq_none (by simpa using h)] at hj;cases hj
 have h2:(v.l.map z6d)[j]? = some x:=by
  rw [← hj]
  have:v.l.map z6d = [z6d v.a,z6d v.b,z6d v.c,z6d v.d,z6d v.e,z6d v.f,z6d v.g] ++ [z6d v.h]:=rfl
  rw [this,List.getElem?_append_left (by simpa using hjl)]
 exact (h.cell j).trans h2
theorem j1m (v:S8):∀ x ∈ [z6d v.a,z6d v.b,z6d v.c,z6d v.d,z6d v.e,z6d v.f,z6d v.g],x.oneCell' = true:=by
 intro x hx;simp only [List.mem_cons,List.not_mem_nil,or_false] at hx
 rcases hx with rfl | rfl | rfl | rfl | rfl | rfl | rfl <;> rfl
def x8o (i:Nat) (s v:S8):List W32:=s.l.zipWith (· + ·) v.l |>.take i |> (· ++ s.l.drop i)
theorem x4x (s v:S8):x8o 8 s v = (s.add v).l:=rfl
theorem x9o (i:Nat) (s v:S8) (h:i < 8):((x8o i s v).map z6d)[i]? = some (.int .u32 (iw (s.l.getD i 0)))∧(v.l.map z6d)[i]? = some (.int .u32 (iw (v.l.getD i 0))):=by
 rcases (by omega:i = 0∨i = 1∨i = 2∨i = 3∨i = 4∨i = 5∨i = 6∨i = 7) with rfl | rfl | rfl | rfl | rfl | rfl | rfl | rfl <;> exact ⟨rfl,rfl⟩
theorem x5x (i:Nat) (s v:S8) (h:i < 8):((x8o i s v).map z6d).set i (.int .u32 (iw (s.l.getD i 0 + v.l.getD i 0))) = (x8o (i + 1) s v).map z6d:=by
 rcases (by omega:i = 0∨i = 1∨i = 2∨i = 3∨i = 4∨i = 5∨i = 6∨i = 7) with rfl | rfl | rfl | rfl | rfl | rfl | rfl | rfl <;> rfl
def k3q (S V:Nat) (s v:S8) (w:World) (i:Value) (wr:World):Prop :=
 ∃ t:Nat,t ≤ 8∧i = .int .i64 t∧CB wr S 217 ((x8o t s v).map z6d)∧CB wr V 217 (v.l.map z6d)∧w.grownBy wr (some S)
theorem cb8 {w:World} {V:Nat} {t:TypeId} {v:S8} (h:CB w V t (v.l.map z6d)) :
 w.cell? ⟨V,0,none⟩ = some (.int .u32 (iw v.a))∧w.cell? ⟨V,1,none⟩ = some (.int .u32 (iw v.b))∧w.cell? ⟨V,2,none⟩ = some (.int .u32 (iw v.c))∧w.cell? ⟨V,3,none⟩ = some (.int .u32 (iw v.d)) ∧
  w.cell? ⟨V,4,none⟩ = some (.int .u32 (iw v.e))∧w.cell? ⟨V,5,none⟩ = some (.int .u32 (iw v.f))∧w.cell? ⟨V,6,none⟩ = some (.int .u32 (iw v.g))∧w.cell? ⟨V,7,none⟩ = some (.int .u32 (iw v.h)) :=
 ⟨h.cell 0,h.cell 1,h.cell 2,h.cell 3,h.cell 4,h.cell 5,h.cell 6,h.cell 7⟩
def k4q (V:Nat) (s:S8) (W:List W32) (w:World) (i:Value) (wr:World):Prop :=
 ∃ t:Nat,t ≤ 64∧i = .int .i64 t∧CB wr V 217 ((z2i s W t).l.map z6d)∧Below V w wr
structure Laid (w:World):Prop where
 num:∀ t,t < 64→w.cell? ⟨3,t,none⟩ = some (.int .u32 (iw (kK t)))
 start:∀ t,t < 8→w.cell? ⟨2,t,none⟩ = some (.int .u32 (iw (z3i.l.getD t 0)))
theorem Laid.lt {w:World} (h:Laid w):3 < w.heap.size∧2 < w.heap.size :=
 ⟨World.block_lt_of_cell? w _ (h.num 0 (by decide)),World.block_lt_of_cell? w _ (h.start 0 (by decide))⟩
theorem Laid.keep {w w':World} (h:Laid w) (h1:w'.heap[3]? = w.heap[3]?) (h2:w'.heap[2]? = w.heap[2]?):Laid w' :=
 ⟨fun t ht=>by rw [cB (w:=w) h1];exact h.num t ht,fun t ht=>by rw [cB (w:=w) h2];exact h.start t ht⟩
theorem Laid.below {B:Nat} {w w':World} (h:Laid w) (hb:Below B w w') (hB:w.heap.size ≤ B):Laid w':=h.keep (hb.block _ (by have:=h.lt;omega)) (hb.block _ (by have:=h.lt;omega))
theorem Laid.ext {w w':World} (h:Laid w) (hb:Below w.heap.size w w'):Laid w':=h.below hb (lR _)
theorem Laid.grown {w w':World} {G:Option Nat} (h:Laid w) (hb:w.grownBy w' G) (hG:∀ g,G = some g→g ≠ 3∧g ≠ 2):Laid w' :=
 h.keep (hb.block _ h.lt.1 (fun e=>(hG _ e.symm).1 rfl)) (hb.block _ h.lt.2 (fun e=>(hG _ e.symm).2 rfl))
theorem z7v (x:W32) (a b c:Nat) (ai bi ci:Int) (ha:ai = (a:Int)) (hb:bi = (b:Int)) (hc:ci = (c:Int)) (ha1:1 ≤ a) (ha2:a ≤ 31) (hb1:1 ≤ b) (hb2:b ≤ 31) (hc1:1 ≤ c) (hc2:c ≤ 31) (w:World) :
 Calls Tryz.prog 212 #[.int .u32 (iw x),.int .i64 ai,.int .i64 bi,.int .i64 ci] w fun e w'=>e = .returned (.int .u32 (iw (k6e x a b c)))∧w' = w :=
 (x7b x a b c ai bi ci ha hb hc ha1 ha2 hb1 hb2 hc1 hc2 w).mono fun _ _ h=>⟨h.1,h.2.symm⟩
def k5q (T:Nat) (l:List UInt8) (w:World) (i:Value) (wr:World):Prop :=
 ∃ k:Nat,k ≤ 16∧i = .int .i64 k∧CB wr T 229 (wcs ((z1o l).take k))∧w.grownBy wr none
theorem z1x (S b off cap:Nat) (s:S8) (l:List UInt8) (w:World) (hl:l.length = 64) (hcap:64 ≤ cap) (hm:cap ≤ maxLen) (hb:b < w.heap.size) (hbl:BL w b off l) (hS:CB w S 217 (s.l.map z6d)) (_hne:b ≠ S) (hLd:Laid w) :
 Calls Tryz.prog 200 #[.pointer (some ⟨S,0,none⟩),.slice (some ⟨b,off,none⟩) 64 cap] w fun e w'=>e = .returned (.tuple #[])∧CB w' S 217 ((z5g s l).l.map z6d)∧w.grownBy w' (some S):=by
 have g1:(64:Int) ≤ (cap:Int):=by omega
 have hL:=hd_ hl;have HBL:=hd_ hbl;have HS:=hd_ hS;have HM:=hd_ hm
 unfold maxLen at hm
 clear hl hbl hS
 have HLd:=hd_ hLd;clear hLd
 go_enter Tryz.func200,Tryz.ntmps200
 go_wp2
 go_loopw [14] (fun i wr=>k5q w.heap.size l w i wr) (fun i _=>16 - (intOf i).toNat)
 case atStart=>exact ⟨0,by omega,rfl,heap_alloc_new w _,World.grownBy_alloc w _ none⟩
 case round =>
  obtain ⟨k,hk,rfl,hcb,hg⟩:=hrel
  have HG:=hd_ hg
  by_cases hlt:k < 16
  · have hfz:=hcb.frozen k
    have hc:=hcb.cell k
    have HCB:=hd_ hcb
    clear hcb hg
    have hw:=hd_ (y4i l k hlt)
    have hst:=hd_ (y9l ((z1o l).take k) k (z1j l k (by omega)) (by omega) (j6k (l.drop (4 * k))))
    rw [z0x _ (by rw [z1j l k (by omega)];omega) k (by omega)] at hc
    go_wp2_with fail
    refine (j8k b (off + 4 * k) (64 - 4 * k) (cap - 4 * k) (l.drop (4 * k)) _ (by rw [List.length_drop,hL.out];omega) (by omega) (by omega) (by have:=HM.out;omega) ((HBL.out.keep (HG.out.block b hb (by simp))).drop (4 * k))).mono ?_
    rintro e w1 ⟨rfl,rfl⟩
    go_wp2_with fail
    go_roundw
    case rel=>exact ⟨k + 1,by omega,by go_num,by rw [hw.out,← hst.out];exact HCB.out.set _ _,z1b HG.out (lR _)⟩
    case measure=>simp [intOf];omega
  · have hke:k = 16:=by omega
    rw [hke] at hcb
    have HCB:=hd_ hcb
    have tk:decide ((k:Int) < 16) = false:=by simp;omega
    clear hcb hg hke
    go_wp2
    have hws:(z1o l).take 16 = z1o l:=List.take_of_length_le (by rw [z9m];omega)
    have hcb:=HCB.out
    rw [hws] at hcb
    have HW:=hd_ hcb
    have hwl:=hd_ (z9m l)
    obtain ⟨ws,hwe⟩:∃ ws,z1o l = ws:=⟨_,rfl⟩
    rw [hwe] at HW hwl
    have Hwe:=hd_ hwe
    clear hcb HCB hws hwe
    go_loopw [6] (fun i wr=>k2q w.heap.size ws w i wr) (fun i _=>64 - (intOf i).toNat)
    case atStart=>exact ⟨0,by omega,rfl,HW.out,HG.out⟩
    case round =>
     obtain ⟨k,hk,rfl,hcb,hg⟩:=hrel
     obtain ⟨t,ht⟩:∃ t,k + 16 = t:=⟨_,rfl⟩
     rw [ht]
     have HG:=hd_ hg
     have HCB:=hd_ hcb
     by_cases hlt:k < 48
     · have hsl:(z4f k ws).length = t:=by rw [z9u,hwl.out];omega
       obtain ⟨x16,h16⟩:∃ x,(z4f k ws).getD (t - 16) 0 = x:=⟨_,rfl⟩
       obtain ⟨x15,h15⟩:∃ x,(z4f k ws).getD (t - 15) 0 = x:=⟨_,rfl⟩
       obtain ⟨x7,h7⟩:∃ x,(z4f k ws).getD (t - 7) 0 = x:=⟨_,rfl⟩
       obtain ⟨x2,h2⟩:∃ x,(z4f k ws).getD (t - 2) 0 = x:=⟨_,rfl⟩
       have hsc:Hid (z4f (k + 1) ws = z4f k ws ++ [x8b x16 x15 x7 x2]):=by
        show z4f (k + 1) ws = _
        rw [← h16,← h15,← h7,← h2,← ht];rfl
       have hst:=hd_ (y9l (z4f k ws) t hsl (by omega) (x8b x16 x15 x7 x2))
       have hcell:∀ j,j < 64→wr.cell? ⟨w.heap.size,j,none⟩ = some (.int .u32 (iw ((z4f k ws).getD j 0))):=fun j hj=>(hcb.cell j).trans (z0x _ (by omega) j hj)
       have c16:=hcell (t - 16) (by omega)
       have c15:=hcell (t - 15) (by omega)
       have c7:=hcell (t - 7) (by omega)
       have c2:=hcell (t - 2) (by omega)
       have c0:=hcell t (by omega)
       rw [h16] at c16;rw [h15] at c15;rw [h7] at c7;rw [h2] at c2
       have hfz:=hcb.frozen t
       have n1:t - 15 < 64:=by omega
       have n2:t - 2 < 64:=by omega
       have n3:t - 16 < 64:=by omega
       have n4:t - 7 < 64:=by omega
       have n5:(16:Int) ≤ (t:Int):=by omega
       have n6:(t:Int) < 64:=by omega
       have q15:IntKind.i64.wrap ((t:Int) - 15) = (t:Int) - 15:=IntWalk.i64_in _ (by omega)
       have q2:IntKind.i64.wrap ((t:Int) - 2) = (t:Int) - 2:=IntWalk.i64_in _ (by omega)
       have m15:((t:Int) - 15).toNat = t - 15:=by omega
       have m2:((t:Int) - 2).toNat = t - 2:=by omega
       have z15:(0:Int) ≤ (t:Int) - 15:=by omega
       have z2:(0:Int) ≤ (t:Int) - 2:=by omega
       have y15:(t:Int) - 15 < 64:=by omega
       have y2:(t:Int) - 2 < 64:=by omega
       have Ht:=hd_ ht
       clear hcell hcb hg h16 h15 h7 h2 hsl ht
       go_wp2
       go_quiet (fail)
       have f1:=y5h (ror x15 7) (ror x15 18)
       have f6:=y5h (ror x2 17) (ror x2 19)
       have q16:IntKind.i64.wrap ((t:Int) - 16) = (t:Int) - 16:=IntWalk.i64_in _ (by omega)
       have q7:IntKind.i64.wrap ((t:Int) - 7) = (t:Int) - 7:=IntWalk.i64_in _ (by omega)
       have m16:((t:Int) - 16).toNat = t - 16:=by omega
       have m7:((t:Int) - 7).toNat = t - 7:=by omega
       have z16:(0:Int) ≤ (t:Int) - 16:=by omega
       have z7:(0:Int) ≤ (t:Int) - 7:=by omega
       have o7:(7:Int) ≤ (t:Int):=by omega
       have y16:(t:Int) - 16 < 64:=by omega
       have y7:(t:Int) - 7 < 64:=by omega
       have hcb2:Hid (CB (wr.drewN nq) w.heap.size 229 (wcs (z4f k ws))):=HCB.out
       have hg2:=hd_ (z9g HG.out nq)
       have d16:(wr.drewN nq).cell? ⟨w.heap.size,t - 16,none⟩ = some (.int .u32 (iw x16)):=c16
       have d7:(wr.drewN nq).cell? ⟨w.heap.size,t - 7,none⟩ = some (.int .u32 (iw x7)):=c7
       have d0:(wr.drewN nq).cell? ⟨w.heap.size,t,none⟩ = some (.int .u32 (iw ((z4f k ws).getD t 0))):=c0
       have df:(wr.drewN nq).frozen? ⟨w.heap.size,t,none⟩ = false:=hfz
       clear HCB HG c16 c15 c7 c2 c0 hfz q15 q2 m15 m2 z15 z2 y15 y2
       generalize wr.drewN nq = w2 at *
       go_wp2
       go_still_tail 29,(by kernel_rfl)
       still_call (z6v x15 7 _ rfl (by decide) (by decide) _)
       repeat still_step
       still_call (z6v x15 18 _ rfl (by decide) (by decide) _)
       repeat still_step
       still_call (z6v x2 17 _ rfl (by decide) (by decide) _)
       repeat still_step
       still_call (z6v x2 19 _ rfl (by decide) (by decide) _)
       repeat still_step
       refine wpStill_nil ?_
       change wpList _ _ _ _ _ w2.drew
       have hcb3:Hid (CB w2.drew w.heap.size 229 (wcs (z4f k ws))):=hcb2.out
       have hg3:=hd_ (z5f hg2.out)
       have b0:w2.drew.cell? ⟨w.heap.size,t,none⟩ = some (.int .u32 (iw ((z4f k ws).getD t 0))):=d0
       have bf:w2.drew.frozen? ⟨w.heap.size,t,none⟩ = false:=df
       clear hcb2 hg2 d16 d7 d0 df
       generalize w2.drew = w3 at *
       go_wp2
       go_roundw
       case rel=>exact ⟨k + 1,by omega,by have:=Ht.out;go_num,by rw [hsc.out,← hst.out,j9l];exact hcb3.out.set _ _,z1b hg3.out (lR _)⟩
       case measure=>simp [intOf];omega
     · have hke:k = 48:=by omega
       rw [hke] at hcb
       have tk:decide ((t:Int) < 64) = false:=by simp;omega
       have HT:=hd_ hcb
       clear hcb hg hke HCB ht
       have hS0:=HS.out
       have hS1:CB wr S 217 (s.l.map z6d):=hS0.keep (HG.out.block S hS0.lt (by simp))
       obtain ⟨s0,s1,s2,s3,s4,s5,s6,s7⟩:=cb8 hS1
       have HS1:=hd_ hS1
       clear hS0 hS1
       go_wp2
       have hV:=hd_ (heap_alloc_new wr (.cells #[.int .u32 (iw s.a),.int .u32 (iw s.b),.int .u32 (iw s.c),.int .u32 (iw s.d),.int .u32 (iw s.e),.int .u32 (iw s.f),.int .u32 (iw s.g),.int .u32 (iw s.h)] 217))
       have hB:=hd_ ((Below.refl wr.heap.size wr).alloc (lR _) (.cells #[.int .u32 (iw s.a),.int .u32 (iw s.b),.int .u32 (iw s.c),.int .u32 (iw s.d),.int .u32 (iw s.e),.int .u32 (iw s.f),.int .u32 (iw s.g),.int .u32 (iw s.h)] 217))
       clear s0 s1 s2 s3 s4 s5 s6 s7
       obtain ⟨W,hW⟩:∃ W,z4f 48 ws = W:=⟨_,rfl⟩
       rw [hW] at HT
       have HW:=hd_ hW
       clear hW
       obtain ⟨wo,rfl⟩:∃ wo:World,wo = wr:=⟨_,rfl⟩
       obtain ⟨V,hVe⟩:∃ V,wo.heap.size = V:=⟨_,rfl⟩
       rw [hVe] at hV hB ⊢
       go_loopw [69] (fun i wx=>k4q V s W wo i wx) (fun i _=>64 - (intOf i).toNat)
       case atStart=>exact ⟨0,by omega,rfl,hV.out,hB.out⟩
       case round =>
        obtain ⟨t,hte,rfl,hcb,hbx⟩:=hrel
        have HCB:=hd_ hcb;have HBX:=hd_ hbx
        by_cases hlt:t < 64
        · have tk:decide ((t:Int) < 64) = true:=by simp;omega
          clear hcb hbx
          go_wp2
          obtain ⟨v,hv⟩:∃ v,z2i s W t = v:=⟨_,rfl⟩
          have Hv:=hd_ hv
          have hcb:=HCB.out
          rw [hv] at hcb
          have HCB2:=hd_ hcb
          obtain ⟨v0,v1,v2,v3,v4,v5,v6,v7⟩:=cb8 hcb
          have hT:=HT.out.lt
          have hTW:CB wr w.heap.size 229 (wcs W):=HT.out.keep (HBX.out.block _ (by omega))
          obtain ⟨wt,hwt⟩:∃ x,W.getD t 0 = x:=⟨_,rfl⟩
          obtain ⟨kt,hkt⟩:∃ x,kK t = x:=⟨_,rfl⟩
          have cw:=(hTW.cell t).trans (z0x W (by rw [← HW.out,z9u,hwl.out];decide) t hlt)
          have hgx:wo.grownBy wr none:=⟨HBX.out.os,HBX.out.tape,HBX.out.output,HBX.out.size,fun j hj _=>HBX.out.block j (by rw [hVe] at hj;exact hj)⟩
          have ck:=((HLd.out.grown HG.out (by simp)).grown hgx (by simp)).num t hlt
          rw [hwt] at cw
          rw [hkt] at ck
          have Hwt:=hd_ hwt;have Hkt:=hd_ hkt
          have n6:(t:Int) < 64:=by omega
          clear hcb HCB hTW hwt hkt hv hgx
          go_quiet ((go_at_call 212;exact Calls.quiet_of_same (z7v v.e 6 11 25 _ _ _ rfl rfl rfl (by decide) (by decide) (by decide) (by decide) (by decide) (by decide) _)))
          have hc2:CB (wr.drewN nq) V 217 (v.l.map z6d):=HCB2.out
          have hB2:Hid (Below V wo (wr.drewN nq)):=z0u HBX.out nq
          generalize wr.drewN nq = w2 at *
          clear v0 v1 v2 v3 v4 v5 v6 v7 cw ck HCB2
          obtain ⟨v0,v1,v2,v3,v4,v5,v6,v7⟩:=cb8 hc2
          have HC2:=hd_ hc2
          clear hc2
          rw [k7w]
          obtain ⟨pp,hpp⟩:∃ x,k7e v kt wt = x:=⟨_,rfl⟩
          rw [hpp]
          have Hpp:=hd_ hpp
          clear hpp
          go_wp2
          go_quiet ((go_at_call 212;exact Calls.quiet_of_same (z7v v.a 2 13 22 _ _ _ rfl rfl rfl (by decide) (by decide) (by decide) (by decide) (by decide) (by decide) _)))
          have hc3:Hid (CB (w2.drewN nq) V 217 (v.l.map z6d)):=HC2.out
          have hB3:Hid (Below V wo (w2.drewN nq)):=z0u hB2.out nq
          generalize w2.drewN nq = w3 at *
          clear v0 v1 v2 v3 v4 v5 v6 v7 HC2 hB2
          rw [k8w]
          obtain ⟨qq,hqq⟩:∃ x,k4g v = x:=⟨_,rfl⟩
          rw [hqq]
          have Hqq:=hd_ hqq
          clear hqq
          go_wp2
          have hsrc:=hd_ (j0m hc3.out)
          go_region_law ((refine step_copy_splice rfl (.tmp 116) (.tmp 117) 233 233 rfl 215 Tryz.underlying233 (by kernel_rfl) (some ⟨V,1,none⟩) (some ⟨V,0,none⟩) 7 7 7 8 (by rfl) (by rfl) V 1 (v.l.map z6d) 217 hc3.out [z6d v.a,z6d v.b,z6d v.c,z6d v.d,z6d v.e,z6d v.f,z6d v.g] rfl (fun _=>⟨rfl,_,rfl,hsrc.out⟩) (by simp [S8.l]) (j1m v) V wo (hB3.out.trans ⟨rfl,rfl,rfl,lR _,fun _ _=>rfl⟩) (lR _) ?_;intro w4 hc4 hB4))
          have hc5:CB w4 V 217 ((⟨v.a,v.a,v.b,v.c,v.d,v.e,v.f,v.g⟩:S8).l.map z6d):=by rw [← x7o];exact hc4.out
          clear hc4 hsrc hc3 hB3
          obtain ⟨v0,v1,v2,v3,v4,v5,v6,v7⟩:=cb8 hc5
          have f0:=hc5.frozen 0
          have f4:=hc5.frozen 4
          have HC5:=hd_ hc5
          have HB4:=hd_ hB4
          clear hc5 hB4
          go_wp2
          go_roundw
          case rel =>
           refine ⟨t + 1,by omega,by go_num,?_,?_⟩
           · rw [y6h,y6h]
             have h5:=(HC5.out.set 4 (.int .u32 (iw (v.d + pp)))).set 0 (.int .u32 (iw (pp + qq)))
             have hr:(z2i s W (t + 1)).l.map z6d = (((⟨v.a,v.a,v.b,v.c,v.d,v.e,v.f,v.g⟩:S8).l.map z6d).set 4 (.int .u32 (iw (v.d + pp)))).set 0 (.int .u32 (iw (pp + qq))):=by
              show (rnd (z2i s W t) (kK t) (W.getD t 0)).l.map z6d = _
              rw [Hv.out,Hkt.out,Hwt.out,← Hpp.out,← Hqq.out];rfl
             rw [hr];exact h5
           · exact (HB4.out.setCell (p:=⟨V,4,none⟩) (lR _) _).setCell (p:=⟨V,0,none⟩) (lR _) _
          case measure=>simp [intOf];omega
        · have hte2:t = 64:=by omega
          have hcb4:=hcb
          rw [hte2] at hcb4
          have tk:decide ((t:Int) < 64) = false:=by simp;omega
          have hVS:S < V:=by rw [← hVe];exact Nat.lt_of_lt_of_le HS.out.lt HG.out.size
          have hgw:w.grownBy wr (some S):=⟨HBX.out.os.trans HG.out.os,HBX.out.tape.trans HG.out.tape,HBX.out.output.trans HG.out.output,Nat.le_trans HG.out.size HBX.out.size,fun j hj _=>(HBX.out.block j (by rw [← hVe];exact Nat.lt_of_lt_of_le hj HG.out.size)).trans (HG.out.block j hj (by simp))⟩
          have hSS:CB wr S 217 (s.l.map z6d):=HS1.out.keep (HBX.out.block S hVS)
          obtain ⟨v,hv⟩:∃ v,z2i s W 64 = v:=⟨_,rfl⟩
          rw [hv] at hcb4
          have Hv:=hd_ hv
          have HSS:=hd_ hSS;have HV4:=hd_ hcb4;have HGW:=hd_ hgw
          clear hcb hbx HCB HBX hcb4 hSS hgw hv hte2 hV hB
          go_wp2
          obtain ⟨wp,rfl⟩:∃ wp:World,wp = wr:=⟨_,rfl⟩
          go_loopw [129] (fun i wx=>k3q S V s v w i wx) (fun i _=>8 - (intOf i).toNat)
          case atStart=>exact ⟨0,by omega,rfl,HSS.out,HV4.out,HGW.out⟩
          case round =>
           obtain ⟨i,hi,rfl,hs4,hv4,hg4⟩:=hrel
           have HS4:=hd_ hs4;have HVV:=hd_ hv4;have HG4:=hd_ hg4
           by_cases hlt:i < 8
           · have tk2:decide ((i:Int) < 8) = true:=by simp;omega
             have hc:=x9o i s v hlt
             have ci:=(hs4.cell i).trans hc.1
             have cv:=(hv4.cell i).trans hc.2
             have fi:=hs4.frozen i
             have n6:(i:Int) < 8:=by omega
             have hset:=hd_ (x5x i s v hlt)
             obtain ⟨a,ha⟩:∃ a,s.l.getD i 0 = a:=⟨_,rfl⟩
             obtain ⟨c,hc'⟩:∃ c,v.l.getD i 0 = c:=⟨_,rfl⟩
             rw [ha] at ci hset;rw [hc'] at cv hset
             clear hs4 hv4 hg4 hc ha hc'
             go_wp2
             go_still_tail 11,(by kernel_rfl)
             change wpList _ _ _ _ _ wr.drew
             have d0:wr.drew.cell? ⟨S,i,none⟩ = some (.int .u32 (iw a)):=ci
             have df:wr.drew.frozen? ⟨S,i,none⟩ = false:=fi
             have hs5:Hid (CB wr.drew S 217 ((x8o i s v).map z6d)):=HS4.out
             have hv5:Hid (CB wr.drew V 217 (v.l.map z6d)):=HVV.out
             have hg5:=hd_ (z5f HG4.out)
             generalize wr.drew = w5 at *
             clear ci cv fi HS4 HVV HG4
             go_wp2
             go_roundw
             case rel=>exact ⟨i + 1,by omega,by go_num,by rw [← hset.out,y6h];exact hs5.out.set _ _,hv5.out.far (by show V ≠ S;omega) _,z5d hg5.out⟩
             case measure=>simp [intOf];omega
           · have hi8:i = 8:=by omega
             rw [hi8,x4x] at hs4
             have HE:=hd_ hs4
             have tk2:decide ((i:Int) < 8) = false:=by simp;omega
             clear hs4 hv4 hg4 HS4
             go_wp2
             go_end0
             refine ⟨rfl,?_,HG4.out⟩
             have hbk:z5g s l = s.add v:=by unfold z5g;rw [Hwe.out,HW.out,Hv.out]
             rw [hbk];exact HE.out
theorem z0m:∀ (k:Nat) (s:S8) (l:List UInt8),z2c (k + 1) s l = z5g (z2c k s l) ((l.drop (64 * k)).take 64)
 | 0,s,l=>by simp [z2c]
 | k + 1,s,l=>by
  rw [z2c,z0m k,z2c,List.drop_drop,show 64 + 64 * k = 64 * (k + 1) by omega]
theorem y4c (m:Nat):∀ (k:Nat) (s:S8) (l:List UInt8),z2c (k + m) s l = z2c m (z2c k s l) (l.drop (64 * k))
 | 0,s,l=>by simp [z2c]
 | k + 1,s,l=>by
  rw [show k + 1 + m = (k + m) + 1 by omega,z2c,y4c m k,z2c,List.drop_drop,show 64 + 64 * k = 64 * (k + 1) by omega]
theorem y5c:∀ (k:Nat) (s:S8) (l r:List UInt8),64 * k ≤ l.length→z2c k s (l ++ r) = z2c k s l
 | 0,_,_,_,_=>rfl
 | k + 1,s,l,r,h=>by
  rw [z2c,z2c,List.take_append_of_le_length (by omega),List.drop_append_of_le_length (by omega),y5c k _ _ r (by simp;omega)]
def y3a:List UInt8:=List.replicate 128 0
def k0h:Value→Nat | .slice _ n _=>n | _=>0
theorem k1h (w:World):(Instr.makeSlice 50 (.int .i64 64) (.int .i64 128)).run Tryz.prog w = .ok (.slice (some ⟨w.heap.size,0,none⟩) 64 128) (w.alloc (.cells (z5a y3a).toArray 5)):=by kernel_rfl
theorem x6x {wr:World} {B:Nat} {l:List UInt8} {oa:Option Addr} {n cap:Nat} (h:z9c B wr l (.slice oa n cap)) (hB:B ≤ wr.heap.size) (o:Obj) (hpos:0 < (z5a l).length):∃ ad,oa = some ad∧∀ j v,(z5a l)[j]? = some v→(wr.alloc o).cell? (ad.add j) = some v:=by
 rcases h with ⟨rfl,_⟩ | ⟨_,b,off,cap',he,h2,h3,h4,h5⟩
 · simp [z5a] at hpos
 · injection he with he1 he2 he3
   refine ⟨_,he1,fun j v hv=>?_⟩
   obtain ⟨c,hc,rfl⟩:=z0j l j v hv
   have hpl:(⟨b,off,none⟩:Addr).add j = ⟨b,off + j,none⟩:=by unfold Addr.add;split <;> simp_all
   rw [hpl,cB (w:=wr) (Below.heap_alloc wr o b (by omega))]
   exact h5 j c hc
theorem z2x {α β:Type} (f:α→β) (L:List α) (off:Nat) (cs:List α):splice (L.map f) off (cs.map f) = (splice L off cs).map f:=by simp [splice]
def ub (c:UInt8):Value:=.int .u8 c.toNat
theorem z0h (l:List UInt8):z5a l = l.map ub:=rfl
theorem x7x (r B:List UInt8) (m:Nat) (hB:B.length = 8) (h1:r.length + 9 ≤ m) (h2:m ≤ 128) :
 splice ((splice y3a 0 r).set r.length 128) (m - 8) B = r ++ 128 :: (List.replicate (m - 9 - r.length) 0 ++ (B ++ List.replicate (128 - m) 0)):=by
 have e1:splice y3a 0 r = r ++ 0 :: List.replicate (127 - r.length) 0:=by
  simp only [splice,List.take_zero,List.nil_append,y3a,List.drop_replicate]
  rw [← List.replicate_succ];congr 2;omega
 have e2:(splice y3a 0 r).set r.length 128 = r ++ 128 :: List.replicate (127 - r.length) 0:=by
  rw [e1,List.set_append_right _ _ (lR _),Nat.sub_self];rfl
 rw [e2]
 have e3:(r ++ 128 :: List.replicate (127 - r.length) 0).take (m - 8) = r ++ 128 :: List.replicate (m - 9 - r.length) 0:=by
  rw [List.take_append,List.take_of_length_le (by omega),show m - 8 - r.length = (m - 9 - r.length) + 1 by omega,List.take_succ_cons,List.take_replicate]
  congr 3;omega
 have e4:(r ++ 128 :: List.replicate (127 - r.length) 0).drop (m - 8 + B.length) = List.replicate (128 - m) (0:UInt8):=by
  rw [List.drop_append,List.drop_of_length_le (by omega),hB,show m - 8 + 8 - r.length = (m - 1 - r.length) + 1 by omega,List.drop_succ_cons,List.drop_replicate,List.nil_append]
  congr 1;omega
 unfold splice
 rw [e3,e4];simp
theorem y5i (r:List UInt8) (m n:Nat) (h1:r.length + 9 ≤ m) (h2:m ≤ 128) :
 splice ((splice (z5a y3a) 0 (z5a r)).set r.length (.int .u8 128)) (m - 8) (z5a (be 8 n)) = z5a (r ++ 128 :: (List.replicate (m - 9 - r.length) 0 ++ (be 8 n ++ List.replicate (128 - m) 0))):=by
 have e:(Value.int .u8 128) = ub 128:=rfl
 rw [z0h y3a,z0h r,z2x,e,← List.map_set,z0h (be 8 n),z2x,x7x r (be 8 n) m (z4p 8 n) h1 h2];rfl
def y1t (l r:List UInt8) (m:Nat):List UInt8:=r ++ 128 :: (List.replicate (m - 9 - r.length) 0 ++ be 8 (8 * l.length))
theorem y0m (l r:List UInt8) (m:Nat) (h1:r.length + 9 ≤ m):(y1t l r m).length = m:=by simp [y1t,z4p];omega
theorem x8x (l:List UInt8) (k m:Nat) (hk:64 * k ≤ l.length) (h63:(l.drop (64 * k)).length ≤ 63) (hm:(m = 64∧(l.drop (64 * k)).length ≤ 55)∨(m = 128∧55 < (l.drop (64 * k)).length)) :
 pad l = l.take (64 * k) ++ y1t l (l.drop (64 * k)) m:=by
 unfold pad y1t
 conv=>lhs;lhs;rw [← List.take_append_drop (64 * k) l]
 rw [List.append_assoc]
 rw [List.length_drop] at *
 congr 5;omega
theorem y2t (l:List UInt8) (k m:Nat) (hk:64 * k ≤ l.length) (h63:(l.drop (64 * k)).length ≤ 63) (hm:(m = 64∧(l.drop (64 * k)).length ≤ 55)∨(m = 128∧55 < (l.drop (64 * k)).length)) :
 sha l = (z2c (m / 64) (z2c k z3i l) (y1t l (l.drop (64 * k)) m)).l.flatMap fun x=>be 4 x.toNat:=by
 have hp:=x8x l k m hk h63 hm
 have hl:(l.take (64 * k)).length = 64 * k:=by rw [List.length_take];omega
 have hpl:(pad l).length / 64 = k + m / 64:=by rw [hp,List.length_append,hl,y0m _ _ _ (by omega)];omega
 unfold sha
 rw [hpl,y4c]
 have h1:(pad l).drop (64 * k) = y1t l (l.drop (64 * k)) m:=by rw [hp,List.drop_append_of_le_length (by omega),List.drop_of_length_le (by omega),List.nil_append]
 have h2:z2c k z3i (pad l) = z2c k z3i l:=by unfold pad;exact y5c k z3i l _ hk
 rw [h1,h2]
theorem x2c (s:S8) (t:List UInt8) (h:t.length = 64):z2c (64 / 64) s t = z5g s t:=by
 show z2c 1 s t = _;simp only [z2c];rw [List.take_of_length_le (by omega)]
theorem x3c (s:S8) (t:List UInt8) (h:t.length = 128):z2c (128 / 64) s t = z5g (z5g s (t.take 64)) (t.drop 64):=by
 show z2c 2 s t = _;simp only [z2c];rw [List.take_of_length_le (l:=t.drop 64) (by simp;omega)]
def j5r (w:World) (l:List UInt8) (v:Value) (wr:World):Prop :=
 ∃ k:Nat,64 * k ≤ l.length∧z9c w.heap.size wr (l.drop (64 * k)) v∧CB wr (w.heap.size + 1) 217 ((z2c k z3i l).l.map z6d)∧CB wr w.heap.size 165 (z5a (List.replicate 32 0))∧w.grownBy wr none
theorem y6c {w wr w1:World} {l:List UInt8} {k b off n cp cp':Nat} {oa:Option Addr} (hk:64 * k + 64 ≤ l.length) (hn:(l.drop (64 * k)).length = n) (h2:n ≤ cp) (h3:cp ≤ maxLen) (h4:b < w.heap.size) (h5:∀ j c,(l.drop (64 * k))[j]? = some c→wr.cell? ⟨b,off + j,none⟩ = some (.int .u8 (c.toNat:Int)))
 (hcp:(n = 64∧cp' ≤ maxLen)∨(oa = some ⟨b,off + 64,none⟩∧cp' = cp - 64)) (hs:CB w1 (w.heap.size + 1) 217 ((z5g (z2c k z3i l) ((l.drop (64 * k)).take 64)).l.map z6d)) (hd:CB wr w.heap.size 165 (z5a (List.replicate 32 0)))
 (hg:w.grownBy wr none) (hg1:wr.grownBy w1 (some (w.heap.size + 1))):j5r w l (.slice oa (n - 64) cp') w1:=by
 have hdl:(l.drop (64 * (k + 1))).length = n - 64:=by rw [List.length_drop] at *;omega
 have hgs:=hg.size
 refine ⟨k + 1,by omega,?_,by rw [z0m];exact hs,hd.keep (hg1.block _ hd.lt (by simp)),z2a hg hg1 (.inr fun g hg=>by injection hg;omega)⟩
 rcases hcp with ⟨h64,hcm⟩ | ⟨rfl,rfl⟩
 · have h0:l.drop (64 * (k + 1)) = []:=List.eq_nil_of_length_eq_zero (by omega)
   rw [h0,h64];exact .inl ⟨rfl,oa,cp',rfl,hcm⟩
 · refine z9c.mk' hdl.symm (by omega) (by omega) h4 fun j c hj=>?_
   have h1:(l.drop (64 * k))[64 + j]? = some c:=by rw [← hj,List.getElem?_drop,List.getElem?_drop];congr 1;omega
   have h2:=h5 _ c h1
   rw [cB (w:=wr) (hg1.block b (by omega) (fun e=>by injection e;omega)),Nat.add_assoc];exact h2
structure SumMid (w w5:World) (E:Nat) (e:List UInt8) (st:S8):Prop where
 he:CB w5 E 5 (z5a e)
 hs:CB w5 (w.heap.size + 1) 217 (st.l.map z6d)
 hd:CB w5 w.heap.size 165 (z5a (List.replicate 32 0))
 hg:w.grownBy w5 none
 hE:w.heap.size + 2 ≤ E
theorem SumMid.next {w w5 w6:World} {E:Nat} {e:List UInt8} {st st':S8} (h:SumMid w w5 E e st) (hs:CB w6 (w.heap.size + 1) 217 (st'.l.map z6d)) (hg:w5.grownBy w6 (some (w.heap.size + 1))):SumMid w w6 E e st' :=
 ⟨h.he.keep (hg.block E h.he.lt (by have:=h.hE;intro e;injection e;omega)),hs,h.hd.keep (hg.block _ h.hd.lt (by simp)),z2a h.hg hg (.inr fun g hg=>by injection hg;omega),h.hE⟩
theorem CB.bl {w:World} {E:Nat} {t:TypeId} {e:List UInt8} (h:CB w E t (z5a e)) (off:Nat):BL w E off (e.drop off):=fun j c hj=>by
 rw [h.cell,z5a];rw [List.getElem?_drop] at hj;simp [hj]
theorem SumMid.absorb {w w5:World} {E:Nat} {e:List UInt8} {st:S8} (h:SumMid w w5 E e st) (hL:Laid w) (off cap:Nat) (hoff:off + 64 ≤ e.length) (hcap:64 ≤ cap) (hc:cap ≤ 128) :
 Calls Tryz.prog 200 #[.pointer (some ⟨w.heap.size + 1,0,none⟩),.slice (some ⟨E,off,none⟩) 64 cap] w5 fun x w6=>x = .returned (.tuple #[])∧SumMid w w6 E e (z5g st ((e.drop off).take 64)):=by
 refine (z1x (w.heap.size + 1) E off cap st ((e.drop off).take 64) w5 (by simp;omega) hcap (by unfold maxLen;omega) h.he.lt ((h.he.bl off).take 64) h.hs (by have:=h.hE;omega) (hL.grown h.hg (by simp))).mono ?_
 rintro x w6 ⟨rfl,h1,h2⟩
 exact ⟨rfl,h.next h1 h2⟩
def j6r (w:World) (st:S8) (i:Value) (wr:World):Prop :=
 ∃ k:Nat,k ≤ 8∧i = .int .i64 k∧CB wr w.heap.size 165 (z5a (((st.l.take k).flatMap fun x=>be 4 x.toNat) ++ List.replicate (32 - 4 * k) 0))∧w.grownBy wr none
theorem x4c (st:S8) (k:Nat) (h:k ≤ 8):((st.l.take k).flatMap fun x=>be 4 x.toNat).length = 4 * k:=by
 rcases (by omega:k = 0∨k = 1∨k = 2∨k = 3∨k = 4∨k = 5∨k = 6∨k = 7∨k = 8) with rfl | rfl | rfl | rfl | rfl | rfl | rfl | rfl | rfl <;> simp [S8.l,z4p]
theorem x1k (st:S8) (k:Nat) (h:k < 8):splice (z5a (((st.l.take k).flatMap fun x=>be 4 x.toNat) ++ List.replicate (32 - 4 * k) 0)) (4 * k) (z5a (be 4 (st.l.getD k 0).toNat)) = z5a (((st.l.take (k + 1)).flatMap fun x=>be 4 x.toNat) ++ List.replicate (32 - 4 * (k + 1)) 0):=by
 have hl:=x4c st k (by omega)
 have hk:k < st.l.length:=by simp [S8.l];omega
 have h1:st.l.take (k + 1) = st.l.take k ++ [st.l.getD k 0]:=by rw [List.take_succ_eq_append_getElem hk];simp [hk]
 rw [h1,List.flatMap_append]
 generalize ((st.l.take k).flatMap fun x=>be 4 x.toNat) = A at *
 rw [z0h,z0h (be 4 _),z2x,z0h]
 congr 1
 unfold splice
 rw [List.take_append_of_le_length (by omega),List.take_of_length_le (by omega),z4p,List.drop_append,List.drop_of_length_le (by omega),List.nil_append,List.drop_replicate,hl]
 simp only [List.flatMap_cons,List.flatMap_nil,List.append_nil,List.append_assoc]
 congr 3;omega
theorem k8v (st:S8) (k:Nat) (h:k < 8) (w:World):(Instr.index 217 (.agg #[.int .u32 (iw st.a),.int .u32 (iw st.b),.int .u32 (iw st.c),.int .u32 (iw st.d),.int .u32 (iw st.e),.int .u32 (iw st.f),.int .u32 (iw st.g),.int .u32 (iw st.h)]) (.int .i64 (k:Int))).run Tryz.prog w = .ok (.int .u32 (iw (st.l.getD k 0))) w:=by
 rcases (by omega:k = 0∨k = 1∨k = 2∨k = 3∨k = 4∨k = 5∨k = 6∨k = 7) with rfl | rfl | rfl | rfl | rfl | rfl | rfl | rfl <;> kernel_rfl
theorem k9v (D:Nat) (j:Nat) (h:j < 8) (w:World):(Instr.sliceAt 165 (.pointer (some ⟨D,0,none⟩)) (some (.int .i64 (4 * (j:Int)))) (some (.int .i64 (4 * (j:Int) + 4))) none).run Tryz.prog w = .ok (.slice (some ⟨D,4 * j,none⟩) 4 (32 - 4 * j)) w:=by
 rcases (by omega:j = 0∨j = 1∨j = 2∨j = 3∨j = 4∨j = 5∨j = 6∨j = 7) with rfl | rfl | rfl | rfl | rfl | rfl | rfl | rfl <;> kernel_rfl
theorem x5c (l:List UInt8):(z5a l).toArray.all (·.oneCell') = true:=by
 rw [Array.all_eq_true_iff_forall_mem];intro x hx;exact z8m l x (by simpa using hx)
theorem x2k {l:List UInt8} (h:l.length = 32):(Tryz.prog.info? 165).map (·.size) = some (z5a l).toArray.size:=by
 rw [List.size_toArray,z3b,h];kernel_rfl
theorem z5i {w w':World} (h:w.grownBy w' none):Below w.heap.size w w':=⟨h.os,h.tape,h.output,h.size,fun k hk=>h.block k hk (by simp)⟩
theorem y3t {w wo w4 w5:World} {E:Nat} {e:List UInt8} {st:S8} (hE:wo.heap.size = E) (hs:CB wo (w.heap.size + 1) 217 (st.l.map z6d)) (hd:CB wo w.heap.size 165 (z5a (List.replicate 32 0))) (hg:w.grownBy wo none)
 (hB:Below E wo w4) (he:CB w5 E 5 (z5a e)) (hg5:w4.grownBy w5 (some E)):SumMid w w5 E e st:=by
 have h1:=hs.lt
 have hg4:wo.grownBy w4 none:=⟨hB.os,hB.tape,hB.output,hB.size,fun j hj _=>hB.block j (by omega)⟩
 have hB5:∀ j,j < E→w5.heap[j]? = wo.heap[j]?:=fun j hj=>(hg5.block j (by have:=hB.size;omega) (by intro e;injection e;omega)).trans (hB.block j hj)
 exact ⟨he,hs.keep (hB5 _ (by omega)),hd.keep (hB5 _ (by omega)),z2a (z2a hg hg4 (.inl rfl)) hg5 (.inr fun g hg'=>by injection hg';have:=hg.size;omega),by omega⟩
theorem j2m (oa:Option Addr) (cap:Nat) (l:List UInt8) (w:World) (hl:l.length ≤ 1000000) (hbl:z9c w.heap.size w l (.slice oa l.length cap)) (hLd:Laid w) :
 Calls Tryz.prog 180 #[.slice oa l.length cap] w fun e w'=>e = .returned (.agg (z5a (sha l)).toArray)∧Below w.heap.size w w':=by
 have hmf:∀ (fn:Fn) (first cap:Array Value) (w:World),(Instr.makeFunc fn first cap).run Tryz.prog w = .ok (.func fn first cap) w:=fun _ _ _ _=>rfl
 have hmk:∀ w:World,(Instr.makeSlice 50 (.int .i64 64) (.int .i64 128)).run Tryz.prog w = .ok (.slice (some ⟨w.heap.size,0,none⟩) 64 128) (w.alloc (.cells (z5a y3a).toArray 5)):=fun w=>k1h w
 have hg2:2 < w.heap.size:=hLd.lt.2
 have s0:w.cell? ⟨2,0,none⟩ = some (.int .u32 (iw z3i.a)):=hLd.start 0 (by decide)
 have s1:w.cell? ⟨2,1,none⟩ = some (.int .u32 (iw z3i.b)):=hLd.start 1 (by decide)
 have s2:w.cell? ⟨2,2,none⟩ = some (.int .u32 (iw z3i.c)):=hLd.start 2 (by decide)
 have s3:w.cell? ⟨2,3,none⟩ = some (.int .u32 (iw z3i.d)):=hLd.start 3 (by decide)
 have s4:w.cell? ⟨2,4,none⟩ = some (.int .u32 (iw z3i.e)):=hLd.start 4 (by decide)
 have s5:w.cell? ⟨2,5,none⟩ = some (.int .u32 (iw z3i.f)):=hLd.start 5 (by decide)
 have s6:w.cell? ⟨2,6,none⟩ = some (.int .u32 (iw z3i.g)):=hLd.start 6 (by decide)
 have s7:w.cell? ⟨2,7,none⟩ = some (.int .u32 (iw z3i.h)):=hLd.start 7 (by decide)
 go_enter Tryz.func180,Tryz.ntmps180
 go_wp2
 have HB:=hd_ hbl;have HLd:=hd_ hLd
 clear hbl hLd s0 s1 s2 s3 s4 s5 s6 s7
 go_loopw [5] (fun v wr=>j5r w l v wr) (fun v _=>k0h v)
 case atStart =>
  refine ⟨0,Nat.zero_le _,?_,?_,?_,z8a (z8a (z7b w _) _) _⟩
  · exact HB.out.keep (lR _) fun k hk=>(Below.heap_alloc _ _ k (by rw [World.size_alloc];omega)).trans (Below.heap_alloc w _ k hk)
  · have h:=heap_alloc_new (w.alloc (.cells #[.int .u8 0,.int .u8 0,.int .u8 0,.int .u8 0,.int .u8 0,.int .u8 0,.int .u8 0,.int .u8 0,.int .u8 0,.int .u8 0,.int .u8 0,.int .u8 0,.int .u8 0,.int .u8 0,.int .u8 0,.int .u8 0,.int .u8 0,.int .u8 0,.int .u8 0,.int .u8 0,.int .u8 0,.int .u8 0,.int .u8 0,.int .u8 0,.int .u8 0,.int .u8 0,.int .u8 0,.int .u8 0,.int .u8 0,.int .u8 0,.int .u8 0,.int .u8 0] 165)) (.cells #[.int .u32 (iw z3i.a),.int .u32 (iw z3i.b),.int .u32 (iw z3i.c),.int .u32 (iw z3i.d),.int .u32 (iw z3i.e),.int .u32 (iw z3i.f),.int .u32 (iw z3i.g),.int .u32 (iw z3i.h)] 217)
    rw [World.size_alloc] at h
    exact h
  · exact (Below.heap_alloc _ _ _ (by rw [World.size_alloc];omega)).trans (heap_alloc_new w _)
 case round =>
  obtain ⟨k,hk,hb,hs,hd,hg⟩:=hrel
  have HS:=hd_ hs;have HD:=hd_ hd;have HG:=hd_ hg
  have hlen:(l.drop (64 * k)).length = l.length - 64 * k:=List.length_drop
  by_cases hge:64 * k + 64 ≤ l.length
  · rcases hb with ⟨h0,_⟩ | ⟨_,b,off,cp,rfl,h2,h3,h4,h5⟩
    · rw [h0] at hlen;simp at hlen;omega
    have H5:=hd_ h5;have Hlen:=hd_ hlen
    obtain ⟨n,hn⟩:∃ n,(l.drop (64 * k)).length = n:=⟨_,rfl⟩
    rw [hn] at h2 ⊢
    have Hn:=hd_ hn
    have g1:(64:Int) ≤ (n:Int):=by omega
    have g2:(n:Int) ≤ (cp:Int):=by omega
    have h3':=hd_ h3
    unfold maxLen at h3
    have tk:decide ((64:Int) ≤ (n:Int)) = true:=by simp;omega
    clear hs hd hg h5 hlen hn
    have hne:b ≠ w.heap.size + 1:=by omega
    have hLw:=hd_ (HLd.out.grown HG.out (by simp))
    have hbt:BL wr b off ((l.drop (64 * k)).take 64):=BL.take (fun j c hj=>H5.out j c hj) 64
    have HBT:=hd_ hbt
    have hwl:b < wr.heap.size:=Nat.lt_of_lt_of_le h4 HG.out.size
    have hab:=hd_ (z0m k z3i l)
    clear hbt
    by_cases hcp:cp = 64
    · subst hcp
      go_wp2_with fail
      refine (z1x (w.heap.size + 1) b off 64 (z2c k z3i l) ((l.drop (64 * k)).take 64) wr (by rw [List.length_take,Hn.out];omega) (by omega) h3'.out hwl HBT.out HS.out hne hLw.out).mono ?_
      rintro e w1 ⟨rfl,hs1,hg1⟩
      have HS1:=hd_ hs1;have HG1:=hd_ hg1
      clear hs1 hg1
      go_wp2_with fail
      go_roundw
      case rel =>
       have h0:=y6c (oa:=some ⟨b,off,none⟩) (cp':=0) hge Hn.out h2 h3'.out h4 H5.out (.inl ⟨by omega,Nat.zero_le _⟩) HS1.out HD.out HG.out HG1.out
       rw [show n - 64 = 0 by omega] at h0;exact h0
      case measure=>simp [k0h];omega
    · have hcp2:¬ (cp:Int) = 64:=by omega
      have hcp3:64 < cp:=by omega
      go_wp2_with fail
      refine (z1x (w.heap.size + 1) b off cp (z2c k z3i l) ((l.drop (64 * k)).take 64) wr (by rw [List.length_take,Hn.out];omega) (by omega) h3'.out hwl HBT.out HS.out hne hLw.out).mono ?_
      rintro e w1 ⟨rfl,hs1,hg1⟩
      have HS1:=hd_ hs1;have HG1:=hd_ hg1
      clear hs1 hg1
      go_wp2_with fail
      go_roundw
      case rel=>exact y6c hge Hn.out h2 h3'.out h4 H5.out (.inr ⟨rfl,rfl⟩) HS1.out HD.out HG.out HG1.out
      case measure=>simp [k0h];omega
  · obtain ⟨oa2,cp,rfl,hc1,hc2⟩:=hb.form
    have HB2:=hd_ hb
    obtain ⟨r,hr⟩:∃ r,l.drop (64 * k) = r:=⟨_,rfl⟩
    rw [hr] at HB2 hlen hc1 ⊢
    have hr63:r.length ≤ 63:=by omega
    have tk:decide ((64:Int) ≤ (r.length:Int)) = false:=by simp;omega
    have Hr:=hd_ hr;have Hlen:=hd_ hlen
    unfold maxLen at hc2
    clear hb hs hd hg hr hlen
    obtain ⟨wo,rfl⟩:∃ wo:World,wo = wr:=⟨_,rfl⟩
    have hE0:(wo.alloc (.cells (z5a y3a).toArray 5)).heap[wo.heap.size]? = some (.cells (z5a y3a).toArray 5 (0,0)):=heap_alloc_new wo _
    have HE0:=hd_ hE0
    have hB0:=hd_ ((Below.refl wo.heap.size wo).alloc (lR _) (.cells (z5a y3a).toArray 5))
    have hsrc:=hd_ (x6x HB2.out HG.out.size (.cells (z5a y3a).toArray 5))
    have hone:=hd_ (z8m r)
    clear hE0
    go_wp2_with (with_reducible refine wpList_copy_splice rfl (.tmp 22) (.tmp 23) 50 50 rfl 5 Tryz.underlying50 (by kernel_rfl) (some ⟨wo.heap.size,0,none⟩) oa2 64 128 r.length cp rfl rfl wo.heap.size 0 (z5a y3a) 5 HE0.out (z5a r) ?c1 ?c2 ?c3 hone.out wo.heap.size wo hB0.out (lR _) ?_)
    case c1=>rw [z3b];exact (Nat.min_eq_left (by omega)).symm
    case c2=>exact fun h=>hsrc.out h
    case c3=>simp [z3b,y3a];omega
    intro w3 hE3 hB3
    have HE3:Hid (CB w3 wo.heap.size 5 (splice (z5a y3a) 0 (z5a r))):=hE3.out
    have HB3:=hd_ hB3
    clear hE3 hB3 HE0 hB0 hsrc hone
    obtain ⟨E,hE⟩:∃ E,wo.heap.size = E:=⟨_,rfl⟩
    rw [hE] at HE3 HB3
    have Hr63:=hd_ hr63
    have b1:(r.length:Int) < 128:=by omega
    have b2:(r.length:Int) < 64:=by omega
    have fz:=HE3.out.frozen r.length
    have hlen3:(splice (z5a y3a) 0 (z5a r)).length = 128:=by rw [length_splice _ _ _ (by simp [z3b,y3a];omega)];simp [z3b,y3a]
    obtain ⟨x0,hx0⟩:∃ x,w3.cell? ⟨E,r.length,none⟩ = some x:=⟨_,(HE3.out.cell _).trans (List.getElem?_eq_getElem (by omega))⟩
    clear hlen3
    by_cases h55:55 < r.length
    · have t55:decide ((55:Int) < (r.length:Int)) = true:=by simp;omega
      go_wp2_with fail
      have HE4:Hid (CB (w3.setCell ⟨E,r.length,none⟩ (.int .u8 128)) E 5 ((splice (z5a y3a) 0 (z5a r)).set r.length (.int .u8 128))):=HE3.out.set _ _
      have hB4:Hid (Below E wo (w3.setCell ⟨E,r.length,none⟩ (.int .u8 128))):=HB3.out.setCell (lR _) _
      have hl8:((l.length:Int) * 8) = ((8 * l.length:Nat):Int):=by omega
      refine (y6l E 120 8 8 (8 * l.length) _ hl8 5 _ _ HE4.out (by decide) (by decide) ?c128).mono ?_
      case c128=>rw [List.length_set,length_splice _ _ _ (by simp [z3b,y3a];omega)];simp [z3b,y3a]
      rintro e w5 ⟨rfl,hE5,hg5,hz5⟩
      rw [y5i r 128 (8 * l.length) (by omega) (by omega)] at hE5
      have HM0:=hd_ (y3t (e:=y1t l r 128 ++ List.replicate (128 - 128) 0) hE HS.out HD.out HG.out hB4.out (by unfold y1t;simp only [List.append_assoc,List.cons_append];exact hE5) hg5)
      have hel:=hd_ (y0m l r 128 (by omega))
      clear hE5 hg5 hz5 HE4 hB4 hl8
      go_wp2_with fail
      refine wp_loop_rounds 3 ?_
      rw [rounds_succ];go_wp2_with fail
      refine (HM0.out.absorb HLd.out 0 128 (by rw [List.length_append,hel.out];simp) (by decide) (by decide)).mono ?_
      rintro e w6 ⟨rfl,hm6⟩
      have HM1:=hd_ hm6
      clear hm6
      go_wp2_with fail
      rw [rounds_succ];go_wp2_with fail
      refine (HM1.out.absorb HLd.out 64 64 (by rw [List.length_append,hel.out];simp) (by decide) (by decide)).mono ?_
      rintro e w6 ⟨rfl,hm6⟩
      have HM2:=hd_ hm6
      clear hm6
      go_wp2_with fail
      have hfin:Hid (sha l = ((z5g (z5g (z2c k z3i l) ((y1t l r 128 ++ List.replicate (128 - 128) 0).drop 0 |>.take 64)) ((y1t l r 128 ++ List.replicate (128 - 128) 0).drop 64 |>.take 64)).l.flatMap fun x=>be 4 x.toNat)):=by
       show sha l = _
       have h0:=y2t l k 128 hk (by rw [Hr.out];omega) (by rw [Hr.out];omega)
       rw [Hr.out] at h0
       rw [h0,x3c _ _ hel.out]
       rw [show (128 - 128) = 0 from rfl,List.replicate_zero,List.append_nil,List.drop_zero,List.take_of_length_le (l:=List.drop 64 (y1t l r 128)) (by rw [List.length_drop,hel.out];decide)]
      have hm:=HM2.out
      generalize (z5g (z5g (z2c k z3i l) ((y1t l r 128 ++ List.replicate (128 - 128) 0).drop 0 |>.take 64)) ((y1t l r 128 ++ List.replicate (128 - 128) 0).drop 64 |>.take 64)) = st at hm hfin
      obtain ⟨z0,z1,z2,z3,z4,z5,z6,z7⟩:=cb8 hm.hs
      have HMd:=hd_ hm.hd;have HMg:=hd_ hm.hg
      clear hm HM0 HM1 HM2 HE3 HB3 HB2 HS HD HG
      rw [rounds_succ];go_wp2
      have hix:=fun (k:Nat) (h:k < 8)=>k8v st k h
      have HIX:=hd_ hix
      clear hix
      go_loopw [54] (fun i wr=>j6r w st i wr) (fun i _=>8 - (intOf i).toNat)
      case atStart=>exact ⟨0,by omega,rfl,HMd.out,HMg.out⟩
      case round =>
       obtain ⟨j,hj,rfl,hdj,hgj⟩:=hrel
       have HDJ:=hd_ hdj;have HGJ:=hd_ hgj
       by_cases hlt:j < 8
       · have tk2:decide ((j:Int) < 8) = true:=by simp;omega
         have hix:=HIX.out j hlt
         obtain ⟨x,hx⟩:∃ x,st.l.getD j 0 = x:=⟨_,rfl⟩
         rw [hx] at hix
         have hst:=hd_ (x1k st j hlt)
         rw [hx] at hst
         have e64:IntKind.u64.wrap (iw x) = iw x:=by have:=x1o x;rw [IntKind.wrap_u64];omega
         have n6:(j:Int) < 8:=by omega
         have hsl:=k9v w.heap.size j hlt wr
         have hol:=hd_ (x4c st j (by omega))
         clear hdj hgj hx
         go_wp2_with fail
         refine (y6l w.heap.size (4 * j) 4 (32 - 4 * j) x.toNat _ rfl 165 _ _ HDJ.out (by decide) (by decide) ?c3).mono ?_
         case c3=>rw [z3b,List.length_append,hol.out,List.length_replicate];omega
         rintro e w7 ⟨rfl,hd7,hg7,hz7⟩
         rw [hst.out] at hd7
         have HD7:=hd_ hd7;have HG7:=hd_ hg7
         clear hd7 hg7 hz7
         go_wp2_with fail
         go_roundw
         case rel=>exact ⟨j + 1,by omega,by go_num,HD7.out,z2a HGJ.out HG7.out (.inr fun g hg=>by injection hg;omega)⟩
         case measure=>simp [intOf];omega
       · have hj8:j = 8:=by omega
         rw [hj8] at hdj
         have tk2:decide ((j:Int) < 8) = false:=by simp;omega
         have hsha:Hid ((st.l.take 8).flatMap (fun x=>be 4 x.toNat) ++ List.replicate (32 - 4 * 8) 0 = sha l):=by
          show _ = _;rw [hfin.out,List.take_of_length_le (by simp [S8.l])];simp
         rw [hsha.out] at hdj
         have hrow:Hid (wr.heap[w.heap.size]? = some (.cells (z5a (sha l)).toArray 165 (0,0))):=hdj
         have hone:=hd_ (x5c (sha l))
         have hi:=hd_ (x2k (l:=sha l) (z7t l))
         clear hgj hdj HDJ z0 z1 z2 z3 z4 z5 z6 z7
         go_wp2_with (first
          | (with_reducible refine wpList_load_row rfl 165 (.tmp 2) rfl w.heap.size rfl 165 (z5a (sha l)).toArray (0,0) _ hrow.out Tryz.underlying165 rfl hi.out ?_)
          | (with_reducible refine wpList_store_row rfl 165 (.tmp 2) (.tmp 68) rfl w.heap.size (z5a (sha l)).toArray rfl rfl 165 (z5a (sha l)).toArray hrow.out hi.out rfl hone.out ?_))
         refine bodyPost_ret (v:=.agg (z5a (sha l)).toArray) (results_cell_row rfl _ _ w.heap.size 165 (z5a (sha l)).toArray (0,0) _ rfl (setRow_heap _ _ _ _ _ _ hrow.out) Tryz.underlying165 rfl hi.out) rfl ?_
         exact ⟨rfl,below_setRow (z5i HGJ.out) (lR _) _⟩
    · have t55:decide ((55:Int) < (r.length:Int)) = false:=by simp;omega
      go_wp2_with fail
      have HE4:Hid (CB (w3.setCell ⟨E,r.length,none⟩ (.int .u8 128)) E 5 ((splice (z5a y3a) 0 (z5a r)).set r.length (.int .u8 128))):=HE3.out.set _ _
      have hB4:Hid (Below E wo (w3.setCell ⟨E,r.length,none⟩ (.int .u8 128))):=HB3.out.setCell (lR _) _
      have hl8:((l.length:Int) * 8) = ((8 * l.length:Nat):Int):=by omega
      refine (y6l E 56 8 72 (8 * l.length) _ hl8 5 _ _ HE4.out (by decide) (by decide) ?c64).mono ?_
      case c64=>rw [List.length_set,length_splice _ _ _ (by simp [z3b,y3a];omega)];simp [z3b,y3a]
      rintro e w5 ⟨rfl,hE5,hg5,hz5⟩
      rw [y5i r 64 (8 * l.length) (by omega) (by omega)] at hE5
      have HM0:=hd_ (y3t (e:=y1t l r 64 ++ List.replicate (128 - 64) 0) hE HS.out HD.out HG.out hB4.out (by unfold y1t;simp only [List.append_assoc,List.cons_append];exact hE5) hg5)
      have hel:=hd_ (y0m l r 64 (by omega))
      clear hE5 hg5 hz5 HE4 hB4 hl8
      go_wp2_with fail
      refine wp_loop_rounds 2 ?_
      rw [rounds_succ];go_wp2_with fail
      refine (HM0.out.absorb HLd.out 0 128 (by rw [List.length_append,hel.out];simp) (by decide) (by decide)).mono ?_
      rintro e w6 ⟨rfl,hm6⟩
      have HM1:=hd_ hm6
      clear hm6
      go_wp2_with fail
      have hfin:Hid (sha l = ((z5g (z2c k z3i l) ((y1t l r 64 ++ List.replicate (128 - 64) 0).drop 0 |>.take 64)).l.flatMap fun x=>be 4 x.toNat)):=by
       show sha l = _
       have h0:=y2t l k 64 hk (by rw [Hr.out];omega) (by rw [Hr.out];omega)
       rw [Hr.out] at h0
       rw [h0,x2c _ _ hel.out]
       rw [List.drop_zero,List.take_append_of_le_length (by rw [hel.out];exact lR _),List.take_of_length_le (by rw [hel.out];exact lR _)]
      have hm:=HM1.out
      generalize (z5g (z2c k z3i l) ((y1t l r 64 ++ List.replicate (128 - 64) 0).drop 0 |>.take 64)) = st at hm hfin
      obtain ⟨z0,z1,z2,z3,z4,z5,z6,z7⟩:=cb8 hm.hs
      have HMd:=hd_ hm.hd;have HMg:=hd_ hm.hg
      clear hm HM0 HM1 HE3 HB3 HB2 HS HD HG
      rw [rounds_succ];go_wp2
      have hix:=fun (k:Nat) (h:k < 8)=>k8v st k h
      have HIX:=hd_ hix
      clear hix
      go_loopw [54] (fun i wr=>j6r w st i wr) (fun i _=>8 - (intOf i).toNat)
      case atStart=>exact ⟨0,by omega,rfl,HMd.out,HMg.out⟩
      case round =>
       obtain ⟨j,hj,rfl,hdj,hgj⟩:=hrel
       have HDJ:=hd_ hdj;have HGJ:=hd_ hgj
       by_cases hlt:j < 8
       · have tk2:decide ((j:Int) < 8) = true:=by simp;omega
         have hix:=HIX.out j hlt
         obtain ⟨x,hx⟩:∃ x,st.l.getD j 0 = x:=⟨_,rfl⟩
         rw [hx] at hix
         have hst:=hd_ (x1k st j hlt)
         rw [hx] at hst
         have e64:IntKind.u64.wrap (iw x) = iw x:=by have:=x1o x;rw [IntKind.wrap_u64];omega
         have n6:(j:Int) < 8:=by omega
         have hsl:=k9v w.heap.size j hlt wr
         have hol:=hd_ (x4c st j (by omega))
         clear hdj hgj hx
         go_wp2_with fail
         refine (y6l w.heap.size (4 * j) 4 (32 - 4 * j) x.toNat _ rfl 165 _ _ HDJ.out (by decide) (by decide) ?c3).mono ?_
         case c3=>rw [z3b,List.length_append,hol.out,List.length_replicate];omega
         rintro e w7 ⟨rfl,hd7,hg7,hz7⟩
         rw [hst.out] at hd7
         have HD7:=hd_ hd7;have HG7:=hd_ hg7
         clear hd7 hg7 hz7
         go_wp2_with fail
         go_roundw
         case rel=>exact ⟨j + 1,by omega,by go_num,HD7.out,z2a HGJ.out HG7.out (.inr fun g hg=>by injection hg;omega)⟩
         case measure=>simp [intOf];omega
       · have hj8:j = 8:=by omega
         rw [hj8] at hdj
         have tk2:decide ((j:Int) < 8) = false:=by simp;omega
         have hsha:Hid ((st.l.take 8).flatMap (fun x=>be 4 x.toNat) ++ List.replicate (32 - 4 * 8) 0 = sha l):=by
          show _ = _;rw [hfin.out,List.take_of_length_le (by simp [S8.l])];simp
         rw [hsha.out] at hdj
         have hrow:Hid (wr.heap[w.heap.size]? = some (.cells (z5a (sha l)).toArray 165 (0,0))):=hdj
         have hone:=hd_ (x5c (sha l))
         have hi:=hd_ (x2k (l:=sha l) (z7t l))
         clear hgj hdj HDJ z0 z1 z2 z3 z4 z5 z6 z7
         go_wp2_with (first
          | (with_reducible refine wpList_load_row rfl 165 (.tmp 2) rfl w.heap.size rfl 165 (z5a (sha l)).toArray (0,0) _ hrow.out Tryz.underlying165 rfl hi.out ?_)
          | (with_reducible refine wpList_store_row rfl 165 (.tmp 2) (.tmp 68) rfl w.heap.size (z5a (sha l)).toArray rfl rfl 165 (z5a (sha l)).toArray hrow.out hi.out rfl hone.out ?_))
         refine bodyPost_ret (v:=.agg (z5a (sha l)).toArray) (results_cell_row rfl _ _ w.heap.size 165 (z5a (sha l)).toArray (0,0) _ rfl (setRow_heap _ _ _ _ _ _ hrow.out) Tryz.underlying165 rfl hi.out) rfl ?_
         exact ⟨rfl,below_setRow (z5i HGJ.out) (lR _) _⟩
end Go.Proofs.YtdblnbnofjggnaaGreatDoor
