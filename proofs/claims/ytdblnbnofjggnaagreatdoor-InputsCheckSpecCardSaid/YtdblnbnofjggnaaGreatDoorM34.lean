/- Parts of the proofs of chapter 49's laws: Jut Jfd. -/
import Derived.Test.YtdblnbnofjggnaaGreatDoorM33
import Derived.Test.YtdblnbnofjggnaaGreatDoorM21
import Derived.Test.YtdblnbnofjggnaaGreatDoorM17
set_option maxHeartbeats 8000000
set_option maxRecDepth 100000
open Go
open Lib renaming hid → hd_
open World renaming size_alloc → sA
open List renaming not_mem_nil → nM
namespace Go.Proofs.YtdblnbnofjggnaaGreatDoor
open Go.RowKit
def k7s (x:Inp) (w:World) (e:Ending) (w':World):Prop:=∃ s',e = .returned ((z4i x).v s')∧InpR w' (z4i x) s'∧Below w.heap.size w w'
def z6w (x:Inp) (s:Slc):Slc:=if x.kind = 2 then { z1g with vols:=s.vols } else if x.kind = 3 then { z1g with ways:=s.ways } else if x.kind = 4 then { z1g with tree:=s.tree } else if x.kind = 6 then { z1g with modes:=s.modes } else z1g
theorem k3j {x:Inp} {s:Slc} (h:SlcS s):SlcS (z6w x s):=by
 have n:∃ o k c,(Value.slice none 0 0:Value) = .slice o k c:=⟨_,_,_,rfl⟩
 unfold z6w
 split
 · exact ⟨n,n,n,h.vols⟩
 split
 · exact ⟨h.ways,n,n,n⟩
 split
 · exact ⟨n,h.tree,n,n⟩
 split
 · exact ⟨n,n,h.modes,n⟩
 · exact ⟨n,n,n,n⟩
theorem k4j {x:Inp} (h:x.kind = 1) (s:Slc):z4i x = { z0e x with text:=x.text }∧z6w x s = z1g:=⟨by unfold z4i;simp [h],by unfold z6w;simp [h]⟩
theorem k5j {x:Inp} (h:x.kind = 2) (s:Slc):z4i x = { z0e x with stn:=x.stn }∧z6w x s = { z1g with vols:=s.vols }:=⟨by unfold z4i;simp [h],by unfold z6w;simp [h]⟩
theorem k6j {x:Inp} (h:x.kind = 3) (s:Slc):z4i x = { z0e x with flt:=x.flt }∧z6w x s = { z1g with ways:=s.ways }:=⟨by unfold z4i;simp [h],by unfold z6w;simp [h]⟩
theorem k7j {x:Inp} (h:x.kind = 4) (s:Slc):z4i x = { z0e x with tree:=x.tree }∧z6w x s = { z1g with tree:=s.tree }:=⟨by unfold z4i;simp [h],by unfold z6w;simp [h]⟩
theorem k8j {x:Inp} (h:x.kind = 5) (s:Slc):z4i x = { z0e x with n:=x.n }∧z6w x s = z1g:=⟨by unfold z4i;simp [h],by unfold z6w;simp [h]⟩
theorem k9j {x:Inp} (h:x.kind = 6) (s:Slc):z4i x = { z0e x with chg:=x.chg }∧z6w x s = { z1g with modes:=s.modes }:=⟨by unfold z4i;simp [h],by unfold z6w;simp [h]⟩
theorem k0k {x:Inp} (h:x.kind = 7) (s:Slc):z4i x = { z0e x with rep:=x.rep }∧z6w x s = z1g:=⟨by unfold z4i;simp [h],by unfold z6w;simp [h]⟩
theorem k1k {x:Inp} (h:x.kind = 8) (s:Slc):z4i x = { z0e x with sts:=x.sts }∧z6w x s = z1g:=⟨by unfold z4i;simp [h],by unfold z6w;simp [h]⟩
theorem k2k {x:Inp} (h:x.kind = 9) (s:Slc):z4i x = { z0e x with n:=x.n }∧z6w x s = z1g:=⟨by unfold z4i;simp [h],by unfold z6w;simp [h]⟩
theorem k3k {x:Inp} (h:∀ j:Int,1 ≤ j→j ≤ 9→x.kind ≠ j) (s:Slc):z4i x = z0e x∧z6w x s = z1g:=⟨by unfold z4i;simp [h 1 (by omega) (by omega),h 2 (by omega) (by omega),h 3 (by omega) (by omega),h 4 (by omega) (by omega),h 5 (by omega) (by omega),h 6 (by omega) (by omega),h 7 (by omega) (by omega),h 8 (by omega) (by omega),h 9 (by omega) (by omega)],by unfold z6w;simp [h 2 (by omega) (by omega),h 3 (by omega) (by omega),h 4 (by omega) (by omega),h 6 (by omega) (by omega)]⟩
theorem k2x {x:Inp} {s:Slc} {w:World} (r:InpR w x s):InpR w (z4i x) (z6w x s):=by
 by_cases k1:x.kind = 1
 · obtain ⟨a,b⟩:=k4j k1 s;rw [a,b];exact ⟨z9f.nil _ _ _ _,z6j.nil _ _ _,z9f.nil _ _ _ _,z9f.nil _ _ _ _⟩
 by_cases k2:x.kind = 2
 · obtain ⟨a,b⟩:=k5j k2 s;rw [a,b];exact ⟨z9f.nil _ _ _ _,z6j.nil _ _ _,z9f.nil _ _ _ _,r.vols⟩
 by_cases k3:x.kind = 3
 · obtain ⟨a,b⟩:=k6j k3 s;rw [a,b];exact ⟨r.ways,z6j.nil _ _ _,z9f.nil _ _ _ _,z9f.nil _ _ _ _⟩
 by_cases k4:x.kind = 4
 · obtain ⟨a,b⟩:=k7j k4 s;rw [a,b];exact ⟨z9f.nil _ _ _ _,r.tree,z9f.nil _ _ _ _,z9f.nil _ _ _ _⟩
 by_cases k5:x.kind = 5
 · obtain ⟨a,b⟩:=k8j k5 s;rw [a,b];exact ⟨z9f.nil _ _ _ _,z6j.nil _ _ _,z9f.nil _ _ _ _,z9f.nil _ _ _ _⟩
 by_cases k6:x.kind = 6
 · obtain ⟨a,b⟩:=k9j k6 s;rw [a,b];exact ⟨z9f.nil _ _ _ _,z6j.nil _ _ _,r.modes,z9f.nil _ _ _ _⟩
 by_cases k7:x.kind = 7
 · obtain ⟨a,b⟩:=k0k k7 s;rw [a,b];exact ⟨z9f.nil _ _ _ _,z6j.nil _ _ _,z9f.nil _ _ _ _,z9f.nil _ _ _ _⟩
 by_cases k8:x.kind = 8
 · obtain ⟨a,b⟩:=k1k k8 s;rw [a,b];exact ⟨z9f.nil _ _ _ _,z6j.nil _ _ _,z9f.nil _ _ _ _,z9f.nil _ _ _ _⟩
 by_cases k9:x.kind = 9
 · obtain ⟨a,b⟩:=k2k k9 s;rw [a,b];exact ⟨z9f.nil _ _ _ _,z6j.nil _ _ _,z9f.nil _ _ _ _,z9f.nil _ _ _ _⟩
 obtain ⟨a,b⟩:=k3k (x:=x) (fun j h1 h2 h=>by omega) s;rw [a,b];exact ⟨z9f.nil _ _ _ _,z6j.nil _ _ _,z9f.nil _ _ _ _,z9f.nil _ _ _ _⟩
theorem j3n (x:Inp) (s:Slc) (w:World) (hx:InpR w x s):Calls Tryz.prog 45 #[x.v s] w (k7s x w):=by
 have HSO:Hid (∀ u ∈ (z0e x).cells z1g,u.oneCell' = true):=by
  have h:=z2u (z0e x) z1g none none none none 0 0 0 0 0 0 0 0 rfl rfl rfl rfl
  exact fun u hu=>Array.all_eq_true_iff_forall_mem.1 h u (by simpa using hu)
 have HSS:=hd_ (y4o hx)
 have hb0:Below w.heap.size w ((w.alloc (bI x s)).alloc ZI):=(z5b (w:=w) (bI x s)).alloc (z5b (w:=w) (bI x s)).size _
 have hcx:CB ((w.alloc (bI x s)).alloc ZI) w.heap.size 41 (x.cells s):=(z6a w (bI x s) _ _ rfl).alloc _
 have hc2:CB ((w.alloc (bI x s)).alloc ZI) (w.heap.size + 1) 41 ZIc:=by
  have:=z6a (w.alloc (bI x s)) ZI 41 ZIc rfl
  rwa [sA] at this
 have HI:=hd_ hcx;have HXR:=hd_ hx;have H2:=hd_ hc2;have HB:=hd_ hb0
 have c3:_ = some (Value.int .i64 x.kind):=hcx.cell 3
 clear hcx hc2 hx hb0
 change Calls Tryz.prog 45 #[.agg (x.cells s).toArray] w _
 go_enter Tryz.func45,Tryz.ntmps45
 go_upto_region 1 with fail
 change Code.wp _ _ _ _ ((w.alloc (bI x s)).alloc ZI)
 have HZ:Hid (((w.alloc (bI x s)).alloc ZI).heap.size = w.heap.size + 2):=by show _ = _;rw [sA,sA]
 generalize (w.alloc (bI x s)).alloc ZI = w1 at *
 have HR3:Hid (w1.rangeAt w.heap.size 0 (stC x)):=y0e HI.out
 have HRs:Hid (w1.rangeAt w.heap.size 30 [.int .i64 x.sr,.int .i64 x.ss]):=x3m HI.out
 have HBu:Hid (Tryz.prog.built 41 [(0,.agg (stC x).toArray),(1,.int .i64 x.kind),(10,.agg #[.int .i64 x.sr,.int .i64 x.ss])] = some ((z0e x).cells z1g).toArray):=hd_ (y8j x)
 have H5c:=hd_ (z6a w1 ZI 41 ZIc rfl)
 go_cut [3] (fun v3 wx=>∃ g3:Nat,v3 = .pointer (some ⟨g3,0,none⟩)∧CB wx g3 41 ((z0e x).cells z1g)∧CB wx w.heap.size 41 (x.cells s)∧CB wx (w.heap.size + 1) 41 ZIc∧Below w.heap.size w wx∧w.heap.size + 1 < g3)
 case first =>
  go_wp2_with (first
   | (have _g:=HR3.out;refine z7a (by rfl) 23 (.tmp 4) rfl w.heap.size 0 rfl (stC x) _ HR3.out Tryz.underlying23 rfl (by kernel_rfl) ?_;clear HR3)
   | (have _g:=HRs.out;refine z7a (by rfl) 39 (.tmp 8) rfl w.heap.size 30 rfl [.int .i64 x.sr,.int .i64 x.ss] _ HRs.out Tryz.underlying39 rfl (by kernel_rfl) ?_;clear HRs)
   | (have _g:=HBu.out;refine z7c (by rfl) 41 #[(0,.tmp 5),(1,.tmp 7),(10,.tmp 9)] rfl ((z0e x).cells z1g) [(0,.agg (stC x).toArray),(1,.int .i64 x.kind),(10,.agg #[.int .i64 x.sr,.int .i64 x.ss])] rfl HBu.out ?_;clear HBu)
   | (have _g:=HSO.out;refine z4a rfl 41 (.tmp 3) (.tmp 10) rfl w1.heap.size ((z0e x).cells z1g) rfl rfl 41 ZIc H5c.out (by rfl) (by kernel_rfl) HSO.out (fun w2 HC2 HW2 HZ2=>?_);clear HSO))
  have HI3:Hid (CB w2 w.heap.size 41 (x.cells s)):=(HI.out.alloc ZI).keep (HW2.out.block _ (by rw [sA];have:=HZ.out;omega) (fun e=>by injection e with e;have:=HZ.out;omega))
  have H23:Hid (CB w2 (w.heap.size + 1) 41 ZIc):=(H2.out.alloc ZI).keep (HW2.out.block _ (by rw [sA];have:=HZ.out;omega) (fun e=>by injection e with e;have:=HZ.out;omega))
  have HB3:Hid (Below w.heap.size w w2):=(z0a HB.out (z5b (w:=w1) ZI)).grown HW2.out (z0a HB.out (z5b (w:=w1) ZI)).size (fun k hk=>by injection hk with hk;have:=HZ.out;omega)
  go_meet
  case rel=>exact ⟨_,rfl,HC2.out,HI3.out,H23.out,HB3.out,by show _ < _;rw [HZ.out];omega⟩
 case rest =>
 obtain ⟨g3,rfl,hc2,hi3,h23,hb3,hg3⟩:=hcut
 have HC2:=hd_ hc2;have HI3:=hd_ hi3;have H23:=hd_ h23;have HB3:=hd_ hb3;have HG3:=hd_ hg3
 clear hc2 hi3 h23 hb3 hg3 HR3 HRs HBu H5c HSO HI H2 HB c3 HZ
 generalize wc = w2 at *
 have c3:_ = some (Value.int .i64 x.kind):=HI3.out.cell 3
 go_step
 go_step
 go_cut [] (fun wx=>CB wx g3 41 ((z4i x).cells (z6w x s))∧CB wx (w.heap.size + 1) 41 ZIc∧Below w.heap.size w wx)
 case first =>
  by_cases k1:x.kind = 1
  · obtain ⟨he,hs⟩:=k4j k1 s
    have HE:=hd_ (And.intro he hs);clear he hs
    have u1:decide (x.kind = 1) = true:=decide_eq_true k1;have v1:(x.kind == 1) = true:=beq_iff_eq.2 k1
    clear k1
    have c0:_ = some (Value.string x.text):=HI3.out.cell 4
    have d0:_ = some _:=HC2.out.cell 4
    have zf:=HC2.out.frozen 4
    go_wp2_with fail
    go_meet
    case rel=>exact ⟨by rw [HE.out.1,HE.out.2];exact HC2.out.set 4 _,H23.out.far (by show w.heap.size + 1 ≠ g3;have:=HG3.out;omega) _,HB3.out.grown (z8b w2 g3 4 _) HB3.out.size (fun k hk=>by injection hk with hk;have:=HG3.out;omega)⟩
  by_cases k2:x.kind = 2
  · obtain ⟨he,hs⟩:=k5j k2 s
    have HE:=hd_ (And.intro he hs);clear he hs
    have u1:decide (x.kind = 1) = false:=decide_eq_false k1;have v1:(x.kind == 1) = false:=beq_false_of_ne k1
    have u2:decide (x.kind = 2) = true:=decide_eq_true k2;have v2:(x.kind == 2) = true:=beq_iff_eq.2 k2
    clear k1 k2
    have HS1:Hid (∀ u ∈ x.stn.cells s.vols,u.oneCell' = true):=by
     obtain ⟨⟨oa,na,ca,ea⟩,-,⟨oc,nc,cc,ec⟩,⟨od,nd,cd,ed⟩⟩:=HSS.out
     intro u hu
     simp only [Stn.cells,List.mem_cons,nM,or_false] at hu
     rw [ed] at hu
     rcases hu with rfl | rfl | rfl <;> rfl
    have HR:Hid (w2.rangeAt w.heap.size 27 (x.stn.cells s.vols)):=fun j v hv=>by
     rw [HI3.out.cell];exact z2d (B:=x.stn.cells s.vols) 27 (by rfl) j v hv
    go_wp2_with (first
     | (have _g:=HR.out;refine z7a (by rfl) 37 (.tmp 20) rfl w.heap.size 27 rfl (x.stn.cells s.vols) _ HR.out Tryz.underlying37 rfl (by kernel_rfl) ?_;clear HR)
     | (have _g:=HS1.out;refine z0b rfl 37 (.tmp 22) (.tmp 21) rfl g3 27 (x.stn.cells s.vols) rfl rfl _ _ HC2.out (show 27 + 3 ≤ 32 by decide) (by kernel_rfl) HS1.out (fun w5 HC5 HW5=>?_);clear HS1))
    go_meet
    case rel=>exact ⟨by rw [HE.out.1,HE.out.2];exact HC5.out,H23.out.keep (HW5.out.block _ H23.out.lt (fun e=>by injection e with e;have:=HG3.out;omega)),HB3.out.grown HW5.out HB3.out.size (fun k hk=>by injection hk with hk;have:=HG3.out;omega)⟩
  by_cases k3:x.kind = 3
  · obtain ⟨he,hs⟩:=k6j k3 s
    have HE:=hd_ (And.intro he hs);clear he hs
    have u1:decide (x.kind = 1) = false:=decide_eq_false k1;have v1:(x.kind == 1) = false:=beq_false_of_ne k1
    have u2:decide (x.kind = 2) = false:=decide_eq_false k2;have v2:(x.kind == 2) = false:=beq_false_of_ne k2
    have u3:decide (x.kind = 3) = true:=decide_eq_true k3;have v3:(x.kind == 3) = true:=beq_iff_eq.2 k3
    clear k1 k2 k3
    have HS1:Hid (∀ u ∈ x.flt.cells s.ways,u.oneCell' = true):=by
     obtain ⟨⟨oa,na,ca,ea⟩,-,⟨oc,nc,cc,ec⟩,⟨od,nd,cd,ed⟩⟩:=HSS.out
     intro u hu
     simp only [Flt.cells,List.mem_cons,nM,or_false] at hu
     rw [ea] at hu
     rcases hu with rfl | rfl | rfl | rfl | rfl | rfl | rfl | rfl <;> rfl
    have HR:Hid (w2.rangeAt w.heap.size 5 (x.flt.cells s.ways)):=fun j v hv=>by
     rw [HI3.out.cell];exact z2d (B:=x.flt.cells s.ways) 5 (by rfl) j v hv
    go_wp2_with (first
     | (have _g:=HR.out;refine z7a (by rfl) 28 (.tmp 25) rfl w.heap.size 5 rfl (x.flt.cells s.ways) _ HR.out Tryz.underlying28 rfl (by kernel_rfl) ?_;clear HR)
     | (have _g:=HS1.out;refine z0b rfl 28 (.tmp 27) (.tmp 26) rfl g3 5 (x.flt.cells s.ways) rfl rfl _ _ HC2.out (show 5 + 8 ≤ 32 by decide) (by kernel_rfl) HS1.out (fun w5 HC5 HW5=>?_);clear HS1))
    go_meet
    case rel=>exact ⟨by rw [HE.out.1,HE.out.2];exact HC5.out,H23.out.keep (HW5.out.block _ H23.out.lt (fun e=>by injection e with e;have:=HG3.out;omega)),HB3.out.grown HW5.out HB3.out.size (fun k hk=>by injection hk with hk;have:=HG3.out;omega)⟩
  by_cases k4:x.kind = 4
  · obtain ⟨he,hs⟩:=k7j k4 s
    have HE:=hd_ (And.intro he hs);clear he hs
    have u1:decide (x.kind = 1) = false:=decide_eq_false k1;have v1:(x.kind == 1) = false:=beq_false_of_ne k1
    have u2:decide (x.kind = 2) = false:=decide_eq_false k2;have v2:(x.kind == 2) = false:=beq_false_of_ne k2
    have u3:decide (x.kind = 3) = false:=decide_eq_false k3;have v3:(x.kind == 3) = false:=beq_false_of_ne k3
    have u4:decide (x.kind = 4) = true:=decide_eq_true k4;have v4:(x.kind == 4) = true:=beq_iff_eq.2 k4
    clear k1 k2 k3 k4
    obtain ⟨ob,nb,cb,eb⟩:=HSS.out.tree
    have c0:_ = some (s.tree):=HI3.out.cell 13
    have d0:_ = some _:=HC2.out.cell 13
    have zf:=HC2.out.frozen 13
    rw [eb] at c0
    go_wp2_with fail
    go_meet
    case rel=>exact ⟨by rw [HE.out.1,HE.out.2];rw [← eb];exact HC2.out.set 13 _,H23.out.far (by show w.heap.size + 1 ≠ g3;have:=HG3.out;omega) _,HB3.out.grown (z8b w2 g3 13 _) HB3.out.size (fun k hk=>by injection hk with hk;have:=HG3.out;omega)⟩
  by_cases k5:x.kind = 5
  · obtain ⟨he,hs⟩:=k8j k5 s
    have HE:=hd_ (And.intro he hs);clear he hs
    have u1:decide (x.kind = 1) = false:=decide_eq_false k1;have v1:(x.kind == 1) = false:=beq_false_of_ne k1
    have u2:decide (x.kind = 2) = false:=decide_eq_false k2;have v2:(x.kind == 2) = false:=beq_false_of_ne k2
    have u3:decide (x.kind = 3) = false:=decide_eq_false k3;have v3:(x.kind == 3) = false:=beq_false_of_ne k3
    have u4:decide (x.kind = 4) = false:=decide_eq_false k4;have v4:(x.kind == 4) = false:=beq_false_of_ne k4
    have u5:decide (x.kind = 5) = true:=decide_eq_true k5;have v5:(x.kind == 5) = true:=beq_iff_eq.2 k5
    clear k1 k2 k3 k4 k5
    have c0:_ = some (Value.int .i64 x.n):=HI3.out.cell 26
    have d0:_ = some _:=HC2.out.cell 26
    have zf:=HC2.out.frozen 26
    go_wp2_with fail
    go_meet
    case rel=>exact ⟨by rw [HE.out.1,HE.out.2];exact HC2.out.set 26 _,H23.out.far (by show w.heap.size + 1 ≠ g3;have:=HG3.out;omega) _,HB3.out.grown (z8b w2 g3 26 _) HB3.out.size (fun k hk=>by injection hk with hk;have:=HG3.out;omega)⟩
  by_cases k6:x.kind = 6
  · obtain ⟨he,hs⟩:=k9j k6 s
    have HE:=hd_ (And.intro he hs);clear he hs
    have u1:decide (x.kind = 1) = false:=decide_eq_false k1;have v1:(x.kind == 1) = false:=beq_false_of_ne k1
    have u2:decide (x.kind = 2) = false:=decide_eq_false k2;have v2:(x.kind == 2) = false:=beq_false_of_ne k2
    have u3:decide (x.kind = 3) = false:=decide_eq_false k3;have v3:(x.kind == 3) = false:=beq_false_of_ne k3
    have u4:decide (x.kind = 4) = false:=decide_eq_false k4;have v4:(x.kind == 4) = false:=beq_false_of_ne k4
    have u5:decide (x.kind = 5) = false:=decide_eq_false k5;have v5:(x.kind == 5) = false:=beq_false_of_ne k5
    have u6:decide (x.kind = 6) = true:=decide_eq_true k6;have v6:(x.kind == 6) = true:=beq_iff_eq.2 k6
    clear k1 k2 k3 k4 k5 k6
    have HS1:Hid (∀ u ∈ x.chg.cells s.modes,u.oneCell' = true):=by
     obtain ⟨⟨oa,na,ca,ea⟩,-,⟨oc,nc,cc,ec⟩,⟨od,nd,cd,ed⟩⟩:=HSS.out
     intro u hu
     simp only [Chg.cells,List.mem_cons,nM,or_false] at hu
     rw [ec] at hu
     rcases hu with rfl | rfl | rfl <;> rfl
    have HR:Hid (w2.rangeAt w.heap.size 14 (x.chg.cells s.modes)):=fun j v hv=>by
     rw [HI3.out.cell];exact z2d (B:=x.chg.cells s.modes) 14 (by rfl) j v hv
    go_wp2_with (first
     | (have _g:=HR.out;refine z7a (by rfl) 31 (.tmp 41) rfl w.heap.size 14 rfl (x.chg.cells s.modes) _ HR.out Tryz.underlying31 rfl (by kernel_rfl) ?_;clear HR)
     | (have _g:=HS1.out;refine z0b rfl 31 (.tmp 43) (.tmp 42) rfl g3 14 (x.chg.cells s.modes) rfl rfl _ _ HC2.out (show 14 + 3 ≤ 32 by decide) (by kernel_rfl) HS1.out (fun w5 HC5 HW5=>?_);clear HS1))
    go_meet
    case rel=>exact ⟨by rw [HE.out.1,HE.out.2];exact HC5.out,H23.out.keep (HW5.out.block _ H23.out.lt (fun e=>by injection e with e;have:=HG3.out;omega)),HB3.out.grown HW5.out HB3.out.size (fun k hk=>by injection hk with hk;have:=HG3.out;omega)⟩
  by_cases k7:x.kind = 7
  · obtain ⟨he,hs⟩:=k0k k7 s
    have HE:=hd_ (And.intro he hs);clear he hs
    have u1:decide (x.kind = 1) = false:=decide_eq_false k1;have v1:(x.kind == 1) = false:=beq_false_of_ne k1
    have u2:decide (x.kind = 2) = false:=decide_eq_false k2;have v2:(x.kind == 2) = false:=beq_false_of_ne k2
    have u3:decide (x.kind = 3) = false:=decide_eq_false k3;have v3:(x.kind == 3) = false:=beq_false_of_ne k3
    have u4:decide (x.kind = 4) = false:=decide_eq_false k4;have v4:(x.kind == 4) = false:=beq_false_of_ne k4
    have u5:decide (x.kind = 5) = false:=decide_eq_false k5;have v5:(x.kind == 5) = false:=beq_false_of_ne k5
    have u6:decide (x.kind = 6) = false:=decide_eq_false k6;have v6:(x.kind == 6) = false:=beq_false_of_ne k6
    have u7:decide (x.kind = 7) = true:=decide_eq_true k7;have v7:(x.kind == 7) = true:=beq_iff_eq.2 k7
    clear k1 k2 k3 k4 k5 k6 k7
    have HS1:Hid (∀ u ∈ x.rep.cells,u.oneCell' = true):=by
     obtain ⟨⟨oa,na,ca,ea⟩,-,⟨oc,nc,cc,ec⟩,⟨od,nd,cd,ed⟩⟩:=HSS.out
     intro u hu
     simp only [Rp.cells,List.mem_cons,nM,or_false] at hu
     rcases hu with rfl | rfl | rfl | rfl | rfl | rfl <;> rfl
    have HR:Hid (w2.rangeAt w.heap.size 17 (x.rep.cells)):=fun j v hv=>by
     rw [HI3.out.cell];exact z2d (B:=x.rep.cells) 17 (by rfl) j v hv
    go_wp2_with (first
     | (have _g:=HR.out;refine z7a (by rfl) 33 (.tmp 46) rfl w.heap.size 17 rfl (x.rep.cells) _ HR.out Tryz.underlying33 rfl (by kernel_rfl) ?_;clear HR)
     | (have _g:=HS1.out;refine z0b rfl 33 (.tmp 48) (.tmp 47) rfl g3 17 (x.rep.cells) rfl rfl _ _ HC2.out (show 17 + 6 ≤ 32 by decide) (by kernel_rfl) HS1.out (fun w5 HC5 HW5=>?_);clear HS1))
    go_meet
    case rel=>exact ⟨by rw [HE.out.1,HE.out.2];exact HC5.out,H23.out.keep (HW5.out.block _ H23.out.lt (fun e=>by injection e with e;have:=HG3.out;omega)),HB3.out.grown HW5.out HB3.out.size (fun k hk=>by injection hk with hk;have:=HG3.out;omega)⟩
  by_cases k8:x.kind = 8
  · obtain ⟨he,hs⟩:=k1k k8 s
    have HE:=hd_ (And.intro he hs);clear he hs
    have u1:decide (x.kind = 1) = false:=decide_eq_false k1;have v1:(x.kind == 1) = false:=beq_false_of_ne k1
    have u2:decide (x.kind = 2) = false:=decide_eq_false k2;have v2:(x.kind == 2) = false:=beq_false_of_ne k2
    have u3:decide (x.kind = 3) = false:=decide_eq_false k3;have v3:(x.kind == 3) = false:=beq_false_of_ne k3
    have u4:decide (x.kind = 4) = false:=decide_eq_false k4;have v4:(x.kind == 4) = false:=beq_false_of_ne k4
    have u5:decide (x.kind = 5) = false:=decide_eq_false k5;have v5:(x.kind == 5) = false:=beq_false_of_ne k5
    have u6:decide (x.kind = 6) = false:=decide_eq_false k6;have v6:(x.kind == 6) = false:=beq_false_of_ne k6
    have u7:decide (x.kind = 7) = false:=decide_eq_false k7;have v7:(x.kind == 7) = false:=beq_false_of_ne k7
    have u8:decide (x.kind = 8) = true:=decide_eq_true k8;have v8:(x.kind == 8) = true:=beq_iff_eq.2 k8
    clear k1 k2 k3 k4 k5 k6 k7 k8
    have HS1:Hid (∀ u ∈ x.sts.cells,u.oneCell' = true):=by
     obtain ⟨⟨oa,na,ca,ea⟩,-,⟨oc,nc,cc,ec⟩,⟨od,nd,cd,ed⟩⟩:=HSS.out
     intro u hu
     simp only [Sts.cells,List.mem_cons,nM,or_false] at hu
     rcases hu with rfl | rfl | rfl <;> rfl
    have HR:Hid (w2.rangeAt w.heap.size 23 (x.sts.cells)):=fun j v hv=>by
     rw [HI3.out.cell];exact z2d (B:=x.sts.cells) 23 (by rfl) j v hv
    go_wp2_with (first
     | (have _g:=HR.out;refine z7a (by rfl) 35 (.tmp 51) rfl w.heap.size 23 rfl (x.sts.cells) _ HR.out Tryz.underlying35 rfl (by kernel_rfl) ?_;clear HR)
     | (have _g:=HS1.out;refine z0b rfl 35 (.tmp 53) (.tmp 52) rfl g3 23 (x.sts.cells) rfl rfl _ _ HC2.out (show 23 + 3 ≤ 32 by decide) (by kernel_rfl) HS1.out (fun w5 HC5 HW5=>?_);clear HS1))
    go_meet
    case rel=>exact ⟨by rw [HE.out.1,HE.out.2];exact HC5.out,H23.out.keep (HW5.out.block _ H23.out.lt (fun e=>by injection e with e;have:=HG3.out;omega)),HB3.out.grown HW5.out HB3.out.size (fun k hk=>by injection hk with hk;have:=HG3.out;omega)⟩
  by_cases k9:x.kind = 9
  · obtain ⟨he,hs⟩:=k2k k9 s
    have HE:=hd_ (And.intro he hs);clear he hs
    have u1:decide (x.kind = 1) = false:=decide_eq_false k1;have v1:(x.kind == 1) = false:=beq_false_of_ne k1
    have u2:decide (x.kind = 2) = false:=decide_eq_false k2;have v2:(x.kind == 2) = false:=beq_false_of_ne k2
    have u3:decide (x.kind = 3) = false:=decide_eq_false k3;have v3:(x.kind == 3) = false:=beq_false_of_ne k3
    have u4:decide (x.kind = 4) = false:=decide_eq_false k4;have v4:(x.kind == 4) = false:=beq_false_of_ne k4
    have u5:decide (x.kind = 5) = false:=decide_eq_false k5;have v5:(x.kind == 5) = false:=beq_false_of_ne k5
    have u6:decide (x.kind = 6) = false:=decide_eq_false k6;have v6:(x.kind == 6) = false:=beq_false_of_ne k6
    have u7:decide (x.kind = 7) = false:=decide_eq_false k7;have v7:(x.kind == 7) = false:=beq_false_of_ne k7
    have u8:decide (x.kind = 8) = false:=decide_eq_false k8;have v8:(x.kind == 8) = false:=beq_false_of_ne k8
    have u9:decide (x.kind = 9) = true:=decide_eq_true k9;have v9:(x.kind == 9) = true:=beq_iff_eq.2 k9
    clear k1 k2 k3 k4 k5 k6 k7 k8 k9
    have c0:_ = some (Value.int .i64 x.n):=HI3.out.cell 26
    have d0:_ = some _:=HC2.out.cell 26
    have zf:=HC2.out.frozen 26
    go_wp2_with fail
    go_meet
    case rel=>exact ⟨by rw [HE.out.1,HE.out.2];exact HC2.out.set 26 _,H23.out.far (by show w.heap.size + 1 ≠ g3;have:=HG3.out;omega) _,HB3.out.grown (z8b w2 g3 26 _) HB3.out.size (fun k hk=>by injection hk with hk;have:=HG3.out;omega)⟩
  obtain ⟨he,hs⟩:=k3k (x:=x) (fun j h1 h2 h=>by omega) s
  have HE:=hd_ (And.intro he hs);clear he hs
  have u1:decide (x.kind = 1) = false:=decide_eq_false k1;have v1:(x.kind == 1) = false:=beq_false_of_ne k1
  have u2:decide (x.kind = 2) = false:=decide_eq_false k2;have v2:(x.kind == 2) = false:=beq_false_of_ne k2
  have u3:decide (x.kind = 3) = false:=decide_eq_false k3;have v3:(x.kind == 3) = false:=beq_false_of_ne k3
  have u4:decide (x.kind = 4) = false:=decide_eq_false k4;have v4:(x.kind == 4) = false:=beq_false_of_ne k4
  have u5:decide (x.kind = 5) = false:=decide_eq_false k5;have v5:(x.kind == 5) = false:=beq_false_of_ne k5
  have u6:decide (x.kind = 6) = false:=decide_eq_false k6;have v6:(x.kind == 6) = false:=beq_false_of_ne k6
  have u7:decide (x.kind = 7) = false:=decide_eq_false k7;have v7:(x.kind == 7) = false:=beq_false_of_ne k7
  have u8:decide (x.kind = 8) = false:=decide_eq_false k8;have v8:(x.kind == 8) = false:=beq_false_of_ne k8
  have u9:decide (x.kind = 9) = false:=decide_eq_false k9;have v9:(x.kind == 9) = false:=beq_false_of_ne k9
  clear k1 k2 k3 k4 k5 k6 k7 k8 k9
  go_wp2_with fail
  go_meet
  case rel=>exact ⟨by rw [HE.out.1,HE.out.2];exact HC2.out,H23.out,HB3.out⟩
 case rest =>
 obtain ⟨h5,h2,hb⟩:=hcut
 have HC5:=hd_ h5;have H25:=hd_ h2;have HB5:=hd_ hb
 clear h5 h2 hb HC2 HI3 HB3 H23 c3
 generalize wc = w5 at *
 have HSO5:Hid (∀ u ∈ (z4i x).cells (z6w x s),u.oneCell' = true):=by
  obtain ⟨⟨oa,na,ca,ea⟩,⟨ob,nb,cb,eb⟩,⟨oc,nc,cc,ec⟩,⟨od,nd,cd,ed⟩⟩:=k3j (x:=x) HSS.out
  exact fun u hu=>Array.all_eq_true_iff_forall_mem.1 (z2u (z4i x) (z6w x s) _ _ _ _ _ _ _ _ _ _ _ _ ea eb ec ed) u (by simpa using hu)
 go_wp2_with (first
  | (have _g:=HC5.out;refine z3a (by rfl) 41 (.tmp 3) rfl g3 _ rfl 41 _ HC5.out Tryz.underlying41 rfl (by kernel_rfl) ?_;clear HC5)
  | (have _g:=HSO5.out;refine z4a rfl 41 (.tmp 2) (.tmp 54) rfl (w.heap.size + 1) _ rfl rfl 41 ZIc H25.out (by rfl) (by kernel_rfl) HSO5.out (fun w6 HC6 HW6 HZ6=>?_);clear HSO5))
 refine bodyPost_ret (v:=.agg ((z4i x).cells (z6w x s)).toArray) (results_cell_row rfl _ _ (w.heap.size + 1) 41 _ (0,0) _ rfl HC6.out Tryz.underlying41 rfl (by kernel_rfl)) rfl ?_
 have hbe:Below w.heap.size w w6:=HB5.out.grown HW6.out HB5.out.size (fun k hk=>by injection hk with hk;omega)
 exact ⟨z6w x s,rfl,k2x (HXR.out.ext hbe),hbe⟩
def FdP (x:Inp) (w:World) (e:Ending) (w':World):Prop:=e = .returned (.bool (inB x.kind 1 10 && z6q x))∧Below w.heap.size w w'
theorem x8f (x:Inp) (s:Slc) (w:World) (_hx:InpR w x s) (hk:∀ j:Int,1 ≤ j→j ≤ 10→x.kind ≠ j):Calls Tryz.prog 46 #[x.v s] w (FdP x w):=by
 have HV:Hid ((inB x.kind 1 10 && z6q x) = false):=hd_ (by
  have:inB x.kind 1 10 = false:=by
   rcases (by have:=hk 1 (by omega) (by omega);have:=hk 2 (by omega) (by omega);have:=hk 3 (by omega) (by omega);have:=hk 4 (by omega) (by omega);have:=hk 5 (by omega) (by omega);have:=hk 6 (by omega) (by omega);have:=hk 7 (by omega) (by omega);have:=hk 8 (by omega) (by omega);have:=hk 9 (by omega) (by omega);have:=hk 10 (by omega) (by omega);omega:x.kind < 1∨10 < x.kind) with h | h
   · exact z1s (.inl h)
   · exact z1s (.inr h)
  rw [this];rfl)
 have hb:=z5b (w:=w) (bI x s)
 have hc:=z6a w (bI x s) 41 (x.cells s) rfl
 have c3:_ = some (Value.int .i64 x.kind):=hc.cell 3
 have u1:decide (x.kind = 1) = false:=decide_eq_false (hk 1 (by omega) (by omega))
 have v1:(x.kind == 1) = false:=beq_false_of_ne (hk 1 (by omega) (by omega))
 have u2:decide (x.kind = 2) = false:=decide_eq_false (hk 2 (by omega) (by omega))
 have v2:(x.kind == 2) = false:=beq_false_of_ne (hk 2 (by omega) (by omega))
 have u3:decide (x.kind = 3) = false:=decide_eq_false (hk 3 (by omega) (by omega))
 have v3:(x.kind == 3) = false:=beq_false_of_ne (hk 3 (by omega) (by omega))
 have u4:decide (x.kind = 4) = false:=decide_eq_false (hk 4 (by omega) (by omega))
 have v4:(x.kind == 4) = false:=beq_false_of_ne (hk 4 (by omega) (by omega))
 have u5:decide (x.kind = 5) = false:=decide_eq_false (hk 5 (by omega) (by omega))
 have v5:(x.kind == 5) = false:=beq_false_of_ne (hk 5 (by omega) (by omega))
 have u6:decide (x.kind = 6) = false:=decide_eq_false (hk 6 (by omega) (by omega))
 have v6:(x.kind == 6) = false:=beq_false_of_ne (hk 6 (by omega) (by omega))
 have u7:decide (x.kind = 7) = false:=decide_eq_false (hk 7 (by omega) (by omega))
 have v7:(x.kind == 7) = false:=beq_false_of_ne (hk 7 (by omega) (by omega))
 have u8:decide (x.kind = 8) = false:=decide_eq_false (hk 8 (by omega) (by omega))
 have v8:(x.kind == 8) = false:=beq_false_of_ne (hk 8 (by omega) (by omega))
 have u9:decide (x.kind = 9) = false:=decide_eq_false (hk 9 (by omega) (by omega))
 have v9:(x.kind == 9) = false:=beq_false_of_ne (hk 9 (by omega) (by omega))
 have u10:decide (x.kind = 10) = false:=decide_eq_false (hk 10 (by omega) (by omega))
 have v10:(x.kind == 10) = false:=beq_false_of_ne (hk 10 (by omega) (by omega))
 have HB0:=hd_ hb
 clear hc hb _hx hk
 change Calls Tryz.prog 46 #[.agg (x.cells s).toArray] w _
 go_enter Tryz.func46,Tryz.ntmps46
 go_upto_region 1 with fail
 change Code.wp _ _ _ _ (w.alloc (bI x s))
 generalize w.alloc (bI x s) = w0 at *
 go_wp2_with fail
 go_ret
 exact ⟨by rw [HV.out];first | rfl | simp [u10],HB0.out⟩
theorem x9f (x:Inp) (s:Slc) (w:World) (_hx:InpR w x s) (hk:x.kind = 1) (_hz:x.text.size ≤ 9223372036854775807):Calls Tryz.prog 46 #[x.v s] w (FdP x w):=by
 have HV:Hid ((inB x.kind 1 10 && z6q x) = (decide (x.text.size ≤ 65536))):=hd_ (by rw [hk,show inB (1:Int) 1 10 = true from rfl];unfold z6q;simp [hk])
 have hb:=z5b (w:=w) (bI x s)
 have hc:=z6a w (bI x s) 41 (x.cells s) rfl
 have c3:_ = some (Value.int .i64 x.kind):=hc.cell 3
 rw [hk] at c3
 have c0:_ = some (Value.string x.text):=hc.cell 4
 obtain ⟨b,hvb⟩:∃ b,(decide (x.text.size ≤ 65536)) = b:=⟨_,rfl⟩
 have u1:decide ((x.text.size:Int) ≤ 65536) = b:=by rw [← hvb];by_cases h:x.text.size ≤ 65536 <;> simp [h] <;> omega
 have l1:(x.text.size:Int) ≤ 9223372036854775807:=by omega
 rw [hvb] at HV
 have HB0:=hd_ hb
 clear hc hvb hb _hx hk _hz
 change Calls Tryz.prog 46 #[.agg (x.cells s).toArray] w _
 go_enter Tryz.func46,Tryz.ntmps46
 go_upto_region 1 with fail
 change Code.wp _ _ _ _ (w.alloc (bI x s))
 generalize w.alloc (bI x s) = w0 at *
 cases b <;> (
  go_wp2_with fail
  go_ret
  exact ⟨by rw [HV.out];first | rfl | simp [u1],HB0.out⟩)
theorem x0g (x:Inp) (s:Slc) (w:World) (hx:InpR w x s) (hk:x.kind = 2) :Calls Tryz.prog 46 #[x.v s] w (FdP x w):=by
 have HV:Hid ((inB x.kind 1 10 && z6q x) = (x4k 64 x.stn.vols x.stn.sh x.stn.fa)):=hd_ (by rw [hk,show inB (2:Int) 1 10 = true from rfl];unfold z6q;simp [hk])
 have hb:=z5b (w:=w) (bI x s)
 have hc:=z6a w (bI x s) 41 (x.cells s) rfl
 have c3:_ = some (Value.int .i64 x.kind):=hc.cell 3
 rw [hk] at c3
 have HR:Hid ((w.alloc (bI x s)).rangeAt w.heap.size 27 (x.stn.cells s.vols)):=fun j v hv=>by
  rw [hc.cell]
  exact z2d (B:=x.stn.cells s.vols) 27 (by rfl) j v hv
 have HC:=hd_ (y8t 64 63 x.stn.sh x.stn.fa x.stn.vols s.vols (w.alloc (bI x s)) (by decide) (j1d (hx.vols.ext hb)))
 unfold j7r at HC
 obtain ⟨b,hvb⟩:∃ b,(x4k 64 x.stn.vols x.stn.sh x.stn.fa) = b:=⟨_,rfl⟩
 rw [hvb] at HC HV
 have HB0:=hd_ hb
 clear hc hvb hb hx hk
 change Calls Tryz.prog 46 #[.agg (x.cells s).toArray] w _
 go_enter Tryz.func46,Tryz.ntmps46
 go_upto_region 1 with fail
 change Code.wp _ _ _ _ (w.alloc (bI x s))
 generalize w.alloc (bI x s) = w0 at *
 cases b <;> (
  go_wp2_with (first
   | (have _g:=HR.out;refine z7a (by rfl) 37 (.tmp 13) rfl w.heap.size 27 rfl (x.stn.cells s.vols) _ HR.out Tryz.underlying37 rfl (by kernel_rfl) ?_;clear HR)
   | (go_at_call 105;refine HC.out.mono ?_;go_loud (rintro e w2 ⟨rfl,hb⟩;have HB2:=hd_ (z0a HB0.out hb);clear hb HC)))
  go_ret
  exact ⟨by rw [HV.out];rfl,HB2.out⟩)
theorem x1g (x:Inp) (s:Slc) (w:World) (hx:InpR w x s) (hk:x.kind = 3) (hz:x.flt.call.size ≤ 9223372036854775807):Calls Tryz.prog 46 #[x.v s] w (FdP x w):=by
 have HV:Hid ((inB x.kind 1 10 && z6q x) = (y2w x.flt)):=hd_ (by rw [hk,show inB (3:Int) 1 10 = true from rfl];unfold z6q;simp [hk])
 have hb:=z5b (w:=w) (bI x s)
 have hc:=z6a w (bI x s) 41 (x.cells s) rfl
 have c3:_ = some (Value.int .i64 x.kind):=hc.cell 3
 rw [hk] at c3
 have HR:Hid ((w.alloc (bI x s)).rangeAt w.heap.size 5 (x.flt.cells s.ways)):=fun j v hv=>by
  rw [hc.cell]
  exact z2d (B:=x.flt.cells s.ways) 5 (by rfl) j v hv
 have HC:=hd_ (x7e x.flt s.ways (w.alloc (bI x s)) (hx.ways.ext hb) hz)
 skip
 obtain ⟨b,hvb⟩:∃ b,(y2w x.flt) = b:=⟨_,rfl⟩
 rw [hvb] at HC HV
 have HB0:=hd_ hb
 clear hc hvb hb hx hk
 change Calls Tryz.prog 46 #[.agg (x.cells s).toArray] w _
 go_enter Tryz.func46,Tryz.ntmps46
 go_upto_region 1 with fail
 change Code.wp _ _ _ _ (w.alloc (bI x s))
 generalize w.alloc (bI x s) = w0 at *
 cases b <;> (
  go_wp2_with (first
   | (have _g:=HR.out;refine z7a (by rfl) 28 (.tmp 19) rfl w.heap.size 5 rfl (x.flt.cells s.ways) _ HR.out Tryz.underlying28 rfl (by kernel_rfl) ?_;clear HR)
   | (go_at_call 106;refine HC.out.mono ?_;go_loud (rintro e w2 ⟨rfl,hb⟩;have HB2:=hd_ (z0a HB0.out hb);clear hb HC)))
  go_ret
  exact ⟨by rw [HV.out];rfl,HB2.out⟩)
theorem x2g (x:Inp) (s:Slc) (w:World) (hx:InpR w x s) (hk:x.kind = 4) :Calls Tryz.prog 46 #[x.v s] w (FdP x w):=by
 have HV:Hid ((inB x.kind 1 10 && z6q x) = (z5n x.tree)):=hd_ (by rw [hk,show inB (4:Int) 1 10 = true from rfl];unfold z6q;simp [hk])
 have hb:=z5b (w:=w) (bI x s)
 have hc:=z6a w (bI x s) 41 (x.cells s) rfl
 have c3:_ = some (Value.int .i64 x.kind):=hc.cell 3
 rw [hk] at c3
 have HX:=hd_ (hx.tree.ext hb)
 have c0:_ = some s.tree:=hc.cell 13
 have HC:=hd_ (x0f x.tree s.tree _ (hx.tree.ext hb))
 obtain ⟨b,hvb⟩:∃ b,(z5n x.tree) = b:=⟨_,rfl⟩
 rw [hvb] at HC HV
 obtain ⟨oa,cap,he,la⟩:=HX.out.shape
 rw [he] at c0 HC
 have HB0:=hd_ hb
 clear hc hvb hb hx hk he la HX
 change Calls Tryz.prog 46 #[.agg (x.cells s).toArray] w _
 go_enter Tryz.func46,Tryz.ntmps46
 go_upto_region 1 with fail
 change Code.wp _ _ _ _ (w.alloc (bI x s))
 generalize w.alloc (bI x s) = w0 at *
 cases b <;> (
  go_wp2_with (go_at_call 107;refine HC.out.mono ?_;go_loud (rintro e w2 ⟨rfl,hb⟩;have HB2:=hd_ (z0a HB0.out hb);clear hb HC))
  go_ret
  exact ⟨by rw [HV.out];rfl,HB2.out⟩)
theorem x3g (x:Inp) (s:Slc) (w:World) (_hx:InpR w x s) (hk:x.kind = 5) :Calls Tryz.prog 46 #[x.v s] w (FdP x w):=by
 have HV:Hid ((inB x.kind 1 10 && z6q x) = (inB x.n 0 31)):=hd_ (by rw [hk,show inB (5:Int) 1 10 = true from rfl];unfold z6q;simp [hk])
 have hb:=z5b (w:=w) (bI x s)
 have hc:=z6a w (bI x s) 41 (x.cells s) rfl
 have c3:_ = some (Value.int .i64 x.kind):=hc.cell 3
 rw [hk] at c3
 have c0:_ = some (Value.int .i64 x.n):=hc.cell 26
 have HC:=hd_ (z9d x.n 0 31 (w.alloc (bI x s)))
 obtain ⟨b,hvb⟩:∃ b,(inB x.n 0 31) = b:=⟨_,rfl⟩
 rw [hvb] at HC HV
 have HB0:=hd_ hb
 clear hc hvb hb _hx hk
 change Calls Tryz.prog 46 #[.agg (x.cells s).toArray] w _
 go_enter Tryz.func46,Tryz.ntmps46
 go_upto_region 1 with fail
 change Code.wp _ _ _ _ (w.alloc (bI x s))
 generalize w.alloc (bI x s) = w0 at *
 cases b <;> (
  go_wp2_with (go_at_call 44;refine HC.out.mono ?_;go_loud (rintro e w2 ⟨rfl,rfl⟩;clear HC))
  go_ret
  exact ⟨by rw [HV.out];rfl,HB0.out⟩)
theorem x4g (x:Inp) (s:Slc) (w:World) (hx:InpR w x s) (hk:x.kind = 6) :Calls Tryz.prog 46 #[x.v s] w (FdP x w):=by
 have HV:Hid ((inB x.kind 1 10 && z6q x) = (x0m x.chg)):=hd_ (by rw [hk,show inB (6:Int) 1 10 = true from rfl];unfold z6q;simp [hk])
 have hb:=z5b (w:=w) (bI x s)
 have hc:=z6a w (bI x s) 41 (x.cells s) rfl
 have c3:_ = some (Value.int .i64 x.kind):=hc.cell 3
 rw [hk] at c3
 have HR:Hid ((w.alloc (bI x s)).rangeAt w.heap.size 14 (x.chg.cells s.modes)):=fun j v hv=>by
  rw [hc.cell]
  exact z2d (B:=x.chg.cells s.modes) 14 (by rfl) j v hv
 have HC:=hd_ (x6e x.chg s.modes (w.alloc (bI x s)) (hx.modes.ext hb))
 skip
 obtain ⟨b,hvb⟩:∃ b,(x0m x.chg) = b:=⟨_,rfl⟩
 rw [hvb] at HC HV
 have HB0:=hd_ hb
 clear hc hvb hb hx hk
 change Calls Tryz.prog 46 #[.agg (x.cells s).toArray] w _
 go_enter Tryz.func46,Tryz.ntmps46
 go_upto_region 1 with fail
 change Code.wp _ _ _ _ (w.alloc (bI x s))
 generalize w.alloc (bI x s) = w0 at *
 cases b <;> (
  go_wp2_with (first
   | (have _g:=HR.out;refine z7a (by rfl) 31 (.tmp 35) rfl w.heap.size 14 rfl (x.chg.cells s.modes) _ HR.out Tryz.underlying31 rfl (by kernel_rfl) ?_;clear HR)
   | (go_at_call 108;refine HC.out.mono ?_;go_loud (rintro e w2 ⟨rfl,hb⟩;have HB2:=hd_ (z0a HB0.out hb);clear hb HC)))
  go_ret
  exact ⟨by rw [HV.out];rfl,HB2.out⟩)
theorem x5g (x:Inp) (s:Slc) (w:World) (_hx:InpR w x s) (hk:x.kind = 7) (hz:x.rep.cl.size ≤ 9223372036854775807):Calls Tryz.prog 46 #[x.v s] w (FdP x w):=by
 have HV:Hid ((inB x.kind 1 10 && z6q x) = (x0y 4 3 x.rep)):=hd_ (by rw [hk,show inB (7:Int) 1 10 = true from rfl];unfold z6q;simp [hk])
 have hb:=z5b (w:=w) (bI x s)
 have hc:=z6a w (bI x s) 41 (x.cells s) rfl
 have c3:_ = some (Value.int .i64 x.kind):=hc.cell 3
 rw [hk] at c3
 have HR:Hid ((w.alloc (bI x s)).rangeAt w.heap.size 17 (x.rep.cells)):=fun j v hv=>by
  rw [hc.cell]
  exact z2d (B:=x.rep.cells) 17 (by rfl) j v hv
 have HC:=hd_ (y5t 4 3 x.rep (w.alloc (bI x s)) (by decide) hz)
 unfold j7r at HC
 obtain ⟨b,hvb⟩:∃ b,(x0y 4 3 x.rep) = b:=⟨_,rfl⟩
 rw [hvb] at HC HV
 have HB0:=hd_ hb
 clear hc hvb hb _hx hk
 change Calls Tryz.prog 46 #[.agg (x.cells s).toArray] w _
 go_enter Tryz.func46,Tryz.ntmps46
 go_upto_region 1 with fail
 change Code.wp _ _ _ _ (w.alloc (bI x s))
 generalize w.alloc (bI x s) = w0 at *
 cases b <;> (
  go_wp2_with (first
   | (have _g:=HR.out;refine z7a (by rfl) 33 (.tmp 40) rfl w.heap.size 17 rfl (x.rep.cells) _ HR.out Tryz.underlying33 rfl (by kernel_rfl) ?_;clear HR)
   | (go_at_call 109;refine HC.out.mono ?_;go_loud (rintro e w2 ⟨rfl,hb⟩;have HB2:=hd_ (z0a HB0.out hb);clear hb HC)))
  go_ret
  exact ⟨by rw [HV.out];rfl,HB2.out⟩)
theorem x6g (x:Inp) (s:Slc) (w:World) (_hx:InpR w x s) (hk:x.kind = 8) :Calls Tryz.prog 46 #[x.v s] w (FdP x w):=by
 have HV:Hid ((inB x.kind 1 10 && z6q x) = (inB x.sts.st 0 3 && inB x.sts.frm 0 1439)):=hd_ (by rw [hk,show inB (8:Int) 1 10 = true from rfl];unfold z6q;simp [hk])
 have hb:=z5b (w:=w) (bI x s)
 have hc:=z6a w (bI x s) 41 (x.cells s) rfl
 have c3:_ = some (Value.int .i64 x.kind):=hc.cell 3
 rw [hk] at c3
 have c0:_ = some (Value.int .i64 x.sts.st):=hc.cell 23
 have c1:_ = some (Value.int .i64 x.sts.frm):=hc.cell 24
 have H1:=hd_ (fun W=>z9d x.sts.st 0 3 W);have H2:=hd_ (fun W=>z9d x.sts.frm 0 1439 W)
 obtain ⟨b1,h1⟩:∃ b,inB x.sts.st 0 3 = b:=⟨_,rfl⟩
 obtain ⟨b2,h2⟩:∃ b,inB x.sts.frm 0 1439 = b:=⟨_,rfl⟩
 rw [h1] at H1 HV;rw [h2] at H2 HV
 have HB0:=hd_ hb
 clear hc h1 h2 hb _hx hk
 change Calls Tryz.prog 46 #[.agg (x.cells s).toArray] w _
 go_enter Tryz.func46,Tryz.ntmps46
 go_upto_region 1 with fail
 change Code.wp _ _ _ _ (w.alloc (bI x s))
 generalize w.alloc (bI x s) = w0 at *
 cases b1 <;> cases b2 <;> (
  go_wp2_with (first
   | (go_at_call 44;refine (H1.out w0).mono ?_;go_loud (rintro e w' ⟨rfl,rfl⟩;clear H1))
   | (go_at_call 44;refine (H2.out w0).mono ?_;go_loud (rintro e w' ⟨rfl,rfl⟩;clear H2)))
  go_ret
  exact ⟨by rw [HV.out];rfl,HB0.out⟩)
theorem x7g (x:Inp) (s:Slc) (w:World) (_hx:InpR w x s) (hk:x.kind = 9) :Calls Tryz.prog 46 #[x.v s] w (FdP x w):=by
 have HV:Hid ((inB x.kind 1 10 && z6q x) = (inB x.n 0 1048576)):=hd_ (by rw [hk,show inB (9:Int) 1 10 = true from rfl];unfold z6q;simp [hk])
 have hb:=z5b (w:=w) (bI x s)
 have hc:=z6a w (bI x s) 41 (x.cells s) rfl
 have c3:_ = some (Value.int .i64 x.kind):=hc.cell 3
 rw [hk] at c3
 have c0:_ = some (Value.int .i64 x.n):=hc.cell 26
 have HC:=hd_ (z9d x.n 0 1048576 (w.alloc (bI x s)))
 obtain ⟨b,hvb⟩:∃ b,(inB x.n 0 1048576) = b:=⟨_,rfl⟩
 rw [hvb] at HC HV
 have HB0:=hd_ hb
 clear hc hvb hb _hx hk
 change Calls Tryz.prog 46 #[.agg (x.cells s).toArray] w _
 go_enter Tryz.func46,Tryz.ntmps46
 go_upto_region 1 with fail
 change Code.wp _ _ _ _ (w.alloc (bI x s))
 generalize w.alloc (bI x s) = w0 at *
 cases b <;> (
  go_wp2_with (go_at_call 44;refine HC.out.mono ?_;go_loud (rintro e w2 ⟨rfl,rfl⟩;clear HC))
  go_ret
  exact ⟨by rw [HV.out];rfl,HB0.out⟩)
theorem y0x (x:Inp) (s:Slc) (w:World) (_hx:InpR w x s) (hk:x.kind = 10) :Calls Tryz.prog 46 #[x.v s] w (FdP x w):=by
 have HV:Hid ((inB x.kind 1 10 && z6q x) = (true)):=hd_ (by rw [hk,show inB (10:Int) 1 10 = true from rfl];unfold z6q;simp [hk])
 have hb:=z5b (w:=w) (bI x s)
 have hc:=z6a w (bI x s) 41 (x.cells s) rfl
 have c3:_ = some (Value.int .i64 x.kind):=hc.cell 3
 rw [hk] at c3
 have HB0:=hd_ hb
 clear hc hb _hx hk
 change Calls Tryz.prog 46 #[.agg (x.cells s).toArray] w _
 go_enter Tryz.func46,Tryz.ntmps46
 go_upto_region 1 with fail
 change Code.wp _ _ _ _ (w.alloc (bI x s))
 generalize w.alloc (bI x s) = w0 at *
 go_wp2_with fail
 go_ret
 exact ⟨by rw [HV.out];rfl,HB0.out⟩
theorem x5s (x:Inp) (s:Slc) (w:World) (hx:InpR w x s) (z1:x.text.size ≤ 9223372036854775807) (z2:x.flt.call.size ≤ 9223372036854775807) (z3:x.rep.cl.size ≤ 9223372036854775807):Calls Tryz.prog 46 #[x.v s] w (FdP x w):=by
 by_cases h1:x.kind = 1
 · exact x9f x s w hx h1 z1
 by_cases h2:x.kind = 2
 · exact x0g x s w hx h2
 by_cases h3:x.kind = 3
 · exact x1g x s w hx h3 z2
 by_cases h4:x.kind = 4
 · exact x2g x s w hx h4
 by_cases h5:x.kind = 5
 · exact x3g x s w hx h5
 by_cases h6:x.kind = 6
 · exact x4g x s w hx h6
 by_cases h7:x.kind = 7
 · exact x5g x s w hx h7 z3
 by_cases h8:x.kind = 8
 · exact x6g x s w hx h8
 by_cases h9:x.kind = 9
 · exact x7g x s w hx h9
 by_cases h10:x.kind = 10
 · exact y0x x s w hx h10
 exact x8f x s w hx (fun j hj1 hj2 hj=>by omega)
end Go.Proofs.YtdblnbnofjggnaaGreatDoor
