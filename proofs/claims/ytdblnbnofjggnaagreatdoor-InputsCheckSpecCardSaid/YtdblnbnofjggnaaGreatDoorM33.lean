/- Parts of the proofs of chapter 49's laws: Jkp Jva Jta Jui Jca. -/
import Derived.Test.YtdblnbnofjggnaaGreatDoorM32
set_option maxHeartbeats 2000000
set_option maxRecDepth 100000
open Go
open Lib renaming hid → hd_
open List renaming mem_cons → mC
open List renaming not_mem_nil → nM
namespace Go.Proofs.YtdblnbnofjggnaaGreatDoor
open Go.RowKit
structure SlcS (s:Slc):Prop where
 ways:∃ o n c,s.ways = .slice o n c
 tree:∃ o n c,s.tree = .slice o n c
 modes:∃ o n c,s.modes = .slice o n c
 vols:∃ o n c,s.vols = .slice o n c
def z7h (w:World) (g:Nat) (y:Inp) (s:Slc) (e:Ending) (w':World):Prop:=(∃ v,e = .returned v)∧CB w' g 41 (y.cells s)∧w.grownBy w' (some g)
theorem z2d {A B:List Value} (o:Nat) (h:(A.drop o).take B.length = B) (j:Nat) (v:Value) (hv:B[j]? = some v):A[o + j]? = some v:=by
 have hj:=(List.getElem?_eq_some_iff.1 hv).1
 have h2:((A.drop o).take B.length)[j]? = some v:=by rw [h];exact hv
 rw [List.getElem?_take_of_lt hj,List.getElem?_drop] at h2
 exact h2
theorem j6c (x y:Inp) (s sy:Slc) (hs:SlcS s) (g:Nat) (w:World) (hg:CB w g 41 (y.cells sy)) :
 Calls Tryz.prog 80 #[.pointer (some ⟨g,0,none⟩),x.v s] w fun e w'=>z7h w g { y with text:=x.text } (sy) e w':=by
 obtain ⟨⟨oa,na,ca,ea⟩,⟨ob,nb,cb,eb⟩,⟨oc,nc,cc,ec⟩,⟨od,nd,cd,ed⟩⟩:=hs
 have hgl:=hg.lt
 have hne:g ≠ w.heap.size:=by omega
 have hc:=z6a w (bI x s) 41 (x.cells s) rfl
 have hg1:=hg.alloc (bI x s)
 have c0:_ = some (Value.string x.text):=hc.cell 4
 have d0:_ = some (Value.string y.text):=hg1.cell 4
 have zf:=hg1.frozen 4
 have HG:=hd_ hg1
 clear hc hg1 hg hgl
 go_enter Tryz.func80,Tryz.ntmps80
 go_upto_region 1 with fail
 change Code.wp _ _ _ _ (w.alloc (bI x s))
 have HW:Hid (w.grownBy (w.alloc (bI x s)) (some g)):=World.grownBy_alloc w _ _
 generalize w.alloc (bI x s) = w0 at *
 go_wp2_with fail
 refine bodyPost_end (results_none rfl _ _ _) rfl ?_
 exact ⟨⟨_,rfl⟩,by first | exact HG.out.set 4 _ | (have h:=HG.out.set 4 (Value.slice ob nb cb);rw [← eb] at h ⊢;exact h),z2a HW.out (z8b w0 g 4 _) (.inl rfl)⟩
theorem j7c (x y:Inp) (s sy:Slc) (hs:SlcS s) (g:Nat) (w:World) (hg:CB w g 41 (y.cells sy)) :
 Calls Tryz.prog 87 #[.pointer (some ⟨g,0,none⟩),x.v s] w fun e w'=>z7h w g { y with tree:=x.tree } ({ sy with tree:=s.tree }) e w':=by
 obtain ⟨⟨oa,na,ca,ea⟩,⟨ob,nb,cb,eb⟩,⟨oc,nc,cc,ec⟩,⟨od,nd,cd,ed⟩⟩:=hs
 have hgl:=hg.lt
 have hne:g ≠ w.heap.size:=by omega
 have hc:=z6a w (bI x s) 41 (x.cells s) rfl
 have hg1:=hg.alloc (bI x s)
 have c0:_ = some (s.tree):=hc.cell 13
 have d0:_ = some (sy.tree):=hg1.cell 13
 have zf:=hg1.frozen 13
 have HG:=hd_ hg1
 clear hc hg1 hg hgl
 go_enter Tryz.func87,Tryz.ntmps87
 go_upto_region 1 with fail
 change Code.wp _ _ _ _ (w.alloc (bI x s))
 have HW:Hid (w.grownBy (w.alloc (bI x s)) (some g)):=World.grownBy_alloc w _ _
 generalize w.alloc (bI x s) = w0 at *
 go_wp2_with fail
 refine bodyPost_end (results_none rfl _ _ _) rfl ?_
 exact ⟨⟨_,rfl⟩,by first | exact HG.out.set 13 _ | (have h:=HG.out.set 13 (Value.slice ob nb cb);rw [← eb] at h ⊢;exact h),z2a HW.out (z8b w0 g 13 _) (.inl rfl)⟩
theorem j8c (x y:Inp) (s sy:Slc) (hs:SlcS s) (g:Nat) (w:World) (hg:CB w g 41 (y.cells sy)) :
 Calls Tryz.prog 89 #[.pointer (some ⟨g,0,none⟩),x.v s] w fun e w'=>z7h w g { y with n:=x.n } (sy) e w':=by
 obtain ⟨⟨oa,na,ca,ea⟩,⟨ob,nb,cb,eb⟩,⟨oc,nc,cc,ec⟩,⟨od,nd,cd,ed⟩⟩:=hs
 have hgl:=hg.lt
 have hne:g ≠ w.heap.size:=by omega
 have hc:=z6a w (bI x s) 41 (x.cells s) rfl
 have hg1:=hg.alloc (bI x s)
 have c0:_ = some (Value.int .i64 x.n):=hc.cell 26
 have d0:_ = some (Value.int .i64 y.n):=hg1.cell 26
 have zf:=hg1.frozen 26
 have HG:=hd_ hg1
 clear hc hg1 hg hgl
 go_enter Tryz.func89,Tryz.ntmps89
 go_upto_region 1 with fail
 change Code.wp _ _ _ _ (w.alloc (bI x s))
 have HW:Hid (w.grownBy (w.alloc (bI x s)) (some g)):=World.grownBy_alloc w _ _
 generalize w.alloc (bI x s) = w0 at *
 go_wp2_with fail
 refine bodyPost_end (results_none rfl _ _ _) rfl ?_
 exact ⟨⟨_,rfl⟩,by first | exact HG.out.set 26 _ | (have h:=HG.out.set 26 (Value.slice ob nb cb);rw [← eb] at h ⊢;exact h),z2a HW.out (z8b w0 g 26 _) (.inl rfl)⟩
theorem x6r (x y:Inp) (s sy:Slc) (hs:SlcS s) (g:Nat) (w:World) (hg:CB w g 41 (y.cells sy)) :
 Calls Tryz.prog 98 #[.pointer (some ⟨g,0,none⟩),x.v s] w fun e w'=>z7h w g { y with n:=x.n } (sy) e w':=by
 obtain ⟨⟨oa,na,ca,ea⟩,⟨ob,nb,cb,eb⟩,⟨oc,nc,cc,ec⟩,⟨od,nd,cd,ed⟩⟩:=hs
 have hgl:=hg.lt
 have hne:g ≠ w.heap.size:=by omega
 have hc:=z6a w (bI x s) 41 (x.cells s) rfl
 have hg1:=hg.alloc (bI x s)
 have c0:_ = some (Value.int .i64 x.n):=hc.cell 26
 have d0:_ = some (Value.int .i64 y.n):=hg1.cell 26
 have zf:=hg1.frozen 26
 have HG:=hd_ hg1
 clear hc hg1 hg hgl
 go_enter Tryz.func98,Tryz.ntmps98
 go_upto_region 1 with fail
 change Code.wp _ _ _ _ (w.alloc (bI x s))
 have HW:Hid (w.grownBy (w.alloc (bI x s)) (some g)):=World.grownBy_alloc w _ _
 generalize w.alloc (bI x s) = w0 at *
 go_wp2_with fail
 refine bodyPost_end (results_none rfl _ _ _) rfl ?_
 exact ⟨⟨_,rfl⟩,by first | exact HG.out.set 26 _ | (have h:=HG.out.set 26 (Value.slice ob nb cb);rw [← eb] at h ⊢;exact h),z2a HW.out (z8b w0 g 26 _) (.inl rfl)⟩
theorem j9c (x y:Inp) (s sy:Slc) (hs:SlcS s) (g:Nat) (w:World) (hg:CB w g 41 (y.cells sy)) :
 Calls Tryz.prog 82 #[.pointer (some ⟨g,0,none⟩),x.v s] w fun e w'=>z7h w g { y with stn:=x.stn } ({ sy with vols:=s.vols }) e w':=by
 have hs1:∀ u ∈ x.stn.cells s.vols,u.oneCell' = true:=by
  obtain ⟨⟨oa,na,ca,ea⟩,⟨ob,nb,cb,eb⟩,⟨oc,nc,cc,ec⟩,⟨od,nd,cd,ed⟩⟩:=hs
  intro u hu
  simp only [Stn.cells,mC,nM,or_false] at hu
  (try rw [ea] at hu);(try rw [ec] at hu);(try rw [ed] at hu)
  rcases hu with rfl | rfl | rfl <;> rfl
 have hgl:=hg.lt
 have hc:=z6a w (bI x s) 41 (x.cells s) rfl
 have hg1:=hg.alloc (bI x s)
 have hr:(w.alloc (bI x s)).rangeAt w.heap.size 27 (x.stn.cells s.vols):=fun j v hv=>by
  rw [hc.cell]
  exact z2d (B:=x.stn.cells s.vols) 27 (by rfl) j v hv
 have HR:=hd_ hr;have HS1:=hd_ hs1
 have HG:=hd_ hg1
 clear hc hg1 hg hgl hr hs1
 go_enter Tryz.func82,Tryz.ntmps82
 go_upto_region 1 with fail
 change Code.wp _ _ _ _ (w.alloc (bI x s))
 have HW:Hid (w.grownBy (w.alloc (bI x s)) (some g)):=World.grownBy_alloc w _ _
 generalize w.alloc (bI x s) = w0 at *
 go_wp2_with (first
  | (have _g:=HR.out;refine z7a (by rfl) 37 (.tmp 5) rfl w.heap.size 27 rfl (x.stn.cells s.vols) _ HR.out Tryz.underlying37 rfl (by kernel_rfl) ?_;clear HR)
  | (have _g:=HS1.out;refine z0b rfl 37 (.tmp 8) (.tmp 6) rfl g 27 (x.stn.cells s.vols) rfl rfl _ _ HG.out (show 27 + 3 ≤ 32 by decide) (by kernel_rfl) HS1.out (fun w2 HC2 HW2=>?_);clear HS1))
 refine bodyPost_end (results_none rfl _ _ _) rfl ?_
 exact ⟨⟨_,rfl⟩,HC2.out,z2a HW.out HW2.out (.inl rfl)⟩
theorem j0d (x y:Inp) (s sy:Slc) (hs:SlcS s) (g:Nat) (w:World) (hg:CB w g 41 (y.cells sy)) :
 Calls Tryz.prog 84 #[.pointer (some ⟨g,0,none⟩),x.v s] w fun e w'=>z7h w g { y with flt:=x.flt } ({ sy with ways:=s.ways }) e w':=by
 have hs1:∀ u ∈ x.flt.cells s.ways,u.oneCell' = true:=by
  obtain ⟨⟨oa,na,ca,ea⟩,⟨ob,nb,cb,eb⟩,⟨oc,nc,cc,ec⟩,⟨od,nd,cd,ed⟩⟩:=hs
  intro u hu
  simp only [Flt.cells,mC,nM,or_false] at hu
  (try rw [ea] at hu);(try rw [ec] at hu);(try rw [ed] at hu)
  rcases hu with rfl | rfl | rfl | rfl | rfl | rfl | rfl | rfl <;> rfl
 have hgl:=hg.lt
 have hc:=z6a w (bI x s) 41 (x.cells s) rfl
 have hg1:=hg.alloc (bI x s)
 have hr:(w.alloc (bI x s)).rangeAt w.heap.size 5 (x.flt.cells s.ways):=fun j v hv=>by
  rw [hc.cell]
  exact z2d (B:=x.flt.cells s.ways) 5 (by rfl) j v hv
 have HR:=hd_ hr;have HS1:=hd_ hs1
 have HG:=hd_ hg1
 clear hc hg1 hg hgl hr hs1
 go_enter Tryz.func84,Tryz.ntmps84
 go_upto_region 1 with fail
 change Code.wp _ _ _ _ (w.alloc (bI x s))
 have HW:Hid (w.grownBy (w.alloc (bI x s)) (some g)):=World.grownBy_alloc w _ _
 generalize w.alloc (bI x s) = w0 at *
 go_wp2_with (first
  | (have _g:=HR.out;refine z7a (by rfl) 28 (.tmp 5) rfl w.heap.size 5 rfl (x.flt.cells s.ways) _ HR.out Tryz.underlying28 rfl (by kernel_rfl) ?_;clear HR)
  | (have _g:=HS1.out;refine z0b rfl 28 (.tmp 8) (.tmp 6) rfl g 5 (x.flt.cells s.ways) rfl rfl _ _ HG.out (show 5 + 8 ≤ 32 by decide) (by kernel_rfl) HS1.out (fun w2 HC2 HW2=>?_);clear HS1))
 refine bodyPost_end (results_none rfl _ _ _) rfl ?_
 exact ⟨⟨_,rfl⟩,HC2.out,z2a HW.out HW2.out (.inl rfl)⟩
theorem x7r (x y:Inp) (s sy:Slc) (hs:SlcS s) (g:Nat) (w:World) (hg:CB w g 41 (y.cells sy)) :
 Calls Tryz.prog 91 #[.pointer (some ⟨g,0,none⟩),x.v s] w fun e w'=>z7h w g { y with chg:=x.chg } ({ sy with modes:=s.modes }) e w':=by
 have hs1:∀ u ∈ x.chg.cells s.modes,u.oneCell' = true:=by
  obtain ⟨⟨oa,na,ca,ea⟩,⟨ob,nb,cb,eb⟩,⟨oc,nc,cc,ec⟩,⟨od,nd,cd,ed⟩⟩:=hs
  intro u hu
  simp only [Chg.cells,mC,nM,or_false] at hu
  (try rw [ea] at hu);(try rw [ec] at hu);(try rw [ed] at hu)
  rcases hu with rfl | rfl | rfl <;> rfl
 have hgl:=hg.lt
 have hc:=z6a w (bI x s) 41 (x.cells s) rfl
 have hg1:=hg.alloc (bI x s)
 have hr:(w.alloc (bI x s)).rangeAt w.heap.size 14 (x.chg.cells s.modes):=fun j v hv=>by
  rw [hc.cell]
  exact z2d (B:=x.chg.cells s.modes) 14 (by rfl) j v hv
 have HR:=hd_ hr;have HS1:=hd_ hs1
 have HG:=hd_ hg1
 clear hc hg1 hg hgl hr hs1
 go_enter Tryz.func91,Tryz.ntmps91
 go_upto_region 1 with fail
 change Code.wp _ _ _ _ (w.alloc (bI x s))
 have HW:Hid (w.grownBy (w.alloc (bI x s)) (some g)):=World.grownBy_alloc w _ _
 generalize w.alloc (bI x s) = w0 at *
 go_wp2_with (first
  | (have _g:=HR.out;refine z7a (by rfl) 31 (.tmp 5) rfl w.heap.size 14 rfl (x.chg.cells s.modes) _ HR.out Tryz.underlying31 rfl (by kernel_rfl) ?_;clear HR)
  | (have _g:=HS1.out;refine z0b rfl 31 (.tmp 8) (.tmp 6) rfl g 14 (x.chg.cells s.modes) rfl rfl _ _ HG.out (show 14 + 3 ≤ 32 by decide) (by kernel_rfl) HS1.out (fun w2 HC2 HW2=>?_);clear HS1))
 refine bodyPost_end (results_none rfl _ _ _) rfl ?_
 exact ⟨⟨_,rfl⟩,HC2.out,z2a HW.out HW2.out (.inl rfl)⟩
theorem x8r (x y:Inp) (s sy:Slc) (hs:SlcS s) (g:Nat) (w:World) (hg:CB w g 41 (y.cells sy)) :
 Calls Tryz.prog 94 #[.pointer (some ⟨g,0,none⟩),x.v s] w fun e w'=>z7h w g { y with rep:=x.rep } (sy) e w':=by
 have hs1:∀ u ∈ x.rep.cells,u.oneCell' = true:=by
  obtain ⟨⟨oa,na,ca,ea⟩,⟨ob,nb,cb,eb⟩,⟨oc,nc,cc,ec⟩,⟨od,nd,cd,ed⟩⟩:=hs
  intro u hu
  simp only [Rp.cells,mC,nM,or_false] at hu
  (try rw [ea] at hu);(try rw [ec] at hu);(try rw [ed] at hu)
  rcases hu with rfl | rfl | rfl | rfl | rfl | rfl <;> rfl
 have hgl:=hg.lt
 have hc:=z6a w (bI x s) 41 (x.cells s) rfl
 have hg1:=hg.alloc (bI x s)
 have hr:(w.alloc (bI x s)).rangeAt w.heap.size 17 (x.rep.cells):=fun j v hv=>by
  rw [hc.cell]
  exact z2d (B:=x.rep.cells) 17 (by rfl) j v hv
 have HR:=hd_ hr;have HS1:=hd_ hs1
 have HG:=hd_ hg1
 clear hc hg1 hg hgl hr hs1
 go_enter Tryz.func94,Tryz.ntmps94
 go_upto_region 1 with fail
 change Code.wp _ _ _ _ (w.alloc (bI x s))
 have HW:Hid (w.grownBy (w.alloc (bI x s)) (some g)):=World.grownBy_alloc w _ _
 generalize w.alloc (bI x s) = w0 at *
 go_wp2_with (first
  | (have _g:=HR.out;refine z7a (by rfl) 33 (.tmp 5) rfl w.heap.size 17 rfl (x.rep.cells) _ HR.out Tryz.underlying33 rfl (by kernel_rfl) ?_;clear HR)
  | (have _g:=HS1.out;refine z0b rfl 33 (.tmp 8) (.tmp 6) rfl g 17 (x.rep.cells) rfl rfl _ _ HG.out (show 17 + 6 ≤ 32 by decide) (by kernel_rfl) HS1.out (fun w2 HC2 HW2=>?_);clear HS1))
 refine bodyPost_end (results_none rfl _ _ _) rfl ?_
 exact ⟨⟨_,rfl⟩,HC2.out,z2a HW.out HW2.out (.inl rfl)⟩
theorem x9r (x y:Inp) (s sy:Slc) (hs:SlcS s) (g:Nat) (w:World) (hg:CB w g 41 (y.cells sy)) :
 Calls Tryz.prog 96 #[.pointer (some ⟨g,0,none⟩),x.v s] w fun e w'=>z7h w g { y with sts:=x.sts } (sy) e w':=by
 have hs1:∀ u ∈ x.sts.cells,u.oneCell' = true:=by
  obtain ⟨⟨oa,na,ca,ea⟩,⟨ob,nb,cb,eb⟩,⟨oc,nc,cc,ec⟩,⟨od,nd,cd,ed⟩⟩:=hs
  intro u hu
  simp only [Sts.cells,mC,nM,or_false] at hu
  (try rw [ea] at hu);(try rw [ec] at hu);(try rw [ed] at hu)
  rcases hu with rfl | rfl | rfl <;> rfl
 have hgl:=hg.lt
 have hc:=z6a w (bI x s) 41 (x.cells s) rfl
 have hg1:=hg.alloc (bI x s)
 have hr:(w.alloc (bI x s)).rangeAt w.heap.size 23 (x.sts.cells):=fun j v hv=>by
  rw [hc.cell]
  exact z2d (B:=x.sts.cells) 23 (by rfl) j v hv
 have HR:=hd_ hr;have HS1:=hd_ hs1
 have HG:=hd_ hg1
 clear hc hg1 hg hgl hr hs1
 go_enter Tryz.func96,Tryz.ntmps96
 go_upto_region 1 with fail
 change Code.wp _ _ _ _ (w.alloc (bI x s))
 have HW:Hid (w.grownBy (w.alloc (bI x s)) (some g)):=World.grownBy_alloc w _ _
 generalize w.alloc (bI x s) = w0 at *
 go_wp2_with (first
  | (have _g:=HR.out;refine z7a (by rfl) 35 (.tmp 5) rfl w.heap.size 23 rfl (x.sts.cells) _ HR.out Tryz.underlying35 rfl (by kernel_rfl) ?_;clear HR)
  | (have _g:=HS1.out;refine z0b rfl 35 (.tmp 8) (.tmp 6) rfl g 23 (x.sts.cells) rfl rfl _ _ HG.out (show 23 + 3 ≤ 32 by decide) (by kernel_rfl) HS1.out (fun w2 HC2 HW2=>?_);clear HS1))
 refine bodyPost_end (results_none rfl _ _ _) rfl ?_
 exact ⟨⟨_,rfl⟩,HC2.out,z2a HW.out HW2.out (.inl rfl)⟩
theorem j1d {B:Nat} {w:World} {l:List Int} {v:Value} (h:z9f nuK B w l v):z4y B w l v:=by
 cases l with
 | nil =>
  obtain ⟨oa,cap,rfl,_⟩:=h.shape
  exact .inl ⟨rfl,oa,cap,rfl⟩
 | cons a r =>
  rcases h with ⟨h,_⟩ | ⟨b,off,cap,h1,h2,h3,h4,h5⟩
  · cases h
  · refine .inr ⟨b,off,cap,h1,h2,h3,h4,fun j y hj=>?_⟩
    have:=h5 j y hj 0 _ rfl
    simpa [nuK] using this
theorem x0s (x:Inp) (s:Slc) (w:World) (hx:InpR w x s)  :
 Calls Tryz.prog 83 #[x.v s] w fun e w'=>e = .returned (.bool (x4k 64 x.stn.vols x.stn.sh x.stn.fa))∧Below w.heap.size w w':=by
 have hb0:=z5b (w:=w) (bI x s)
 have hc:=z6a w (bI x s) 41 (x.cells s) rfl
 have hr:(w.alloc (bI x s)).rangeAt w.heap.size 27 (x.stn.cells s.vols):=fun j v hv=>by
  rw [hc.cell]
  exact z2d (B:=x.stn.cells s.vols) 27 (by rfl) j v hv
 have HC:=hd_ (x7c 64 x.stn.sh x.stn.fa x.stn.vols s.vols _ (j1d (hx.vols.ext hb0)))
 unfold j7r at HC
 obtain ⟨b,hb⟩:∃ b,x4k 64 x.stn.vols x.stn.sh x.stn.fa = b:=⟨_,rfl⟩
 rw [hb] at HC ⊢
 have HR:=hd_ hr;have HB0:=hd_ hb0
 clear hc hr hb hb0 hx
 go_enter Tryz.func83,Tryz.ntmps83
 go_upto_region 1 with fail
 change Code.wp _ _ _ _ (w.alloc (bI x s))
 generalize w.alloc (bI x s) = w0 at *
 cases b <;> (
  go_wp2_with (first
   | (have _g:=HR.out;refine z7a (by rfl) 37 (.tmp 3) rfl w.heap.size 27 rfl (x.stn.cells s.vols) _ HR.out Tryz.underlying37 rfl (by kernel_rfl) ?_;clear HR)
   | (go_at_call 32;refine HC.out.mono ?_;go_loud (rintro e w2 ⟨rfl,hb⟩;have HB2:=hd_ (z0a HB0.out hb);clear hb HC)))
  go_ret
  exact ⟨rfl,HB2.out⟩)
theorem x1s (x:Inp) (s:Slc) (w:World) (hx:InpR w x s) (hz:x.flt.call.size ≤ 9223372036854775807) :
 Calls Tryz.prog 85 #[x.v s] w fun e w'=>e = .returned (.bool (y2w x.flt))∧Below w.heap.size w w':=by
 have hb0:=z5b (w:=w) (bI x s)
 have hc:=z6a w (bI x s) 41 (x.cells s) rfl
 have hr:(w.alloc (bI x s)).rangeAt w.heap.size 5 (x.flt.cells s.ways):=fun j v hv=>by
  rw [hc.cell]
  exact z2d (B:=x.flt.cells s.ways) 5 (by rfl) j v hv
 have HC:=hd_ (x9q x.flt s.ways _ (hx.ways.ext hb0) hz)
 skip
 obtain ⟨b,hb⟩:∃ b,y2w x.flt = b:=⟨_,rfl⟩
 rw [hb] at HC ⊢
 have HR:=hd_ hr;have HB0:=hd_ hb0
 clear hc hr hb hb0 hx
 go_enter Tryz.func85,Tryz.ntmps85
 go_upto_region 1 with fail
 change Code.wp _ _ _ _ (w.alloc (bI x s))
 generalize w.alloc (bI x s) = w0 at *
 cases b <;> (
  go_wp2_with (first
   | (have _g:=HR.out;refine z7a (by rfl) 28 (.tmp 3) rfl w.heap.size 5 rfl (x.flt.cells s.ways) _ HR.out Tryz.underlying28 rfl (by kernel_rfl) ?_;clear HR)
   | (go_at_call 86;refine HC.out.mono ?_;go_loud (rintro e w2 ⟨rfl,hb⟩;have HB2:=hd_ (z0a HB0.out hb);clear hb HC)))
  go_ret
  exact ⟨rfl,HB2.out⟩)
theorem x1f (x:Inp) (s:Slc) (w:World) (hx:InpR w x s)  :
 Calls Tryz.prog 92 #[x.v s] w fun e w'=>e = .returned (.bool (x0m x.chg))∧Below w.heap.size w w':=by
 have hb0:=z5b (w:=w) (bI x s)
 have hc:=z6a w (bI x s) 41 (x.cells s) rfl
 have hr:(w.alloc (bI x s)).rangeAt w.heap.size 14 (x.chg.cells s.modes):=fun j v hv=>by
  rw [hc.cell]
  exact z2d (B:=x.chg.cells s.modes) 14 (by rfl) j v hv
 have HC:=hd_ (x7q x.chg s.modes _ (hx.modes.ext hb0))
 skip
 obtain ⟨b,hb⟩:∃ b,x0m x.chg = b:=⟨_,rfl⟩
 rw [hb] at HC ⊢
 have HR:=hd_ hr;have HB0:=hd_ hb0
 clear hc hr hb hb0 hx
 go_enter Tryz.func92,Tryz.ntmps92
 go_upto_region 1 with fail
 change Code.wp _ _ _ _ (w.alloc (bI x s))
 generalize w.alloc (bI x s) = w0 at *
 cases b <;> (
  go_wp2_with (first
   | (have _g:=HR.out;refine z7a (by rfl) 31 (.tmp 3) rfl w.heap.size 14 rfl (x.chg.cells s.modes) _ HR.out Tryz.underlying31 rfl (by kernel_rfl) ?_;clear HR)
   | (go_at_call 93;refine HC.out.mono ?_;go_loud (rintro e w2 ⟨rfl,hb⟩;have HB2:=hd_ (z0a HB0.out hb);clear hb HC)))
  go_ret
  exact ⟨rfl,HB2.out⟩)
theorem x2f (x:Inp) (s:Slc) (w:World) (_hx:InpR w x s) (hz:x.rep.cl.size ≤ 9223372036854775807) :
 Calls Tryz.prog 95 #[x.v s] w fun e w'=>e = .returned (.bool (x0y 4 3 x.rep))∧Below w.heap.size w w':=by
 have hb0:=z5b (w:=w) (bI x s)
 have hc:=z6a w (bI x s) 41 (x.cells s) rfl
 have hr:(w.alloc (bI x s)).rangeAt w.heap.size 17 (x.rep.cells):=fun j v hv=>by
  rw [hc.cell]
  exact z2d (B:=x.rep.cells) 17 (by rfl) j v hv
 have HC:=hd_ (x6c 4 3 x.rep (w.alloc (bI x s)) (by decide) hz)
 unfold j7r at HC
 obtain ⟨b,hb⟩:∃ b,x0y 4 3 x.rep = b:=⟨_,rfl⟩
 rw [hb] at HC ⊢
 have HR:=hd_ hr;have HB0:=hd_ hb0
 clear hc hr hb hb0 _hx
 go_enter Tryz.func95,Tryz.ntmps95
 go_upto_region 1 with fail
 change Code.wp _ _ _ _ (w.alloc (bI x s))
 generalize w.alloc (bI x s) = w0 at *
 cases b <;> (
  go_wp2_with (first
   | (have _g:=HR.out;refine z7a (by rfl) 33 (.tmp 3) rfl w.heap.size 17 rfl (x.rep.cells) _ HR.out Tryz.underlying33 rfl (by kernel_rfl) ?_;clear HR)
   | (go_at_call 31;refine HC.out.mono ?_;go_loud (rintro e w2 ⟨rfl,hb⟩;have HB2:=hd_ (z0a HB0.out hb);clear hb HC)))
  go_ret
  exact ⟨rfl,HB2.out⟩)
theorem j9s (n a b:Int) (w:World):Calls Tryz.prog 34 #[.int .i64 n,.int .i64 a,.int .i64 b] w fun e w'=>e = .returned (.bool (inB n a b))∧Below w.heap.size w w':=by
 refine (z1f n a b w).mono ?_
 rintro e w' ⟨rfl,rfl⟩
 exact ⟨rfl,Below.refl _ _⟩
theorem x3f (x:Inp) (s:Slc) (w:World) (_hx:InpR w x s)  :
 Calls Tryz.prog 90 #[x.v s] w fun e w'=>e = .returned (.bool (inB x.n 0 31))∧Below w.heap.size w w':=by
 have hb0:=z5b (w:=w) (bI x s)
 have hc:=z6a w (bI x s) 41 (x.cells s) rfl
 have c0:_ = some (Value.int .i64 x.n):=hc.cell 26
 have HC:=hd_ (j9s x.n 0 31 (w.alloc (bI x s)))
 obtain ⟨b,hb⟩:∃ b,inB x.n 0 31 = b:=⟨_,rfl⟩
 rw [hb] at HC ⊢
 have HB0:=hd_ hb0
 clear hc hb hb0 _hx
 go_enter Tryz.func90,Tryz.ntmps90
 go_upto_region 1 with fail
 change Code.wp _ _ _ _ (w.alloc (bI x s))
 generalize w.alloc (bI x s) = w0 at *
 cases b <;> (
  go_wp2_with (go_at_call 34;refine HC.out.mono ?_;go_loud (rintro e w2 ⟨rfl,hb⟩;have HB2:=hd_ (z0a HB0.out hb);clear hb HC))
  go_ret
  exact ⟨rfl,HB2.out⟩)
theorem x4f (x:Inp) (s:Slc) (w:World) (_hx:InpR w x s)  :
 Calls Tryz.prog 99 #[x.v s] w fun e w'=>e = .returned (.bool (inB x.n 0 1048576))∧Below w.heap.size w w':=by
 have hb0:=z5b (w:=w) (bI x s)
 have hc:=z6a w (bI x s) 41 (x.cells s) rfl
 have c0:_ = some (Value.int .i64 x.n):=hc.cell 26
 have HC:=hd_ (j9s x.n 0 1048576 (w.alloc (bI x s)))
 obtain ⟨b,hb⟩:∃ b,inB x.n 0 1048576 = b:=⟨_,rfl⟩
 rw [hb] at HC ⊢
 have HB0:=hd_ hb0
 clear hc hb hb0 _hx
 go_enter Tryz.func99,Tryz.ntmps99
 go_upto_region 1 with fail
 change Code.wp _ _ _ _ (w.alloc (bI x s))
 generalize w.alloc (bI x s) = w0 at *
 cases b <;> (
  go_wp2_with (go_at_call 34;refine HC.out.mono ?_;go_loud (rintro e w2 ⟨rfl,hb⟩;have HB2:=hd_ (z0a HB0.out hb);clear hb HC))
  go_ret
  exact ⟨rfl,HB2.out⟩)
theorem x2s (x:Inp) (s:Slc) (w:World) (hx:InpR w x s)  :
 Calls Tryz.prog 88 #[x.v s] w fun e w'=>e = .returned (.bool (z5n x.tree))∧Below w.heap.size w w':=by
 have hb0:=z5b (w:=w) (bI x s)
 have hc:=z6a w (bI x s) 41 (x.cells s) rfl
 have HX:=hd_ (hx.tree.ext hb0)
 have c0:_ = some s.tree:=hc.cell 13
 have HC:=hd_ (x4r x.tree s.tree _ (hx.tree.ext hb0))
 obtain ⟨b,hb⟩:∃ b,z5n x.tree = b:=⟨_,rfl⟩
 rw [hb] at HC ⊢
 obtain ⟨oa,cap,he,la⟩:=HX.out.shape
 rw [he] at c0 HC
 clear he la HX
 have HB0:=hd_ hb0
 clear hc hb hb0 hx
 go_enter Tryz.func88,Tryz.ntmps88
 go_upto_region 1 with fail
 change Code.wp _ _ _ _ (w.alloc (bI x s))
 generalize w.alloc (bI x s) = w0 at *
 cases b <;> (
  go_wp2_with (go_at_call 30;refine HC.out.mono ?_;go_loud (rintro e w2 ⟨rfl,hb⟩;have HB2:=hd_ (z0a HB0.out hb);clear hb HC))
  go_ret
  exact ⟨rfl,HB2.out⟩)
theorem x3s (x:Inp) (s:Slc) (w:World) (hz:x.text.size ≤ 9223372036854775807) :
 Calls Tryz.prog 81 #[x.v s] w fun e w'=>e = .returned (.bool (decide (x.text.size ≤ 65536)))∧Below w.heap.size w w':=by
 have hb0:=z5b (w:=w) (bI x s)
 have hc:=z6a w (bI x s) 41 (x.cells s) rfl
 have c0:_ = some (Value.string x.text):=hc.cell 4
 obtain ⟨b,hb⟩:∃ b,decide (x.text.size ≤ 65536) = b:=⟨_,rfl⟩
 have u1:decide ((x.text.size:Int) ≤ 65536) = b:=by rw [← hb];by_cases h:x.text.size ≤ 65536 <;> simp [h] <;> omega
 have l1:(x.text.size:Int) ≤ 9223372036854775807:=by omega
 rw [hb]
 have HB0:=hd_ hb0
 clear hc hb hb0 hz
 go_enter Tryz.func81,Tryz.ntmps81
 go_upto_region 1 with fail
 change Code.wp _ _ _ _ (w.alloc (bI x s))
 generalize w.alloc (bI x s) = w0 at *
 cases b <;> (
  go_wp2_with fail
  go_ret
  exact ⟨by first | rfl | simp [u1],HB0.out⟩)
theorem x5f (x:Inp) (s:Slc) (w:World) :
 Calls Tryz.prog 101 #[x.v s] w fun e w'=>e = .returned (.bool true)∧Below w.heap.size w w':=by
 have HB0:=hd_ (z5b (w:=w) (bI x s))
 go_enter Tryz.func101,Tryz.ntmps101
 go_upto_region 1 with fail
 change Code.wp _ _ _ _ (w.alloc (bI x s))
 generalize w.alloc (bI x s) = w0 at *
 go_wp2_with fail
 go_ret
 exact ⟨rfl,HB0.out⟩
theorem x6f (x:Inp) (s:Slc) (w:World) :
 Calls Tryz.prog 97 #[x.v s] w fun e w'=>e = .returned (.bool (inB x.sts.st 0 3 && inB x.sts.frm 0 1439))∧Below w.heap.size w w':=by
 have hb0:=z5b (w:=w) (bI x s)
 have hc:=z6a w (bI x s) 41 (x.cells s) rfl
 have c0:_ = some (Value.int .i64 x.sts.st):=hc.cell 23
 have c1:_ = some (Value.int .i64 x.sts.frm):=hc.cell 24
 have H1:=hd_ (fun W=>z1f x.sts.st 0 3 W);have H2:=hd_ (fun W=>z1f x.sts.frm 0 1439 W)
 obtain ⟨b1,h1⟩:∃ b,inB x.sts.st 0 3 = b:=⟨_,rfl⟩
 obtain ⟨b2,h2⟩:∃ b,inB x.sts.frm 0 1439 = b:=⟨_,rfl⟩
 rw [h1] at H1;rw [h2] at H2;rw [h1,h2]
 have HB0:=hd_ hb0
 clear hc h1 h2 hb0
 go_enter Tryz.func97,Tryz.ntmps97
 go_upto_region 1 with fail
 change Code.wp _ _ _ _ (w.alloc (bI x s))
 generalize w.alloc (bI x s) = w0 at *
 cases b1 <;> cases b2 <;> (
  go_wp2_with (first
   | (go_at_call 34;refine (H1.out w0).mono ?_;go_loud (rintro e w' ⟨rfl,rfl⟩;clear H1))
   | (go_at_call 34;refine (H2.out w0).mono ?_;go_loud (rintro e w' ⟨rfl,rfl⟩;clear H2)))
  go_ret
  exact ⟨rfl,HB0.out⟩)
theorem x4s (x y:Inp) (s sy:Slc) (g:Nat) (w:World) (hg:CB w g 41 (y.cells sy)) :
 Calls Tryz.prog 100 #[.pointer (some ⟨g,0,none⟩),x.v s] w fun e w'=>z7h w g y sy e w':=by
 have HG:=hd_ hg
 clear hg
 go_enter Tryz.func100,Tryz.ntmps100
 go_wp2_with fail
 refine bodyPost_end (results_none rfl _ _ _) rfl ?_
 exact ⟨⟨_,rfl⟩,HG.out.alloc _,World.grownBy_alloc w _ _⟩
def j0t:List Value:=[Value.nilFunc,Value.nilFunc,Value.func (Fn.func 80) #[] #[],Value.func (Fn.func 81) #[] #[],Value.func (Fn.func 82) #[] #[],Value.func (Fn.func 83) #[] #[],Value.func (Fn.func 84) #[] #[],Value.func (Fn.func 85) #[] #[],Value.func (Fn.func 87) #[] #[],Value.func (Fn.func 88) #[] #[],Value.func (Fn.func 89) #[] #[],Value.func (Fn.func 90) #[] #[],Value.func (Fn.func 91) #[] #[],Value.func (Fn.func 92) #[] #[],Value.func (Fn.func 94) #[] #[],Value.func (Fn.func 95) #[] #[],Value.func (Fn.func 96) #[] #[],Value.func (Fn.func 97) #[] #[],Value.func (Fn.func 98) #[] #[],Value.func (Fn.func 99) #[] #[],Value.func (Fn.func 100) #[] #[],Value.func (Fn.func 101) #[] #[]]
theorem y9w (w:World):Calls Tryz.prog 33 #[] w fun e w'=>e = .returned (.slice (some ⟨w.heap.size,0,none⟩) 11 11)∧CB w' w.heap.size 76 j0t∧Below w.heap.size w w':=by
 go_enter Tryz.func33,Tryz.ntmps33
 go_wp2_with fail
 go_ret
 exact ⟨rfl,CB.new w _ j0t,z5b _⟩
def j0z:Flt:=⟨0,0,0,ByteArray.empty,[],0,0,false⟩
def rpZ:Rp:=⟨0,0,0,0,ByteArray.empty,0⟩
def z0e (x:Inp):Inp:={ x with text:=ByteArray.empty,flt:=j0z,tree:=[],chg:=⟨0,0,[]⟩,rep:=rpZ,sts:=⟨0,0,false⟩,n:=0,stn:=⟨[],0,0⟩ }
def z1g:Slc:=⟨.slice none 0 0,.slice none 0 0,.slice none 0 0,.slice none 0 0⟩
def z4i (x:Inp):Inp :=
 if x.kind = 1 then { z0e x with text:=x.text } else if x.kind = 2 then { z0e x with stn:=x.stn } else if x.kind = 3 then { z0e x with flt:=x.flt }
 else if x.kind = 4 then { z0e x with tree:=x.tree } else if x.kind = 5 then { z0e x with n:=x.n } else if x.kind = 6 then { z0e x with chg:=x.chg }
 else if x.kind = 7 then { z0e x with rep:=x.rep } else if x.kind = 8 then { z0e x with sts:=x.sts } else if x.kind = 9 then { z0e x with n:=x.n } else z0e x
def z6q (x:Inp):Bool :=
 if x.kind = 1 then decide (x.text.size ≤ 65536) else if x.kind = 2 then x4k 64 x.stn.vols x.stn.sh x.stn.fa else if x.kind = 3 then y2w x.flt
 else if x.kind = 4 then z5n x.tree else if x.kind = 5 then inB x.n 0 31 else if x.kind = 6 then x0m x.chg
 else if x.kind = 7 then x0y 4 3 x.rep else if x.kind = 8 then inB x.sts.st 0 3 && inB x.sts.frm 0 1439 else if x.kind = 9 then inB x.n 0 1048576 else true
def y9d (x:Inp):Bool:=inB x.mi 0 1439 && inB x.ce 0 3 && inB x.no 1 1048576
def okI (x:Inp):Bool:=y9d x && inB x.kind 1 10 && decide (z4i x = x) && z6q x
def stC (x:Inp):List Value:=[.int .i64 x.mi,.int .i64 x.ce,.int .i64 x.no]
theorem x7f (x:Inp):∀ u ∈ stC x,u.oneCell' = true:=by
 intro u hu
 simp only [stC,mC,nM,or_false] at hu
 rcases hu with rfl | rfl | rfl <;> rfl
theorem y0e {w:World} {g:Nat} {x:Inp} {s:Slc} (h:CB w g 41 (x.cells s)):w.rangeAt g 0 (stC x):=fun j v hv=>by
 rw [h.cell]
 exact z2d (B:=stC x) 0 (by rfl) j v hv
theorem x3m {w:World} {g:Nat} {x:Inp} {s:Slc} (h:CB w g 41 (x.cells s)):w.rangeAt g 30 [.int .i64 x.sr,.int .i64 x.ss]:=fun j v hv=>by
 rw [h.cell]
 exact z2d (B:=[.int .i64 x.sr,.int .i64 x.ss]) 30 (by rfl) j v hv
theorem y4o {w:World} {x:Inp} {s:Slc} (h:InpR w x s):SlcS s:=by
 obtain ⟨a1,b1,c1,_⟩:=h.ways.shape
 obtain ⟨a2,b2,c2,_⟩:=h.tree.shape
 obtain ⟨a3,b3,c3,_⟩:=h.modes.shape
 obtain ⟨a4,b4,c4,_⟩:=h.vols.shape
 exact ⟨⟨_,_,_,c1⟩,⟨_,_,_,c2⟩,⟨_,_,_,c3⟩,⟨_,_,_,c4⟩⟩
def StT (x:Inp) (s:Slc) (w w0:World) (v3 v4:Value) (wx:World):Prop :=
 ∃ g3 gT:Nat,v3 = .pointer (some ⟨g3,0,none⟩)∧v4 = .slice (some ⟨gT,0,none⟩) 11 11∧CB wx g3 23 (stC x)∧CB wx gT 76 j0t∧CB wx w.heap.size 41 (x.cells s)∧w.heap.size < g3∧w.heap.size < gT∧g3 ≠ gT∧w0.heap.size ≤ g3∧w0.heap.size ≤ gT∧Below w0.heap.size w0 wx
def j1t (x:Inp) (w:World) (e:Ending) (w':World):Prop:=e = .returned (.int .i64 (if okI x then 0 else 490))∧Below w.heap.size w w'
def ZIc:List Value:=(⟨0,0,0,0,ByteArray.empty,j0z,[],⟨0,0,[]⟩,rpZ,⟨0,0,false⟩,0,⟨[],0,0⟩,0,0⟩:Inp).cells z1g
def ZI:Obj:=.cells ZIc.toArray 41
theorem z4l {x:Inp} {w w':World} (h:okI x = false) (hb:Below w.heap.size w w'):j1t x w (.returned (.int .i64 490)) w':=⟨by rw [h];rfl,hb⟩
theorem j2d {x:Inp} {w w':World} (h:okI x = true) (hb:Below w.heap.size w w'):j1t x w (.returned (.int .i64 0)) w':=⟨by rw [h];rfl,hb⟩
theorem y8j (x:Inp):Tryz.prog.built 41 [(0,.agg (stC x).toArray),(1,.int .i64 x.kind),(10,.agg #[.int .i64 x.sr,.int .i64 x.ss])] = some ((z0e x).cells z1g).toArray:=by
 kernel_rfl
end Go.Proofs.YtdblnbnofjggnaaGreatDoor
