/- Parts of the proofs of chapter 49's laws: Jck. -/
import Derived.Test.YtdblnbnofjggnaaGreatDoorM33
set_option maxHeartbeats 8000000
set_option maxRecDepth 100000
open Go
open Lib renaming hid → hd_
namespace Go.Proofs.YtdblnbnofjggnaaGreatDoor
open Go.RowKit
structure KindD (x:Inp) (s:Slc) (k:Nat) (fk fv:FuncId) (U:Inp) (SU:Slc) (vb:Bool):Prop where
 kind:x.kind = (k:Int)
 lo:1 ≤ k
 hi:k < 11
 t0:j0t[k * 2]? = some (Value.func (Fn.func fk) #[] #[])
 t1:j0t[k * 2 + 1]? = some (Value.func (Fn.func fv) #[] #[])
 c0:∀ args W,(callFunc fk args).run Tryz.prog W = .ok (.enter fk args) W
 c1:∀ args W,(callFunc fv args).run Tryz.prog W = .ok (.enter fv args) W
 keep:∀ g W,CB W g 41 ((z0e x).cells z1g)→Calls Tryz.prog fk #[.pointer (some ⟨g,0,none⟩),x.v s] W fun e w'=>z7h W g U SU e w'
 val:∀ W,InpR W x s→Calls Tryz.prog fv #[x.v s] W fun e w'=>e = .returned (.bool vb)∧Below W.heap.size W w'
 urep:∀ W,InpR W x s→InpR W U SU
 ok:y9d x = true→okI x = (decide (U = x) && vb)
theorem j3d (x:Inp) (s:Slc) (w:World) (hx:InpR w x s) (h1:x.text.size ≤ 9223372036854775807) (h2:x.flt.call.size ≤ 9223372036854775807) (h3:x.rep.cl.size ≤ 9223372036854775807) (hk:inB x.kind 1 10 = true):∃ k fk fv U SU vb,KindD x s k fk fv U SU vb:=by
 have hss:=y4o hx
 unfold inB at hk
 simp only [Bool.and_eq_true,decide_eq_true_eq] at hk
 have:x.kind = 1∨x.kind = 2∨x.kind = 3∨x.kind = 4∨x.kind = 5∨x.kind = 6∨x.kind = 7∨x.kind = 8∨x.kind = 9∨x.kind = 10:=by omega
 rcases this with h | h | h | h | h | h | h | h | h | h
 · exact ⟨1,_,_,_,_,_,h,by decide,by decide,rfl,rfl,by intros;kernel_rfl,by intros;kernel_rfl,fun g W hg=>j6c x (z0e x) s z1g hss g W hg,fun W hr=>x3s x s W h1,fun W hr=>⟨z9f.nil _ _ _ _,z6j.nil _ _ _,z9f.nil _ _ _ _,z9f.nil _ _ _ _⟩,fun hs=>by unfold okI z4i z6q;rw [hs];simp [h,show inB (1:Int) 1 10 = true from rfl]⟩
 · exact ⟨2,_,_,_,_,_,h,by decide,by decide,rfl,rfl,by intros;kernel_rfl,by intros;kernel_rfl,fun g W hg=>j9c x (z0e x) s z1g hss g W hg,fun W hr=>x0s x s W hr,fun W hr=>⟨z9f.nil _ _ _ _,z6j.nil _ _ _,z9f.nil _ _ _ _,hr.vols⟩,fun hs=>by unfold okI z4i z6q;rw [hs];simp [h,show inB (2:Int) 1 10 = true from rfl]⟩
 · exact ⟨3,_,_,_,_,_,h,by decide,by decide,rfl,rfl,by intros;kernel_rfl,by intros;kernel_rfl,fun g W hg=>j0d x (z0e x) s z1g hss g W hg,fun W hr=>x1s x s W hr h2,fun W hr=>⟨hr.ways,z6j.nil _ _ _,z9f.nil _ _ _ _,z9f.nil _ _ _ _⟩,fun hs=>by unfold okI z4i z6q;rw [hs];simp [h,show inB (3:Int) 1 10 = true from rfl]⟩
 · exact ⟨4,_,_,_,_,_,h,by decide,by decide,rfl,rfl,by intros;kernel_rfl,by intros;kernel_rfl,fun g W hg=>j7c x (z0e x) s z1g hss g W hg,fun W hr=>x2s x s W hr,fun W hr=>⟨z9f.nil _ _ _ _,hr.tree,z9f.nil _ _ _ _,z9f.nil _ _ _ _⟩,fun hs=>by unfold okI z4i z6q;rw [hs];simp [h,show inB (4:Int) 1 10 = true from rfl]⟩
 · exact ⟨5,_,_,_,_,_,h,by decide,by decide,rfl,rfl,by intros;kernel_rfl,by intros;kernel_rfl,fun g W hg=>j8c x (z0e x) s z1g hss g W hg,fun W hr=>x3f x s W hr,fun W hr=>⟨z9f.nil _ _ _ _,z6j.nil _ _ _,z9f.nil _ _ _ _,z9f.nil _ _ _ _⟩,fun hs=>by unfold okI z4i z6q;rw [hs];simp [h,show inB (5:Int) 1 10 = true from rfl]⟩
 · exact ⟨6,_,_,_,_,_,h,by decide,by decide,rfl,rfl,by intros;kernel_rfl,by intros;kernel_rfl,fun g W hg=>x7r x (z0e x) s z1g hss g W hg,fun W hr=>x1f x s W hr,fun W hr=>⟨z9f.nil _ _ _ _,z6j.nil _ _ _,hr.modes,z9f.nil _ _ _ _⟩,fun hs=>by unfold okI z4i z6q;rw [hs];simp [h,show inB (6:Int) 1 10 = true from rfl]⟩
 · exact ⟨7,_,_,_,_,_,h,by decide,by decide,rfl,rfl,by intros;kernel_rfl,by intros;kernel_rfl,fun g W hg=>x8r x (z0e x) s z1g hss g W hg,fun W hr=>x2f x s W hr h3,fun W hr=>⟨z9f.nil _ _ _ _,z6j.nil _ _ _,z9f.nil _ _ _ _,z9f.nil _ _ _ _⟩,fun hs=>by unfold okI z4i z6q;rw [hs];simp [h,show inB (7:Int) 1 10 = true from rfl]⟩
 · exact ⟨8,_,_,_,_,_,h,by decide,by decide,rfl,rfl,by intros;kernel_rfl,by intros;kernel_rfl,fun g W hg=>x9r x (z0e x) s z1g hss g W hg,fun W hr=>x6f x s W,fun W hr=>⟨z9f.nil _ _ _ _,z6j.nil _ _ _,z9f.nil _ _ _ _,z9f.nil _ _ _ _⟩,fun hs=>by unfold okI z4i z6q;rw [hs];simp [h,show inB (8:Int) 1 10 = true from rfl]⟩
 · exact ⟨9,_,_,_,_,_,h,by decide,by decide,rfl,rfl,by intros;kernel_rfl,by intros;kernel_rfl,fun g W hg=>x6r x (z0e x) s z1g hss g W hg,fun W hr=>x4f x s W hr,fun W hr=>⟨z9f.nil _ _ _ _,z6j.nil _ _ _,z9f.nil _ _ _ _,z9f.nil _ _ _ _⟩,fun hs=>by unfold okI z4i z6q;rw [hs];simp [h,show inB (9:Int) 1 10 = true from rfl]⟩
 · exact ⟨10,_,_,_,_,_,h,by decide,by decide,rfl,rfl,by intros;kernel_rfl,by intros;kernel_rfl,fun g W hg=>x4s x (z0e x) s z1g g W hg,fun W hr=>x5f x s W,fun W hr=>⟨z9f.nil _ _ _ _,z6j.nil _ _ _,z9f.nil _ _ _ _,z9f.nil _ _ _ _⟩,fun hs=>by unfold okI z4i z6q;rw [hs];simp [h,show inB (10:Int) 1 10 = true from rfl]⟩
theorem z7i (x:Inp) (s:Slc) (w:World) (hx:InpR w x s) (h1:x.text.size ≤ 9223372036854775807) (h2:x.flt.call.size ≤ 9223372036854775807) (h3:x.rep.cl.size ≤ 9223372036854775807):Calls Tryz.prog 13 #[x.v s] w (j1t x w):=by
 have HKD:=hd_ (j3d x s w hx h1 h2 h3)
 clear h1 h2 h3
 have H1:=hd_ (fun W=>z1f x.mi 0 1439 W);have H2:=hd_ (fun W=>z1f x.ce 0 3 W);have H3':=hd_ (fun W=>z1f x.no 1 1048576 W);have H4:=hd_ (fun W=>z1f x.kind 1 10 W)
 have hn:okI x = (y9d x && inB x.kind 1 10 && okI x):=by unfold okI;cases y9d x <;> cases inB x.kind 1 10 <;> rfl
 have hst:y9d x = (inB x.mi 0 1439 && inB x.ce 0 3 && inB x.no 1 1048576):=rfl
 obtain ⟨b1,g1⟩:∃ b,inB x.mi 0 1439 = b:=⟨_,rfl⟩
 obtain ⟨b2,g2⟩:∃ b,inB x.ce 0 3 = b:=⟨_,rfl⟩
 obtain ⟨b3,g3⟩:∃ b,inB x.no 1 1048576 = b:=⟨_,rfl⟩
 obtain ⟨b4,g4⟩:∃ b,inB x.kind 1 10 = b:=⟨_,rfl⟩
 rw [g1] at H1;rw [g2] at H2;rw [g3] at H3';rw [g4] at H4 HKD;rw [g1,g2,g3] at hst;rw [hst,g4] at hn
 have HN:=hd_ hn;have HSt:=hd_ hst
 clear g1 g2 g3 g4 hn hst
 have hcx:=z6a w (bI x s) 41 (x.cells s) rfl
 have HB0:=hd_ (z5b (w:=w) (bI x s));have HI0:=hd_ hcx;have HXR:=hd_ hx
 clear hcx hx
 change Calls Tryz.prog 13 #[.agg (x.cells s).toArray] w _
 go_enter Tryz.func13,Tryz.ntmps13
 go_upto_region 1 with fail
 change Code.wp _ _ _ _ (w.alloc (bI x s))
 have HZ0:Hid (w.heap.size ≤ (w.alloc (bI x s)).heap.size):=HB0.out.size
 generalize w.alloc (bI x s) = w0 at *
 go_cut [3,4] (fun v3 v4 wx=>StT x s w w0 v3 v4 wx)
 case first =>
  have HBd:Hid (Below w0.heap.size w0 w0.drew):=(Below.refl w0.heap.size w0).drew
  have HId:Hid (CB w0.drew w.heap.size 41 (x.cells s)):=HI0.out.ext HBd.out
  refine wp_region_held_drew (S:=fun w'=>CB w' w.heap.size 41 (x.cells s)) (by kernel_rfl) HId.out (fun hHeld=>?_)
  have HBW:=HBd;have HIW:=HId
  clear HBd HId HB0 HI0 HXR
  generalize w0.drew = wd at *
  refine tkH (some 6) 0 ?_
  refine x5j (some 7) 1 rfl (.agg (stC x).toArray) (yieldsIf_load_mid (by rfl) 23 _ rfl w.heap.size 0 rfl (stC x) _ (fun wS hSw=>y0e hSw) Tryz.underlying23 rfl (by kernel_rfl)) ?_
  refine wpAnyH_ready (rs:=[2,3]) (by kernel_rfl) (by simp) ?_
  refine AllReadyH.cons rfl (fun K hK=>?_) (AllReadyH.cons rfl (fun K hK=>?_) AllReadyH.nil)
  · go_simp
    go_at_call 33
    refine (y9w wd).mono ?_
    rintro e w7 ⟨rfl,hT,hb⟩
    have HTh:Hid (w0.heap.size ≤ wd.heap.size):=HBW.out.size
    have HT:=hd_ hT
    have HTg:Hid (w.heap.size < wd.heap.size):=HIW.out.lt
    replace HIW:=hd_ (HIW.out.ext hb)
    replace HBW:=hd_ (z0a HBW.out hb)
    clear hT hb
    have HTl:Hid (wd.heap.size < w7.heap.size):=HT.out.lt
    generalize wd.heap.size = T at *
    refine goK hK HIW.out fun hHeld=>?_
    clear hK K
    refine rdH 3 fun K hK=>?_
    go_simp
    change K _ (w7.alloc (.cells #[.int .i64 0,.int .i64 0,.int .i64 0] 23))
    have HE:Hid (CB (w7.alloc (.cells #[.int .i64 0,.int .i64 0,.int .i64 0] 23)) w7.heap.size 23 [.int .i64 0,.int .i64 0,.int .i64 0]):=z6a w7 _ _ _ rfl
    replace HT:=hd_ (HT.out.alloc (.cells #[.int .i64 0,.int .i64 0,.int .i64 0] 23))
    have Hne:Hid (w7.heap.size ≠ T):=Ne.symm (Nat.ne_of_lt HTl.out)
    have HEg:Hid (w.heap.size < w7.heap.size):=HIW.out.lt
    have HEh:Hid (w0.heap.size ≤ w7.heap.size):=HBW.out.size
    replace HIW:=hd_ (HIW.out.alloc (.cells #[.int .i64 0,.int .i64 0,.int .i64 0] 23))
    replace HBW:=hd_ (z0a HBW.out (z5b (w:=w7) (.cells #[.int .i64 0,.int .i64 0,.int .i64 0] 23)))
    generalize w7.alloc (.cells #[.int .i64 0,.int .i64 0,.int .i64 0] 23) = w8 at *
    generalize w7.heap.size = E at *
    refine goK hK HIW.out fun hHeld=>?_
    clear hK K
    refine rdH 4 fun K hK=>?_
    refine z8c (by rfl) 23 (.tmp 3) (.tmp 7) rfl E (stC x) rfl rfl 23 _ HE.out rfl (by kernel_rfl) (x7f x) ?_
    intro w9 hc9 hg9 hz9
    have HT9:=hd_ (HT.out.keep (hg9.out.block _ HT.out.lt (fun e=>by injection e with e;first | exact Hne.out e | exact Hne.out e.symm)))
    have HI9:=hd_ (HIW.out.keep (hg9.out.block _ HIW.out.lt (fun e=>by injection e with e;have:=HEg.out;omega)))
    have HB9:=hd_ (HBW.out.grown hg9.out HBW.out.size (fun k hk=>by injection hk with hk;have:=HEh.out;omega))
    have HE9:=hc9
    clear hc9 hg9 hz9 HT HIW HBW HE
    refine goK hK HI9.out fun hHeld=>?_
    clear hK K
    refine tkH (some 4) 5 ?_
    refine wpAnyH_done (by kernel_rfl) ?_ _
    go_wp2_with fail
    go_meet
    case rel=>exact ⟨E,T,rfl,rfl,HE9.out,HT9.out,HI9.out,HEg.out,HTg.out,Hne.out,HEh.out,HTh.out,HB9.out⟩
  · go_simp
    change K _ (wd.alloc (.cells #[.int .i64 0,.int .i64 0,.int .i64 0] 23))
    have HE:Hid (CB (wd.alloc (.cells #[.int .i64 0,.int .i64 0,.int .i64 0] 23)) wd.heap.size 23 [.int .i64 0,.int .i64 0,.int .i64 0]):=z6a wd _ _ _ rfl
    have HEg:Hid (w.heap.size < wd.heap.size):=HIW.out.lt
    have HEh:Hid (w0.heap.size ≤ wd.heap.size):=HBW.out.size
    replace HIW:=hd_ (HIW.out.alloc (.cells #[.int .i64 0,.int .i64 0,.int .i64 0] 23))
    replace HBW:=hd_ (z0a HBW.out (z5b (w:=wd) (.cells #[.int .i64 0,.int .i64 0,.int .i64 0] 23)))
    generalize wd.alloc (.cells #[.int .i64 0,.int .i64 0,.int .i64 0] 23) = w7 at *
    generalize wd.heap.size = E at *
    refine goK hK HIW.out fun hHeld=>?_
    clear hK K
    refine rdH 2 fun K hK=>?_
    go_simp
    go_at_call 33
    refine (y9w w7).mono ?_
    rintro e w8 ⟨rfl,hT,hb⟩
    have HTh:Hid (w0.heap.size ≤ w7.heap.size):=HBW.out.size
    have HT:=hd_ hT
    have HTg:Hid (w.heap.size < w7.heap.size):=HIW.out.lt
    have Hne:Hid (E ≠ w7.heap.size):=Nat.ne_of_lt HE.out.lt
    replace HE:=hd_ (HE.out.ext hb)
    replace HIW:=hd_ (HIW.out.ext hb)
    replace HBW:=hd_ (z0a HBW.out hb)
    clear hT hb
    have HTl:Hid (w7.heap.size < w8.heap.size):=HT.out.lt
    generalize w7.heap.size = T at *
    refine goK hK HIW.out fun hHeld=>?_
    clear hK K
    refine rdH 4 fun K hK=>?_
    refine z8c (by rfl) 23 (.tmp 3) (.tmp 7) rfl E (stC x) rfl rfl 23 _ HE.out rfl (by kernel_rfl) (x7f x) ?_
    intro w9 hc9 hg9 hz9
    have HT9:=hd_ (HT.out.keep (hg9.out.block _ HT.out.lt (fun e=>by injection e with e;first | exact Hne.out e | exact Hne.out e.symm)))
    have HI9:=hd_ (HIW.out.keep (hg9.out.block _ HIW.out.lt (fun e=>by injection e with e;have:=HEg.out;omega)))
    have HB9:=hd_ (HBW.out.grown hg9.out HBW.out.size (fun k hk=>by injection hk with hk;have:=HEh.out;omega))
    have HE9:=hc9
    clear hc9 hg9 hz9 HT HIW HBW HE
    refine goK hK HI9.out fun hHeld=>?_
    clear hK K
    refine tkH (some 4) 5 ?_
    refine wpAnyH_done (by kernel_rfl) ?_ _
    go_wp2_with fail
    go_meet
    case rel=>exact ⟨E,T,rfl,rfl,HE9.out,HT9.out,HI9.out,HEg.out,HTg.out,Hne.out,HEh.out,HTh.out,HB9.out⟩
 case rest =>
 obtain ⟨g3,gT,rfl,rfl,h3,hT,hI,hl3,hlT,hne,hz3,hzT,hbx⟩:=hcut
 have HB1:=hd_ (z0a HB0.out hbx);have HI1:=hd_ hI;have H3:=hd_ h3;have HT:=hd_ hT;have HL3:=hd_ hl3;have HLT:=hd_ hlT;have HNE:=hd_ hne
 have c0:_ = some (Value.int .i64 x.mi):=h3.cell 0
 have c1:_ = some (Value.int .i64 x.ce):=h3.cell 1
 have c2:_ = some (Value.int .i64 x.no):=h3.cell 2
 have c3:_ = some (Value.int .i64 x.kind):=hI.cell 3
 clear h3 hT hI hl3 hlT hne hz3 hzT hbx HB0 HI0 HZ0
 generalize wc = w1 at *
 rcases b1 with _ | _
 · go_wp2_with (first
   | (go_at_call 34;refine (H1.out w1).mono ?_;go_loud (rintro e w' ⟨rfl,rfl⟩;clear H1))
   | (go_at_call 34;refine (H2.out w1).mono ?_;go_loud (rintro e w' ⟨rfl,rfl⟩;clear H2))
   | (go_at_call 34;refine (H3'.out w1).mono ?_;go_loud (rintro e w' ⟨rfl,rfl⟩;clear H3'))
   | (go_at_call 34;refine (H4.out w1).mono ?_;go_loud (rintro e w' ⟨rfl,rfl⟩;clear H4)))
   go_ret
   exact z4l (by rw [HN.out];simp) HB1.out
 rcases b2 with _ | _
 · go_wp2_with (first
   | (go_at_call 34;refine (H1.out w1).mono ?_;go_loud (rintro e w' ⟨rfl,rfl⟩;clear H1))
   | (go_at_call 34;refine (H2.out w1).mono ?_;go_loud (rintro e w' ⟨rfl,rfl⟩;clear H2))
   | (go_at_call 34;refine (H3'.out w1).mono ?_;go_loud (rintro e w' ⟨rfl,rfl⟩;clear H3'))
   | (go_at_call 34;refine (H4.out w1).mono ?_;go_loud (rintro e w' ⟨rfl,rfl⟩;clear H4)))
   go_ret
   exact z4l (by rw [HN.out];simp) HB1.out
 rcases b3 with _ | _
 · go_wp2_with (first
   | (go_at_call 34;refine (H1.out w1).mono ?_;go_loud (rintro e w' ⟨rfl,rfl⟩;clear H1))
   | (go_at_call 34;refine (H2.out w1).mono ?_;go_loud (rintro e w' ⟨rfl,rfl⟩;clear H2))
   | (go_at_call 34;refine (H3'.out w1).mono ?_;go_loud (rintro e w' ⟨rfl,rfl⟩;clear H3'))
   | (go_at_call 34;refine (H4.out w1).mono ?_;go_loud (rintro e w' ⟨rfl,rfl⟩;clear H4)))
   go_ret
   exact z4l (by rw [HN.out];simp) HB1.out
 rcases b4 with _ | _
 · go_wp2_with (first
   | (go_at_call 34;refine (H1.out w1).mono ?_;go_loud (rintro e w' ⟨rfl,rfl⟩;clear H1))
   | (go_at_call 34;refine (H2.out w1).mono ?_;go_loud (rintro e w' ⟨rfl,rfl⟩;clear H2))
   | (go_at_call 34;refine (H3'.out w1).mono ?_;go_loud (rintro e w' ⟨rfl,rfl⟩;clear H3'))
   | (go_at_call 34;refine (H4.out w1).mono ?_;go_loud (rintro e w' ⟨rfl,rfl⟩;clear H4)))
   go_ret
   exact z4l (by rw [HN.out];simp) HB1.out
 obtain ⟨k,fk,fv,U,SU,vb,hkd⟩:=HKD.out rfl
 have HK:Hid (x.kind = (k:Int)):=hd_ hkd.kind
 have HD:=hd_ hkd
 have HOk:Hid (okI x = (decide (U = x) && vb)):=hkd.ok HSt.out
 have HSO:Hid (∀ u ∈ (z0e x).cells z1g,u.oneCell' = true):=by
  have h:=z2u (z0e x) z1g none none none none 0 0 0 0 0 0 0 0 rfl rfl rfl rfl
  exact fun u hu=>Array.all_eq_true_iff_forall_mem.1 h u (by simpa using hu)
 have HLo:Hid (1 ≤ k):=hd_ hkd.lo
 have HHi:Hid (k < 11):=hd_ hkd.hi
 obtain ⟨db,hdb⟩:∃ b:Bool,decide (U = x) = b:=⟨_,rfl⟩
 rw [hdb] at HOk
 have HDb:=hd_ hdb
 clear hdb hkd HKD HN HSt
 rw [HK.out] at c3 H4
 go_upto_region 4 with (first
  | (go_at_call 34;refine (H1.out w1).mono ?_;go_loud (rintro e w' ⟨rfl,rfl⟩;clear H1))
  | (go_at_call 34;refine (H2.out w1).mono ?_;go_loud (rintro e w' ⟨rfl,rfl⟩;clear H2))
  | (go_at_call 34;refine (H3'.out w1).mono ?_;go_loud (rintro e w' ⟨rfl,rfl⟩;clear H3'))
  | (go_at_call 34;refine (H4.out w1).mono ?_;go_loud (rintro e w' ⟨rfl,rfl⟩;clear H4)))
 clear c0 c1 c2
 have HR3:Hid (w1.rangeAt g3 0 (stC x)):=z1d H3.out
 have HRs:Hid (w1.rangeAt w.heap.size 30 [.int .i64 x.sr,.int .i64 x.ss]):=x3m HI1.out
 have HBu:Hid (Tryz.prog.built 41 [(0,.agg (stC x).toArray),(1,.int .i64 (k:Int)),(10,.agg #[.int .i64 x.sr,.int .i64 x.ss])] = some ((z0e x).cells z1g).toArray):=by
  have:=y8j x;rw [HK.out] at this;exact this
 have h5c:=z6a w1 ZI 41 ZIc rfl
 have H5g:Hid (w.heap.size < w1.heap.size):=HI1.out.lt
 have H5T:Hid (gT ≠ w1.heap.size):=Nat.ne_of_lt HT.out.lt
 have H5c:=hd_ h5c
 clear h5c
 go_upto_region 5 with (first
  | (have _g:=HR3.out;refine z7a (by rfl) 23 (.tmp 3) rfl g3 0 rfl (stC x) _ HR3.out Tryz.underlying23 rfl (by kernel_rfl) ?_;clear HR3)
  | (have _g:=HRs.out;refine z7a (by rfl) 39 (.tmp 37) rfl w.heap.size 30 rfl [.int .i64 x.sr,.int .i64 x.ss] _ HRs.out Tryz.underlying39 rfl (by kernel_rfl) ?_;clear HRs)
  | (have _g:=HBu.out;refine z7c (by rfl) 41 #[(0,.tmp 34),(1,.tmp 36),(10,.tmp 38)] rfl ((z0e x).cells z1g) [(0,.agg (stC x).toArray),(1,.int .i64 (k:Int)),(10,.agg #[.int .i64 x.sr,.int .i64 x.ss])] rfl HBu.out ?_;clear HBu)
  | (have _g:=HSO.out;refine z4a rfl 41 (.tmp 5) (.tmp 39) rfl w1.heap.size ((z0e x).cells z1g) rfl rfl 41 ZIc H5c.out (by rfl) (by kernel_rfl) HSO.out (fun w2 HC2 HW2 HZ2=>?_);clear HSO))
 have HI3:Hid (CB w2 w.heap.size 41 (x.cells s)):=(HI1.out.alloc ZI).keep (HW2.out.block _ (by rw [World.size_alloc];have:=H5g.out;omega) (fun e=>by injection e with e;have:=H5g.out;omega))
 have HT3:Hid (CB w2 gT 76 j0t):=(HT.out.alloc ZI).keep (HW2.out.block _ (HT.out.alloc ZI).lt (fun e=>by injection e with e;exact H5T.out e))
 have HB3:Hid (Below w.heap.size w w2):=(z0a HB1.out (z5b (w:=w1) ZI)).grown HW2.out (z0a HB1.out (z5b (w:=w1) ZI)).size (fun k hk=>by injection hk with hk;have:=H5g.out;omega)
 have H5:=HC2
 clear HC2 HW2 HZ2 H5c HI1 HT HB1 H3 HNE HL3 c3
 generalize w1.heap.size = g5 at *
 refine wp_region_noPanic ?_
 refine wp_region_held_drew (S:=fun w'=>CB w' w.heap.size 41 (x.cells s)∧CB w' gT 76 j0t) (by kernel_rfl) ⟨HI3.out.ext (Below.refl w2.heap.size w2).drew,HT3.out.ext (Below.refl w2.heap.size w2).drew⟩ (fun hHeld=>?_)
 replace HI3:=hd_ (HI3.out.ext (Below.refl w2.heap.size w2).drew);replace HT3:=hd_ (HT3.out.ext (Below.refl w2.heap.size w2).drew);replace H5:=hd_ (H5.out.ext (Below.refl w2.heap.size w2).drew);replace HB3:=hd_ (HB3.out.drew)
 generalize w2.drew = W5 at *
 refine tkH (some 40) 0 ?_
 refine tkH (some 41) 1 ?_
 refine tkH (some 42) 2 ?_ (hy:=fun wS hSw=>by have e3:wS.cell? ⟨w.heap.size,3,none⟩ = some (.int .i64 (k:Int)):=(by rw [← HK.out];exact hSw.1.cell 3);go_simp;first | done | with_reducible rfl)
 refine tkH (some 43) 3 ?_ (hy:=fun wS hSw=>by have hhi:(k:Int) < 11:=(by have:=HHi.out;omega);go_simp;first | done | with_reducible rfl)
 refine tkH (some 44) 4 ?_ (hy:=fun wS hSw=>by have hhi:(k:Int) < 11:=(by have:=HHi.out;omega);go_simp;first | done | with_reducible rfl)
 refine tkH (some 45) 5 ?_ (hy:=fun wS hSw=>by have e4:wS.cell? ⟨gT,k * 2,none⟩ = some (.func (Fn.func fk) #[] #[]):=(hSw.2.cell _).trans HD.out.t0;go_simp;first | done | with_reducible rfl)
 refine x5j (some 46) 6 rfl (.agg (x.cells s).toArray) (yieldsIf_load_mid (by rfl) 41 _ rfl w.heap.size 0 rfl (x.cells s) _ (fun wS hSw=>z1d hSw.1) Tryz.underlying41 rfl (by kernel_rfl)) ?_
 refine rdH 7 fun K hK=>?_
 go_simp
 rw [HD.out.c0,Oper.upon_enter]
 refine (HD.out.keep g5 W5 H5.out).mono ?_
 rintro e w4 ⟨⟨v,rfl⟩,hc4,hg4⟩
 have HC4:Hid (CB w4 g5 41 (U.cells SU)):=hc4
 have HI4:=hd_ (HI3.out.keep (hg4.block _ HI3.out.lt (fun e=>by injection e with e;have:=H5g.out;omega)))
 have HT4:=hd_ (HT3.out.keep (hg4.block _ HT3.out.lt (fun e=>by injection e with e;exact H5T.out e)))
 have HB4:=hd_ (HB3.out.grown hg4 HB3.out.size (fun k hk=>by injection hk with hk;have:=H5g.out;omega))
 clear hc4 hg4 HI3 HT3 HB3 H5
 refine goK hK ⟨HI4.out,HT4.out⟩ fun hHeld=>?_
 clear hK K
 refine wpAnyH_done (by kernel_rfl) ?_ _
 refine NoPanic.normal ?_
 go_upto_region 6 with fail
 have HXR4:Hid (InpR w4 x s):=HXR.out.ext HB4.out
 have HXU:Hid (InpR w4 U SU):=HD.out.urep _ HXR4.out
 clear HXR
 refine wp_region_noPanic ?_
 refine wp_region_held_drew (S:=fun w'=>CB w' w.heap.size 41 (x.cells s)∧CB w' gT 76 j0t∧CB w' g5 41 (U.cells SU)) (by kernel_rfl) ⟨HI4.out.ext (Below.refl w4.heap.size w4).drew,HT4.out.ext (Below.refl w4.heap.size w4).drew,HC4.out.ext (Below.refl w4.heap.size w4).drew⟩ (fun hHeld=>?_)
 have hdr:=(Below.refl w4.heap.size w4).drew
 replace HI4:=hd_ (HI4.out.ext hdr);replace HT4:=hd_ (HT4.out.ext hdr);replace HC4:=hd_ (HC4.out.ext hdr);replace HB4:=hd_ (HB4.out.drew);replace HXR4:=hd_ (HXR4.out.ext hdr);replace HXU:=hd_ (HXU.out.ext hdr)
 clear hdr
 generalize w4.drew = W6 at *
 refine x5j (some 48) 0 rfl (.agg (U.cells SU).toArray) (yieldsIf_load_mid (by rfl) 41 _ rfl g5 0 rfl (U.cells SU) _ (fun wS hSw=>z1d hSw.2.2) Tryz.underlying41 rfl (by kernel_rfl)) ?_
 refine x5j (some 49) 1 rfl (.agg (x.cells s).toArray) (yieldsIf_load_mid (by rfl) 41 _ rfl w.heap.size 0 rfl (x.cells s) _ (fun wS hSw=>z1d hSw.1) Tryz.underlying41 rfl (by kernel_rfl)) ?_
 refine rdH 2 fun K hK=>?_
 go_simp
 go_at_call 15
 refine (x9l U x SU s W6 HXU.out HXR4.out).mono ?_
 rintro e w5 ⟨rfl,hb5⟩
 rw [HDb.out]
 have HI5:=hd_ (HI4.out.ext hb5);have HT5:=hd_ (HT4.out.ext hb5);have HC5:=hd_ (HC4.out.ext hb5);have HB5:=hd_ (z0a HB4.out hb5);have HXR5:=hd_ (HXR4.out.ext hb5)
 clear hb5 HI4 HT4 HC4 HB4 HXR4 HXU
 refine goK hK ⟨HI5.out,HT5.out,HC5.out⟩ fun hHeld=>?_
 clear hK K
 cases db
 case false =>
  refine tkH (some 51) 3 ?_
  refine tkH (some 52) 4 ?_
  refine z7l (some 53) 5 ?_
  refine z7l (some 54) 6 ?_
  refine z7l (some 55) 7 ?_
  refine z7l (some 56) 8 ?_
  refine z7l (some 57) 9 ?_
  refine z7l (some 58) 10 ?_
  refine z7l (some 59) 11 ?_
  refine z7l (some 60) 12 ?_
  refine z7l (some 61) 13 ?_
  refine tkH (some 62) 14 ?_
  refine wpAnyH_done (by kernel_rfl) ?_ _
  refine NoPanic.normal ?_
  go_wp2_with fail
  go_ret
  exact z4l (by rw [HOk.out];rfl) HB5.out
 case true =>
  refine tkH (some 51) 3 ?_
  refine tkH (some 52) 4 ?_
  refine tkH (some 53) 5 ?_
  refine tkH (some 54) 6 ?_
  refine tkH (some 55) 7 ?_ (hy:=fun wS hSw=>by have e3:wS.cell? ⟨w.heap.size,3,none⟩ = some (.int .i64 (k:Int)):=(by rw [← HK.out];exact hSw.1.cell 3);go_simp;first | done | with_reducible rfl)
  refine tkH (some 56) 8 ?_ (hy:=fun wS hSw=>by have hhi:(k:Int) < 11:=(by have:=HHi.out;omega);go_simp;first | done | with_reducible rfl)
  refine tkH (some 57) 9 ?_ (hy:=fun wS hSw=>by have hhi:(k:Int) < 11:=(by have:=HHi.out;omega);go_simp;first | done | with_reducible rfl)
  refine tkH (some 58) 10 ?_ (hy:=fun wS hSw=>by have e4:wS.cell? ⟨gT,k * 2 + 1,none⟩ = some (.func (Fn.func fv) #[] #[]):=(hSw.2.1.cell _).trans HD.out.t1;go_simp;first | done | with_reducible rfl)
  refine x5j (some 59) 11 rfl (.agg (x.cells s).toArray) (yieldsIf_load_mid (by rfl) 41 _ rfl w.heap.size 0 rfl (x.cells s) _ (fun wS hSw=>z1d hSw.1) Tryz.underlying41 rfl (by kernel_rfl)) ?_
  refine rdH 12 fun K hK=>?_
  go_simp
  rw [HD.out.c1,Oper.upon_enter]
  refine (HD.out.val w5 HXR5.out).mono ?_
  rintro e w6 ⟨rfl,hb6⟩
  have HI6:=hd_ (HI5.out.ext hb6);have HT6:=hd_ (HT5.out.ext hb6);have HC6:=hd_ (HC5.out.ext hb6);have HB6:=hd_ (z0a HB5.out hb6)
  clear hb6 HI5 HT5 HC5 HB5 HXR5
  refine goK hK ⟨HI6.out,HT6.out,HC6.out⟩ fun hHeld=>?_
  clear hK K
  refine tkH (some 61) 13 ?_
  refine tkH (some 62) 14 ?_
  refine wpAnyH_done (by kernel_rfl) ?_ _
  refine NoPanic.normal ?_
  cases vb
  case false =>
   go_wp2_with fail
   go_ret
   exact z4l (by rw [HOk.out];rfl) HB6.out
  case true =>
   go_wp2_with fail
   go_ret
   exact j2d (by rw [HOk.out];rfl) HB6.out
end Go.Proofs.YtdblnbnofjggnaaGreatDoor
