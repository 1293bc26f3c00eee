/- Parts of the proofs of chapter 49's laws. -/
import Derived.Test.YtdblnbnofjggnaaGreatDoorP32
set_option maxHeartbeats 8000000
set_option maxRecDepth 100000
open Go.Lib renaming hid → hd_
open Go.Value renaming int → I, agg → Q
open Go.IntKind renaming i64 → J
open Go.Obj renaming cells → Z
open Go.RowKit renaming Hid → X
set_option linter.all false
namespace Go.Proofs.YtdblnbnofjggnaaGreatDoor
open Go.Proofs.Tryz
open Go.RowKit
structure KindD (x:Inp) (s:Slc) (k:Nat) (fk fv:FuncId) (U:Inp) (SU:Slc) (vb:Bool):Prop where
 kind:x.kind=(k:Int)
 lo:1≤k
 hi:k<11
 t0:j8y[k * 2]? = some (Value.func (Fn.func fk) #[] #[])
 t1:j8y[k * 2+1]? = some (Value.func (Fn.func fv) #[] #[])
 c0:∀ args W,(callFunc fk args).run prog W=.ok (.enter fk args) W
 c1:∀ args W,(callFunc fv args).run prog W=.ok (.enter fv args) W
 keep:∀ g W,CB W g 41 ((z9e x).cells z1h)→Calls prog fk #[.pointer (some ⟨g,0,none⟩),x.v s] W fun e w'=>z7i W g U SU e w'
 val:∀ W,InpR W x s→Calls prog fv #[x.v s] W fun e w'=>e=.returned (.bool vb)∧Below W.heap.size W w'
 urep:∀ W,InpR W x s→InpR W U SU
 ok:y1h x=true→okI x=(decide (U=x)&&vb)
theorem j3g (x:Inp) (s:Slc) (w:World) (hx:InpR w x s) (h1:x.text.size≤9223372036854775807) (h2:x.flt.call.size≤9223372036854775807) (h3:x.rep.cl.size≤9223372036854775807) (hk:inB x.kind 1 10=true):∃ k fk fv U SU vb,KindD x s k fk fv U SU vb:=by
 have hss:=x3j hx
 unfold inB at hk
 simp only [Bool.and_eq_true,decide_eq_true_eq] at hk
 have:x.kind=1∨x.kind=2∨x.kind=3∨x.kind=4∨x.kind=5∨x.kind=6∨x.kind=7∨x.kind=8∨x.kind=9∨x.kind=10:=by omega
 rcases this with h|h|h|h|h|h|h|h|h|h
 ·exact ⟨1,_,_,_,_,_,h,by decide,by decide,rfl,rfl,by intros;kernel_rfl,by intros;kernel_rfl,fun g W hg=>j4f x (z9e x) s z1h hss g W hg,fun W hr=>x2v x s W h1,fun W hr=>⟨z4g.nil _ _ _ _,z9j.nil _ _ _,z4g.nil _ _ _ _,z4g.nil _ _ _ _⟩,fun hs=>by unfold okI z3j z3s;rw [hs];simp [h,show inB (1:Int) 1 10=true from rfl]⟩
 ·exact ⟨2,_,_,_,_,_,h,by decide,by decide,rfl,rfl,by intros;kernel_rfl,by intros;kernel_rfl,fun g W hg=>j7f x (z9e x) s z1h hss g W hg,fun W hr=>x9u x s W hr,fun W hr=>⟨z4g.nil _ _ _ _,z9j.nil _ _ _,z4g.nil _ _ _ _,hr.vols⟩,fun hs=>by unfold okI z3j z3s;rw [hs];simp [h,show inB (2:Int) 1 10=true from rfl]⟩
 ·exact ⟨3,_,_,_,_,_,h,by decide,by decide,rfl,rfl,by intros;kernel_rfl,by intros;kernel_rfl,fun g W hg=>j8f x (z9e x) s z1h hss g W hg,fun W hr=>x0v x s W hr h2,fun W hr=>⟨hr.ways,z9j.nil _ _ _,z4g.nil _ _ _ _,z4g.nil _ _ _ _⟩,fun hs=>by unfold okI z3j z3s;rw [hs];simp [h,show inB (3:Int) 1 10=true from rfl]⟩
 ·exact ⟨4,_,_,_,_,_,h,by decide,by decide,rfl,rfl,by intros;kernel_rfl,by intros;kernel_rfl,fun g W hg=>j5f x (z9e x) s z1h hss g W hg,fun W hr=>x1v x s W hr,fun W hr=>⟨z4g.nil _ _ _ _,hr.tree,z4g.nil _ _ _ _,z4g.nil _ _ _ _⟩,fun hs=>by unfold okI z3j z3s;rw [hs];simp [h,show inB (4:Int) 1 10=true from rfl]⟩
 ·exact ⟨5,_,_,_,_,_,h,by decide,by decide,rfl,rfl,by intros;kernel_rfl,by intros;kernel_rfl,fun g W hg=>j6f x (z9e x) s z1h hss g W hg,fun W hr=>x8i x s W hr,fun W hr=>⟨z4g.nil _ _ _ _,z9j.nil _ _ _,z4g.nil _ _ _ _,z4g.nil _ _ _ _⟩,fun hs=>by unfold okI z3j z3s;rw [hs];simp [h,show inB (5:Int) 1 10=true from rfl]⟩
 ·exact ⟨6,_,_,_,_,_,h,by decide,by decide,rfl,rfl,by intros;kernel_rfl,by intros;kernel_rfl,fun g W hg=>x6u x (z9e x) s z1h hss g W hg,fun W hr=>x6i x s W hr,fun W hr=>⟨z4g.nil _ _ _ _,z9j.nil _ _ _,hr.modes,z4g.nil _ _ _ _⟩,fun hs=>by unfold okI z3j z3s;rw [hs];simp [h,show inB (6:Int) 1 10=true from rfl]⟩
 ·exact ⟨7,_,_,_,_,_,h,by decide,by decide,rfl,rfl,by intros;kernel_rfl,by intros;kernel_rfl,fun g W hg=>x7u x (z9e x) s z1h hss g W hg,fun W hr=>x7i x s W hr h3,fun W hr=>⟨z4g.nil _ _ _ _,z9j.nil _ _ _,z4g.nil _ _ _ _,z4g.nil _ _ _ _⟩,fun hs=>by unfold okI z3j z3s;rw [hs];simp [h,show inB (7:Int) 1 10=true from rfl]⟩
 ·exact ⟨8,_,_,_,_,_,h,by decide,by decide,rfl,rfl,by intros;kernel_rfl,by intros;kernel_rfl,fun g W hg=>x8u x (z9e x) s z1h hss g W hg,fun W hr=>x1j x s W,fun W hr=>⟨z4g.nil _ _ _ _,z9j.nil _ _ _,z4g.nil _ _ _ _,z4g.nil _ _ _ _⟩,fun hs=>by unfold okI z3j z3s;rw [hs];simp [h,show inB (8:Int) 1 10=true from rfl]⟩
 ·exact ⟨9,_,_,_,_,_,h,by decide,by decide,rfl,rfl,by intros;kernel_rfl,by intros;kernel_rfl,fun g W hg=>x5u x (z9e x) s z1h hss g W hg,fun W hr=>x9i x s W hr,fun W hr=>⟨z4g.nil _ _ _ _,z9j.nil _ _ _,z4g.nil _ _ _ _,z4g.nil _ _ _ _⟩,fun hs=>by unfold okI z3j z3s;rw [hs];simp [h,show inB (9:Int) 1 10=true from rfl]⟩
 ·exact ⟨10,_,_,_,_,_,h,by decide,by decide,rfl,rfl,by intros;kernel_rfl,by intros;kernel_rfl,fun g W hg=>x3v x (z9e x) s z1h g W hg,fun W hr=>x0j x s W,fun W hr=>⟨z4g.nil _ _ _ _,z9j.nil _ _ _,z4g.nil _ _ _ _,z4g.nil _ _ _ _⟩,fun hs=>by unfold okI z3j z3s;rw [hs];simp [h,show inB (10:Int) 1 10=true from rfl]⟩
theorem z5m (x:Inp) (s:Slc) (w:World) (hx:InpR w x s) (h1:x.text.size≤9223372036854775807) (h2:x.flt.call.size≤9223372036854775807) (h3:x.rep.cl.size≤9223372036854775807):Calls prog 13 #[x.v s] w (k1m x w):=by
 have HKD:=hd_ (j3g x s w hx h1 h2 h3)
 clear h1 h2 h3
 have H1:=hd_ (fun W=>z5g x.mi 0 1439 W);have H2:=hd_ (fun W=>z5g x.ce 0 3 W);have ja:=hd_ (fun W=>z5g x.no 1 1048576 W);have H4:=hd_ (fun W=>z5g x.kind 1 10 W)
 have hn:okI x=(y1h x&&inB x.kind 1 10&&okI x):=by unfold okI;cases y1h x <;> cases inB x.kind 1 10 <;> rfl
 have hst:y1h x=(inB x.mi 0 1439&&inB x.ce 0 3&&inB x.no 1 1048576):=rfl
 obtain ⟨b1,g1⟩:∃ b,inB x.mi 0 1439=b:=⟨_,rfl⟩
 obtain ⟨b2,g2⟩:∃ b,inB x.ce 0 3=b:=⟨_,rfl⟩
 obtain ⟨b3,g3⟩:∃ b,inB x.no 1 1048576=b:=⟨_,rfl⟩
 obtain ⟨b4,g4⟩:∃ b,inB x.kind 1 10=b:=⟨_,rfl⟩
 rw [g1] at H1;rw [g2] at H2;rw [g3] at ja;rw [g4] at H4 HKD;rw [g1,g2,g3] at hst;rw [hst,g4] at hn
 have HN:=hd_ hn;have HSt:=hd_ hst
 clear g1 g2 g3 g4 hn hst
 have hcx:=z3a w (bI x s) 41 (x.cells s) rfl
 have az:=hd_ (z4b (w:=w) (bI x s));have jN:=hd_ hcx;have aY:=hd_ hx
 clear hcx hx
 change Calls prog 13 #[Q (x.cells s).toArray] w _
 go_enter func13,ntmps13
 go_upto_region 1 with fail
 change Code.wp _ _ _ _ (w.alloc (bI x s))
 have HZ0:X (w.heap.size≤(w.alloc (bI x s)).heap.size):=az.out.size
 generalize w.alloc (bI x s)=w0 at *
 go_cut [3,4] (fun v3 v4 wx=>StT x s w w0 v3 v4 wx)
 case first =>
  have iW:X (Below w0.heap.size w0 w0.drew):=(Below.refl w0.heap.size w0).drew
  have HId:X (CB w0.drew w.heap.size 41 (x.cells s)):=jN.out.ext iW.out
  refine wp_region_held_drew (S:=fun w'=>CB w' w.heap.size 41 (x.cells s)) (by kernel_rfl) HId.out (fun hHeld=>?_)
  have aV:=iW;have fh:=HId
  clear iW HId az jN aY
  generalize w0.drew=wd at *
  refine tkH 6 0 ?_
  refine x1m 7 1 rfl (Q (stC x).toArray) (yieldsIf_load_mid (by rfl) 23 _ rfl w.heap.size 0 rfl (stC x) _ (fun wS aa=>j0g aa) underlying23 rfl (by kernel_rfl)) ?_
  refine wpAnyH_ready (rs:=[2,3]) (by kernel_rfl) (by simp) ?_
  refine AllReadyH.cons rfl (fun K hK=>?_) (AllReadyH.cons rfl (fun K hK=>?_) AllReadyH.nil)
  ·go_simp
   go_at_call 33
   refine (y6z wd).mono ?_
   rintro e w7 ⟨rfl,hT,hb⟩
   have HTh:X (w0.heap.size≤wd.heap.size):=aV.out.size
   have HT:=hd_ hT
   have HTg:X (w.heap.size<wd.heap.size):=fh.out.lt
   replace fh:=hd_ (fh.out.ext hb)
   replace aV:=hd_ (z0a aV.out hb)
   clear hT hb
   have HTl:X (wd.heap.size<w7.heap.size):=HT.out.lt
   generalize wd.heap.size=T at *
   refine goK hK fh.out fun hHeld=>?_
   clear hK K
   refine rdH 3 fun K hK=>?_
   go_simp
   change K _ (w7.alloc (Z #[I J 0,I J 0,I J 0] 23))
   have HE:X (CB (w7.alloc (Z #[I J 0,I J 0,I J 0] 23)) w7.heap.size 23 [I J 0,I J 0,I J 0]):=z3a w7 _ _ _ rfl
   replace HT:=hd_ (HT.out.alloc (Z #[I J 0,I J 0,I J 0] 23))
   have bq:X (w7.heap.size≠T):=Ne.symm (Nat.ne_of_lt HTl.out)
   have HEg:X (w.heap.size<w7.heap.size):=fh.out.lt
   have HEh:X (w0.heap.size≤w7.heap.size):=aV.out.size
   replace fh:=hd_ (fh.out.alloc (Z #[I J 0,I J 0,I J 0] 23))
   replace aV:=hd_ (z0a aV.out (z4b (w:=w7) (Z #[I J 0,I J 0,I J 0] 23)))
   generalize w7.alloc (Z #[I J 0,I J 0,I J 0] 23)=w8 at *
   generalize w7.heap.size=E at *
   refine goK hK fh.out fun hHeld=>?_
   clear hK K
   refine rdH 4 fun K hK=>?_
   refine sif 23 (.tmp 3) (.tmp 7) rfl E (stC x) rfl rfl HE.out (x2j x) ?_
   intro w9 nY ay hz9
   have HT9:=hd_ (HT.out.keep (ay.out.block _ HT.out.lt (fun e=>by injection e with e;first|exact bq.out e|exact bq.out e.symm)))
   have eQ:=hd_ (fh.out.keep (ay.out.block _ fh.out.lt (fun e=>by injection e with e;have:=HEg.out;omega)))
   have dx:=hd_ (aV.out.grown ay.out aV.out.size (fun k hk=>by injection hk with hk;have:=HEh.out;omega))
   have kv:=nY
   clear nY ay hz9 HT fh aV HE
   refine goK hK eQ.out fun hHeld=>?_
   clear hK K
   refine tkH 4 5 ?_
   refine wpAnyH_done (by kernel_rfl) ?_ _
   go_wp2_with fail
   go_meet
   case rel=>exact ⟨E,T,rfl,rfl,kv.out,HT9.out,eQ.out,HEg.out,HTg.out,bq.out,HEh.out,HTh.out,dx.out⟩
  ·go_simp
   change K _ (wd.alloc (Z #[I J 0,I J 0,I J 0] 23))
   have HE:X (CB (wd.alloc (Z #[I J 0,I J 0,I J 0] 23)) wd.heap.size 23 [I J 0,I J 0,I J 0]):=z3a wd _ _ _ rfl
   have HEg:X (w.heap.size<wd.heap.size):=fh.out.lt
   have HEh:X (w0.heap.size≤wd.heap.size):=aV.out.size
   replace fh:=hd_ (fh.out.alloc (Z #[I J 0,I J 0,I J 0] 23))
   replace aV:=hd_ (z0a aV.out (z4b (w:=wd) (Z #[I J 0,I J 0,I J 0] 23)))
   generalize wd.alloc (Z #[I J 0,I J 0,I J 0] 23)=w7 at *
   generalize wd.heap.size=E at *
   refine goK hK fh.out fun hHeld=>?_
   clear hK K
   refine rdH 2 fun K hK=>?_
   go_simp
   go_at_call 33
   refine (y6z w7).mono ?_
   rintro e w8 ⟨rfl,hT,hb⟩
   have HTh:X (w0.heap.size≤w7.heap.size):=aV.out.size
   have HT:=hd_ hT
   have HTg:X (w.heap.size<w7.heap.size):=fh.out.lt
   have bq:X (E≠w7.heap.size):=Nat.ne_of_lt HE.out.lt
   replace HE:=hd_ (HE.out.ext hb)
   replace fh:=hd_ (fh.out.ext hb)
   replace aV:=hd_ (z0a aV.out hb)
   clear hT hb
   have HTl:X (w7.heap.size<w8.heap.size):=HT.out.lt
   generalize w7.heap.size=T at *
   refine goK hK fh.out fun hHeld=>?_
   clear hK K
   refine rdH 4 fun K hK=>?_
   refine sif 23 (.tmp 3) (.tmp 7) rfl E (stC x) rfl rfl HE.out (x2j x) ?_
   intro w9 nY ay hz9
   have HT9:=hd_ (HT.out.keep (ay.out.block _ HT.out.lt (fun e=>by injection e with e;first|exact bq.out e|exact bq.out e.symm)))
   have eQ:=hd_ (fh.out.keep (ay.out.block _ fh.out.lt (fun e=>by injection e with e;have:=HEg.out;omega)))
   have dx:=hd_ (aV.out.grown ay.out aV.out.size (fun k hk=>by injection hk with hk;have:=HEh.out;omega))
   have kv:=nY
   clear nY ay hz9 HT fh aV HE
   refine goK hK eQ.out fun hHeld=>?_
   clear hK K
   refine tkH 4 5 ?_
   refine wpAnyH_done (by kernel_rfl) ?_ _
   go_wp2_with fail
   go_meet
   case rel=>exact ⟨E,T,rfl,rfl,kv.out,HT9.out,eQ.out,HEg.out,HTg.out,bq.out,HEh.out,HTh.out,dx.out⟩
 case rest =>
 obtain ⟨g3,gT,rfl,rfl,h3,hT,hI,hl3,hlT,hne,mF,hzT,hbx⟩:=hcut
 have aG:=hd_ (z0a az.out hbx);have dJ:=hd_ hI;have H3:=hd_ h3;have HT:=hd_ hT;have HL3:=hd_ hl3;have HLT:=hd_ hlT;have gm:=hd_ hne
 have c0:=h3.cv 0 (I J x.mi)
 have c1:=h3.cv 1 (I J x.ce)
 have c2:=h3.cv 2 (I J x.no)
 have c3:=hI.cv 3 (I J x.kind)
 clear h3 hT hI hl3 hlT hne mF hzT hbx az jN HZ0
 generalize wc=w1 at *
 rcases b1 with _|_
 ·go_wp2_with (first
  | (go_at_call 34;refine (H1.out w1).mono ?_;(rintro e w' ⟨rfl,rfl⟩;clear H1))
  | (go_at_call 34;refine (H2.out w1).mono ?_;(rintro e w' ⟨rfl,rfl⟩;clear H2))
  | (go_at_call 34;refine (ja.out w1).mono ?_;(rintro e w' ⟨rfl,rfl⟩;clear ja))
  | (go_at_call 34;refine (H4.out w1).mono ?_;(rintro e w' ⟨rfl,rfl⟩;clear H4)))
  go_ret
  exact z4m (by rw [HN.out];simp) aG.out
 rcases b2 with _|_
 ·go_wp2_with (first
  | (go_at_call 34;refine (H1.out w1).mono ?_;(rintro e w' ⟨rfl,rfl⟩;clear H1))
  | (go_at_call 34;refine (H2.out w1).mono ?_;(rintro e w' ⟨rfl,rfl⟩;clear H2))
  | (go_at_call 34;refine (ja.out w1).mono ?_;(rintro e w' ⟨rfl,rfl⟩;clear ja))
  | (go_at_call 34;refine (H4.out w1).mono ?_;(rintro e w' ⟨rfl,rfl⟩;clear H4)))
  go_ret
  exact z4m (by rw [HN.out];simp) aG.out
 rcases b3 with _|_
 ·go_wp2_with (first
  | (go_at_call 34;refine (H1.out w1).mono ?_;(rintro e w' ⟨rfl,rfl⟩;clear H1))
  | (go_at_call 34;refine (H2.out w1).mono ?_;(rintro e w' ⟨rfl,rfl⟩;clear H2))
  | (go_at_call 34;refine (ja.out w1).mono ?_;(rintro e w' ⟨rfl,rfl⟩;clear ja))
  | (go_at_call 34;refine (H4.out w1).mono ?_;(rintro e w' ⟨rfl,rfl⟩;clear H4)))
  go_ret
  exact z4m (by rw [HN.out];simp) aG.out
 rcases b4 with _|_
 ·go_wp2_with (first
  | (go_at_call 34;refine (H1.out w1).mono ?_;(rintro e w' ⟨rfl,rfl⟩;clear H1))
  | (go_at_call 34;refine (H2.out w1).mono ?_;(rintro e w' ⟨rfl,rfl⟩;clear H2))
  | (go_at_call 34;refine (ja.out w1).mono ?_;(rintro e w' ⟨rfl,rfl⟩;clear ja))
  | (go_at_call 34;refine (H4.out w1).mono ?_;(rintro e w' ⟨rfl,rfl⟩;clear H4)))
  go_ret
  exact z4m (by rw [HN.out];simp) aG.out
 obtain ⟨k,fk,fv,U,SU,vb,hkd⟩:=HKD.out rfl
 have HK:X (x.kind=(k:Int)):=hd_ hkd.kind
 have HD:=hd_ hkd
 have kw:X (okI x=(decide (U=x)&&vb)):=hkd.ok HSt.out
 have gY:X (∀ u∈(z9e x).cells z1h,u.oneCell'=true):=by
  have h:=z9v (z9e x) z1h none none none none 0 0 0 0 0 0 0 0 rfl rfl rfl rfl
  exact fun u hu=>Array.all_eq_true_iff_forall_mem.1 h u (by simpa using hu)
 have mO:X (1≤k):=hd_ hkd.lo
 have HHi:X (k<11):=hd_ hkd.hi
 obtain ⟨db,hdb⟩:∃ b:Bool,decide (U=x)=b:=⟨_,rfl⟩
 rw [hdb] at kw
 have HDb:=hd_ hdb
 clear hdb hkd HKD HN HSt
 rw [HK.out] at c3 H4
 go_upto_region 4 with (first
  | (go_at_call 34;refine (H1.out w1).mono ?_;(rintro e w' ⟨rfl,rfl⟩;clear H1))
  | (go_at_call 34;refine (H2.out w1).mono ?_;(rintro e w' ⟨rfl,rfl⟩;clear H2))
  | (go_at_call 34;refine (ja.out w1).mono ?_;(rintro e w' ⟨rfl,rfl⟩;clear ja))
  | (go_at_call 34;refine (H4.out w1).mono ?_;(rintro e w' ⟨rfl,rfl⟩;clear H4)))
 clear c0 c1 c2
 have gx:X (w1.rangeAt g3 0 (stC x)):=z3h H3.out
 have mM:X (w1.rangeAt w.heap.size 30 [I J x.sr,I J x.ss]):=j1g dJ.out
 have mN:X (prog.built 41 [(0,Q (stC x).toArray),(1,I J (k:Int)),(10,Q #[I J x.sr,I J x.ss])]=some ((z9e x).cells z1h).toArray):=by
  have:=y8m x;rw [HK.out] at this;exact this
 have h5c:=z3a w1 ZI 41 ZIc rfl
 have lW:X (w.heap.size<w1.heap.size):=dJ.out.lt
 have H5T:X (gT≠w1.heap.size):=Nat.ne_of_lt HT.out.lt
 have H5c:=hd_ h5c
 clear h5c
 go_upto_region 5 with (first
  | (have _g:=gx.out;refine lmg 23 (.tmp 3) rfl g3 0 rfl (stC x) gx.out underlying23 ?_;clear gx)
  | (have _g:=mM.out;refine lmg 39 (.tmp 37) rfl w.heap.size 30 rfl [I J x.sr,I J x.ss] mM.out underlying39 ?_;clear mM)
  | (have _g:=mN.out;refine z9b (by rfl) 41 #[(0,.tmp 34),(1,.tmp 36),(10,.tmp 38)] rfl ((z9e x).cells z1h) [(0,Q (stC x).toArray),(1,I J (k:Int)),(10,Q #[I J x.sr,I J x.ss])] rfl mN.out ?_;clear mN)
  | (have _g:=gY.out;refine scs 41 (.tmp 5) (.tmp 39) rfl w1.heap.size ((z9e x).cells z1h) rfl rfl H5c.out gY.out (fun w2 aP dW fg=>?_);clear gY))
 have bH:X (CB w2 w.heap.size 41 (x.cells s)):=(dJ.out.alloc ZI).keep (dW.out.block _ (by rw [World.size_alloc];have:=lW.out;omega) (fun e=>by injection e with e;have:=lW.out;omega))
 have HT3:X (CB w2 gT 76 j8y):=(HT.out.alloc ZI).keep (dW.out.block _ (HT.out.alloc ZI).lt (fun e=>by injection e with e;exact H5T.out e))
 have aA:X (Below w.heap.size w w2):=(z0a aG.out (z4b (w:=w1) ZI)).grown dW.out (z0a aG.out (z4b (w:=w1) ZI)).size (fun k hk=>by injection hk with hk;have:=lW.out;omega)
 have H5:=aP
 clear aP dW fg H5c dJ HT aG H3 gm HL3 c3
 generalize w1.heap.size=g5 at *
 refine wp_region_noPanic ?_
 refine wp_region_held_drew (S:=fun w'=>CB w' w.heap.size 41 (x.cells s)∧CB w' gT 76 j8y) (by kernel_rfl) ⟨bH.out.ext (Below.refl w2.heap.size w2).drew,HT3.out.ext (Below.refl w2.heap.size w2).drew⟩ (fun hHeld=>?_)
 replace bH:=hd_ (bH.out.ext (Below.refl w2.heap.size w2).drew);replace HT3:=hd_ (HT3.out.ext (Below.refl w2.heap.size w2).drew);replace H5:=hd_ (H5.out.ext (Below.refl w2.heap.size w2).drew);replace aA:=hd_ (aA.out.drew)
 generalize w2.drew=W5 at *
 refine tkH 40 0 ?_
 refine tkH 41 1 ?_
 refine tkH 42 2 ?_ (hy:=fun wS aa=>by have e3:wS.cell? ⟨w.heap.size,3,none⟩=some (I J (k:Int)):=(by rw [← HK.out];exact aa.1.cell 3);go_simp;first|done|with_reducible rfl)
 refine tkH 43 3 ?_ (hy:=fun wS aa=>by have hhi:(k:Int)<11:=(by have:=HHi.out;omega);go_simp;first|done|with_reducible rfl)
 refine tkH 44 4 ?_ (hy:=fun wS aa=>by have hhi:(k:Int)<11:=(by have:=HHi.out;omega);go_simp;first|done|with_reducible rfl)
 refine tkH 45 5 ?_ (hy:=fun wS aa=>by have e4:wS.cell? ⟨gT,k * 2,none⟩=some (.func (Fn.func fk) #[] #[]):=(aa.2.cell _).trans HD.out.t0;go_simp;first|done|with_reducible rfl)
 refine x1m 46 6 rfl (Q (x.cells s).toArray) (yieldsIf_load_mid (by rfl) 41 _ rfl w.heap.size 0 rfl (x.cells s) _ (fun wS aa=>z3h aa.1) underlying41 rfl (by kernel_rfl)) ?_
 refine rdH 7 fun K hK=>?_
 go_simp
 rw [HD.out.c0,Oper.upon_enter]
 refine (HD.out.keep g5 W5 H5.out).mono ?_
 rintro e w4 ⟨⟨v,rfl⟩,hc4,hg4⟩
 have dX:X (CB w4 g5 41 (U.cells SU)):=hc4
 have HI4:=hd_ (bH.out.keep (hg4.block _ bH.out.lt (fun e=>by injection e with e;have:=lW.out;omega)))
 have HT4:=hd_ (HT3.out.keep (hg4.block _ HT3.out.lt (fun e=>by injection e with e;exact H5T.out e)))
 have cH:=hd_ (aA.out.grown hg4 aA.out.size (fun k hk=>by injection hk with hk;have:=lW.out;omega))
 clear hc4 hg4 bH HT3 aA H5
 refine goK hK ⟨HI4.out,HT4.out⟩ fun hHeld=>?_
 clear hK K
 refine wpAnyH_done (by kernel_rfl) ?_ _
 refine NoPanic.normal ?_
 go_upto_region 6 with fail
 have HXR4:X (InpR w4 x s):=aY.out.ext cH.out
 have HXU:X (InpR w4 U SU):=HD.out.urep _ HXR4.out
 clear aY
 refine wp_region_noPanic ?_
 refine wp_region_held_drew (S:=fun w'=>CB w' w.heap.size 41 (x.cells s)∧CB w' gT 76 j8y∧CB w' g5 41 (U.cells SU)) (by kernel_rfl) ⟨HI4.out.ext (Below.refl w4.heap.size w4).drew,HT4.out.ext (Below.refl w4.heap.size w4).drew,dX.out.ext (Below.refl w4.heap.size w4).drew⟩ (fun hHeld=>?_)
 have aQ:=(Below.refl w4.heap.size w4).drew
 replace HI4:=hd_ (HI4.out.ext aQ);replace HT4:=hd_ (HT4.out.ext aQ);replace dX:=hd_ (dX.out.ext aQ);replace cH:=hd_ (cH.out.drew);replace HXR4:=hd_ (HXR4.out.ext aQ);replace HXU:=hd_ (HXU.out.ext aQ)
 clear aQ
 generalize w4.drew=W6 at *
 refine x1m 48 0 rfl (Q (U.cells SU).toArray) (yieldsIf_load_mid (by rfl) 41 _ rfl g5 0 rfl (U.cells SU) _ (fun wS aa=>z3h aa.2.2) underlying41 rfl (by kernel_rfl)) ?_
 refine x1m 49 1 rfl (Q (x.cells s).toArray) (yieldsIf_load_mid (by rfl) 41 _ rfl w.heap.size 0 rfl (x.cells s) _ (fun wS aa=>z3h aa.1) underlying41 rfl (by kernel_rfl)) ?_
 refine rdH 2 fun K hK=>?_
 go_simp
 go_at_call 15
 refine (x6o U x SU s W6 HXU.out HXR4.out).mono ?_
 rintro e w5 ⟨rfl,bp⟩
 rw [HDb.out]
 have nZ:=hd_ (HI4.out.ext bp);have HT5:=hd_ (HT4.out.ext bp);have dF:=hd_ (dX.out.ext bp);have bZ:=hd_ (z0a cH.out bp);have HXR5:=hd_ (HXR4.out.ext bp)
 clear bp HI4 HT4 dX cH HXR4 HXU
 refine goK hK ⟨nZ.out,HT5.out,dF.out⟩ fun hHeld=>?_
 clear hK K
 cases db
 case false =>
  refine tkH 51 3 ?_
  refine tkH 52 4 ?_
  refine z0n 53 5 ?_
  refine z0n 54 6 ?_
  refine z0n 55 7 ?_
  refine z0n 56 8 ?_
  refine z0n 57 9 ?_
  refine z0n 58 10 ?_
  refine z0n 59 11 ?_
  refine z0n 60 12 ?_
  refine z0n 61 13 ?_
  refine tkH 62 14 ?_
  refine wpAnyH_done (by kernel_rfl) ?_ _
  refine NoPanic.normal ?_
  go_wp2_with fail
  go_ret
  exact z4m (by rw [kw.out];rfl) bZ.out
 case true =>
  refine tkH 51 3 ?_
  refine tkH 52 4 ?_
  refine tkH 53 5 ?_
  refine tkH 54 6 ?_
  refine tkH 55 7 ?_ (hy:=fun wS aa=>by have e3:wS.cell? ⟨w.heap.size,3,none⟩=some (I J (k:Int)):=(by rw [← HK.out];exact aa.1.cell 3);go_simp;first|done|with_reducible rfl)
  refine tkH 56 8 ?_ (hy:=fun wS aa=>by have hhi:(k:Int)<11:=(by have:=HHi.out;omega);go_simp;first|done|with_reducible rfl)
  refine tkH 57 9 ?_ (hy:=fun wS aa=>by have hhi:(k:Int)<11:=(by have:=HHi.out;omega);go_simp;first|done|with_reducible rfl)
  refine tkH 58 10 ?_ (hy:=fun wS aa=>by have e4:wS.cell? ⟨gT,k * 2+1,none⟩=some (.func (Fn.func fv) #[] #[]):=(aa.2.1.cell _).trans HD.out.t1;go_simp;first|done|with_reducible rfl)
  refine x1m 59 11 rfl (Q (x.cells s).toArray) (yieldsIf_load_mid (by rfl) 41 _ rfl w.heap.size 0 rfl (x.cells s) _ (fun wS aa=>z3h aa.1) underlying41 rfl (by kernel_rfl)) ?_
  refine rdH 12 fun K hK=>?_
  go_simp
  rw [HD.out.c1,Oper.upon_enter]
  refine (HD.out.val w5 HXR5.out).mono ?_
  rintro e w6 ⟨rfl,dC⟩
  have HI6:=hd_ (nZ.out.ext dC);have HT6:=hd_ (HT5.out.ext dC);have cD:=hd_ (dF.out.ext dC);have kM:=hd_ (z0a bZ.out dC)
  clear dC nZ HT5 dF bZ HXR5
  refine goK hK ⟨HI6.out,HT6.out,cD.out⟩ fun hHeld=>?_
  clear hK K
  refine tkH 61 13 ?_
  refine tkH 62 14 ?_
  refine wpAnyH_done (by kernel_rfl) ?_ _
  refine NoPanic.normal ?_
  cases vb
  case false =>
   go_wp2_with fail
   go_ret
   exact z4m (by rw [kw.out];rfl) kM.out
  case true =>
   go_wp2_with fail
   go_ret
   exact j2g (by rw [kw.out];rfl) kM.out
end Go.Proofs.YtdblnbnofjggnaaGreatDoor
