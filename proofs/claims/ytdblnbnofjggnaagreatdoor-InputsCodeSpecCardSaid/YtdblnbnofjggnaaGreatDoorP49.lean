/- Parts of the proofs of chapter 49's laws. -/
import Derived.Test.YtdblnbnofjggnaaGreatDoorP48
set_option maxHeartbeats 8000000
set_option maxRecDepth 100000
open Go.Lib renaming hid → hd_
open Go.World renaming cell?_of_block → cB
open List renaming mem_cons_self → mS, mem_cons → mC, not_mem_nil → nM, getElem?_eq_some_iff → gS, mem_of_getElem? → mG, setIfInBounds_toArray → aS, set_cons_zero → aZ, set_cons_succ → aU
open Go.Value renaming int → I, slice → X, string → Z, bool → Y, agg → C
open Go.IntKind renaming i64 → J
open Go.Obj renaming cells → Q
open Go.Ending renaming returned → F
open Option renaming none → G, some → O
open Bool renaming true → B, false → M
open Decidable renaming decide → R
open Go renaming World → H, Value → U, Calls → A
open Go.RowKit renaming Below → E, Hid → D
set_option linter.all false
namespace Go.Proofs.YtdblnbnofjggnaaGreatDoor
open Go.Proofs.Tryz
open Go.RowKit
def v8i (o:Option Flt) (w:H) (e:Ending) (w':H):Prop:=∃ oa n cap b,e=F (.tuple #[C ((o.getD j5s).cells (X oa n cap)).toArray,Y o.isSome])∧z7h nuK 3 w' b (X oa n cap) (o.getD j5s).ways∧E w.heap.size w w'
theorem k1k {x:V} (h:¬ (x.kind=3∧x.l.length=7)):y9c x=G:=by
 unfold y9c
 split
 ·rename_i hl
  rw [hl] at h
  rw [if_neg (fun hk=>h ⟨hk.1,rfl⟩)]
 ·rfl
theorem k2k {x v0 v1 v2 v3 v4 v5 v6:V} (hl:x.l=[v0,v1,v2,v3,v4,v5,v6]) (h:¬ v3.kind=2):y9c x=G:=by
 unfold y9c
 simp only [hl,if_neg (show ¬ (x.kind=3∧v3.kind=2) from fun hk=>h hk.2)]
theorem k3k {x v0 v1 v2 v3 v4 v5 v6:V} (hl:x.l=[v0,v1,v2,v3,v4,v5,v6]) (hk:x.kind=3∧v3.kind=2) (h:z7b (4) (lV [v0,v1,v2,v6])=G):y9c x=G:=by
 unfold y9c
 simp only [hl,if_pos hk]
 rw [h];rfl
theorem k4k {x v0 v1 v2 v3 v4 v5 v6:V} (hl:x.l=[v0,v1,v2,v3,v4,v5,v6]) (hk:x.kind=3∧v3.kind=2) (h:z7b (-1) (v4)=G):y9c x=G:=by
 unfold y9c
 simp only [hl,if_pos hk]
 cases z7b (4) (lV [v0,v1,v2,v6]) with
 | none=>rfl
 | some _ =>
 simp only [Option.bind_some]
 rw [h];rfl
theorem k5k {x v0 v1 v2 v3 v4 v5 v6:V} (hl:x.l=[v0,v1,v2,v3,v4,v5,v6]) (hk:x.kind=3∧v3.kind=2) (h:z7b (2) (v5)=G):y9c x=G:=by
 unfold y9c
 simp only [hl,if_pos hk]
 cases z7b (4) (lV [v0,v1,v2,v6]) with
 | none=>rfl
 | some _ =>
 simp only [Option.bind_some]
 cases z7b (-1) (v4) with
 | none=>rfl
 | some _ =>
 simp only [Option.bind_some]
 rw [h];rfl
theorem j4o {x v0 v1 v2 v3 v4 v5 v6:V} {a0 a1 a2 a3:Int} {m:List Int} {e0 e1:Int} (hl:x.l=[v0,v1,v2,v3,v4,v5,v6]) (hk:x.kind=3∧v3.kind=2) (ha:z7b (4) (lV [v0,v1,v2,v6])=O [a0,a1,a2,a3]) (hm:z7b (-1) (v4)=O m) (he:z7b (2) (v5)=O [e0,e1]):y9c x=O ⟨a0,a1,a2,v3.s,m,e0,e1,R (a3=1)⟩:=by
 unfold y9c
 simp only [hl,if_pos hk,ha,hm,he,Option.bind_some]
 rfl
theorem z1v (x:V) (v:U) (w:H) (hv:RD w x v) (hz:sz x≤60000):A prog 124 #[v] w (v8i (y9c x) w):=by
 obtain ⟨oa,cap,rfl⟩:=hv.form
 obtain ⟨ln,hln⟩:∃ ln,x.l.length=ln:=⟨_,rfl⟩
 rw [hln] at hv ⊢
 have aC:=@RD.el w x (I J x.kind) (I J x.n) (Z x.s) oa ln cap hv
 have hlb:=hv.lt
 rw [hln] at hlb
 have HS:=hd_ (RS.start (T:=28) (Zc:=[I J 0,I J 0,I J 0,Z ⟨#[]⟩,X G 0 0,I J 0,I J 0,Y M]) hv)
 have aD:=hd_ (show ∀ u∈([I J 0,I J 0,I J 0,Z ⟨#[]⟩,X G 0 0,I J 0,I J 0,Y M]:List U),u.oneCell'=B from (z8y rfl))
 by_cases hs:x.kind=3∧ln=7
 case neg =>
  have ac:=hd_ (k1k (x:=x) (fun h=>hs ⟨h.1,hln.symm.trans h.2⟩))
  have bX:D (R (x.kind=3∧(x.l.length:Int)=(7:Int))=M):=hd_ (decide_eq_false (fun h=>hs ⟨h.1,by have:=h.2;omega⟩))
  clear hs hln hv aC hz
  go_enter func124,ntmps124
  go_upto_region 1 with fail
  change Code.wp _ _ _ _ ((w.alloc (Q [I J x.kind,I J x.n,Z x.s,X oa ln cap].toArray 80)).alloc (Q ([I J 0,I J 0,I J 0,Z ⟨#[]⟩,X G 0 0,I J 0,I J 0,Y M]:List U).toArray 28))
  generalize (w.alloc (Q [I J x.kind,I J x.n,Z x.s,X oa ln cap].toArray 80)).alloc (Q ([I J 0,I J 0,I J 0,Z ⟨#[]⟩,X G 0 0,I J 0,I J 0,Y M]:List U).toArray 28)=w1 at *
  obtain ⟨c0,c1,c2,c3⟩:=c4 HS.out.b
  go_wp2_with (first
   | (go_at_call 121;refine (z9c 7 x _ _ HS.out.v).mono ?_;rw [bX.out];(rintro e w2 ⟨rfl,hb⟩;replace HS:=hd_ (HS.out.ext hb);clear hb;clear bX))
   | (have _g:=aD.out;refine z2d rfl 28 (.tmp 2) (.tmp 21) rfl (w.heap.size+1) [I J 0,I J 0,I J 0,Z ⟨#[]⟩,X G 0 0,I J 0,I J 0,Y M] rfl rfl 28 [I J 0,I J 0,I J 0,Z ⟨#[]⟩,X G 0 0,I J 0,I J 0,Y M] HS.out.z rfl (by kernel_rfl) aD.out (fun w8 aI bg dk=>?_);have aT:=hd_ (HS.out.lo.grown bg.out HS.out.lo.size (fun q e=>by injection e with e;omega));clear aD))
  (refine bodyPost_ret (v:=.tuple #[C ([I J 0,I J 0,I J 0,Z ⟨#[]⟩,X G 0 0,I J 0,I J 0,Y M]:List U).toArray,Y M]) (z6a (fn:=f124) (p:=2) (t2:=3) (ty:=28) rfl _ _ (w.heap.size+1) 28 _ (0,0) _ rfl aI.out underlying28 rfl (by kernel_rfl)) rfl ?_;exact ⟨G,0,0,0,by rw [ac.out];rfl,by rw [ac.out];exact z7h.nil _ _ _,aT.out⟩)
 case pos =>
  obtain ⟨hk3,ij⟩:=hs
  subst ij
  obtain ⟨v0,v1,v2,v3,v4,v5,v6,hl⟩:=v4i hln
  rw [hl] at aC
  have bX:D (R (x.kind=3∧(x.l.length:Int)=(7:Int))=B):=hd_ (decide_eq_true ⟨hk3,by omega⟩)
  have HL:=hd_ hl;have eR:=hd_ hk3
  have hsz:=z4c x
  rw [hl] at hsz
  simp only [szs] at hsz
  obtain ⟨b3,gh,dG,jB,ob3,cb3,eE,eF,fp,fq,jw⟩:=aC (k:=3) (y:=v3) rfl
  obtain ⟨b4,gd,gF,np,ob4,cb4,dP,dQ,dR,dS,gO⟩:=aC (k:=4) (y:=v4) rfl
  obtain ⟨b5,off5,eA,hw5,ob5,cb5,fs,ft,fu,fy,kE⟩:=aC (k:=5) (y:=v5) rfl
  subst dG
  injection gF with gF;injection gF with e1 e2;subst e1;subst e2
  injection eA with eA;injection eA with e1 e2;subst e1;subst e2
  have ff:=hd_ (And.intro eE (And.intro eF (And.intro fp (And.intro fq jw))))
  have Z3:D (sz v3≤100000):=hd_ (by omega)
  have ei:=hd_ (And.intro dP (And.intro dQ (And.intro dR (And.intro dS gO))))
  have Z4:D (sz v4≤100000):=hd_ (by omega)
  have jW:=hd_ (And.intro fs (And.intro ft (And.intro fu (And.intro fy kE))))
  have Z5:D (sz v5≤100000):=hd_ (by omega)
  have ZP:D (sz (lV [v0,v1,v2,v6])≤100000):=hd_ (by have e:=z4c (lV [v0,v1,v2,v6]);simp only [lV,V.s,V.l,szs,show (⟨#[]⟩:ByteArray).size=0 from rfl] at e ⊢;omega)
  have gb:D (∀ (j i:Nat) (y:V),([0,1,2,6]:List Nat)[j]? = O i→([v0,v1,v2,v6]:List V)[j]? = O y→x.l[i]? = O y):=hd_ (by
   intro j i y h1 h2
   rw [hl]
   match j,h1,h2 with
   | 0,h1,h2=>simp at h1 h2;subst h1;subst h2;rfl
   | 1,h1,h2=>simp at h1 h2;subst h1;subst h2;rfl
   | 2,h1,h2=>simp at h1 h2;subst h1;subst h2;rfl
   | 3,h1,h2=>simp at h1 h2;subst h1;subst h2;rfl
   | k+4,h1,_=>simp at h1)
  have az:=hd_ jB
  clear hz hsz hv aC hln hk3 hl eE eF fp fq jw dP dQ dR dS gO fs ft fu fy kE jB np hw5
  by_cases hk2:v3.kind=2
  case neg =>
   have ac:=hd_ (k2k HL.out hk2)
   have u1:R (v3.kind=2)=M:=decide_eq_false hk2
   have u2:(v3.kind == 2)=M:=beq_false_of_ne hk2
   have u3:(v3.kind != 2)=B:=by rw [bne,u2];rfl
   clear hk2
   go_enter func124,ntmps124
   go_upto_region 1 with fail
   change Code.wp _ _ _ _ ((w.alloc (Q [I J x.kind,I J x.n,Z x.s,X (O ⟨b3,gh,G⟩) 7 cap].toArray 80)).alloc (Q ([I J 0,I J 0,I J 0,Z ⟨#[]⟩,X G 0 0,I J 0,I J 0,Y M]:List U).toArray 28))
   generalize (w.alloc (Q [I J x.kind,I J x.n,Z x.s,X (O ⟨b3,gh,G⟩) 7 cap].toArray 80)).alloc (Q ([I J 0,I J 0,I J 0,Z ⟨#[]⟩,X G 0 0,I J 0,I J 0,Y M]:List U).toArray 28)=w1 at *
   obtain ⟨c0,c1,c2,c3⟩:=c4 HS.out.b
   go_wp2_with (first
    | (go_at_call 121;refine (z9c 7 x _ _ HS.out.v).mono ?_;rw [bX.out];(rintro e w2 ⟨rfl,hb⟩;replace HS:=hd_ (HS.out.ext hb);clear hb;clear c0 c1 c2 c3;obtain ⟨c0,c1,c2,c3⟩:=c4 HS.out.b;obtain ⟨eE,eF,fp,fq⟩:=e4 HS.out.lo ff.out;clear bX))
    | (have _g:=aD.out;refine z2d rfl 28 (.tmp 2) (.tmp 21) rfl (w.heap.size+1) [I J 0,I J 0,I J 0,Z ⟨#[]⟩,X G 0 0,I J 0,I J 0,Y M] rfl rfl 28 [I J 0,I J 0,I J 0,Z ⟨#[]⟩,X G 0 0,I J 0,I J 0,Y M] HS.out.z rfl (by kernel_rfl) aD.out (fun w8 aI bg dk=>?_);have aT:=hd_ (HS.out.lo.grown bg.out HS.out.lo.size (fun q e=>by injection e with e;omega));clear aD))
   (refine bodyPost_ret (v:=.tuple #[C ([I J 0,I J 0,I J 0,Z ⟨#[]⟩,X G 0 0,I J 0,I J 0,Y M]:List U).toArray,Y M]) (z6a (fn:=f124) (p:=2) (t2:=3) (ty:=28) rfl _ _ (w.heap.size+1) 28 _ (0,0) _ rfl aI.out underlying28 rfl (by kernel_rfl)) rfl ?_;exact ⟨G,0,0,0,by rw [ac.out];rfl,by rw [ac.out];exact z7h.nil _ _ _,aT.out⟩)
  have u1:R (v3.kind=2)=B:=decide_eq_true hk2
  have u2:(v3.kind == 2)=B:=by rw [hk2];rfl
  have u3:(v3.kind != 2)=M:=by rw [bne,u2];rfl
  have ll:=hd_ hk2
  clear hk2
  go_enter func124,ntmps124
  go_upto_region 1 with fail
  change Code.wp _ _ _ _ ((w.alloc (Q [I J x.kind,I J x.n,Z x.s,X (O ⟨b3,gh,G⟩) 7 cap].toArray 80)).alloc (Q ([I J 0,I J 0,I J 0,Z ⟨#[]⟩,X G 0 0,I J 0,I J 0,Y M]:List U).toArray 28))
  generalize (w.alloc (Q [I J x.kind,I J x.n,Z x.s,X (O ⟨b3,gh,G⟩) 7 cap].toArray 80)).alloc (Q ([I J 0,I J 0,I J 0,Z ⟨#[]⟩,X G 0 0,I J 0,I J 0,Y M]:List U).toArray 28)=w1 at *
  obtain ⟨c0,c1,c2,c3⟩:=c4 HS.out.b
  go_upto_region 8 with (first
   | (go_at_call 121;refine (z9c 7 x _ _ HS.out.v).mono ?_;rw [bX.out];(rintro e w2 ⟨rfl,hb⟩;replace HS:=hd_ (HS.out.ext hb);clear hb;clear c0 c1 c2 c3;obtain ⟨c0,c1,c2,c3⟩:=c4 HS.out.b;obtain ⟨eE,eF,fp,fq⟩:=e4 HS.out.lo ff.out;have aR:E w2.heap.size w2 (w2.alloc (Q [I J 0,I J 1,I J 2,I J 6].toArray 3)):=z4b _;have bu:=hd_ (HS.out.ext aR);have bH:D (z4g nuK (w2.alloc (Q [I J 0,I J 1,I J 2,I J 6].toArray 3)).heap.size (w2.alloc (Q [I J 0,I J 1,I J 2,I J 6].toArray 3)) (([0,1,2,6]:List Nat).map (fun (k:Nat)=>(k:Int))) (X (O ⟨w2.heap.size,0,G⟩) 4 4)):=hd_ (z2n (K:=nuK) 4 (z3a w2 (Q [I J 0,I J 1,I J 2,I J 6].toArray 3) 3 _ rfl) rfl (by unfold maxLen;decide));clear aR;clear bX))
   | (have _g:=bH.out;go_at_call 123;refine (z2k x _ _ [0,1,2,6] [v0,v1,v2,v6] _ bu.out.v bH.out rfl gb.out (by decide)).mono ?_;(rintro e w4 ⟨lv4,rfl,hr,hb⟩;replace HS:=hd_ (bu.out.ext hb);have cZ:=hd_ hr;clear hr hb bu bH))
   | (have _g:=cZ.out;go_at_call 122;refine (y1b (m:=4) cZ.out ZP.out).mono ?_;(rintro e w5 (⟨q5,oa,pa,hN,rfl,⟨ba',hO⟩,hb⟩|⟨hN,rfl,hb⟩));rotate_left;(have ac:=hd_ (k3k HL.out ⟨eR.out,ll.out⟩ hN);replace HS:=hd_ (HS.out.ext hb);(try clear eE eF fp fq);(try clear dP dQ dR dS);(try clear fs ft fu fy);clear c0 c1 c2 c3;obtain ⟨c0,c1,c2,c3⟩:=c4 HS.out.b;obtain ⟨dP,dQ,dR,dS⟩:=e4 HS.out.lo ei.out;have ez:=hd_ (ei.out.2.2.2.2.ext HS.out.lo);clear hN hb cZ);rotate_left;(obtain ⟨a0,a1,a2,a3,rfl⟩:=v0i (z2e (m:=4) hN);have jo:=hd_ hN;have cL:=hd_ hO;replace HS:=hd_ (HS.out.ext hb);(try clear eE eF fp fq);(try clear dP dQ dR dS);(try clear fs ft fu fy);clear c0 c1 c2 c3;obtain ⟨c0,c1,c2,c3⟩:=c4 HS.out.b;obtain ⟨dP,dQ,dR,dS⟩:=e4 HS.out.lo ei.out;have ez:=hd_ (ei.out.2.2.2.2.ext HS.out.lo);clear hN hO hb cZ))
   | (have _g:=ez.out;go_at_call 122;refine (y1b (m:=-1) ez.out Z4.out).mono ?_;(rintro e w6 (⟨m,om,pm,hN,rfl,⟨bm',hO⟩,hb⟩|⟨hN,rfl,hb⟩));rotate_left;(have ac:=hd_ (k4k HL.out ⟨eR.out,ll.out⟩ hN);replace HS:=hd_ (HS.out.ext hb);(try replace cL:=hd_ (z6d cL.out (z9a hb) (fun _ _ e=>by cases e)));(try clear eE eF fp fq);(try clear dP dQ dR dS);(try clear fs ft fu fy);clear c0 c1 c2 c3;obtain ⟨c0,c1,c2,c3⟩:=c4 HS.out.b;obtain ⟨fs,ft,fu,fy⟩:=e4 HS.out.lo jW.out;have jr:=hd_ (jW.out.2.2.2.2.ext HS.out.lo);clear hN hb ez);rotate_left;(have nm:=hd_ hN;have mu:=hd_ hO;replace HS:=hd_ (HS.out.ext hb);(try replace cL:=hd_ (z6d cL.out (z9a hb) (fun _ _ e=>by cases e)));(try clear eE eF fp fq);(try clear dP dQ dR dS);(try clear fs ft fu fy);clear c0 c1 c2 c3;obtain ⟨c0,c1,c2,c3⟩:=c4 HS.out.b;obtain ⟨fs,ft,fu,fy⟩:=e4 HS.out.lo jW.out;have jr:=hd_ (jW.out.2.2.2.2.ext HS.out.lo);clear hN hO hb ez))
   | (have _g:=jr.out;go_at_call 122;refine (y1b (m:=2) jr.out Z5.out).mono ?_;(rintro e w7 (⟨q7,oe,pe,hN,rfl,⟨be',hO⟩,hb⟩|⟨hN,rfl,hb⟩));rotate_left;(have ac:=hd_ (k5k HL.out ⟨eR.out,ll.out⟩ hN);replace HS:=hd_ (HS.out.ext hb);(try replace cL:=hd_ (z6d cL.out (z9a hb) (fun _ _ e=>by cases e)));(try replace mu:=hd_ (z6d mu.out (z9a hb) (fun _ _ e=>by cases e)));(try clear eE eF fp fq);(try clear dP dQ dR dS);(try clear fs ft fu fy);clear hN hb jr);rotate_left;(obtain ⟨e0,e1,rfl⟩:=j8v (z2e (m:=2) hN);have HNe:=hd_ hN;have po:=hd_ hO;replace HS:=hd_ (HS.out.ext hb);(try replace cL:=hd_ (z6d cL.out (z9a hb) (fun _ _ e=>by cases e)));(try replace mu:=hd_ (z6d mu.out (z9a hb) (fun _ _ e=>by cases e)));(try clear eE eF fp fq);(try clear dP dQ dR dS);(try clear fs ft fu fy);clear hN hO hb jr))
   | (have _g:=aD.out;refine z2d rfl 28 (.tmp 2) (.tmp 21) rfl (w.heap.size+1) [I J 0,I J 0,I J 0,Z ⟨#[]⟩,X G 0 0,I J 0,I J 0,Y M] rfl rfl 28 [I J 0,I J 0,I J 0,Z ⟨#[]⟩,X G 0 0,I J 0,I J 0,Y M] HS.out.z rfl (by kernel_rfl) aD.out (fun w8 aI bg dk=>?_);have aT:=hd_ (HS.out.lo.grown bg.out HS.out.lo.size (fun q e=>by injection e with e;omega));clear aD)
   | (have _g:=aD.out;refine z2d rfl 28 (.tmp 2) (.tmp 55) rfl (w.heap.size+1) [I J 0,I J 0,I J 0,Z ⟨#[]⟩,X G 0 0,I J 0,I J 0,Y M] rfl rfl 28 [I J 0,I J 0,I J 0,Z ⟨#[]⟩,X G 0 0,I J 0,I J 0,Y M] HS.out.z rfl (by kernel_rfl) aD.out (fun w8 aI bg dk=>?_);have aT:=hd_ (HS.out.lo.grown bg.out HS.out.lo.size (fun q e=>by injection e with e;omega));clear aD))
  all_goals (try (refine bodyPost_ret (v:=.tuple #[C ([I J 0,I J 0,I J 0,Z ⟨#[]⟩,X G 0 0,I J 0,I J 0,Y M]:List U).toArray,Y M]) (z6a (fn:=f124) (p:=2) (t2:=3) (ty:=28) rfl _ _ (w.heap.size+1) 28 _ (0,0) _ rfl aI.out underlying28 rfl (by kernel_rfl)) rfl ?_;exact ⟨G,0,0,0,by rw [ac.out];rfl,by rw [ac.out];exact z7h.nil _ _ _,aT.out⟩))
  obtain ⟨ga,hga,hwa,jp⟩:=z3e cL.out (k:=0) rfl
  obtain ⟨lk,ak,-,jq⟩:=z3e cL.out (k:=1) rfl
  rw [hga] at ak;injection ak with ak;injection ak with ak _ _;subst ak
  obtain ⟨lk,ak,-,nr⟩:=z3e cL.out (k:=2) rfl
  rw [hga] at ak;injection ak with ak;injection ak with ak _ _;subst ak
  obtain ⟨lk,ak,-,ka3⟩:=z3e cL.out (k:=3) rfl
  rw [hga] at ak;injection ak with ak;injection ak with ak _ _;subst ak
  subst hga
  have hnea:=z9s cL.out HS.out.z (by decide)
  have dy:=hd_ (And.intro hwa hnea)
  have mv:=hd_ jp
  have je:=hd_ jq
  have kW:=hd_ nr
  have oZ:=hd_ ka3
  clear jp jq nr ka3 hwa hnea
  obtain ⟨ge,hge,hwe,ke0⟩:=z3e po.out (k:=0) rfl
  obtain ⟨ge',ep,-,ke1⟩:=z3e po.out (k:=1) rfl
  rw [hge] at ep;injection ep with ep;injection ep with ep _ _;subst ep
  subst hge
  have hnee:=z9s po.out HS.out.z (by decide)
  have ka:=hd_ (And.intro hwe hnee)
  have Ke0:=hd_ ke0
  have Ke1:=hd_ ke1
  clear ke0 ke1 hwe hnee
  have eN:=hd_ (show w.heap.size<w7.heap.size∧w.heap.size≠w.heap.size+1 from ⟨HS.out.b.lt,by omega⟩)
  have jM:=hd_ (show b3<w7.heap.size∧b3≠w.heap.size+1 from ⟨Nat.lt_of_lt_of_le az.out HS.out.lo.size,by have:=az.out;omega⟩)
  have Hz:=hd_ HS.out.z;have ko:=hd_ (HS.out.b.cv 3 (X (O ⟨b3,gh,G⟩) 7 cap));have kH:=hd_ HS.out.lo
  have Ks3:D (w7.cell? ⟨b3,gh+14,G⟩=O (Z v3.s)):=z1a HS.out.lo ff.out.2.2.1
  have jV:D (y9c x=O ⟨a0,a1,a2,v3.s,m,e0,e1,R (a3=1)⟩):=hd_ (j4o HL.out ⟨eR.out,ll.out⟩ jo.out nm.out HNe.out)
  (try clear c0 c1 c2 c3);(try clear eE eF fp fq);(try clear dP dQ dR dS);(try clear fs ft fu fy);(try clear u1 u2 u3);clear HS jo nm HNe
  refine z7a (S:=fun w'=>∀ k,k<w7.heap.size→k≠w.heap.size+1→w'.heap[k]? = w7.heap[k]?) (late:=fun _=>M) (by kernel_rfl) (fun _ _ _=>rfl) (fun hHeld=>?_)
  have fE:D (CB w7.drew (w.heap.size+1) 28 [I J 0,I J 0,I J 0,Z ⟨#[]⟩,X G 0 0,I J 0,I J 0,Y M]):=Hz.out
  have gR:=hd_ (kH.out.drew)
  have gU:=hd_ (z6d mu.out (z9a (Below.refl w7.heap.size w7).drew) (fun _ _ e=>by cases e));
  have fN:∀ k,k<w7.heap.size→k≠w.heap.size+1→w7.drew.heap[k]? = w7.heap[k]?:=fun _ _ _=>rfl
  have dZ:w7.drew.heap.size=w7.heap.size:=rfl
  generalize w7.drew=wd at *
  refine tkL 56 0 ?_
  refine tkL 57 1 ?_
  refine tkL 58 2 ?_ (hy:=fun wS aa=>by have z:=(cB (w:=w7) (aa ga dy.out.1 dy.out.2)).trans mv.out;go_simp;first|done|with_reducible rfl)
  refine tkL 59 3 ?_
  refine tkL 60 4 ?_
  refine tkL 61 5 ?_ (hy:=fun wS aa=>by have z:=(cB (w:=w7) (aa ga dy.out.1 dy.out.2)).trans je.out;go_simp;first|done|with_reducible rfl)
  refine tkL 62 6 ?_
  refine tkL 63 7 ?_
  refine tkL 64 8 ?_ (hy:=fun wS aa=>by have z:=(cB (w:=w7) (aa ga dy.out.1 dy.out.2)).trans kW.out;go_simp;first|done|with_reducible rfl)
  refine tkL 65 9 ?_
  refine tkL 66 10 ?_ (hy:=fun wS aa=>by have z:=(cB (w:=w7) (aa w.heap.size eN.out.1 eN.out.2)).trans ko.out;go_simp;first|done|with_reducible rfl)
  refine tkL 67 11 ?_
  refine tkL 68 12 ?_
  refine tkL 69 13 ?_ (hy:=fun wS aa=>by have z:=(cB (w:=w7) (aa b3 jM.out.1 jM.out.2)).trans Ks3.out;go_simp;first|done|with_reducible rfl)
  refine tkL 70 14 ?_
  refine tkL 71 15 ?_
  refine tkL 72 16 ?_
  refine tkL 73 17 ?_ (hy:=fun wS aa=>by have z:=(cB (w:=w7) (aa ge ka.out.1 ka.out.2)).trans Ke0.out;go_simp;first|done|with_reducible rfl)
  refine tkL 74 18 ?_
  refine tkL 75 19 ?_
  refine tkL 76 20 ?_ (hy:=fun wS aa=>by have z:=(cB (w:=w7) (aa ge ka.out.1 ka.out.2)).trans Ke1.out;go_simp;first|done|with_reducible rfl)
  refine z2x 77 21 rfl (C ([I J e0,I J e1]:List U).toArray) (z0d (by rfl) 26 _ rfl [I J e0,I J e1] [(0,I J e0),(1,I J e1)] rfl (by kernel_rfl)) ?_
  refine tkL 78 22 ?_
  refine tkL 79 23 ?_
  refine tkL 80 24 ?_ (hy:=fun wS aa=>by have z:=(cB (w:=w7) (aa ga dy.out.1 dy.out.2)).trans oZ.out;go_simp;first|done|with_reducible rfl)
  refine x5r (O 81) (i:=25) (v:=Y (R (a3=1))) rfl rfl (by kernel_rfl) (by kernel_rfl) (by kernel_rfl) (by kernel_rfl) (fun _ _ _ h=>h) (Or.inl ⟨by rfl,fun wS aa=>?hyz25⟩) (by assumption) ?restz25
  case hyz25=>(go_simp;first|done|with_reducible rfl|(simp only [Bool.beq_eq_decide_eq,beq_eq_decide];done)|rfl)
  try simp only [Act.put,aS,aZ,aU]
  refine z2x 82 26 rfl (C ([I J a0,I J a1,I J a2,Z v3.s,X om m.length pm,I J e0,I J e1,Y (R (a3=1))]:List U).toArray) (z0d (by rfl) 28 _ rfl [I J a0,I J a1,I J a2,Z v3.s,X om m.length pm,I J e0,I J e1,Y (R (a3=1))] [(0,I J a0),(1,I J a1),(2,I J a2),(3,Z v3.s),(4,X om m.length pm),(5,C #[I J e0,I J e1]),(6,Y (R (a3=1)))] rfl (by kernel_rfl)) ?_
  refine rdL 27 fun K hK=>?_
  refine z0l (by rfl) 28 (.tmp 2) (.tmp 82) rfl (w.heap.size+1) [I J a0,I J a1,I J a2,Z v3.s,X om m.length pm,I J e0,I J e1,Y (R (a3=1))] rfl rfl 28 [I J 0,I J 0,I J 0,Z ⟨#[]⟩,X G 0 0,I J 0,I J 0,Y M] fE.out rfl (by kernel_rfl) (z8y rfl) (fun w9 fP dA jd=>?_)
  have HO9m:=hd_ (z6d gU.out dA.out (fun k hk e=>y9i gU.out fE.out (by decide) k hk e))
  refine hK.out _ w9 (fun _=>(fun k h1 h2=>(dA.out.block k (by rw [dZ];exact h1) (fun e=>h2 (by injection e))).trans (fN k h1 h2))) (fun ae=>?_)
  clear hK K
  have hHeld:=ae (by rfl)
  clear ae
  try simp only [Act.put,aS,aZ,aU]
  refine tkL 3 28 ?_
  refine z3b (by kernel_rfl) ?_ _
  go_wp2_with fail
  refine bodyPost_ret (v:=.tuple #[C ([I J a0,I J a1,I J a2,Z v3.s,X om m.length pm,I J e0,I J e1,Y (R (a3=1))]:List U).toArray,Y B]) (z6a (fn:=f124) (p:=2) (t2:=3) (ty:=28) rfl _ _ (w.heap.size+1) 28 _ (0,0) _ rfl fP.out underlying28 rfl (by kernel_rfl)) rfl ?_
  have fd:=gR.out.grown dA.out gR.out.size (fun q e=>by injection e with e;omega)
  exact ⟨om,m.length,pm,_,by rw [jV.out];rfl,by rw [jV.out];exact HO9m.out,fd⟩
def v1c (o:Option Cut) (w:H) (e:Ending) (w':H):Prop:=e=F (.tuple #[C ((o.getD ⟨M,0,0,0,0⟩).cells).toArray,Y o.isSome])∧E w.heap.size w w'
theorem k6k {x:V} (h:¬ (x.kind=3∧x.l.length=4)):y7t x=G:=by
 unfold y7t
 split
 ·rename_i hl
  rw [hl] at h
  rw [if_neg (fun hk=>h ⟨hk,rfl⟩)]
 ·rfl
theorem k7k {x v0 v1 v2 v3:V} (hl:x.l=[v0,v1,v2,v3]) (hk:x.kind=3) (h:z7b (3) (lV [v0,v1,v3])=G):y7t x=G:=by
 unfold y7t
 simp only [hl,if_pos hk]
 rw [h];rfl
theorem k8k {x v0 v1 v2 v3:V} (hl:x.l=[v0,v1,v2,v3]) (hk:x.kind=3) (h:z7b (2) (v2)=G):y7t x=G:=by
 unfold y7t
 simp only [hl,if_pos hk]
 cases z7b (3) (lV [v0,v1,v3]) with
 | none=>rfl
 | some _ =>
 simp only [Option.bind_some]
 rw [h];rfl
theorem j5o {x v0 v1 v2 v3:V} {a0 a1 a2:Int} {e0 e1:Int} (hl:x.l=[v0,v1,v2,v3]) (hk:x.kind=3) (ha:z7b (3) (lV [v0,v1,v3])=O [a0,a1,a2]) (he:z7b (2) (v2)=O [e0,e1]):y7t x=O ⟨R (a0=1),a1,e0,e1,a2⟩:=by
 unfold y7t
 simp only [hl,if_pos hk,ha,he,Option.bind_some]
 rfl
theorem y0j (x:V) (v:U) (w:H) (hv:RD w x v) (hz:sz x≤60000):A prog 175 #[v] w (v1c (y7t x) w):=by
 obtain ⟨oa,cap,rfl⟩:=hv.form
 obtain ⟨ln,hln⟩:∃ ln,x.l.length=ln:=⟨_,rfl⟩
 rw [hln] at hv ⊢
 have aC:=@RD.el w x (I J x.kind) (I J x.n) (Z x.s) oa ln cap hv
 have hlb:=hv.lt
 rw [hln] at hlb
 have HS:=hd_ (RS.start (T:=88) (Zc:=[Y M,I J 0,I J 0,I J 0,I J 0]) hv)
 have aD:=hd_ (show ∀ u∈([Y M,I J 0,I J 0,I J 0,I J 0]:List U),u.oneCell'=B from (z8y rfl))
 by_cases hs:x.kind=3∧ln=4
 case neg =>
  have ac:=hd_ (k6k (x:=x) (fun h=>hs ⟨h.1,hln.symm.trans h.2⟩))
  have bX:D (R (x.kind=3∧(x.l.length:Int)=(4:Int))=M):=hd_ (decide_eq_false (fun h=>hs ⟨h.1,by have:=h.2;omega⟩))
  clear hs hln hv aC hz
  go_enter func175,ntmps175
  go_upto_region 1 with fail
  change Code.wp _ _ _ _ ((w.alloc (Q (v4 x (X oa ln cap)).toArray 80)).alloc (Q ([Y M,I J 0,I J 0,I J 0,I J 0]:List U).toArray 88))
  generalize (w.alloc (Q (v4 x (X oa ln cap)).toArray 80)).alloc (Q ([Y M,I J 0,I J 0,I J 0,I J 0]:List U).toArray 88)=w1 at *
  obtain ⟨c0,c1,c2,c3⟩:=c4 HS.out.b
  go_wp2_with (first
   | (go_at_call 121;refine (z9c 4 x _ _ HS.out.v).mono ?_;rw [bX.out];(rintro e w2 ⟨rfl,hb⟩;replace HS:=hd_ (HS.out.ext hb);clear hb;clear bX))
   | (have _g:=aD.out;refine scs 88 (.tmp 2) (.tmp 11) rfl (w.heap.size+1) [Y M,I J 0,I J 0,I J 0,I J 0] rfl rfl HS.out.z aD.out (fun w8 aI bg dk=>?_);have aT:=hd_ (HS.out.lo.grown bg.out HS.out.lo.size (fun q e=>by injection e with e;omega));clear aD))
  (refine bodyPost_ret (v:=.tuple #[C ([Y M,I J 0,I J 0,I J 0,I J 0]:List U).toArray,Y M]) (z6a (fn:=f175) (p:=2) (t2:=3) (ty:=88) rfl _ _ (w.heap.size+1) 88 _ (0,0) _ rfl aI.out underlying88 rfl (by kernel_rfl)) rfl ?_;exact ⟨by rw [ac.out];rfl,aT.out⟩)
 case pos =>
  obtain ⟨hk3,ij⟩:=hs
  subst ij
  obtain ⟨v0,v1,v2,v3,hl⟩:=v2i hln
  rw [hl] at aC
  have bX:D (R (x.kind=3∧(x.l.length:Int)=(4:Int))=B):=hd_ (decide_eq_true ⟨hk3,by omega⟩)
  have HL:=hd_ hl;have eR:=hd_ hk3
  have hsz:=z4c x
  rw [hl] at hsz
  simp only [szs] at hsz
  obtain ⟨b2,cC,da,jE,ob2,cb2,cg,ch,cj,cA,hr2⟩:=aC (k:=2) (y:=v2) rfl
  subst da
  have dO:=hd_ (And.intro cg (And.intro ch (And.intro cj (And.intro cA hr2))))
  have Z2:D (sz v2≤100000):=hd_ (by omega)
  have ZP:D (sz (lV [v0,v1,v3])≤100000):=hd_ (by have e:=z4c (lV [v0,v1,v3]);simp only [lV,V.s,V.l,szs,show (⟨#[]⟩:ByteArray).size=0 from rfl] at e ⊢;omega)
  have gb:D (∀ (j i:Nat) (y:V),([0,1,3]:List Nat)[j]? = O i→([v0,v1,v3]:List V)[j]? = O y→x.l[i]? = O y):=hd_ (by
   intro j i y h1 h2
   rw [hl]
   match j,h1,h2 with
   | 0,h1,h2=>simp at h1 h2;subst h1;subst h2;rfl
   | 1,h1,h2=>simp at h1 h2;subst h1;subst h2;rfl
   | 2,h1,h2=>simp at h1 h2;subst h1;subst h2;rfl
   | k+3,h1,_=>simp at h1)
  have az:=hd_ jE
  clear hz hsz hv aC hln hk3 hl cg ch cj cA hr2 jE
  go_enter func175,ntmps175
  go_upto_region 1 with fail
  change Code.wp _ _ _ _ ((w.alloc (Q (v4 x (X (O ⟨b2,cC,G⟩) 4 cap)).toArray 80)).alloc (Q ([Y M,I J 0,I J 0,I J 0,I J 0]:List U).toArray 88))
  generalize (w.alloc (Q (v4 x (X (O ⟨b2,cC,G⟩) 4 cap)).toArray 80)).alloc (Q ([Y M,I J 0,I J 0,I J 0,I J 0]:List U).toArray 88)=w1 at *
  obtain ⟨c0,c1,c2,c3⟩:=c4 HS.out.b
  go_upto_region 7 with (first
   | (go_at_call 121;refine (z9c 4 x _ _ HS.out.v).mono ?_;rw [bX.out];(rintro e w2 ⟨rfl,hb⟩;replace HS:=hd_ (HS.out.ext hb);clear hb;clear c0 c1 c2 c3;obtain ⟨c0,c1,c2,c3⟩:=c4 HS.out.b;have aR:E w2.heap.size w2 (w2.alloc (Q [I J 0,I J 1,I J 3].toArray 3)):=z4b _;have bu:=hd_ (HS.out.ext aR);have bH:D (z4g nuK (w2.alloc (Q [I J 0,I J 1,I J 3].toArray 3)).heap.size (w2.alloc (Q [I J 0,I J 1,I J 3].toArray 3)) (([0,1,3]:List Nat).map (fun (k:Nat)=>(k:Int))) (X (O ⟨w2.heap.size,0,G⟩) 3 3)):=hd_ (z2n (K:=nuK) 3 (z3a w2 (Q [I J 0,I J 1,I J 3].toArray 3) 3 _ rfl) rfl (by unfold maxLen;decide));clear aR;clear bX))
   | (have _g:=bH.out;go_at_call 123;refine (z2k x _ _ [0,1,3] [v0,v1,v3] _ bu.out.v bH.out rfl gb.out (by decide)).mono ?_;(rintro e w4 ⟨lv4,rfl,hr,hb⟩;replace HS:=hd_ (bu.out.ext hb);have cZ:=hd_ hr;clear hr hb bu bH))
   | (have _g:=cZ.out;go_at_call 122;refine (y1b (m:=3) cZ.out ZP.out).mono ?_;(rintro e w5 (⟨q5,oa,pa,hN,rfl,⟨ba',hO⟩,hb⟩|⟨hN,rfl,hb⟩));rotate_left;(have ac:=hd_ (k7k HL.out eR.out hN);replace HS:=hd_ (HS.out.ext hb);(try clear cg ch cj cA);clear c0 c1 c2 c3;obtain ⟨c0,c1,c2,c3⟩:=c4 HS.out.b;obtain ⟨cg,ch,cj,cA⟩:=e4 HS.out.lo dO.out;have ez:=hd_ (dO.out.2.2.2.2.ext HS.out.lo);clear hN hb cZ);rotate_left;(obtain ⟨a0,a1,a2,rfl⟩:=k1w (z2e (m:=3) hN);have jo:=hd_ hN;have cL:=hd_ hO;replace HS:=hd_ (HS.out.ext hb);(try clear cg ch cj cA);clear c0 c1 c2 c3;obtain ⟨c0,c1,c2,c3⟩:=c4 HS.out.b;obtain ⟨cg,ch,cj,cA⟩:=e4 HS.out.lo dO.out;have ez:=hd_ (dO.out.2.2.2.2.ext HS.out.lo);clear hN hO hb cZ))
   | (have _g:=ez.out;go_at_call 122;refine (y1b (m:=2) ez.out Z2.out).mono ?_;(rintro e w6 (⟨q6,oe,pe,hN,rfl,⟨be',hO⟩,hb⟩|⟨hN,rfl,hb⟩));rotate_left;(have ac:=hd_ (k8k HL.out eR.out hN);replace HS:=hd_ (HS.out.ext hb);(try replace cL:=hd_ (z6d cL.out (z9a hb) (fun _ _ e=>by cases e)));(try clear cg ch cj cA);clear hN hb ez);rotate_left;(obtain ⟨e0,e1,rfl⟩:=j8v (z2e (m:=2) hN);have HNe:=hd_ hN;have po:=hd_ hO;replace HS:=hd_ (HS.out.ext hb);(try replace cL:=hd_ (z6d cL.out (z9a hb) (fun _ _ e=>by cases e)));(try clear cg ch cj cA);clear hN hO hb ez))
   | (have _g:=aD.out;refine scs 88 (.tmp 2) (.tmp 11) rfl (w.heap.size+1) [Y M,I J 0,I J 0,I J 0,I J 0] rfl rfl HS.out.z aD.out (fun w8 aI bg dk=>?_);have aT:=hd_ (HS.out.lo.grown bg.out HS.out.lo.size (fun q e=>by injection e with e;omega));clear aD)
   | (have _g:=aD.out;refine scs 88 (.tmp 2) (.tmp 33) rfl (w.heap.size+1) [Y M,I J 0,I J 0,I J 0,I J 0] rfl rfl HS.out.z aD.out (fun w8 aI bg dk=>?_);have aT:=hd_ (HS.out.lo.grown bg.out HS.out.lo.size (fun q e=>by injection e with e;omega));clear aD))
  all_goals (try (refine bodyPost_ret (v:=.tuple #[C ([Y M,I J 0,I J 0,I J 0,I J 0]:List U).toArray,Y M]) (z6a (fn:=f175) (p:=2) (t2:=3) (ty:=88) rfl _ _ (w.heap.size+1) 88 _ (0,0) _ rfl aI.out underlying88 rfl (by kernel_rfl)) rfl ?_;exact ⟨by rw [ac.out];rfl,aT.out⟩))
  obtain ⟨ga,hga,hwa,jp⟩:=z3e cL.out (k:=0) rfl
  obtain ⟨lk,ak,-,jq⟩:=z3e cL.out (k:=1) rfl
  rw [hga] at ak;injection ak with ak;injection ak with ak _ _;subst ak
  obtain ⟨lk,ak,-,nr⟩:=z3e cL.out (k:=2) rfl
  rw [hga] at ak;injection ak with ak;injection ak with ak _ _;subst ak
  subst hga
  have hnea:=z9s cL.out HS.out.z (by decide)
  have dy:=hd_ (And.intro hwa hnea)
  have mv:=hd_ jp
  have je:=hd_ jq
  have kW:=hd_ nr
  clear jp jq nr hwa hnea
  obtain ⟨ge,hge,hwe,ke0⟩:=z3e po.out (k:=0) rfl
  obtain ⟨ge',ep,-,ke1⟩:=z3e po.out (k:=1) rfl
  rw [hge] at ep;injection ep with ep;injection ep with ep _ _;subst ep
  subst hge
  have hnee:=z9s po.out HS.out.z (by decide)
  have ka:=hd_ (And.intro hwe hnee)
  have Ke0:=hd_ ke0
  have Ke1:=hd_ ke1
  clear ke0 ke1 hwe hnee
  have eN:=hd_ (show w.heap.size<w6.heap.size∧w.heap.size≠w.heap.size+1 from ⟨HS.out.b.lt,by omega⟩)
  have jM:=hd_ (show b2<w6.heap.size∧b2≠w.heap.size+1 from ⟨Nat.lt_of_lt_of_le az.out HS.out.lo.size,by have:=az.out;omega⟩)
  have Hz:=hd_ HS.out.z;have ko:=hd_ (HS.out.b.cv 3 (X (O ⟨b2,cC,G⟩) 4 cap));have kH:=hd_ HS.out.lo
  have jV:D (y7t x=O ⟨R (a0=1),a1,e0,e1,a2⟩):=hd_ (j5o HL.out eR.out jo.out HNe.out)
  (try clear c0 c1 c2 c3);(try clear cg ch cj cA);(try clear u1 u2 u3);clear HS jo HNe
  refine z7a (S:=fun w'=>∀ k,k<w6.heap.size→k≠w.heap.size+1→w'.heap[k]? = w6.heap[k]?) (late:=fun _=>M) (by kernel_rfl) (fun _ _ _=>rfl) (fun hHeld=>?_)
  have fE:D (CB w6.drew (w.heap.size+1) 88 [Y M,I J 0,I J 0,I J 0,I J 0]):=Hz.out
  have gR:=hd_ (kH.out.drew)
  skip
  have fN:∀ k,k<w6.heap.size→k≠w.heap.size+1→w6.drew.heap[k]? = w6.heap[k]?:=fun _ _ _=>rfl
  have dZ:w6.drew.heap.size=w6.heap.size:=rfl
  generalize w6.drew=wd at *
  refine tkL 34 0 ?_
  refine tkL 35 1 ?_
  refine tkL 36 2 ?_ (hy:=fun wS aa=>by have z:=(cB (w:=w6) (aa ga dy.out.1 dy.out.2)).trans mv.out;go_simp;first|done|with_reducible rfl)
  refine x5r (O 37) (i:=3) (v:=Y (R (a0=1))) rfl rfl (by kernel_rfl) (by kernel_rfl) (by kernel_rfl) (by kernel_rfl) (fun _ _ _ h=>h) (Or.inl ⟨by rfl,fun wS aa=>?hyz3⟩) (by assumption) ?restz3
  case hyz3=>(go_simp;first|done|with_reducible rfl|(simp only [Bool.beq_eq_decide_eq,beq_eq_decide];done)|rfl)
  try simp only [Act.put,aS,aZ,aU]
  refine tkL 38 4 ?_
  refine tkL 39 5 ?_
  refine tkL 40 6 ?_ (hy:=fun wS aa=>by have z:=(cB (w:=w6) (aa ga dy.out.1 dy.out.2)).trans je.out;go_simp;first|done|with_reducible rfl)
  refine tkL 41 7 ?_
  refine tkL 42 8 ?_
  refine tkL 43 9 ?_ (hy:=fun wS aa=>by have z:=(cB (w:=w6) (aa ge ka.out.1 ka.out.2)).trans Ke0.out;go_simp;first|done|with_reducible rfl)
  refine tkL 44 10 ?_
  refine tkL 45 11 ?_
  refine tkL 46 12 ?_ (hy:=fun wS aa=>by have z:=(cB (w:=w6) (aa ge ka.out.1 ka.out.2)).trans Ke1.out;go_simp;first|done|with_reducible rfl)
  refine z2x 47 13 rfl (C ([I J e0,I J e1]:List U).toArray) (z0d (by rfl) 26 _ rfl [I J e0,I J e1] [(0,I J e0),(1,I J e1)] rfl (by kernel_rfl)) ?_
  refine tkL 48 14 ?_
  refine tkL 49 15 ?_
  refine tkL 50 16 ?_ (hy:=fun wS aa=>by have z:=(cB (w:=w6) (aa ga dy.out.1 dy.out.2)).trans kW.out;go_simp;first|done|with_reducible rfl)
  refine z2x 51 17 rfl (C ([Y (R (a0=1)),I J a1,I J e0,I J e1,I J a2]:List U).toArray) (z0d (by rfl) 88 _ rfl [Y (R (a0=1)),I J a1,I J e0,I J e1,I J a2] [(0,Y (R (a0=1))),(1,I J a1),(2,C #[I J e0,I J e1]),(3,I J a2)] rfl (by kernel_rfl)) ?_
  refine rdL 18 fun K hK=>?_
  refine sif 88 (.tmp 2) (.tmp 51) rfl (w.heap.size+1) [Y (R (a0=1)),I J a1,I J e0,I J e1,I J a2] rfl rfl fE.out (z8y rfl) (fun w9 fP dA jd=>?_)
  refine hK.out _ w9 (fun _=>(fun k h1 h2=>(dA.out.block k (by rw [dZ];exact h1) (fun e=>h2 (by injection e))).trans (fN k h1 h2))) (fun ae=>?_)
  clear hK K
  have hHeld:=ae (by rfl)
  clear ae
  try simp only [Act.put,aS,aZ,aU]
  refine tkL 3 19 ?_
  refine z3b (by kernel_rfl) ?_ _
  go_wp2_with fail
  refine bodyPost_ret (v:=.tuple #[C ([Y (R (a0=1)),I J a1,I J e0,I J e1,I J a2]:List U).toArray,Y B]) (z6a (fn:=f175) (p:=2) (t2:=3) (ty:=88) rfl _ _ (w.heap.size+1) 88 _ (0,0) _ rfl fP.out underlying88 rfl (by kernel_rfl)) rfl ?_
  have fd:=gR.out.grown dA.out gR.out.size (fun q e=>by injection e with e;omega)
  exact ⟨by rw [jV.out];rfl,fd⟩
def v0f (o:Option (List Nod)) (w:H) (e:Ending) (w':H):Prop:=∃ oa n cap b rl,e=F (.tuple #[X oa n cap,Y o.isSome])∧x4b b (X oa n cap) rl (o.getD []) w'∧E w.heap.size w w'
theorem z7y {o:Option (List Nod)} {w w':H} (h:o=G) (hg:w.grownBy w' G):v0f o w (.returned (.tuple #[X G 0 0,Y M])) w':=by subst h;exact ⟨G,0,0,0,[],rfl,x4b.nil _ _,z1d hg⟩
theorem k9k {y:V} (h:¬ (y.kind=3∧y.l.length=3)):x7b y=G:=by
 unfold x7b
 split
 ·rename_i hl
  rw [hl] at h
  rw [if_neg (fun hk=>h ⟨hk.1,rfl⟩)]
 ·rfl
theorem k0l {y y0 y1 y2:V} (hl:y.l=[y0,y1,y2]) (h:¬ y2.kind=3):x7b y=G:=by
 unfold x7b
 simp only [hl,if_neg (show ¬ (y.kind=3∧y2.kind=3) from fun hk=>h hk.2)]
theorem k1l {y y0 y1 y2:V} (hl:y.l=[y0,y1,y2]) (hk:y.kind=3∧y2.kind=3) (h:z7b 2 (lV [y0,y1])=G):x7b y=G:=by
 unfold x7b
 simp only [hl,if_pos hk,h];rfl
theorem k2l {y y0 y1 y2:V} {a0 a1:Int} (hl:y.l=[y0,y1,y2]) (hk:y.kind=3∧y2.kind=3) (h:z7b 2 (lV [y0,y1])=O [a0,a1]) (h2:z4k y2.l=G):x7b y=G:=by
 unfold x7b
 simp only [hl,if_pos hk,h,h2];rfl
theorem j6o {y y0 y1 y2:V} {a0 a1:Int} {q:List Cut} (hl:y.l=[y0,y1,y2]) (hk:y.kind=3∧y2.kind=3) (h:z7b 2 (lV [y0,y1])=O [a0,a1]) (h2:z4k y2.l=O q):x7b y=O ⟨a0,a1,q⟩:=by
 unfold x7b
 simp only [hl,if_pos hk,h,h2];rfl
theorem x7y {l:List V} {k:Nat} {y:V} {u:List Cut} (h:z4k l=(z4k (l.drop k)).map (u ++ ·)) (hy:l[k]? = O y) (hk:y7t y=G):z4k l=G:=by
 obtain ⟨h1,h2⟩:=gS.1 hy
 rw [h,List.drop_eq_getElem_cons h1,h2];simp only [z4k,hk,Option.bind_none,Option.map_none]
theorem x8y {l:List V} {k:Nat} {y:V} {u:List Cut} {c:Cut} (h:z4k l=(z4k (l.drop k)).map (u ++ ·)) (hy:l[k]? = O y) (hk:y7t y=O c):z4k l=(z4k (l.drop (k+1))).map ((u++[c]) ++ ·):=by
 obtain ⟨h1,h2⟩:=gS.1 hy
 rw [h,List.drop_eq_getElem_cons h1,h2]
 simp only [z4k,hk,Option.bind_some]
 cases z4k (l.drop (k+1)) with
 | none=>rfl
 | some t=>simp
theorem j7o {l:List V} {u:List Cut} (h:z4k l=(z4k (l.drop l.length)).map (u ++ ·)):z4k l=O u:=by
 rw [h,List.drop_length];simp [z4k]
theorem z3u {l:List V} {k:Nat} {y:V} {u:List Nod} (h:z5k l=(z5k (l.drop k)).map (u ++ ·)) (hy:l[k]? = O y) (hk:x7b y=G):z5k l=G:=by
 obtain ⟨h1,h2⟩:=gS.1 hy
 rw [h,List.drop_eq_getElem_cons h1,h2];simp only [z5k,hk,Option.bind_none,Option.map_none]
theorem x9y {l:List V} {k:Nat} {y:V} {u:List Nod} {c:Nod} (h:z5k l=(z5k (l.drop k)).map (u ++ ·)) (hy:l[k]? = O y) (hk:x7b y=O c):z5k l=(z5k (l.drop (k+1))).map ((u++[c]) ++ ·):=by
 obtain ⟨h1,h2⟩:=gS.1 hy
 rw [h,List.drop_eq_getElem_cons h1,h2]
 simp only [z5k,hk,Option.bind_some]
 cases z5k (l.drop (k+1)) with
 | none=>rfl
 | some t=>simp
theorem j8o {l:List V} {u:List Nod} (h:z5k l=(z5k (l.drop l.length)).map (u ++ ·)):z5k l=O u:=by
 rw [h,List.drop_length];simp [z5k]
structure RtRel (x:V) (oa:Option Addr) (cap:Nat) (w:H) (v4 v5:U) (wr:H):Prop where
 h:∃ (k:Nat) (q:List Nod) (rl:List Nb) (ov:Option Addr) (cv:Nat),k≤x.l.length∧q.length=k∧rl.length=k∧v5=I J (k:Int)∧v4=X ov rl.length cv∧z5k x.l=(z5k (x.l.drop k)).map (q ++ ·)∧DSt w G 0 [] [z1z (w.heap.size+1) (X ov rl.length cv) rl q,z2h w.heap.size 80 [I J x.kind,I J x.n,Z x.s,X oa x.l.length cap]] wr
structure RuRel (x y y2:V) (oa oy:Option Addr) (cap cy n bx bn:Nat) (w:H) (p1 p2:Int) (vt:U) (rl:List Nb) (q:List Nod) (dV:U) (wr:H):Prop where
 h:∃ (k:Nat) (cq:List Cut) (oq:Option Addr) (cpq:Nat),k≤y2.l.length∧cq.length=k∧dV=I J (k:Int)∧z4k y2.l=(z4k (y2.l.drop k)).map (cq ++ ·) ∧
  DSt w G 0 [] [z1w cuK 88 bn (X oq cq.length cpq) cq,z2h n 48 [I J p1,I J p2,X oq cq.length cpq],z2h bx 80 (v4 y (X oy 3 cy)),z1z (w.heap.size+1) vt rl q,z2h w.heap.size 80 (v4 x (X oa x.l.length cap))] wr∧bn≤wr.heap.size
theorem k3l {n bn bx b k g0:Nat} {v:Value} {rl:List Nb} {q:List Nod} {cs ds es:List Value} {u:Thing} (hu:u∈[z2h n 48 cs,z2h bx 80 ds,z1z b v rl q,z2h g0 80 es]) (hk:bn≤k) (hx:g0<bx∧∀ j,j2t v rl j→j<bx) (hl:bx<n∧n<bn) (h:u.blk k):False:=by
 simp only [mC,nM,or_false] at hu
 rcases hu with rfl|rfl|rfl|rfl
 ·have h:k=n:=h
  omega
 ·have h:k=bx:=h
  omega
 ·have:=hx.2 k h;omega
 ·have h:k=g0:=h
  omega
theorem y5c (x:V) (v:U) (w:H) (hv:RD w x v) (hz:sz x≤60000):A prog 125 #[v] w (v0f (y6n x) w):=by
 obtain ⟨oa,cap,rfl⟩:=hv.form
 have HV:=hd_ hv;have Hz:=hd_ hz
 have ax:E w.heap.size w (w.alloc (Q [I J x.kind,I J x.n,Z x.s,X oa x.l.length cap].toArray 80)):=z4b _
 have hc:CB (w.alloc (Q [I J x.kind,I J x.n,Z x.s,X oa x.l.length cap].toArray 80)) w.heap.size 80 [I J x.kind,I J x.n,Z x.s,X oa x.l.length cap]:=z3a w (Q [I J x.kind,I J x.n,Z x.s,X oa x.l.length cap].toArray 80) _ _ rfl
 have c0:=hc.cv 0 (I J x.kind)
 have HZ:D ((w.alloc (Q [I J x.kind,I J x.n,Z x.s,X oa x.l.length cap].toArray 80)).heap.size=w.heap.size+1):=World.size_alloc _ _
 have HB:=hd_ ax;have HC:=hd_ hc
 have b1:=hv.lt
 have hxl:x.l.length≤3000:=by have h1:=y1c x.l;have h2:=z4c x;omega
 have nI:=hd_ hxl
 clear hv hz ax hc hxl
 by_cases hk:x.kind=3
 case neg =>
  have ac:D (y6n x=G):=hd_ (by unfold y6n;rw [if_neg hk])
  have u1:R (x.kind=3)=M:=decide_eq_false hk
  have u2:(x.kind == 3)=M:=beq_false_of_ne hk
  have u3:(x.kind != 3)=B:=by rw [bne,u2];rfl
  clear hk
  go_enter func125,ntmps125
  go_upto_region 1 with fail
  change Code.wp _ _ _ _ (w.alloc (Q [I J x.kind,I J x.n,Z x.s,X oa x.l.length cap].toArray 80))
  generalize w.alloc (Q [I J x.kind,I J x.n,Z x.s,X oa x.l.length cap].toArray 80)=w1 at *
  go_wp2_with fail
  go_ret2
  exact z7y ac.out (z9a HB.out)
 have HT:D (y6n x=z5k x.l):=hd_ (by unfold y6n;rw [if_pos hk])
 have u1:R (x.kind=3)=B:=decide_eq_true hk
 have u2:(x.kind == 3)=B:=by rw [hk];rfl
 have u3:(x.kind != 3)=M:=by rw [bne,u2];rfl
 have eR:=hd_ hk
 clear hk
 go_enter func125,ntmps125
 go_upto_region 1 with fail
 change Code.wp _ _ _ _ (w.alloc (Q [I J x.kind,I J x.n,Z x.s,X oa x.l.length cap].toArray 80))
 generalize w.alloc (Q [I J x.kind,I J x.n,Z x.s,X oa x.l.length cap].toArray 80)=w1 at *
 go_upto_region 4 with fail
 have hbz:E w1.heap.size w1 (w1.alloc (Q #[] 48)):=z4b _
 have gX:z7h ndK 48 (w1.alloc (Q #[] 48)) (w.heap.size+1) (X (O ⟨w1.heap.size,0,G⟩) 0 0) []:=z7h.made _ _ _ (by rw [HZ.out];exact Nat.le_refl _)
 have hD:DSt w G 0 [] [z1z (w.heap.size+1) (X (O ⟨w1.heap.size,0,G⟩) 0 0) [] [],z2h w.heap.size 80 [I J x.kind,I J x.n,Z x.s,X oa x.l.length cap]] (w1.alloc (Q #[] 48)) :=
  ⟨z2a (z9a HB.out) (z9a hbz) (.inl rfl),Nat.zero_le _,fun p hp=>absurd hp nM,fun p hp=>absurd hp nM,fun p hp=>absurd hp nM,List.nodup_nil,fun t ht=>by
   simp only [mC,nM,or_false] at ht
   rcases ht with rfl|rfl
   ·exact ⟨gX,rfl,fun i t r h=>by simp at h⟩
   ·exact HC.out.ext hbz,fun t ht p hp=>absurd hp nM⟩
 have HD:=hd_ hD
 change Code.wp _ _ _ _ (w1.alloc (Q #[] 48))
 clear hbz gX hD c0 HC HB HZ
 generalize w1.heap.size=g1 at *
 generalize w1.alloc (Q #[] 48)=w2 at *
 clear u1 u2 u3
 go_wp2_with fail
 go_loopw [4,5] (fun v4 v5 wr=>RtRel x oa cap w v4 v5 wr) (fun _ v5 _=>x.l.length - (intOf v5).toNat)
 case atStart=>exact ⟨⟨0,[],[],_,_,Nat.zero_le _,rfl,rfl,rfl,rfl,by simp,HD.out⟩⟩
 case round =>
  obtain ⟨k,q,rl,ov,cv,hkl,hql,hrl,rfl,rfl,hA,hS⟩:=hrel.h
  clear hrel HD
  have HA:=hd_ hA;have HS:=hd_ hS;have HQ:=hd_ hql;have HRL:=hd_ hrl
  have hbx:CB wr w.heap.size 80 [I J x.kind,I J x.n,Z x.s,X oa x.l.length cap]:=hS.thg (z2h w.heap.size 80 [I J x.kind,I J x.n,Z x.s,X oa x.l.length cap]) (mG (i:=1) rfl)
  have gD:=hd_ hbx
  have c3:=hbx.cv 3 (X oa x.l.length cap)
  clear hA hS hql hrl hbx
  by_cases hlt:k<x.l.length
  case neg =>
   have hkl2:k=x.l.length:=by omega
   have t1:R ((k:Int)<(x.l.length:Int))=M:=by simp;omega
   have t2:R (k<x.l.length)=M:=by simp;omega
   have HE:=hd_ hkl2
   clear hkl2 hkl hlt
   go_wp2_with fail
   go_ret2
   have hfin:=j8o (l:=x.l) (u:=q) (by have:=HA.out;rwa [HE.out] at this)
   have hto:x4b (w.heap.size+1) (X ov rl.length cv) rl q wr:=HS.out.thg (z1z (w.heap.size+1) (X ov rl.length cv) rl q) (mG (i:=0) rfl)
   refine ⟨ov,rl.length,cv,w.heap.size+1,rl,?_,?_,z1d HS.out.gr⟩
   ·rw [HT.out,hfin];rfl
   ·rw [HT.out,hfin];exact hto
  case pos =>
   have t1:R ((k:Int)<(x.l.length:Int))=B:=by simp;omega
   have t2:R (k<x.l.length)=B:=by simp;omega
   have t3:(k:Int)<(x.l.length:Int):=by omega
   obtain ⟨y,hy⟩:∃ y,x.l[k]? = O y:=⟨_,List.getElem?_eq_getElem hlt⟩
   obtain ⟨b,off,rfl,hbw,oy,cy,d0,d1,d2,d3,hyr⟩:=HV.out.el hy
   have hyz:sz y≤60000:=by
    have h1:=y9r (mG hy);have h2:=z4c x;have:=Hz.out;omega
   obtain ⟨ly,hly⟩:∃ ly,y.l.length=ly:=⟨_,rfl⟩
   rw [hly] at d3 hyr
   have hbr:=z1d HS.out.gr
   replace d0:=z1a hbr d0;replace d1:=z1a hbr d1;replace d2:=z1a hbr d2;replace d3:=z1a hbr d3
   have HY:=hd_ hy;have gn:=hd_ (RD.ext hyr hbr);have HYZ:=hd_ hyz;have HYw:=hd_ hyr
   have Hkx:=hd_ hlt
   clear hy hyr hyz hkl hlt hbw
   go_upto_region 8 with fail
   have aR:E wr.heap.size wr (wr.alloc (Q [I J y.kind,I J y.n,Z y.s,X oy ly cy].toArray 80)):=z4b _
   obtain ⟨bx,hbx⟩:∃ bx,wr.heap.size=bx:=⟨_,rfl⟩
   have hcx:CB (wr.alloc (Q [I J y.kind,I J y.n,Z y.s,X oy ly cy].toArray 80)) bx 80 [I J y.kind,I J y.n,Z y.s,X oy ly cy]:=by rw [← hbx];exact z3a wr _ 80 _ rfl
   have ew:=hd_ ((HS.out.grow aR).add (z2h bx 80 [I J y.kind,I J y.n,Z y.s,X oy ly cy]) hcx (fun p hp=>absurd hp nM))
   have dm:=hd_ (gn.out.ext aR)
   have hto:x4b (w.heap.size+1) (X ov rl.length cv) rl q wr:=HS.out.thg _ mS
   have eN:=hd_ (show w.heap.size<bx∧∀ j,j2t (X ov rl.length cv) rl j→j<bx from ⟨by have:=gD.out.lt;omega,fun j hj=>by have:=(hto.low hj).2;omega⟩)
   clear hto
   rw [hbx]
   have e0:=hcx.cv 0 (I J y.kind)
   have e1:=hcx.cv 1 (I J y.n)
   have e2:=hcx.cv 2 (Z y.s)
   have e3:=hcx.cv 3 (X oy ly cy)
   clear c3 d0 d1 d2 d3 aR hcx HS gn gD hbr hbx
   change Code.wp _ _ _ _ (wr.alloc (Q [I J y.kind,I J y.n,Z y.s,X oy ly cy].toArray 80))
   generalize wr.alloc (Q [I J y.kind,I J y.n,Z y.s,X oy ly cy].toArray 80)=w3 at *
   by_cases hs:y.kind=3∧ly=3
   case neg =>
    have bX:D (R (y.kind=3∧(y.l.length:Int)=(3:Int))=M):=hd_ (decide_eq_false (fun h=>hs ⟨h.1,by have:=h.2;omega⟩))
    have ac:D (y6n x=G):=hd_ (by rw [HT.out];exact z3u HA.out HY.out (k9k (fun h=>hs ⟨h.1,by omega⟩)))
    clear hs hly
    go_wp2_with (go_at_call 121;refine (z9c 3 y _ _ dm.out).mono ?_;rw [bX.out];(rintro e w4 ⟨rfl,hb⟩;have HG:=hd_ (ew.out.grow hb).gr;clear hb))
    go_ret2
    exact z7y ac.out HG.out
   obtain ⟨hyk,hl3⟩:=hs
   subst hl3
   obtain ⟨y0,y1,y2,hul⟩:=v9b hly
   have bX:D (R (y.kind=3∧(y.l.length:Int)=(3:Int))=B):=hd_ (decide_eq_true ⟨hyk,by omega⟩)
   have HUL:=hd_ hul;have Hyk:=hd_ hyk
   obtain ⟨b2,cC,rfl,hb2w,ou,cu,f0,f1,f2,f3,hur⟩:=@RD.el w y (I J y.kind) (I J y.n) (Z y.s) oy 3 cy HYw.out 2 y2 (by rw [hul];rfl)
   have Hb2w:=hd_ hb2w;have HF0:=hd_ f0;have HF3:D (w.cell? ⟨b2,cC+11,G⟩=O (X ou y2.l.length cu)):=hd_ f3;have HUR:=hd_ hur
   have hszy:=z4c y
   rw [hul] at hszy
   simp only [szs] at hszy
   have fg:D (sz y2≤60000):=hd_ (by have:=HYZ.out;omega)
   have ZP:D (sz (lV [y0,y1])≤100000):=hd_ (by have e:=z4c (lV [y0,y1]);simp only [lV,V.s,V.l,szs,show (⟨#[]⟩:ByteArray).size=0 from rfl] at e ⊢;have:=HYZ.out;omega)
   have gb:D (∀ (j i:Nat) (z:V),([0,1]:List Nat)[j]? = O i→([y0,y1]:List V)[j]? = O z→y.l[i]? = O z):=hd_ (by
    intro j i z h1 h2
    rw [hul]
    match j,h1,h2 with
    | 0,h1,h2=>simp at h1 h2;subst h1;subst h2;rfl
    | 1,h1,h2=>simp at h1 h2;subst h1;subst h2;rfl
    | k+2,h1,_=>simp at h1)
   clear hly hul hyk hb2w f0 f1 f2 f3 hur hszy
   by_cases hu:y2.kind=3
   case neg =>
    have ac:D (y6n x=G):=hd_ (by rw [HT.out];exact z3u HA.out HY.out (k0l HUL.out hu))
    have n1:R (y2.kind=3)=M:=decide_eq_false hu
    have n2:(y2.kind == 3)=M:=beq_false_of_ne hu
    have n3:(y2.kind != 3)=B:=by rw [bne,n2];rfl
    clear hu
    go_wp2_with (go_at_call 121;refine (z9c 3 y _ _ dm.out).mono ?_;rw [bX.out];(rintro e w4 ⟨rfl,hb⟩;have HG:=hd_ (ew.out.grow hb).gr;have f0:w4.cell? ⟨b2,cC+8,G⟩=O (I J y2.kind):=z1a (z1d (ew.out.grow hb).gr) HF0.out;have e3:w4.cell? ⟨bx,3,G⟩=O (X (O ⟨b2,cC,G⟩) 3 cy):=CB.cell ((ew.out.grow hb).thg _ mS) 3;clear hb))
    go_ret2
    exact z7y ac.out HG.out
   have n1:R (y2.kind=3)=B:=decide_eq_true hu
   have n2:(y2.kind == 3)=B:=by rw [hu];rfl
   have n3:(y2.kind != 3)=M:=by rw [bne,n2];rfl
   have HK2:=hd_ (And.intro Hyk.out hu)
   clear hu
   go_upto_region 13 with (first
    | (have _g:=ew.out;go_at_call 121;refine (z9c 3 y _ _ dm.out).mono ?_;rw [bX.out];(rintro e w4 ⟨rfl,hb⟩;clear e0 e1 e2 e3;have f0:w4.cell? ⟨b2,cC+8,G⟩=O (I J y2.kind):=z1a (z1d (ew.out.grow hb).gr) HF0.out;have cO:CB w4 bx 80 [I J y.kind,I J y.n,Z y.s,X (O ⟨b2,cC,G⟩) 3 cy]:=(ew.out.grow hb).thg _ mS;obtain ⟨e0,e1,e2,e3⟩:=c4 cO;have cZ:=hd_ (dm.out.ext hb);have aR:E w4.heap.size w4 (w4.alloc (Q [I J 0,I J 1].toArray 3)):=z4b _;have fe:=hd_ ((ew.out.grow hb).grow aR);have HR5:=hd_ (cZ.out.ext aR);have nZ:D (z4g nuK (w4.alloc (Q [I J 0,I J 1].toArray 3)).heap.size (w4.alloc (Q [I J 0,I J 1].toArray 3)) (([0,1]:List Nat).map (fun (k:Nat)=>(k:Int))) (X (O ⟨w4.heap.size,0,G⟩) 2 2)):=hd_ (z2n (K:=nuK) 2 (z3a w4 (Q [I J 0,I J 1].toArray 3) 3 _ rfl) rfl (by unfold maxLen;decide));clear hb cO aR ew dm cZ bX))
    | (have _g:=nZ.out;go_at_call 123;refine (z2k y _ _ [0,1] [y0,y1] _ HR5.out nZ.out rfl gb.out (by decide)).mono ?_;(rintro e w6 ⟨lv6,rfl,hr,hb⟩;have HS6:=hd_ (fe.out.grow hb);have HR6:=hd_ hr;clear hr hb fe HR5 nZ))
    | (have _g:=HR6.out;go_at_call 122;refine (y1b (m:=2) HR6.out ZP.out).mono ?_;(rintro e w7 (⟨q7,oA,pA,hN,rfl,⟨bA,hO⟩,hb⟩|⟨hN,rfl,hb⟩));rotate_left;(have ac:D (y6n x=G):=hd_ (by rw [HT.out];exact z3u HA.out HY.out (k1l HUL.out HK2.out hN));have HG:=hd_ (HS6.out.grow hb).gr;clear hN hb HR6);rotate_left;(obtain ⟨a0,a1,rfl⟩:=j8v (z2e (m:=2) hN);have HNA:=hd_ hN;have bz:=hd_ hO;have HS7:=hd_ (HS6.out.grow hb);clear hN hO hb HR6 HS6)))
   all_goals (try (go_ret2;exact z7y ac.out HG.out))
   obtain ⟨gA,hgA,hwA,k0⟩:=z3e bz.out (k:=0) rfl
   obtain ⟨gA',hgA',-,k1⟩:=z3e bz.out (k:=1) rfl
   rw [hgA] at hgA';injection hgA' with hgA';injection hgA' with hgA' _ _;subst hgA'
   subst hgA
   have K0:=hd_ k0;have K1:=hd_ k1;have HwA:=hd_ hwA
   clear k0 k1 hwA e0 e1 e2 e3 f0 n1 n2 n3
   refine z7a (S:=fun w'=>∀ k,k<w7.heap.size→w'.heap[k]? = w7.heap[k]?) (late:=fun _=>M) (by kernel_rfl) (fun _ _=>rfl) (fun hHeld=>?_)
   have fN:∀ k,k<w7.heap.size→w7.drew.heap[k]? = w7.heap[k]?:=fun _ _=>rfl
   have hgd:w7.grownBy w7.drew G:=z9a (Below.refl w7.heap.size w7).drew
   obtain ⟨n,hnn⟩:∃ n,w7.heap.size=n:=⟨_,rfl⟩
   have hnd:w7.drew.heap.size=n:=hnn
   generalize w7.drew=wd at *
   refine tkL 49 0 ?_
   refine tkL 50 1 ?_
   refine tkL 51 2 ?_ (hy:=fun wS aa=>by have z:=(cB (w:=w7) (aa gA HwA.out)).trans K0.out;go_simp;first|done|with_reducible rfl)
   refine tkL 52 3 ?_
   refine tkL 53 4 ?_
   refine tkL 54 5 ?_ (hy:=fun wS aa=>by have z:=(cB (w:=w7) (aa gA HwA.out)).trans K1.out;go_simp;first|done|with_reducible rfl)
   refine z2x 55 6 rfl (C ([I J a0,I J a1,X G 0 0]:List U).toArray) (z0d (by rfl) 48 _ rfl [I J a0,I J a1,X G 0 0] [(0,I J a0),(1,I J a1)] rfl (by kernel_rfl)) ?_
   refine rdL 7 fun K hK=>?_
   go_simp
   change K _ (wd.alloc (Q [I J 0,I J 0,X G 0 0].toArray 48))
   have hCn:CB (wd.alloc (Q [I J 0,I J 0,X G 0 0].toArray 48)) n 48 [I J 0,I J 0,X G 0 0]:=by rw [← hnd];exact z3a wd _ 48 _ rfl
   try rw [hnd]
   have lN:∀ k,k<w7.heap.size→(wd.alloc (Q [I J 0,I J 0,X G 0 0].toArray 48)).heap[k]? = w7.heap[k]?:=fun k hk=>(Below.heap_alloc wd _ k (by rw [hnd,← hnn];exact hk)).trans (fN k hk)
   have aK:w7.grownBy (wd.alloc (Q [I J 0,I J 0,X G 0 0].toArray 48)) G:=z2a hgd (World.grownBy_alloc wd _ G) (.inl rfl)
   generalize wd.alloc (Q [I J 0,I J 0,X G 0 0].toArray 48)=we at *
   refine z4n hK lN fun hHeld=>?_
   clear hK K
   refine rdL 8 fun K hK=>?_
   refine sif 48 (.tmp 9) (.tmp 55) rfl n [I J a0,I J a1,X G 0 0] rfl rfl hCn (z8y rfl) (fun w9 fP HGn HSn=>?_)
   have dA:=hd_ (z2a aK HGn.out (.inr fun q e=>by injection e with e;omega))
   have Hn7:=hd_ hnn
   refine hK.out _ w9 (fun _=>(fun k hk=>(dA.out.block k hk (by simp)))) (fun ae=>?_)
   clear hK K
   have hHeld:=ae (by rfl)
   clear ae
   try simp only [Act.put,aS,aZ,aU]
   refine z3b (by kernel_rfl) ?_ _
   have hB9:E w7.heap.size w7 w9:=⟨dA.out.os,dA.out.tape,dA.out.output,dA.out.size,fun k hk=>dA.out.block k hk (by simp)⟩
   have hS9:=(HS7.out.grow hB9).add (z2h n 48 [I J a0,I J a1,X G 0 0]) fP.out (fun p hp=>absurd hp nM)
   have jd:=hd_ hS9
   have Hn:=hd_ (show bx<n∧n<w9.heap.size from ⟨by have:CB w7 bx 80 [I J y.kind,I J y.n,Z y.s,X (O ⟨b2,cC,G⟩) 3 cy]:=HS7.out.thg _ mS;have:=this.lt;have:=Hn7.out;omega,fP.out.lt⟩)
   obtain ⟨bn,hbn⟩:∃ bn,w9.heap.size=bn:=⟨_,rfl⟩
   have Hbn:=hd_ hbn
   rw [hbn] at Hn
   clear hB9 hS9 HS7 fP dA hbn
   obtain ⟨wo,rfl⟩:∃ wo:H,wo=wr:=⟨_,rfl⟩
   go_wp2_with fail
   go_loopw [10] (fun dV wi=>RuRel x y y2 (O ⟨b,off,G⟩) (O ⟨b2,cC,G⟩) cap cy n bx bn w a0 a1 (X ov rl.length cv) rl q dV wi) (fun dV _=>y2.l.length - (intOf dV).toNat)
   case atStart=>exact ⟨⟨0,[],G,0,Nat.zero_le _,rfl,rfl,by simp,jd.out.add (z1w cuK 88 bn (X G 0 0) []) (z7h.nil _ _ _) (fun p hp=>absurd hp nM),by rw [Hbn.out];exact Nat.le_refl _⟩⟩
   case round =>
    obtain ⟨k2,cq,oq,cpq,hk2l,hcl,rfl,gZ,iF,hbn2⟩:=hrel.h
    have HBN:=hd_ hbn2
    clear hbn2
    clear hrel jd
    have ew:=hd_ iF;have hF:=hd_ gZ;have HCL:=hd_ hcl
    have hbx2:CB wr bx 80 [I J y.kind,I J y.n,Z y.s,X (O ⟨b2,cC,G⟩) 3 cy]:=iF.thg (z2h bx 80 [I J y.kind,I J y.n,Z y.s,X (O ⟨b2,cC,G⟩) 3 cy]) (mG (i:=2) rfl)
    have e3:=hbx2.cv 3 (X (O ⟨b2,cC,G⟩) 3 cy)
    have hbr:=z1d iF.gr
    have f3:wr.cell? ⟨b2,cC+11,G⟩=O (X ou y2.l.length cu):=z1a hbr HF3.out
    have ub:=HUR.out.lt
    clear gZ hcl hbx2
    by_cases hlt2:k2<y2.l.length
    case neg =>
     have hkl3:k2=y2.l.length:=by omega
     have t4:R ((k2:Int)<(y2.l.length:Int))=M:=by simp;omega
     have t5:R (k2<y2.l.length)=M:=by simp;omega
     have ht:D (z5k x.l=(z5k (x.l.drop (k+1))).map ((q++[⟨a0,a1,cq⟩]) ++ ·)):=hd_ (x9y HA.out HY.out (j6o HUL.out HK2.out HNA.out (j7o (by have:=hF.out;rwa [hkl3] at this))))
     have gi:CB wr n 48 [I J a0,I J a1,X oq cq.length cpq]:=iF.thg (z2h n 48 [I J a0,I J a1,X oq cq.length cpq]) (mG (i:=1) rfl)
     have au:=hd_ gi
     have Hb8:E wr.heap.size wr (wr.alloc (Q [I J a0,I J a1,X oq cq.length cpq].toArray 48)):=z4b _
     have hsrc:D (Src prog 3 29 (X (O ⟨wr.heap.size,0,G⟩) 1 1) 1 (ndK.flat [(⟨a0,a1,oq,cq.length,cpq⟩:Nb)]) (wr.alloc (Q [I J a0,I J a1,X oq cq.length cpq].toArray 48))):=y3l (K:=ndK) (a:=⟨a0,a1,oq,cq.length,cpq⟩) underlying29 (z3a wr _ 48 _ rfl)
     have dk:=hd_ ((ew.out.sub (ts':=[z1w cuK 88 bn (X oq cq.length cpq) cq,z1z (w.heap.size+1) (X ov rl.length cv) rl q,z2h w.heap.size 80 [I J x.kind,I J x.n,Z x.s,X (O ⟨b,off,G⟩) x.l.length cap]]) (fun t ht=>by simp only [mC,nM,or_false] at *;rcases ht with rfl|rfl|rfl <;> simp)).grow Hb8)
     have oY:D (x4b (w.heap.size+1) (X ov rl.length cv) rl q (wr.alloc (Q [I J a0,I J a1,X oq cq.length cpq].toArray 48))):=dk.out.thg (z1z (w.heap.size+1) (X ov rl.length cv) rl q) (mG (i:=1) rfl)
     have aI:D (z7h cuK 88 (wr.alloc (Q [I J a0,I J a1,X oq cq.length cpq].toArray 48)) bn (X oq cq.length cpq) cq):=dk.out.thg (z1w cuK 88 bn (X oq cq.length cpq) cq) mS
     have HlQ:D (rl.length≤100000):=hd_ (by have:=HRL.out;have:=nI.out;omega)
     have mm:D (w.heap.size+1≤(wr.alloc (Q [I J a0,I J a1,X oq cq.length cpq].toArray 48)).heap.size):=hd_ (by have:=Hb8.size;have:=eN.out.1;have:=gi.lt;have:=Hn.out.1;omega)
     clear Hb8 hlt2 hk2l hkl3 gi hbr iF
     go_upto_region 21 with fail
     clear e3 f3
     go_wp2_with (first
      | (have _g:=au.out;refine lcs 48 (.tmp 9) rfl n [I J a0,I J a1,X oq cq.length cpq] rfl au.out underlying48 ?_;clear au)
      | (at_builtin;have _g:=hsrc.out;refine z4e (e:=48) (z:=(C #[I J 0,I J 0,X G 0 0])) (size:=3) (bytes:=40) underlying29 j9i rfl rfl _ _ rfl (w.heap.size+1) (X ov rl.length cv) rl.length (ndK.flat rl) rfl oY.out.1 _ 1 _ rfl hsrc.out (by have:=HlQ.out;unfold maxLen;omega) (by have:=HlQ.out;omega) mm.out ?_;intro v9 w9' eC ay eM;have fF:D (z7h ndK 48 w9' (w.heap.size+1) v9 (rl++[(⟨a0,a1,oq,cq.length,cpq⟩:Nb)])):=z7h.append (K:=ndK) eC (by simp);have HG9':=hd_ ay;have HN9:=hd_ eM;obtain ⟨o9,c9,eV,-⟩:=fF.out.rd.shape;rw [List.length_append,List.length_singleton] at eV;subst eV;clear hsrc eC ay eM))
     go_roundw
     case rel =>
      have hlt:=oY.out.1.lt
      have hcl:=aI.out.lt
      have hbw:w.heap.size+1≤bn:=by have:=Hn.out;have:=eN.out.1;omega
      have hl9:(rl++[(⟨a0,a1,oq,cq.length,cpq⟩:Nb)]).length=rl.length+1:=by simp
      refine ⟨⟨k+1,q++[(⟨a0,a1,cq⟩:Nod)],rl++[(⟨a0,a1,oq,cq.length,cpq⟩:Nb)],o9,c9,by have:=Hkx.out;omega,by simp [HQ.out],by simp [HRL.out],by go_num,by rw [hl9],ht.out,?_⟩⟩
      rw [hl9]
      refine (dk.out.put [z1w cuK 88 bn (X oq cq.length cpq) cq,z1z (w.heap.size+1) (X ov rl.length cv) rl q] (z1z (w.heap.size+1) (X o9 (rl.length+1) c9) (rl++[(⟨a0,a1,oq,cq.length,cpq⟩:Nb)]) (q++[(⟨a0,a1,cq⟩:Nod)])) _ HG9'.out
       (fun j hj=>⟨⟨_,List.mem_cons_of_mem _ (List.mem_singleton.2 rfl),.inl hj⟩,by have:=(hlt j hj).1;omega,Nat.zero_le _⟩)
       (x4b.app (t:=⟨a0,a1,cq⟩) (r:=⟨a0,a1,oq,cq.length,cpq⟩) oY.out ⟨rfl,rfl⟩ (aI.out.base hbw) (fun j hj ht2=>by have:=(hcl j hj).1;have:=eN.out.2 j ht2;have:=Hn.out;omega) HG9'.out fF.out HN9.out) (fun j hj=>?_) (fun u hu j hj gl=>?_))
      ·rcases hj with hj|⟨u,hu,hj⟩
       ·rcases HN9.out with h|h
        ·exact .inl ⟨_,List.mem_cons_of_mem _ (List.mem_singleton.2 rfl),.inl (h.symm.trans hj)⟩
        ·exact .inr (h j hj)
       ·rcases List.mem_append.1 hu with hu|hu
        ·exact .inl ⟨_,List.mem_cons_of_mem _ (List.mem_singleton.2 rfl),.inr ⟨u,hu,hj⟩⟩
        ·rcases List.mem_singleton.1 hu with rfl
         exact .inl ⟨_,mS,hj⟩
      ·rcases List.mem_singleton.1 hu with rfl
       have h1:j=w.heap.size:=gl
       have:=(hlt j hj).1
       omega
     case measure =>
      have:=Hkx.out
      simp [intOf]
      omega
    case pos =>
     have t4:R ((k2:Int)<(y2.l.length:Int))=B:=by simp;omega
     have t5:R (k2<y2.l.length)=B:=by simp;omega
     have t6:(k2:Int)<(y2.l.length:Int):=by omega
     obtain ⟨z,hz⟩:∃ z,y2.l[k2]? = O z:=⟨_,List.getElem?_eq_getElem hlt2⟩
     obtain ⟨b3,gh,rfl,hb3w,oz,cz,g0,g1,g2,g3,hzr⟩:=HUR.out.el hz
     have HZz:D (sz z≤60000):=hd_ (by have h1:=y9r (mG hz);have h2:=z4c y2;have:=fg.out;omega)
     replace g0:=z1a hbr g0;replace g1:=z1a hbr g1;replace g2:=z1a hbr g2;replace g3:=z1a hbr g3
     have HZR:=hd_ (hzr.ext hbr);have dM:=hd_ hz
     have HQ3:D (cq.length≤100000):=hd_ (by have:=y1c y2.l;have:=z4c y2;have:=fg.out;have:=HCL.out;omega)
     have Hk2x:=hd_ hlt2
     clear hz hzr hb3w hbr hlt2 iF
     cases hcz:y7t z with
     | none =>
      have ac:D (y6n x=G):=hd_ (by rw [HT.out];exact z3u HA.out HY.out (k2l HUL.out HK2.out HNA.out (x7y hF.out dM.out hcz)))
      have HRC:D (A prog 175 #[C #[I J z.kind,I J z.n,Z z.s,X oz z.l.length cz]] wr fun e w'=>e=F (.tuple #[C #[Y M,I J 0,I J 0,I J 0,I J 0],Y M])∧E wr.heap.size wr w'):=hd_ ((y0j z _ _ HZR.out HZz.out).mono (fun e w' h=>by unfold v1c at h;rw [hcz] at h;exact h))
      clear hcz
      go_wp2_with (go_at_call 175;refine HRC.out.mono ?_;(rintro e w8 ⟨rfl,hb⟩;have HG:=hd_ ((ew.out.grow hb).grow (z4b (Q #[Y M,I J 0,I J 0,I J 0,I J 0] 88))).gr;clear hb))
      go_ret2
      exact z7y ac.out HG.out
     | some ct =>
      obtain ⟨q1,q2,q3,q4,q5⟩:=ct
      have hcut:=hd_ (x8y hF.out dM.out hcz)
      have HRC:D (A prog 175 #[C #[I J z.kind,I J z.n,Z z.s,X oz z.l.length cz]] wr fun e w'=>e=F (.tuple #[C #[Y q1,I J q2,I J q3,I J q4,I J q5],Y B])∧E wr.heap.size wr w'):=hd_ ((y0j z _ _ HZR.out HZz.out).mono (fun e w' h=>by unfold v1c at h;rw [hcz] at h;exact h))
      clear hcz
      go_upto_region 18 with (go_at_call 175;refine HRC.out.mono ?_;(rintro e w8 ⟨rfl,hb⟩;have dk:=hd_ (ew.out.grow hb);have Hbw8:=hd_ (Nat.le_trans HBN.out hb.size);clear hb))
      have aR:E w8.heap.size w8 (w8.alloc (Q [Y q1,I J q2,I J q3,I J q4,I J q5].toArray 88)):=z4b _
      obtain ⟨bc,hbc⟩:∃ bc,w8.heap.size=bc:=⟨_,rfl⟩
      have hcc:CB (w8.alloc (Q [Y q1,I J q2,I J q3,I J q4,I J q5].toArray 88)) bc 88 [Y q1,I J q2,I J q3,I J q4,I J q5]:=by rw [← hbc];exact z3a w8 _ 88 _ rfl
      have ma:=hd_ hcc;have HSc:=hd_ (dk.out.grow aR);have Hbwc:=hd_ (Nat.le_trans Hbw8.out aR.size)
      rw [hbc]
      change Code.wp _ _ _ _ (w8.alloc (Q [Y q1,I J q2,I J q3,I J q4,I J q5].toArray 88))
      clear aR hcc hbc dk HRC g0 g1 g2 g3 e3 f3 HZR ew
      generalize w8.alloc (Q [Y q1,I J q2,I J q3,I J q4,I J q5].toArray 88)=wc at *
      have gi:CB wc n 48 [I J a0,I J a1,X oq cq.length cpq]:=HSc.out.thg (z2h n 48 [I J a0,I J a1,X oq cq.length cpq]) (mG (i:=1) rfl)
      have z2:=gi.cv 2 (X oq cq.length cpq)
      have hbb:E wc.heap.size wc (wc.alloc (Q [Y q1,I J q2,I J q3,I J q4,I J q5].toArray 88)):=z4b _
      have HSA:=hd_ (HSc.out.grow hbb)
      have HOA2:=hd_ (show z7h cuK 88 (wc.alloc (Q [Y q1,I J q2,I J q3,I J q4,I J q5].toArray 88)) bn (X oq cq.length cpq) cq from HSA.out.thg _ mS)
      have HSR:D (Src prog 5 46 (X (O ⟨wc.heap.size,0,G⟩) 1 1) 1 (cuK.flat [(⟨q1,q2,q3,q4,q5⟩:Cut)]) (wc.alloc (Q [Y q1,I J q2,I J q3,I J q4,I J q5].toArray 88))):=y3l (K:=cuK) (a:=(⟨q1,q2,q3,q4,q5⟩:Cut)) underlying46 (z3a wc (Q [Y q1,I J q2,I J q3,I J q4,I J q5].toArray 88) 88 _ rfl)
      have HWA:D (bn≤(wc.alloc (Q [Y q1,I J q2,I J q3,I J q4,I J q5].toArray 88)).heap.size):=Nat.le_trans Hbwc.out hbb.size
      clear hbb gi
      go_wp2_with (first
       | (have _g:=ma.out;refine lcs 88 (.tmp 11) rfl bc [Y q1,I J q2,I J q3,I J q4,I J q5] rfl ma.out underlying88 ?_;clear ma)
       | (at_builtin;have _g:=HSR.out;refine z4e (e:=88) (z:=(C #[Y M,I J 0,I J 0,I J 0,I J 0])) (size:=5) (bytes:=40) underlying46 j8i rfl rfl _ _ rfl bn (X oq cq.length cpq) cq.length (cuK.flat cq) rfl HOA2.out _ 1 (cuK.flat [(⟨q1,q2,q3,q4,q5⟩:Cut)]) rfl HSR.out (by have:=HQ3.out;unfold maxLen;omega) (by have:=HQ3.out;omega) HWA.out ?_
          intro v9 we eC ay eM
          have fF:D (z7h cuK 88 we bn v9 (cq++[(⟨q1,q2,q3,q4,q5⟩:Cut)])):=z7h.append (K:=cuK) eC (by simp)
          obtain ⟨o9,c9,eV,-⟩:=fF.out.rd.shape
          rw [List.length_append,List.length_singleton] at eV
          subst eV
          have ek:=HOA2.out.lt
          have jx:=HSA.out.put [z1w cuK 88 bn (X oq cq.length cpq) cq] (z1w cuK 88 bn (X o9 (cq.length+1) c9) (cq++[(⟨q1,q2,q3,q4,q5⟩:Cut)])) _ ay (fun j hj=>⟨⟨_,List.mem_singleton.2 rfl,hj⟩,by have:=(ek j hj).1;have:=Hn.out;have:=eN.out.1;omega,Nat.zero_le _⟩) fF.out (fun j hj=>eM.elim (fun h=>.inl ⟨_,List.mem_singleton.2 rfl,h.symm.trans hj⟩) (fun h=>.inr (h j hj))) (fun u hu j hj gl=>k3l hu (ek j hj).1 eN.out Hn.out gl)
          have jd:=hd_ jx
          have dx:=hd_ (show CB we n 48 [I J a0,I J a1,X oq cq.length cpq] from jd.out.thg (z2h n 48 [I J a0,I J a1,X oq cq.length cpq]) (mG (i:=1) rfl))
          have y3:=dx.out.cv 2 (X oq cq.length cpq)
          have yf:we.frozen? ⟨n,2,G⟩=M:=dx.out.frozen 2
          have Hbe:=hd_ (Nat.le_trans HWA.out ay.size)
          clear jx eC ay eM ek HSR HSA HOA2))
      have ek:=fF.out.lt
      go_roundw
      case rel =>
       have h9:=jd.out.sub (ts':=[z2h n 48 [I J a0,I J a1,X oq cq.length cpq],z1w cuK 88 bn (X o9 (cq.length+1) c9) (cq++[(⟨q1,q2,q3,q4,q5⟩:Cut)]),z2h bx 80 [I J y.kind,I J y.n,Z y.s,X (O ⟨b2,cC,G⟩) 3 cy],z1z (w.heap.size+1) (X ov rl.length cv) rl q,z2h w.heap.size 80 [I J x.kind,I J x.n,Z x.s,X (O ⟨b,off,G⟩) x.l.length cap]]) (fun t ht=>by simp only [mC,nM,or_false] at *;rcases ht with rfl|rfl|rfl|rfl|rfl <;> simp)
       have h10:=h9.put [z2h n 48 [I J a0,I J a1,X oq cq.length cpq]] (z2h n 48 [I J a0,I J a1,X o9 (cq.length+1) c9]) (O n) (z6b we n 2 (X o9 (cq.length+1) c9)) (fun j hj=>by injection hj with hj;subst hj;exact ⟨⟨_,List.mem_singleton.2 rfl,rfl⟩,by have:=Hn.out;have:=eN.out.1;omega,Nat.zero_le _⟩) (dx.out.set 2 _) (fun j hj=>.inl ⟨_,List.mem_singleton.2 rfl,hj⟩)
        (fun u hu j hj gl=>by
         injection hj with hj;subst hj
         simp only [mC,nM,or_false] at hu
         rcases hu with rfl|rfl|rfl|rfl
         ·have:=(ek _ gl).1;have:=Hn.out;omega
         ·have h1:n=bx:=gl;have:=Hn.out;omega
         ·have:=eN.out.2 _ gl;have:=Hn.out;omega
         ·have h1:n=w.heap.size:=gl;have:=Hn.out;have:=eN.out.1;omega)
       have h11:=h10.sub (ts':=[z1w cuK 88 bn (X o9 (cq.length+1) c9) (cq++[(⟨q1,q2,q3,q4,q5⟩:Cut)]),z2h n 48 [I J a0,I J a1,X o9 (cq.length+1) c9],z2h bx 80 [I J y.kind,I J y.n,Z y.s,X (O ⟨b2,cC,G⟩) 3 cy],z1z (w.heap.size+1) (X ov rl.length cv) rl q,z2h w.heap.size 80 [I J x.kind,I J x.n,Z x.s,X (O ⟨b,off,G⟩) x.l.length cap]]) (fun t ht=>by simp only [mC,nM,or_false] at *;rcases ht with rfl|rfl|rfl|rfl|rfl <;> simp)
       have hl9:(cq++[(⟨q1,q2,q3,q4,q5⟩:Cut)]).length=cq.length+1:=by simp
       exact ⟨⟨k2+1,cq++[(⟨q1,q2,q3,q4,q5⟩:Cut)],o9,c9,by have:=Hk2x.out;omega,by simp [HCL.out],by go_num,hcut.out,by rw [hl9];exact h11,by have:=Hbe.out;simp [World.setCell];omega⟩⟩
      case measure =>
       have:=Hk2x.out
       simp [intOf]
       omega
section
variable {y:V} {v:Value} {W:H}
theorem j9v {m:Int} (hv:RD W y v) (hz:sz y≤100000):A prog 122 #[v,I J m] W fun e W'=>∃ oa n cap,e=F (.tuple #[X oa n cap,Y (z7b m y).isSome])∧E W.heap.size W W' :=
 (y1b hv hz).mono fun e W' h=>by
  rcases h with ⟨q,oa,cap,h1,h2,-,h3⟩|⟨h1,h2,h3⟩
  ·exact ⟨oa,q.length,cap,by rw [h1];exact h2,h3⟩
  ·exact ⟨G,0,0,by rw [h1];exact h2,h3⟩
theorem j0w {m:Int} {L:List Int} {n:Nat} (hv:RD W y v) (hz:sz y≤100000) (h:z7b m y=O L) (hn:L.length=n):A prog 122 #[v,I J m] W fun e W'=>∃ oa cap b,e=F (.tuple #[X oa n cap,Y B])∧z7h nuK 3 W' b (X oa n cap) L∧E W.heap.size W W' :=
 (y1b hv hz).mono fun e W' h'=>by
  rcases h' with ⟨q,oa,cap,h1,h2,⟨b,h4⟩,h3⟩|⟨h1,h2,h3⟩
  ·rw [h] at h1;injection h1 with h1;subst h1;subst hn
   exact ⟨oa,cap,b,h2,h4,h3⟩
  ·rw [h] at h1;cases h1
theorem v2c (hv:RD W y v) (hz:sz y≤60000):A prog 124 #[v] W fun e W'=>∃ (f:Flt) (oa:Option Addr) (n cap:Nat),e=F (.tuple #[.agg ([.int J f.id,.int J f.air,.int J f.cls,.string f.call,(X oa n cap),.int J f.wf,.int J f.wt,.bool f.can]:List U).toArray,.bool (y9c y).isSome])∧E W.heap.size W W' :=
 (z1v y v W hv hz).mono fun e W' ⟨oa,n,cap,b,h1,h2,h3⟩=>⟨_,oa,n,cap,h1,h3⟩
theorem v3c {f:Flt} (hv:RD W y v) (hz:sz y≤60000) (h:y9c y=O f):A prog 124 #[v] W fun e W'=>∃ oa n cap b,e=F (.tuple #[.agg ([.int J f.id,.int J f.air,.int J f.cls,.string f.call,(X oa n cap),.int J f.wf,.int J f.wt,.bool f.can]:List U).toArray,.bool B])∧z7h nuK 3 W' b (X oa n cap) f.ways∧E W.heap.size W W' :=
 (z1v y v W hv hz).mono fun e W' ⟨oa,n,cap,b,h1,h2,h3⟩=>by rw [h] at h1 h2;exact ⟨oa,n,cap,b,h1,h2,h3⟩
theorem v4c (hv:RD W y v) (hz:sz y≤60000):A prog 125 #[v] W fun e W'=>∃ (oa:Option Addr) (n cap:Nat),e=F (.tuple #[X oa n cap,Y (y6n y).isSome])∧E W.heap.size W W' :=
 (y5c y v W hv hz).mono fun e W' ⟨oa,n,cap,b,rl,h1,h2,h3⟩=>⟨oa,n,cap,h1,h3⟩
theorem v5c {t:List Nod} (hv:RD W y v) (hz:sz y≤60000) (h:y6n y=O t):A prog 125 #[v] W fun e W'=>∃ oa n cap b rl,e=F (.tuple #[X oa n cap,Y B])∧x4b b (X oa n cap) rl t W'∧E W.heap.size W W' :=
 (y5c y v W hv hz).mono fun e W' ⟨oa,n,cap,b,rl,h1,h2,h3⟩=>by rw [h] at h1 h2;exact ⟨oa,n,cap,b,rl,h1,h2,h3⟩
theorem v6c (hv:RD W y v) (hz:sz y≤60000):A prog 126 #[v] W fun e W'=>∃ (f:Chg) (oa:Option Addr) (n cap:Nat),e=F (.tuple #[C ([I J f.frm,I J f.cfg,(X oa n cap)]:List U).toArray,Y (y1k y).isSome])∧E W.heap.size W W' :=
 (z9u y v W hv hz).mono fun e W' ⟨oa,n,cap,b,h1,h2,h3⟩=>⟨_,oa,n,cap,h1,h3⟩
theorem v7c {f:Chg} (hv:RD W y v) (hz:sz y≤60000) (h:y1k y=O f):A prog 126 #[v] W fun e W'=>∃ oa n cap b,e=F (.tuple #[C ([I J f.frm,I J f.cfg,(X oa n cap)]:List U).toArray,Y B])∧z7h nuK 3 W' b (X oa n cap) f.modes∧E W.heap.size W W' :=
 (z9u y v W hv hz).mono fun e W' ⟨oa,n,cap,b,h1,h2,h3⟩=>by rw [h] at h1 h2;exact ⟨oa,n,cap,b,h1,h2,h3⟩
theorem v8c (hv:RD W y v) (hz:sz y≤60000):A prog 127 #[v] W fun e W'=>∃ (f:Rp),e=F (.tuple #[C ([I J f.st,I J f.no,I J f.mi,I J f.ar,Z f.cl,I J f.vo]:List U).toArray,Y (y2k y).isSome])∧E W.heap.size W W' :=
 (z0v y v W hv hz).mono fun e W' ⟨h1,h3⟩=>⟨_,h1,h3⟩
theorem v9c {f:Rp} (hv:RD W y v) (hz:sz y≤60000) (h:y2k y=O f):A prog 127 #[v] W fun e W'=>e=F (.tuple #[C ([I J f.st,I J f.no,I J f.mi,I J f.ar,Z f.cl,I J f.vo]:List U).toArray,Y B])∧E W.heap.size W W' :=
 (z0v y v W hv hz).mono fun e W' ⟨h1,h3⟩=>by rw [h] at h1;exact ⟨h1,h3⟩
theorem v0d (hv:RD W y v) (hz:sz y≤60000):A prog 128 #[v] W fun e W'=>∃ (f:Stn) (oa:Option Addr) (n cap:Nat),e=F (.tuple #[C ([(X oa n cap),I J f.sh,I J f.fa]:List U).toArray,Y (y3k y).isSome])∧E W.heap.size W W' :=
 (z0t y v W hv hz).mono fun e W' ⟨oa,n,cap,b,h1,h2,h3⟩=>⟨_,oa,n,cap,h1,h3⟩
theorem v1d {f:Stn} (hv:RD W y v) (hz:sz y≤60000) (h:y3k y=O f):A prog 128 #[v] W fun e W'=>∃ oa n cap b,e=F (.tuple #[C ([(X oa n cap),I J f.sh,I J f.fa]:List U).toArray,Y B])∧z7h nuK 3 W' b (X oa n cap) f.vols∧E W.heap.size W W' :=
 (z0t y v W hv hz).mono fun e W' ⟨oa,n,cap,b,h1,h2,h3⟩=>by rw [h] at h1 h2;exact ⟨oa,n,cap,b,h1,h2,h3⟩
end
def k4l (o:Option Inp) (w:H) (e:Ending) (w':H):Prop:=∃ sl,e=F (.tuple #[C ((o.getD zP).cells sl).toArray,Y o.isSome])∧x8q (o.getD zP) sl w'∧E w.heap.size w w'
theorem j9o (w:H):x8q zP z1h w:=⟨0,0,0,0,[],z7h.nil _ _ _,x4b.nil _ _,z7h.nil _ _ _,z7h.nil _ _ _⟩
end Go.Proofs.YtdblnbnofjggnaaGreatDoor
