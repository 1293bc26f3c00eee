/- Parts of the proofs of chapter 49's laws. -/
import Derived.Test.YtdblnbnofjggnaaGreatDoorP49
import Derived.Test.YtdblnbnofjggnaaGreatDoorP35
set_option maxHeartbeats 8000000
set_option maxRecDepth 100000
open Go.Lib renaming hid → hd_
open Go.World renaming cell?_of_block → cB
open List renaming not_mem_nil → nM, mem_of_getElem? → mG
open Go.Value renaming int → J, slice → Z, string → M, bool → B, agg → D
open Go.IntKind renaming i64 → I
open Go.Obj renaming cells → Q
open Option renaming none → C, some → G
open Bool renaming true → F, false → U
open Decidable renaming decide → O
open Go renaming World → H, Value → Y, Calls → L
open Go.RowKit renaming Below → E, Hid → R
set_option linter.all false
namespace Go.Proofs.YtdblnbnofjggnaaGreatDoor
open Go.Proofs.Tryz
open Go.RowKit
theorem x0z {x v0 v1 v2 v3 v4 v5 v6 v7 v8 v9 dV:V} {s0 s1 s2 k0 k1 t0 t1 t2 q0 q1:Int} {f:Flt} {tr:List Nod} {g:Chg} {r:Rp} {p:Stn} (hl:x.l=[v0,v1,v2,v3,v4,v5,v6,v7,v8,v9,dV]) (hk:x.kind=3∧v2.kind=2) (hs:z7b 3 v0=G [s0,s1,s2]) (hkk:z7b 2 (lV [v1,v8])=G [k0,k1]) (hf:y9c v3=G f) (htr:y6n v4=G tr) (hg:y1k v5=G g) (hr:y2k v6=G r) (ht:z7b 3 v7=G [t0,t1,t2]) (hp:y3k v9=G p) (hq:z7b 2 dV=G [q0,q1]):z8i x=G ⟨s0,s1,s2,k0,v2.s,f,tr,g,r,⟨t0,t1,O (t2=1)⟩,k1,p,q0,q1⟩:=by
 unfold z8i
 simp only [hl,if_pos hk,hs,hkk,hf,htr,hg,hr,ht,hp,hq,Option.bind_some]
 rfl
theorem j1w (x:V) (v:Y) (w:H) (hv:RD w x v) (hz:sz x≤60000) (hrs:z8i x=C):L prog 66 #[v] w (k4l C w):=by
 obtain ⟨oa,cap,rfl⟩:=hv.form
 obtain ⟨ln,hln⟩:∃ ln,x.l.length=ln:=⟨_,rfl⟩
 rw [hln] at hv ⊢
 have aC:=@RD.el w x (J I x.kind) (J I x.n) (M x.s) oa ln cap hv
 have hlb:=hv.lt
 rw [hln] at hlb
 have HS:=hd_ (RS.start (T:=41) (Zc:=ZIc) hv)
 have aD:=hd_ z7s
 have fQ:R (prog.built 41 []=G ZIc.toArray):=hd_ (by kernel_rfl)
 by_cases hs:x.kind=3∧ln=11
 case neg =>
  have bX:R (O (x.kind=3∧(x.l.length:Int)=(11:Int))=U):=hd_ (decide_eq_false (fun h=>hs ⟨h.1,by have:=h.2;omega⟩))
  clear hs hln hv aC hz hrs
  go_enter func66,ntmps66
  go_upto_region 1 with fail
  change Code.wp _ _ _ _ ((w.alloc (Q [J I x.kind,J I x.n,M x.s,Z oa ln cap].toArray 80)).alloc (Q (ZIc:List Y).toArray 41))
  generalize (w.alloc (Q [J I x.kind,J I x.n,M x.s,Z oa ln cap].toArray 80)).alloc (Q (ZIc:List Y).toArray 41)=w1 at *
  obtain ⟨c0,c1,c2,c3⟩:=c4 HS.out.b
  go_wp2_with (first
   | (go_at_call 121;refine (z9c 11 x _ _ HS.out.v).mono ?_;rw [bX.out];(rintro e w2 ⟨rfl,hb⟩;replace HS:=hd_ (HS.out.ext hb);clear hb;clear bX))
   | (have _g:=aD.out;refine scs 41 (.tmp 2) (.tmp 33) rfl (w.heap.size+1) ZIc rfl rfl HS.out.z aD.out (fun w8 aI bg dk=>?_);have aT:=hd_ (HS.out.lo.grown bg.out HS.out.lo.size (fun q e=>by injection e with e;omega));clear aD)
   | (have _g:=fQ.out;refine z9b (by rfl) 41 #[] rfl ZIc [] rfl fQ.out ?_))
  (refine bodyPost_ret (v:=.tuple #[D (ZIc:List Y).toArray,B U]) (z6a (fn:=f66) (p:=2) (t2:=3) (ty:=41) rfl _ _ (w.heap.size+1) 41 _ (0,0) _ rfl aI.out underlying41 rfl (by kernel_rfl)) rfl ?_;exact ⟨z1h,rfl,j9o _,aT.out⟩)
 case pos =>
  obtain ⟨hk3,ij⟩:=hs
  subst ij
  obtain ⟨v0,v1,v2,v3,v4,v5,v6,v7,v8,v9,dV,hl⟩:=v0c hln
  rw [hl] at aC
  have bX:R (O (x.kind=3∧(x.l.length:Int)=(11:Int))=F):=hd_ (decide_eq_true ⟨hk3,by omega⟩)
  have HL:=hd_ hl;have eR:=hd_ hk3
  have hsz:=z4c x
  rw [hl] at hsz
  simp only [szs] at hsz
  obtain ⟨b0,eo,gX,jt,ob0,cb0,fB,fU,fV,fW,kS⟩:=aC (k:=0) (y:=v0) rfl
  simp only [Nat.zero_mul,Nat.add_zero] at fB fU fV fW
  obtain ⟨b2,cC,da,jE,ob2,cb2,cg,ch,cj,cA,hr2⟩:=aC (k:=2) (y:=v2) rfl
  obtain ⟨b3,gh,dG,jB,ob3,cb3,eE,eF,fp,fq,jw⟩:=aC (k:=3) (y:=v3) rfl
  obtain ⟨b4,gd,gF,np,ob4,cb4,dP,dQ,dR,dS,gO⟩:=aC (k:=4) (y:=v4) rfl
  obtain ⟨b5,off5,eA,hw5,ob5,cb5,fs,ft,fu,fy,kE⟩:=aC (k:=5) (y:=v5) rfl
  obtain ⟨b6,off6,pq,hw6,ob6,cb6,lm,lp,lr,ls,mX⟩:=aC (k:=6) (y:=v6) rfl
  obtain ⟨b7,off7,pt,hw7,ob7,cb7,lu,lw,lz,lA,hr7⟩:=aC (k:=7) (y:=v7) rfl
  obtain ⟨b9,off9,eC,hw9,ob9,cb9,lC,lD,lE,lF,hr9⟩:=aC (k:=9) (y:=v9) rfl
  obtain ⟨b10,off10,iO,hw10,ob10,cb10,fJ,fK,fL,fM,hr10⟩:=aC (k:=10) (y:=dV) rfl
  subst gX
  injection da with da;injection da with e1 e2;subst e1;subst e2
  injection dG with dG;injection dG with e1 e2;subst e1;subst e2
  injection gF with gF;injection gF with e1 e2;subst e1;subst e2
  injection eA with eA;injection eA with e1 e2;subst e1;subst e2
  injection pq with pq;injection pq with e1 e2;subst e1;subst e2
  injection pt with pt;injection pt with e1 e2;subst e1;subst e2
  injection eC with eC;injection eC with e1 e2;subst e1;subst e2
  injection iO with iO;injection iO with e1 e2;subst e1;subst e2
  have eL:=hd_ (And.intro fB (And.intro fU (And.intro fV (And.intro fW kS))))
  have Z0:R (sz v0≤60000):=hd_ (by omega)
  have dO:=hd_ (And.intro cg (And.intro ch (And.intro cj (And.intro cA hr2))))
  have Z2:R (sz v2≤60000):=hd_ (by omega)
  have ff:=hd_ (And.intro eE (And.intro eF (And.intro fp (And.intro fq jw))))
  have Z3:R (sz v3≤60000):=hd_ (by omega)
  have ei:=hd_ (And.intro dP (And.intro dQ (And.intro dR (And.intro dS gO))))
  have Z4:R (sz v4≤60000):=hd_ (by omega)
  have jW:=hd_ (And.intro fs (And.intro ft (And.intro fu (And.intro fy kE))))
  have Z5:R (sz v5≤60000):=hd_ (by omega)
  have pu:=hd_ (And.intro lm (And.intro lp (And.intro lr (And.intro ls mX))))
  have Z6:R (sz v6≤60000):=hd_ (by omega)
  have jn:=hd_ (And.intro lu (And.intro lw (And.intro lz (And.intro lA hr7))))
  have Z7:R (sz v7≤60000):=hd_ (by omega)
  have kv:=hd_ (And.intro lC (And.intro lD (And.intro lE (And.intro lF hr9))))
  have Z9:R (sz v9≤60000):=hd_ (by omega)
  have iP:=hd_ (And.intro fJ (And.intro fK (And.intro fL (And.intro fM hr10))))
  have Z10:R (sz dV≤60000):=hd_ (by omega)
  have ZP:R (sz (lV [v1,v8])≤100000):=hd_ (by have e:=z4c (lV [v1,v8]);simp only [lV,V.s,V.l,szs,show (⟨#[]⟩:ByteArray).size=0 from rfl] at e ⊢;omega)
  have gb:R (∀ (j i:Nat) (y:V),([1,8]:List Nat)[j]? = G i→([v1,v8]:List V)[j]? = G y→x.l[i]? = G y):=hd_ (by
   intro j i y h1 h2
   rw [hl]
   match j,h1,h2 with
   | 0,h1,h2=>simp at h1 h2;subst h1;subst h2;rfl
   | 1,h1,h2=>simp at h1 h2;subst h1;subst h2;rfl
   | k+2,h1,_=>simp at h1)
  have az:=hd_ jt
  clear hz hsz hv aC hln hk3 hl fB fU fV fW kS cg ch cj cA hr2 eE eF fp fq jw dP dQ dR dS gO fs ft fu fy kE lm lp lr ls mX lu lw lz lA hr7 lC lD lE lF hr9 fJ fK fL fM hr10 jt jE jB np hw5 hw6 hw7 hw9 hw10
  by_cases hk2:v2.kind=2
  case neg =>
   have u1:O (v2.kind=2)=U:=decide_eq_false hk2
   have u2:(v2.kind == 2)=U:=beq_false_of_ne hk2
   have u3:(v2.kind != 2)=F:=by rw [bne,u2];rfl
   clear hk2 hrs
   go_enter func66,ntmps66
   go_upto_region 1 with fail
   change Code.wp _ _ _ _ ((w.alloc (Q [J I x.kind,J I x.n,M x.s,Z (G ⟨b0,eo,C⟩) 11 cap].toArray 80)).alloc (Q (ZIc:List Y).toArray 41))
   generalize (w.alloc (Q [J I x.kind,J I x.n,M x.s,Z (G ⟨b0,eo,C⟩) 11 cap].toArray 80)).alloc (Q (ZIc:List Y).toArray 41)=w1 at *
   obtain ⟨c0,c1,c2,c3⟩:=c4 HS.out.b
   go_wp2_with (first
    | (go_at_call 121;refine (z9c 11 x _ _ HS.out.v).mono ?_;rw [bX.out];(rintro e w2 ⟨rfl,hb⟩;replace HS:=hd_ (HS.out.ext hb);clear hb;clear c0 c1 c2 c3;obtain ⟨c0,c1,c2,c3⟩:=c4 HS.out.b;obtain ⟨cg,ch,cj,cA⟩:=e4 (HS.out.lo) dO.out;clear bX))
    | (have _g:=aD.out;refine scs 41 (.tmp 2) (.tmp 33) rfl (w.heap.size+1) ZIc rfl rfl HS.out.z aD.out (fun w8 aI bg dk=>?_);have aT:=hd_ (HS.out.lo.grown bg.out HS.out.lo.size (fun q e=>by injection e with e;omega));clear aD)
    | (have _g:=fQ.out;refine z9b (by rfl) 41 #[] rfl ZIc [] rfl fQ.out ?_))
   (refine bodyPost_ret (v:=.tuple #[D (ZIc:List Y).toArray,B U]) (z6a (fn:=f66) (p:=2) (t2:=3) (ty:=41) rfl _ _ (w.heap.size+1) 41 _ (0,0) _ rfl aI.out underlying41 rfl (by kernel_rfl)) rfl ?_;exact ⟨z1h,rfl,j9o _,aT.out⟩)
  have u1:O (v2.kind=2)=F:=decide_eq_true hk2
  have u2:(v2.kind == 2)=F:=by rw [hk2];rfl
  have u3:(v2.kind != 2)=U:=by rw [bne,u2];rfl
  have ll:=hd_ hk2
  clear hk2
  obtain ⟨z0,lI⟩:∃ z,(z7b 3 v0).isSome=z:=⟨_,rfl⟩
  obtain ⟨z1,gV⟩:∃ z,(z7b 2 (lV [v1,v8])).isSome=z:=⟨_,rfl⟩
  obtain ⟨z2,lJ⟩:∃ z,(y9c v3).isSome=z:=⟨_,rfl⟩
  obtain ⟨z3,mF⟩:∃ z,(y6n v4).isSome=z:=⟨_,rfl⟩
  obtain ⟨z4,gP⟩:∃ z,(y1k v5).isSome=z:=⟨_,rfl⟩
  obtain ⟨z5,mD⟩:∃ z,(y2k v6).isSome=z:=⟨_,rfl⟩
  obtain ⟨z6,oJ⟩:∃ z,(z7b 3 v7).isSome=z:=⟨_,rfl⟩
  obtain ⟨z7,iS⟩:∃ z,(y3k v9).isSome=z:=⟨_,rfl⟩
  obtain ⟨z8,mg⟩:∃ z,(z7b 2 dV).isSome=z:=⟨_,rfl⟩
  have Hall:R ((z0&&z1&&z2&&z3&&z4&&z5&&z6&&z7&&z8)=U):=hd_ (by
   cases hall:(z0&&z1&&z2&&z3&&z4&&z5&&z6&&z7&&z8) with
   | false=>rfl
   | true =>
    exfalso
    simp only [Bool.and_eq_true] at hall
    obtain ⟨⟨⟨⟨⟨⟨⟨⟨p0,p1⟩,p2⟩,p3⟩,p4⟩,p5⟩,p6⟩,p7⟩,p8⟩:=hall
    rw [← lI] at p0
    rw [← gV] at p1
    rw [← lJ] at p2
    rw [← mF] at p3
    rw [← gP] at p4
    rw [← mD] at p5
    rw [← oJ] at p6
    rw [← iS] at p7
    rw [← mg] at p8
    obtain ⟨o0,e0⟩:=Option.isSome_iff_exists.1 p0
    obtain ⟨o1,e1⟩:=Option.isSome_iff_exists.1 p1
    obtain ⟨o2,e2⟩:=Option.isSome_iff_exists.1 p2
    obtain ⟨o3,e3⟩:=Option.isSome_iff_exists.1 p3
    obtain ⟨o4,e4⟩:=Option.isSome_iff_exists.1 p4
    obtain ⟨o5,e5⟩:=Option.isSome_iff_exists.1 p5
    obtain ⟨o6,e6⟩:=Option.isSome_iff_exists.1 p6
    obtain ⟨o7,e7⟩:=Option.isSome_iff_exists.1 p7
    obtain ⟨o8,e8⟩:=Option.isSome_iff_exists.1 p8
    obtain ⟨s0,s1,s2,rfl⟩:=k1w (z2e (m:=3) e0)
    obtain ⟨k0,k1,rfl⟩:=j8v (z2e (m:=2) e1)
    obtain ⟨t0,t1,t2,rfl⟩:=k1w (z2e (m:=3) e6)
    obtain ⟨q0,q1,rfl⟩:=j8v (z2e (m:=2) e8)
    rw [x0z HL.out ⟨eR.out,ll.out⟩ e0 e1 e2 e3 e4 e5 e6 e7 e8] at hrs
    cases hrs)
  have Hz0:=hd_ lI
  have Hz1:=hd_ gV
  have Hz2:=hd_ lJ
  have me:=hd_ mF
  have Hz4:=hd_ gP
  have Hz5:=hd_ mD
  have Hz6:=hd_ oJ
  have oV:=hd_ iS
  have kB:=hd_ mg
  clear hrs lI gV lJ mF gP mD oJ iS mg
  go_enter func66,ntmps66
  go_upto_region 1 with fail
  change Code.wp _ _ _ _ ((w.alloc (Q [J I x.kind,J I x.n,M x.s,Z (G ⟨b0,eo,C⟩) 11 cap].toArray 80)).alloc (Q (ZIc:List Y).toArray 41))
  generalize (w.alloc (Q [J I x.kind,J I x.n,M x.s,Z (G ⟨b0,eo,C⟩) 11 cap].toArray 80)).alloc (Q (ZIc:List Y).toArray 41)=w1 at *
  obtain ⟨c0,c1,c2,c3⟩:=c4 HS.out.b
  go_upto_region 12 with (first
   | (go_at_call 121;refine (z9c 11 x _ _ HS.out.v).mono ?_;rw [bX.out];(rintro e w2 ⟨rfl,hb⟩;replace HS:=hd_ (HS.out.ext hb);clear hb;clear c0 c1 c2 c3;obtain ⟨c0,c1,c2,c3⟩:=c4 HS.out.b;obtain ⟨cg,ch,cj,cA⟩:=e4 (HS.out.lo) dO.out;obtain ⟨fB,fU,fV,fW⟩:=e4 (HS.out.lo) eL.out;have lc:=hd_ (eL.out.2.2.2.2.ext HS.out.lo);clear bX))
   | (have _g:=lc.out;go_at_call 122;refine (j9v (m:=3) lc.out (by have:=Z0.out;omega)).mono ?_;rw [Hz0.out];(rintro e w3 ⟨oS,nS,cS,rfl,hb⟩;(try clear fB fU fV fW);(try clear cg ch cj cA);replace HS:=hd_ (HS.out.ext hb);clear c0 c1 c2 c3;obtain ⟨c0,c1,c2,c3⟩:=c4 HS.out.b;have aR:E w3.heap.size w3 (w3.alloc (Q [J I 1,J I 8].toArray 3)):=z4b _;have bu:=hd_ (HS.out.ext aR);have bH:R (z4g nuK (w3.alloc (Q [J I 1,J I 8].toArray 3)).heap.size (w3.alloc (Q [J I 1,J I 8].toArray 3)) (([1,8]:List Nat).map (fun (k:Nat)=>(k:Int))) (Z (G ⟨w3.heap.size,0,C⟩) 2 2)):=hd_ (z2n (K:=nuK) 2 (z3a w3 (Q [J I 1,J I 8].toArray 3) 3 _ rfl) rfl (by unfold maxLen;decide));clear aR;clear hb lc))
   | (have _g:=bH.out;go_at_call 123;refine (z2k x _ _ [1,8] [v1,v8] _ bu.out.v bH.out rfl gb.out (by decide)).mono ?_;(rintro e w4 ⟨lv4,rfl,hr,hb⟩;replace HS:=hd_ (bu.out.ext hb);have cZ:=hd_ hr;clear hr hb bu bH))
   | (have _g:=cZ.out;go_at_call 122;refine (j9v (m:=2) cZ.out ZP.out).mono ?_;rw [Hz1.out];(rintro e w5 ⟨oK,nK,cK,rfl,hb⟩;replace HS:=hd_ (HS.out.ext hb);clear c0 c1 c2 c3;obtain ⟨c0,c1,c2,c3⟩:=c4 HS.out.b;obtain ⟨eE,eF,fp,fq⟩:=e4 (HS.out.lo) ff.out;have ld:=hd_ (ff.out.2.2.2.2.ext HS.out.lo);clear hb cZ))
   | (have _g:=ld.out;go_at_call 124;refine (v2c ld.out Z3.out).mono ?_;rw [Hz2.out];(rintro e w6 ⟨f,oF,nF,cF,rfl,hb⟩;(try clear cg ch cj cA);(try clear eE eF fp fq);have aR:E w6.heap.size w6 (w6.alloc (Q ([.int I f.id,.int I f.air,.int I f.cls,.string f.call,(Z oF nF cF),.int I f.wf,.int I f.wt,.bool f.can]:List Y).toArray 28)):=z4b _;replace HS:=hd_ ((HS.out.ext hb).ext aR);clear aR;clear c0 c1 c2 c3;obtain ⟨c0,c1,c2,c3⟩:=c4 HS.out.b;obtain ⟨dP,dQ,dR,dS⟩:=e4 (HS.out.lo) ei.out;have lf:=hd_ (ei.out.2.2.2.2.ext HS.out.lo);clear hb ld))
   | (have _g:=lf.out;go_at_call 125;refine (v4c lf.out Z4.out).mono ?_;rw [me.out];(rintro e w7 ⟨oT,nT,cT,rfl,hb⟩;(try clear cg ch cj cA);(try clear dP dQ dR dS);replace HS:=hd_ (HS.out.ext hb);clear c0 c1 c2 c3;obtain ⟨c0,c1,c2,c3⟩:=c4 HS.out.b;obtain ⟨fs,ft,fu,fy⟩:=e4 (HS.out.lo) jW.out;have lg:=hd_ (jW.out.2.2.2.2.ext HS.out.lo);clear hb lf))
   | (have _g:=lg.out;go_at_call 126;refine (v6c lg.out Z5.out).mono ?_;rw [Hz4.out];(rintro e w9 ⟨g,oG,nG,cG,rfl,hb⟩;(try clear cg ch cj cA);(try clear fs ft fu fy);have aR:E w9.heap.size w9 (w9.alloc (Q ([J I g.frm,J I g.cfg,(Z oG nG cG)]:List Y).toArray 31)):=z4b _;replace HS:=hd_ ((HS.out.ext hb).ext aR);clear aR;clear c0 c1 c2 c3;obtain ⟨c0,c1,c2,c3⟩:=c4 HS.out.b;obtain ⟨lm,lp,lr,ls⟩:=e4 (HS.out.lo) pu.out;have lh:=hd_ (pu.out.2.2.2.2.ext HS.out.lo);clear hb lg))
   | (have _g:=lh.out;go_at_call 127;refine (v8c lh.out Z6.out).mono ?_;rw [Hz5.out];(rintro e wa ⟨r,rfl,hb⟩;(try clear cg ch cj cA);(try clear lm lp lr ls);have aR:E wa.heap.size wa (wa.alloc (Q ([J I r.st,J I r.no,J I r.mi,J I r.ar,M r.cl,J I r.vo]:List Y).toArray 33)):=z4b _;replace HS:=hd_ ((HS.out.ext hb).ext aR);clear aR;clear c0 c1 c2 c3;obtain ⟨c0,c1,c2,c3⟩:=c4 HS.out.b;obtain ⟨lu,lw,lz,lA⟩:=e4 (HS.out.lo) jn.out;have iT:=hd_ (jn.out.2.2.2.2.ext HS.out.lo);clear hb lh))
   | (have _g:=iT.out;go_at_call 122;refine (j9v (m:=3) iT.out (by have:=Z7.out;omega)).mono ?_;rw [Hz6.out];(rintro e wb ⟨oU,nU,cU,rfl,hb⟩;(try clear cg ch cj cA);(try clear lu lw lz lA);replace HS:=hd_ (HS.out.ext hb);clear c0 c1 c2 c3;obtain ⟨c0,c1,c2,c3⟩:=c4 HS.out.b;obtain ⟨lC,lD,lE,lF⟩:=e4 (HS.out.lo) kv.out;have li:=hd_ (kv.out.2.2.2.2.ext HS.out.lo);clear hb iT))
   | (have _g:=li.out;go_at_call 128;refine (v0d li.out Z9.out).mono ?_;rw [oV.out];(rintro e wc ⟨p,oP,nP,cP,rfl,hb⟩;(try clear cg ch cj cA);(try clear lC lD lE lF);have aR:E wc.heap.size wc (wc.alloc (Q ([(Z oP nP cP),J I p.sh,J I p.fa]:List Y).toArray 37)):=z4b _;replace HS:=hd_ ((HS.out.ext hb).ext aR);clear aR;clear c0 c1 c2 c3;obtain ⟨c0,c1,c2,c3⟩:=c4 HS.out.b;obtain ⟨fJ,fK,fL,fM⟩:=e4 (HS.out.lo) iP.out;have fG:=hd_ (iP.out.2.2.2.2.ext HS.out.lo);clear hb li))
   | (have _g:=fG.out;go_at_call 122;refine (j9v (m:=2) fG.out (by have:=Z10.out;omega)).mono ?_;rw [kB.out];(rintro e wd ⟨oQ,nQ,cQ,rfl,hb⟩;(try clear cg ch cj cA);(try clear fJ fK fL fM);replace HS:=hd_ (HS.out.ext hb);clear c0 c1 c2 c3;clear hb fG)))
  clear eL Z0 dO Z2 ff Z3 ei Z4 jW Z5 pu Z6 jn Z7 kv Z9 iP Z10 gb ZP az HL eR ll u1 u2 u3 Hz0 Hz1 Hz2 me Hz4 Hz5 Hz6 oV kB
  go_upto_region 14 with (first
   | (have _g:=aD.out;refine scs 41 (.tmp 2) (.tmp 139) rfl (w.heap.size+1) ZIc rfl rfl HS.out.z aD.out (fun w8 aI bg dk=>?_);have aT:=hd_ (HS.out.lo.grown bg.out HS.out.lo.size (fun q e=>by injection e with e;omega));clear aD)
   | (have _g:=fQ.out;refine z9b (by rfl) 41 #[] rfl ZIc [] rfl fQ.out ?_))
  all_goals (try (refine bodyPost_ret (v:=.tuple #[D (ZIc:List Y).toArray,B U]) (z6a (fn:=f66) (p:=2) (t2:=3) (ty:=41) rfl _ _ (w.heap.size+1) 41 _ (0,0) _ rfl aI.out underlying41 rfl (by kernel_rfl)) rfl ?_;exact ⟨z1h,rfl,j9o _,aT.out⟩))
  all_goals (have hh:=Hall.out;have p0:z0=F:=(by first|assumption|(simpa using ‹(!z0)=U›)|(cases z0 <;> simp_all));have p1:z1=F:=(by first|assumption|(simpa using ‹(!z1)=U›)|(cases z1 <;> simp_all));have p2:z2=F:=(by first|assumption|(simpa using ‹(!z2)=U›)|(cases z2 <;> simp_all));have p3:z3=F:=(by first|assumption|(simpa using ‹(!z3)=U›)|(cases z3 <;> simp_all));have p4:z4=F:=(by first|assumption|(simpa using ‹(!z4)=U›)|(cases z4 <;> simp_all));have p5:z5=F:=(by first|assumption|(simpa using ‹(!z5)=U›)|(cases z5 <;> simp_all));have p6:z6=F:=(by first|assumption|(simpa using ‹(!z6)=U›)|(cases z6 <;> simp_all));have p7:z7=F:=(by first|assumption|(simpa using ‹(!z7)=U›)|(cases z7 <;> simp_all));have p8:z8=F:=(by first|assumption|(simpa using ‹(!z8)=U›)|(cases z8 <;> simp_all));rw [p0,p1,p2,p3,p4,p5,p6,p7,p8] at hh;exact absurd hh (by decide))
theorem j0p {x:V} {X:Inp} (h:z8i x=G X):∃ v0 v1 v2 v3 v4 v5 v6 v7 v8 v9 dV s0 s1 s2 k0 k1 t0 t1 t2 q0 q1 f tr g r p,x.l=[v0,v1,v2,v3,v4,v5,v6,v7,v8,v9,dV]∧x.kind=3∧v2.kind=2∧z7b 3 v0=G [s0,s1,s2]∧z7b 2 (lV [v1,v8])=G [k0,k1]∧y9c v3=G f∧y6n v4=G tr∧y1k v5=G g∧y2k v6=G r∧z7b 3 v7=G [t0,t1,t2]∧y3k v9=G p∧z7b 2 dV=G [q0,q1]∧X=⟨s0,s1,s2,k0,v2.s,f,tr,g,r,⟨t0,t1,O (t2=1)⟩,k1,p,q0,q1⟩:=by
 unfold z8i at h
 match hl:x.l,h with
 | [v0,v1,v2,v3,v4,v5,v6,v7,v8,v9,dV],h =>
  by_cases hk:x.kind=3∧v2.kind=2
  ·simp only [if_pos hk,Option.bind_eq_some_iff] at h
   obtain ⟨s,hs,k,hkk,f,hf,tr,htr,g,hg,r,hr,t,ht,p,hp,q,hq,hx⟩:=h
   injection hx with hx
   obtain ⟨s0,s1,s2,rfl⟩:=k1w (z2e (m:=3) hs)
   obtain ⟨k0,k1,rfl⟩:=j8v (z2e (m:=2) hkk)
   obtain ⟨t0,t1,t2,rfl⟩:=k1w (z2e (m:=3) ht)
   obtain ⟨q0,q1,rfl⟩:=j8v (z2e (m:=2) hq)
   exact ⟨v0,v1,v2,v3,v4,v5,v6,v7,v8,v9,dV,s0,s1,s2,k0,k1,t0,t1,t2,q0,q1,f,tr,g,r,p,rfl,hk.1,hk.2,hs,hkk,hf,htr,hg,hr,ht,hp,hq,hx.symm⟩
  ·simp only [if_neg hk] at h;first|done|cases h
theorem j1p (x:V) (v:Y) (w:H) (X:Inp) (hv:RD w x v) (hz:sz x≤60000) (hrs:z8i x=G X):L prog 66 #[v] w (k4l (G X) w):=by
 obtain ⟨oa,cap,rfl⟩:=hv.form
 obtain ⟨ln,hln⟩:∃ ln,x.l.length=ln:=⟨_,rfl⟩
 rw [hln] at hv ⊢
 have aC:=@RD.el w x (J I x.kind) (J I x.n) (M x.s) oa ln cap hv
 have hlb:=hv.lt
 rw [hln] at hlb
 have HS:=hd_ (RS.start (T:=41) (Zc:=ZIc) hv)
 have aD:=hd_ z7s
 have fQ:R (prog.built 41 []=G ZIc.toArray):=hd_ (by kernel_rfl)
 obtain ⟨v0,v1,v2,v3,v4,v5,v6,v7,v8,v9,dV,s0,s1,s2,k0,k1,t0,t1,t2,q0,q1,f,tr,g,r,p,hl,hk3,hk2,hs,hkk,hf,htr,hg,hr,ht,hp,hq,hX⟩:=j0p hrs
 have HXe:=hd_ hX
 have Hs:=hd_ hs;have Hkk:=hd_ hkk;have Hf:=hd_ hf;have Htr:=hd_ htr;have Hg:=hd_ hg;have Hr:=hd_ hr;have Ht:=hd_ ht;have Hp:=hd_ hp;have Hq:=hd_ hq
 clear hs hkk hf htr hg hr ht hp hq hX hrs
 have hs:x.kind=3∧ln=11:=⟨hk3,by rw [← hln,hl];rfl⟩
 have Hl:=hd_ hl;have Hk3':=hd_ hk3;have Hk2':=hd_ hk2
 clear hk3 hl hk2
 obtain ⟨-,ij⟩:=hs
 subst ij
 have hl:=Hl.out
 have hk3:=Hk3'.out
 rw [hl] at aC
 have bX:R (O (x.kind=3∧(x.l.length:Int)=(11:Int))=F):=hd_ (decide_eq_true ⟨hk3,by omega⟩)
 have HL:=hd_ hl;have eR:=hd_ hk3
 have hsz:=z4c x
 rw [hl] at hsz
 simp only [szs] at hsz
 obtain ⟨b0,eo,gX,jt,ob0,cb0,fB,fU,fV,fW,kS⟩:=aC (k:=0) (y:=v0) rfl
 simp only [Nat.zero_mul,Nat.add_zero] at fB fU fV fW
 obtain ⟨b2,cC,da,jE,ob2,cb2,cg,ch,cj,cA,hr2⟩:=aC (k:=2) (y:=v2) rfl
 obtain ⟨b3,gh,dG,jB,ob3,cb3,eE,eF,fp,fq,jw⟩:=aC (k:=3) (y:=v3) rfl
 obtain ⟨b4,gd,gF,np,ob4,cb4,dP,dQ,dR,dS,gO⟩:=aC (k:=4) (y:=v4) rfl
 obtain ⟨b5,off5,eA,hw5,ob5,cb5,fs,ft,fu,fy,kE⟩:=aC (k:=5) (y:=v5) rfl
 obtain ⟨b6,off6,pq,hw6,ob6,cb6,lm,lp,lr,ls,mX⟩:=aC (k:=6) (y:=v6) rfl
 obtain ⟨b7,off7,pt,hw7,ob7,cb7,lu,lw,lz,lA,hr7⟩:=aC (k:=7) (y:=v7) rfl
 obtain ⟨b9,off9,eC,hw9,ob9,cb9,lC,lD,lE,lF,hr9⟩:=aC (k:=9) (y:=v9) rfl
 obtain ⟨b10,off10,iO,hw10,ob10,cb10,fJ,fK,fL,fM,hr10⟩:=aC (k:=10) (y:=dV) rfl
 subst gX
 injection da with da;injection da with e1 e2;subst e1;subst e2
 injection dG with dG;injection dG with e1 e2;subst e1;subst e2
 injection gF with gF;injection gF with e1 e2;subst e1;subst e2
 injection eA with eA;injection eA with e1 e2;subst e1;subst e2
 injection pq with pq;injection pq with e1 e2;subst e1;subst e2
 injection pt with pt;injection pt with e1 e2;subst e1;subst e2
 injection eC with eC;injection eC with e1 e2;subst e1;subst e2
 injection iO with iO;injection iO with e1 e2;subst e1;subst e2
 have eL:=hd_ (And.intro fB (And.intro fU (And.intro fV (And.intro fW kS))))
 have Z0:R (sz v0≤60000):=hd_ (by omega)
 have dO:=hd_ (And.intro cg (And.intro ch (And.intro cj (And.intro cA hr2))))
 have Z2:R (sz v2≤60000):=hd_ (by omega)
 have ff:=hd_ (And.intro eE (And.intro eF (And.intro fp (And.intro fq jw))))
 have Z3:R (sz v3≤60000):=hd_ (by omega)
 have ei:=hd_ (And.intro dP (And.intro dQ (And.intro dR (And.intro dS gO))))
 have Z4:R (sz v4≤60000):=hd_ (by omega)
 have jW:=hd_ (And.intro fs (And.intro ft (And.intro fu (And.intro fy kE))))
 have Z5:R (sz v5≤60000):=hd_ (by omega)
 have pu:=hd_ (And.intro lm (And.intro lp (And.intro lr (And.intro ls mX))))
 have Z6:R (sz v6≤60000):=hd_ (by omega)
 have jn:=hd_ (And.intro lu (And.intro lw (And.intro lz (And.intro lA hr7))))
 have Z7:R (sz v7≤60000):=hd_ (by omega)
 have kv:=hd_ (And.intro lC (And.intro lD (And.intro lE (And.intro lF hr9))))
 have Z9:R (sz v9≤60000):=hd_ (by omega)
 have iP:=hd_ (And.intro fJ (And.intro fK (And.intro fL (And.intro fM hr10))))
 have Z10:R (sz dV≤60000):=hd_ (by omega)
 have ZP:R (sz (lV [v1,v8])≤100000):=hd_ (by have e:=z4c (lV [v1,v8]);simp only [lV,V.s,V.l,szs,show (⟨#[]⟩:ByteArray).size=0 from rfl] at e ⊢;omega)
 have gb:R (∀ (j i:Nat) (y:V),([1,8]:List Nat)[j]? = G i→([v1,v8]:List V)[j]? = G y→x.l[i]? = G y):=hd_ (by
  intro j i y h1 h2
  rw [hl]
  match j,h1,h2 with
  | 0,h1,h2=>simp at h1 h2;subst h1;subst h2;rfl
  | 1,h1,h2=>simp at h1 h2;subst h1;subst h2;rfl
  | k+2,h1,_=>simp at h1)
 have az:=hd_ jt
 have hk2:=Hk2'.out
 have u1:O (v2.kind=2)=F:=decide_eq_true hk2
 have u2:(v2.kind == 2)=F:=by rw [hk2];rfl
 have u3:(v2.kind != 2)=U:=by rw [bne,u2];rfl
 clear hk2
 clear hz hsz hv aC hln hk3 hl fB fU fV fW kS cg ch cj cA hr2 eE eF fp fq jw dP dQ dR dS gO fs ft fu fy kE lm lp lr ls mX lu lw lz lA hr7 lC lD lE lF hr9 fJ fK fL fM hr10 jt jE jB np hw5 hw6 hw7 hw9 hw10
 go_enter func66,ntmps66
 go_upto_region 1 with fail
 change Code.wp _ _ _ _ ((w.alloc (Q [J I x.kind,J I x.n,M x.s,Z (G ⟨b0,eo,C⟩) 11 cap].toArray 80)).alloc (Q (ZIc:List Y).toArray 41))
 generalize (w.alloc (Q [J I x.kind,J I x.n,M x.s,Z (G ⟨b0,eo,C⟩) 11 cap].toArray 80)).alloc (Q (ZIc:List Y).toArray 41)=w1 at *
 obtain ⟨c0,c1,c2,c3⟩:=c4 HS.out.b
 have HT:R (DSt w C 0 [] [] w1):=⟨z9a HS.out.lo,Nat.zero_le _,fun p hp=>absurd hp nM,fun p hp=>absurd hp nM,fun p hp=>absurd hp nM,List.nodup_nil,fun t ht=>absurd ht nM,fun t ht=>absurd ht nM⟩
 go_upto_region 14 with (first
  | (go_at_call 121;refine (z9c 11 x _ _ HS.out.v).mono ?_;rw [bX.out];(rintro e w2 ⟨rfl,hb⟩;replace HS:=hd_ (HS.out.ext hb);replace HT:=hd_ (HT.out.grow hb);clear hb;clear c0 c1 c2 c3;obtain ⟨c0,c1,c2,c3⟩:=c4 HS.out.b;obtain ⟨cg,ch,cj,cA⟩:=e4 (HS.out.lo) dO.out;obtain ⟨fB,fU,fV,fW⟩:=e4 (HS.out.lo) eL.out;have lc:=hd_ (eL.out.2.2.2.2.ext HS.out.lo);clear bX))
  | (have _g:=lc.out;go_at_call 122;refine (j0w (m:=3) lc.out (by have:=Z0.out;omega) Hs.out rfl).mono ?_;(rintro e w3 ⟨oS,cS,bS,rfl,hO,hb⟩;(try clear fB fU fV fW);(try clear cg ch cj cA);replace HS:=hd_ (HS.out.ext hb);replace HT:=hd_ ((HT.out.grow hb).add (z1w nuK 3 bS (Z oS 3 cS) [s0,s1,s2]) hO (fun p hp=>absurd hp nM));clear hO c0 c1 c2 c3;obtain ⟨c0,c1,c2,c3⟩:=c4 HS.out.b;have aR:E w3.heap.size w3 (w3.alloc (Q [J I 1,J I 8].toArray 3)):=z4b _;have bu:=hd_ (HS.out.ext aR);replace HT:=hd_ (HT.out.grow aR);have bH:R (z4g nuK (w3.alloc (Q [J I 1,J I 8].toArray 3)).heap.size (w3.alloc (Q [J I 1,J I 8].toArray 3)) (([1,8]:List Nat).map (fun (k:Nat)=>(k:Int))) (Z (G ⟨w3.heap.size,0,C⟩) 2 2)):=hd_ (z2n (K:=nuK) 2 (z3a w3 (Q [J I 1,J I 8].toArray 3) 3 _ rfl) rfl (by unfold maxLen;decide));clear aR;clear hb lc))
  | (have _g:=bH.out;go_at_call 123;refine (z2k x _ _ [1,8] [v1,v8] _ bu.out.v bH.out rfl gb.out (by decide)).mono ?_;(rintro e w4 ⟨lv4,rfl,hr,hb⟩;replace HS:=hd_ (bu.out.ext hb);replace HT:=hd_ (HT.out.grow hb);have cZ:=hd_ hr;clear hr hb bu bH))
  | (have _g:=cZ.out;go_at_call 122;refine (j0w (m:=2) cZ.out ZP.out Hkk.out rfl).mono ?_;(rintro e w5 ⟨oK,cK,bK,rfl,hO,hb⟩;replace HS:=hd_ (HS.out.ext hb);replace HT:=hd_ ((HT.out.grow hb).add (z1w nuK 3 bK (Z oK 2 cK) [k0,k1]) hO (fun p hp=>absurd hp nM));clear hO;clear c0 c1 c2 c3;obtain ⟨c0,c1,c2,c3⟩:=c4 HS.out.b;obtain ⟨eE,eF,fp,fq⟩:=e4 (HS.out.lo) ff.out;have ld:=hd_ (ff.out.2.2.2.2.ext HS.out.lo);clear hb cZ))
  | (have _g:=ld.out;go_at_call 124;refine (v3c ld.out Z3.out Hf.out).mono ?_;(rintro e w6 ⟨oF,nF,cF,bF,rfl,hO,hb⟩;(try clear cg ch cj cA);(try clear eE eF fp fq);replace HS:=hd_ (HS.out.ext hb);replace HT:=hd_ ((HT.out.grow hb).add (z1w nuK 3 bF (Z oF nF cF) f.ways) hO (fun p hp=>absurd hp nM));clear hO;have aR:E w6.heap.size w6 (w6.alloc (Q ([.int I f.id,.int I f.air,.int I f.cls,.string f.call,(Z oF nF cF),.int I f.wf,.int I f.wt,.bool f.can]:List Y).toArray 28)):=z4b _;replace HS:=hd_ (HS.out.ext aR);replace HT:=hd_ ((HT.out.grow aR).add (z2h w6.heap.size 28 [.int I f.id,.int I f.air,.int I f.cls,.string f.call,(Z oF nF cF),.int I f.wf,.int I f.wt,.bool f.can]) (z3a w6 (Q ([.int I f.id,.int I f.air,.int I f.cls,.string f.call,(Z oF nF cF),.int I f.wf,.int I f.wt,.bool f.can]:List Y).toArray 28) 28 _ rfl) (fun p hp=>absurd hp nM));clear aR;clear c0 c1 c2 c3;obtain ⟨c0,c1,c2,c3⟩:=c4 HS.out.b;obtain ⟨dP,dQ,dR,dS⟩:=e4 (HS.out.lo) ei.out;have lf:=hd_ (ei.out.2.2.2.2.ext HS.out.lo);clear hb ld))
  | (have _g:=lf.out;go_at_call 125;refine (v5c lf.out Z4.out Htr.out).mono ?_;(rintro e w7 ⟨oT,nT,cT,bT,rlT,rfl,hO,hb⟩;(try clear cg ch cj cA);(try clear dP dQ dR dS);replace HS:=hd_ (HS.out.ext hb);replace HT:=hd_ ((HT.out.grow hb).add (z1z bT (Z oT nT cT) rlT tr) hO (fun p hp=>absurd hp nM));clear hO;clear c0 c1 c2 c3;obtain ⟨c0,c1,c2,c3⟩:=c4 HS.out.b;obtain ⟨fs,ft,fu,fy⟩:=e4 (HS.out.lo) jW.out;have lg:=hd_ (jW.out.2.2.2.2.ext HS.out.lo);clear hb lf))
  | (have _g:=lg.out;go_at_call 126;refine (v7c lg.out Z5.out Hg.out).mono ?_;(rintro e w9 ⟨oG,nG,cG,bG,rfl,hO,hb⟩;(try clear cg ch cj cA);(try clear fs ft fu fy);replace HS:=hd_ (HS.out.ext hb);replace HT:=hd_ ((HT.out.grow hb).add (z1w nuK 3 bG (Z oG nG cG) g.modes) hO (fun p hp=>absurd hp nM));clear hO;have aR:E w9.heap.size w9 (w9.alloc (Q ([J I g.frm,J I g.cfg,(Z oG nG cG)]:List Y).toArray 31)):=z4b _;replace HS:=hd_ (HS.out.ext aR);replace HT:=hd_ ((HT.out.grow aR).add (z2h w9.heap.size 31 [J I g.frm,J I g.cfg,(Z oG nG cG)]) (z3a w9 (Q ([J I g.frm,J I g.cfg,(Z oG nG cG)]:List Y).toArray 31) 31 _ rfl) (fun p hp=>absurd hp nM));clear aR;clear c0 c1 c2 c3;obtain ⟨c0,c1,c2,c3⟩:=c4 HS.out.b;obtain ⟨lm,lp,lr,ls⟩:=e4 (HS.out.lo) pu.out;have lh:=hd_ (pu.out.2.2.2.2.ext HS.out.lo);clear hb lg))
  | (have _g:=lh.out;go_at_call 127;refine (v9c lh.out Z6.out Hr.out).mono ?_;(rintro e wa ⟨rfl,hb⟩;(try clear cg ch cj cA);(try clear lm lp lr ls);replace HS:=hd_ (HS.out.ext hb);replace HT:=hd_ (HT.out.grow hb);have aR:E wa.heap.size wa (wa.alloc (Q ([J I r.st,J I r.no,J I r.mi,J I r.ar,M r.cl,J I r.vo]:List Y).toArray 33)):=z4b _;replace HS:=hd_ (HS.out.ext aR);replace HT:=hd_ ((HT.out.grow aR).add (z2h wa.heap.size 33 [J I r.st,J I r.no,J I r.mi,J I r.ar,M r.cl,J I r.vo]) (z3a wa (Q ([J I r.st,J I r.no,J I r.mi,J I r.ar,M r.cl,J I r.vo]:List Y).toArray 33) 33 _ rfl) (fun p hp=>absurd hp nM));clear aR;clear c0 c1 c2 c3;obtain ⟨c0,c1,c2,c3⟩:=c4 HS.out.b;obtain ⟨lu,lw,lz,lA⟩:=e4 (HS.out.lo) jn.out;have iT:=hd_ (jn.out.2.2.2.2.ext HS.out.lo);clear hb lh))
  | (have _g:=iT.out;go_at_call 122;refine (j0w (m:=3) iT.out (by have:=Z7.out;omega) Ht.out rfl).mono ?_;(rintro e wb ⟨oU,cU,bU,rfl,hO,hb⟩;(try clear cg ch cj cA);(try clear lu lw lz lA);replace HS:=hd_ (HS.out.ext hb);replace HT:=hd_ ((HT.out.grow hb).add (z1w nuK 3 bU (Z oU 3 cU) [t0,t1,t2]) hO (fun p hp=>absurd hp nM));clear hO;clear c0 c1 c2 c3;obtain ⟨c0,c1,c2,c3⟩:=c4 HS.out.b;obtain ⟨lC,lD,lE,lF⟩:=e4 (HS.out.lo) kv.out;have li:=hd_ (kv.out.2.2.2.2.ext HS.out.lo);clear hb iT))
  | (have _g:=li.out;go_at_call 128;refine (v1d li.out Z9.out Hp.out).mono ?_;(rintro e wc ⟨oP,nP,cP,bP,rfl,hO,hb⟩;(try clear cg ch cj cA);(try clear lC lD lE lF);replace HS:=hd_ (HS.out.ext hb);replace HT:=hd_ ((HT.out.grow hb).add (z1w nuK 3 bP (Z oP nP cP) p.vols) hO (fun p hp=>absurd hp nM));clear hO;have aR:E wc.heap.size wc (wc.alloc (Q ([(Z oP nP cP),J I p.sh,J I p.fa]:List Y).toArray 37)):=z4b _;replace HS:=hd_ (HS.out.ext aR);replace HT:=hd_ ((HT.out.grow aR).add (z2h wc.heap.size 37 [(Z oP nP cP),J I p.sh,J I p.fa]) (z3a wc (Q ([(Z oP nP cP),J I p.sh,J I p.fa]:List Y).toArray 37) 37 _ rfl) (fun p hp=>absurd hp nM));clear aR;clear c0 c1 c2 c3;obtain ⟨c0,c1,c2,c3⟩:=c4 HS.out.b;obtain ⟨fJ,fK,fL,fM⟩:=e4 (HS.out.lo) iP.out;have fG:=hd_ (iP.out.2.2.2.2.ext HS.out.lo);clear hb li))
  | (have _g:=fG.out;go_at_call 122;refine (j0w (m:=2) fG.out (by have:=Z10.out;omega) Hq.out rfl).mono ?_;(rintro e wd ⟨oQ,cQ,bQ,rfl,hO,hb⟩;(try clear cg ch cj cA);(try clear fJ fK fL fM);replace HS:=hd_ (HS.out.ext hb);replace HT:=hd_ ((HT.out.grow hb).add (z1w nuK 3 bQ (Z oQ 2 cQ) [q0,q1]) hO (fun p hp=>absurd hp nM));clear hO c0 c1 c2 c3;clear hb fG)))
 have ownq:z7h nuK 3 wd bQ (Z oQ 2 cQ) [q0,q1]:=HT.out.thg _ (mG (i:=0) rfl)
 obtain ⟨gq,hgq,hwq,kq0⟩:=z3e ownq (k:=0) rfl
 obtain ⟨gq',hgq',-,kq1⟩:=z3e ownq (k:=1) rfl
 rw [hgq] at hgq';injection hgq' with hgq';injection hgq' with hgq' _ _;subst hgq'
 subst hgq
 have Hwq:=hd_ (And.intro hwq (z9s ownq HS.out.z (by decide)))
 have Kq0:=hd_ kq0
 have Kq1:=hd_ kq1
 clear kq0 kq1 hwq ownq
 have ownt:z7h nuK 3 wd bU (Z oU 3 cU) [t0,t1,t2]:=HT.out.thg _ (mG (i:=3) rfl)
 obtain ⟨gt,hgt,hwt,kt0⟩:=z3e ownt (k:=0) rfl
 obtain ⟨gt',er,-,kt1⟩:=z3e ownt (k:=1) rfl
 rw [hgt] at er;injection er with er;injection er with er _ _;subst er
 obtain ⟨gt',er,-,kt2⟩:=z3e ownt (k:=2) rfl
 rw [hgt] at er;injection er with er;injection er with er _ _;subst er
 subst hgt
 have my:=hd_ (And.intro hwt (z9s ownt HS.out.z (by decide)))
 have Kt0:=hd_ kt0
 have Kt1:=hd_ kt1
 have Kt2:=hd_ kt2
 clear kt0 kt1 kt2 hwt ownt
 have ownk:z7h nuK 3 wd bK (Z oK 2 cK) [k0,k1]:=HT.out.thg _ (mG (i:=10) rfl)
 obtain ⟨gk,hgk,hwk,kk0⟩:=z3e ownk (k:=0) rfl
 obtain ⟨gk',hgk',-,kk1⟩:=z3e ownk (k:=1) rfl
 rw [hgk] at hgk';injection hgk' with hgk';injection hgk' with hgk' _ _;subst hgk'
 subst hgk
 have Hwk:=hd_ (And.intro hwk (z9s ownk HS.out.z (by decide)))
 have Kk0:=hd_ kk0
 have Kk1:=hd_ kk1
 clear kk0 kk1 hwk ownk
 have owns:z7h nuK 3 wd bS (Z oS 3 cS) [s0,s1,s2]:=HT.out.thg _ (mG (i:=11) rfl)
 obtain ⟨gs,hgs,hws,ks0⟩:=z3e owns (k:=0) rfl
 obtain ⟨gs',et,-,ks1⟩:=z3e owns (k:=1) rfl
 rw [hgs] at et;injection et with et;injection et with et _ _;subst et
 obtain ⟨gs',et,-,ks2⟩:=z3e owns (k:=2) rfl
 rw [hgs] at et;injection et with et;injection et with et _ _;subst et
 subst hgs
 have Hws:=hd_ (And.intro hws (z9s owns HS.out.z (by decide)))
 have Ks0:=hd_ ks0
 have Ks1:=hd_ ks1
 have Ks2:=hd_ ks2
 clear ks0 ks1 ks2 hws owns
 have hboxP:CB wd wc.heap.size 37 [(Z oP nP cP),J I p.sh,J I p.fa]:=HT.out.thg _ (mG (i:=1) rfl)
 have HboP:=hd_ (show CB wd wc.heap.size 37 [(Z oP nP cP),J I p.sh,J I p.fa]∧wc.heap.size<wd.heap.size∧wc.heap.size≠w.heap.size+1 from ⟨hboxP,hboxP.lt,fun e=>absurd (z5q hboxP (e ▸ HS.out.z)) (by decide)⟩)
 clear hboxP
 have hboxR:CB wd wa.heap.size 33 [J I r.st,J I r.no,J I r.mi,J I r.ar,M r.cl,J I r.vo]:=HT.out.thg _ (mG (i:=4) rfl)
 have HboR:=hd_ (show CB wd wa.heap.size 33 [J I r.st,J I r.no,J I r.mi,J I r.ar,M r.cl,J I r.vo]∧wa.heap.size<wd.heap.size∧wa.heap.size≠w.heap.size+1 from ⟨hboxR,hboxR.lt,fun e=>absurd (z5q hboxR (e ▸ HS.out.z)) (by decide)⟩)
 clear hboxR
 have hboxG:CB wd w9.heap.size 31 [J I g.frm,J I g.cfg,(Z oG nG cG)]:=HT.out.thg _ (mG (i:=5) rfl)
 have HboG:=hd_ (show CB wd w9.heap.size 31 [J I g.frm,J I g.cfg,(Z oG nG cG)]∧w9.heap.size<wd.heap.size∧w9.heap.size≠w.heap.size+1 from ⟨hboxG,hboxG.lt,fun e=>absurd (z5q hboxG (e ▸ HS.out.z)) (by decide)⟩)
 clear hboxG
 have hboxF:CB wd w6.heap.size 28 [.int I f.id,.int I f.air,.int I f.cls,.string f.call,(Z oF nF cF),.int I f.wf,.int I f.wt,.bool f.can]:=HT.out.thg _ (mG (i:=8) rfl)
 have HboF:=hd_ (show CB wd w6.heap.size 28 [.int I f.id,.int I f.air,.int I f.cls,.string f.call,(Z oF nF cF),.int I f.wf,.int I f.wt,.bool f.can]∧w6.heap.size<wd.heap.size∧w6.heap.size≠w.heap.size+1 from ⟨hboxF,hboxF.lt,fun e=>absurd (z5q hboxF (e ▸ HS.out.z)) (by decide)⟩)
 clear hboxF
 have ia:=hd_ (show x8q (⟨s0,s1,s2,k0,v2.s,f,tr,g,r,⟨t0,t1,O (t2=1)⟩,k1,p,q0,q1⟩:Inp) (⟨Z oF nF cF,Z oT nT cT,Z oG nG cG,Z oP nP cP⟩:Slc) wd from ⟨_,_,_,_,_,HT.out.thg _ (mG (i:=9) rfl),HT.out.thg _ (mG (i:=7) rfl),HT.out.thg _ (mG (i:=6) rfl),HT.out.thg _ (mG (i:=2) rfl)⟩)
 have eN:=hd_ (show w.heap.size<wd.heap.size∧w.heap.size≠w.heap.size+1 from ⟨HS.out.b.lt,by omega⟩)
 have jM:=hd_ (show b0<wd.heap.size∧b0≠w.heap.size+1 from ⟨Nat.lt_of_lt_of_le az.out HS.out.lo.size,by have:=az.out;omega⟩)
 have Hz:=hd_ HS.out.z;have ko:=hd_ (HS.out.b.cv 3 (Z (G ⟨b0,eo,C⟩) 11 cap));have kH:=hd_ HS.out.lo
 have Kstr:R (wd.cell? ⟨b0,eo+10,C⟩=G (M v2.s)):=z1a HS.out.lo dO.out.2.2.1
 (try clear c0 c1 c2 c3);(try clear fB fU fV fW);(try clear cg ch cj cA);(try clear eE eF fp fq);(try clear dP dQ dR dS);(try clear fs ft fu fy);(try clear lm lp lr ls);(try clear lu lw lz lA);(try clear lC lD lE lF);(try clear fJ fK fL fM);(try clear u1 u2 u3);clear HS HT eL Z0 dO Z2 ff Z3 ei Z4 jW Z5 pu Z6 jn Z7 kv Z9 iP Z10 gb ZP az Hs Hkk Hf Htr Hg Hr Ht Hp Hq
 refine z7a (S:=fun w'=>∀ k,k<wd.heap.size→k≠w.heap.size+1→w'.heap[k]? = wd.heap[k]?) (late:=fun _=>U) (by kernel_rfl) (fun _ _ _=>rfl) (fun hHeld=>?_)
 have fE:R (CB wd.drew (w.heap.size+1) 41 ZIc):=Hz.out
 have gR:=hd_ (kH.out.drew)
 have HO4d:=hd_ (ia.out.ext (Below.refl wd.heap.size wd).drew)
 have fN:∀ k,k<wd.heap.size→k≠w.heap.size+1→wd.drew.heap[k]? = wd.heap[k]?:=fun _ _ _=>rfl
 have dZ:wd.drew.heap.size=wd.heap.size:=rfl
 generalize wd.drew=we at *
 refine tkL 140 0 ?_
 refine tkL 141 1 ?_
 refine tkL 142 2 ?_ (hy:=fun wS aa=>by have z:=(cB (w:=wd) (aa gs Hws.out.1 Hws.out.2)).trans Ks0.out;go_simp;first|done|with_reducible rfl)
 refine tkL 143 3 ?_
 refine tkL 144 4 ?_
 refine tkL 145 5 ?_ (hy:=fun wS aa=>by have z:=(cB (w:=wd) (aa gs Hws.out.1 Hws.out.2)).trans Ks1.out;go_simp;first|done|with_reducible rfl)
 refine tkL 146 6 ?_
 refine tkL 147 7 ?_
 refine tkL 148 8 ?_ (hy:=fun wS aa=>by have z:=(cB (w:=wd) (aa gs Hws.out.1 Hws.out.2)).trans Ks2.out;go_simp;first|done|with_reducible rfl)
 refine z2x 149 9 rfl (D ([J I s0,J I s1,J I s2]:List Y).toArray) (z0d (by rfl) 23 _ rfl [J I s0,J I s1,J I s2] [(0,J I s0),(1,J I s1),(2,J I s2)] rfl (by kernel_rfl)) ?_
 refine tkL 150 10 ?_
 refine tkL 151 11 ?_
 refine tkL 152 12 ?_ (hy:=fun wS aa=>by have z:=(cB (w:=wd) (aa gk Hwk.out.1 Hwk.out.2)).trans Kk0.out;go_simp;first|done|with_reducible rfl)
 refine tkL 153 13 ?_
 refine tkL 154 14 ?_ (hy:=fun wS aa=>by have z:=(cB (w:=wd) (aa w.heap.size eN.out.1 eN.out.2)).trans ko.out;go_simp;first|done|with_reducible rfl)
 refine tkL 155 15 ?_
 refine tkL 156 16 ?_
 refine tkL 157 17 ?_ (hy:=fun wS aa=>by have z:=(cB (w:=wd) (aa b0 jM.out.1 jM.out.2)).trans Kstr.out;go_simp;first|done|with_reducible rfl)
 refine z2x 158 18 rfl (.agg ([.int I f.id,.int I f.air,.int I f.cls,.string f.call,(Z oF nF cF),.int I f.wf,.int I f.wt,.bool f.can]).toArray) (yieldsIf_load_mid (by rfl) 28 _ rfl w6.heap.size 0 rfl ([.int I f.id,.int I f.air,.int I f.cls,.string f.call,(Z oF nF cF),.int I f.wf,.int I f.wt,.bool f.can]) _ (fun wS aa=>z3h (HboF.out.1.keep (aa _ HboF.out.2.1 HboF.out.2.2))) underlying28 rfl (by kernel_rfl)) ?_
 refine tkL 159 19 ?_
 refine z2x 160 20 rfl (D ([J I g.frm,J I g.cfg,(Z oG nG cG)]).toArray) (yieldsIf_load_mid (by rfl) 31 _ rfl w9.heap.size 0 rfl ([J I g.frm,J I g.cfg,(Z oG nG cG)]) _ (fun wS aa=>z3h (HboG.out.1.keep (aa _ HboG.out.2.1 HboG.out.2.2))) underlying31 rfl (by kernel_rfl)) ?_
 refine z2x 161 21 rfl (D ([J I r.st,J I r.no,J I r.mi,J I r.ar,M r.cl,J I r.vo]).toArray) (yieldsIf_load_mid (by rfl) 33 _ rfl wa.heap.size 0 rfl ([J I r.st,J I r.no,J I r.mi,J I r.ar,M r.cl,J I r.vo]) _ (fun wS aa=>z3h (HboR.out.1.keep (aa _ HboR.out.2.1 HboR.out.2.2))) underlying33 rfl (by kernel_rfl)) ?_
 refine tkL 162 22 ?_
 refine tkL 163 23 ?_
 refine tkL 164 24 ?_ (hy:=fun wS aa=>by have z:=(cB (w:=wd) (aa gt my.out.1 my.out.2)).trans Kt0.out;go_simp;first|done|with_reducible rfl)
 refine tkL 165 25 ?_
 refine tkL 166 26 ?_
 refine tkL 167 27 ?_ (hy:=fun wS aa=>by have z:=(cB (w:=wd) (aa gt my.out.1 my.out.2)).trans Kt1.out;go_simp;first|done|with_reducible rfl)
 refine tkL 168 28 ?_
 refine tkL 169 29 ?_
 refine tkL 170 30 ?_ (hy:=fun wS aa=>by have z:=(cB (w:=wd) (aa gt my.out.1 my.out.2)).trans Kt2.out;go_simp;first|done|with_reducible rfl)
 refine x5r (G 171) (i:=31) (v:=B (O (t2=1))) rfl rfl (by kernel_rfl) (by kernel_rfl) (by kernel_rfl) (by kernel_rfl) (fun _ _ _ h=>h) (Or.inl ⟨by rfl,fun wS aa=>?hyz31⟩) (by assumption) ?restz31
 case hyz31=>(go_simp;first|done|with_reducible rfl|(simp only [Bool.beq_eq_decide_eq,beq_eq_decide];done)|rfl)
 try simp only [Act.put,List.setIfInBounds_toArray,List.set_cons_zero,List.set_cons_succ]
 refine z2x 172 32 rfl (D ([J I t0,J I t1,B (O (t2=1))]:List Y).toArray) (z0d (by rfl) 35 _ rfl [J I t0,J I t1,B (O (t2=1))] [(0,J I t0),(1,J I t1),(2,B (O (t2=1)))] rfl (by kernel_rfl)) ?_
 refine tkL 173 33 ?_
 refine tkL 174 34 ?_
 refine tkL 175 35 ?_ (hy:=fun wS aa=>by have z:=(cB (w:=wd) (aa gk Hwk.out.1 Hwk.out.2)).trans Kk1.out;go_simp;first|done|with_reducible rfl)
 refine z2x 176 36 rfl (D ([(Z oP nP cP),J I p.sh,J I p.fa]).toArray) (yieldsIf_load_mid (by rfl) 37 _ rfl wc.heap.size 0 rfl ([(Z oP nP cP),J I p.sh,J I p.fa]) _ (fun wS aa=>z3h (HboP.out.1.keep (aa _ HboP.out.2.1 HboP.out.2.2))) underlying37 rfl (by kernel_rfl)) ?_
 refine tkL 177 37 ?_
 refine tkL 178 38 ?_
 refine tkL 179 39 ?_ (hy:=fun wS aa=>by have z:=(cB (w:=wd) (aa gq Hwq.out.1 Hwq.out.2)).trans Kq0.out;go_simp;first|done|with_reducible rfl)
 refine tkL 180 40 ?_
 refine tkL 181 41 ?_
 refine tkL 182 42 ?_ (hy:=fun wS aa=>by have z:=(cB (w:=wd) (aa gq Hwq.out.1 Hwq.out.2)).trans Kq1.out;go_simp;first|done|with_reducible rfl)
 refine z2x 183 43 rfl (D ([J I q0,J I q1]:List Y).toArray) (z0d (by rfl) 39 _ rfl [J I q0,J I q1] [(0,J I q0),(1,J I q1)] rfl (by kernel_rfl)) ?_
 refine z2x 184 44 rfl (.agg ([.int I s0,.int I s1,.int I s2,.int I k0,.string v2.s,.int I f.id,.int I f.air,.int I f.cls,.string f.call,(Z oF nF cF),.int I f.wf,.int I f.wt,.bool f.can,Z oT nT cT,.int I g.frm,.int I g.cfg,(Z oG nG cG),.int I r.st,.int I r.no,.int I r.mi,.int I r.ar,.string r.cl,.int I r.vo,.int I t0,.int I t1,.bool (O (t2=1)),.int I k1,(Z oP nP cP),.int I p.sh,.int I p.fa,.int I q0,.int I q1]:List Y).toArray) (z0d (by rfl) 41 _ rfl [.int I s0,.int I s1,.int I s2,.int I k0,.string v2.s,.int I f.id,.int I f.air,.int I f.cls,.string f.call,(Z oF nF cF),.int I f.wf,.int I f.wt,.bool f.can,Z oT nT cT,.int I g.frm,.int I g.cfg,(Z oG nG cG),.int I r.st,.int I r.no,.int I r.mi,.int I r.ar,.string r.cl,.int I r.vo,.int I t0,.int I t1,.bool (O (t2=1)),.int I k1,(Z oP nP cP),.int I p.sh,.int I p.fa,.int I q0,.int I q1] [(0,.agg #[.int I s0,.int I s1,.int I s2]),(1,.int I k0),(2,.string v2.s),(3,.agg #[.int I f.id,.int I f.air,.int I f.cls,.string f.call,(Z oF nF cF),.int I f.wf,.int I f.wt,.bool f.can]),(4,Z oT nT cT),(5,.agg #[.int I g.frm,.int I g.cfg,(Z oG nG cG)]),(6,.agg #[.int I r.st,.int I r.no,.int I r.mi,.int I r.ar,.string r.cl,.int I r.vo]),(7,.agg #[.int I t0,.int I t1,.bool (O (t2=1))]),(8,.int I k1),(9,.agg #[(Z oP nP cP),.int I p.sh,.int I p.fa]),(10,.agg #[.int I q0,.int I q1])] rfl (by kernel_rfl)) ?_
 refine rdL 45 fun K hK=>?_
 refine sif 41 (.tmp 2) (.tmp 184) rfl (w.heap.size+1) [.int I s0,.int I s1,.int I s2,.int I k0,.string v2.s,.int I f.id,.int I f.air,.int I f.cls,.string f.call,(Z oF nF cF),.int I f.wf,.int I f.wt,.bool f.can,Z oT nT cT,.int I g.frm,.int I g.cfg,(Z oG nG cG),.int I r.st,.int I r.no,.int I r.mi,.int I r.ar,.string r.cl,.int I r.vo,.int I t0,.int I t1,.bool (O (t2=1)),.int I k1,(Z oP nP cP),.int I p.sh,.int I p.fa,.int I q0,.int I q1] rfl rfl fE.out (z8y rfl) (fun wf fP dA jd=>?_)
 have fF:=hd_ (HO4d.out.row fE.out (by decide) dA.out)
 refine hK.out _ wf (fun _=>(fun k h1 h2=>(dA.out.block k (by rw [dZ];exact h1) (fun e=>h2 (by injection e))).trans (fN k h1 h2))) (fun ae=>?_)
 clear hK K
 have hHeld:=ae (by rfl)
 clear ae
 try simp only [Act.put,List.setIfInBounds_toArray,List.set_cons_zero,List.set_cons_succ]
 refine tkL 3 46 ?_
 refine z3b (by kernel_rfl) ?_ _
 go_wp2_with fail
 refine bodyPost_ret (v:=.tuple #[.agg ([.int I s0,.int I s1,.int I s2,.int I k0,.string v2.s,.int I f.id,.int I f.air,.int I f.cls,.string f.call,(Z oF nF cF),.int I f.wf,.int I f.wt,.bool f.can,Z oT nT cT,.int I g.frm,.int I g.cfg,(Z oG nG cG),.int I r.st,.int I r.no,.int I r.mi,.int I r.ar,.string r.cl,.int I r.vo,.int I t0,.int I t1,.bool (O (t2=1)),.int I k1,(Z oP nP cP),.int I p.sh,.int I p.fa,.int I q0,.int I q1]:List Y).toArray,.bool F]) (z6a (fn:=f66) (p:=2) (t2:=3) (ty:=41) rfl _ _ (w.heap.size+1) 41 _ (0,0) _ rfl fP.out underlying41 rfl (by kernel_rfl)) rfl ?_
 have fd:=gR.out.grown dA.out gR.out.size (fun q e=>by injection e with e;omega)
 rw [HXe.out]
 exact ⟨(⟨Z oF nF cF,Z oT nT cT,Z oG nG cG,Z oP nP cP⟩:Slc),rfl,fF.out,fd⟩
theorem j2w (x:V) (v:Y) (w:H) (hv:RD w x v) (hz:sz x≤60000):L prog 66 #[v] w (k4l (z8i x) w):=by
 cases h:z8i x with
 | none=>exact j1w x v w hv hz h
 | some X=>exact j1p x v w X hv hz h
theorem x9q {y:Inp} {sl:Slc} {w:H} (h:x8q y sl w):∀ u∈y.cells sl,u.oneCell'=F:=by
 have hr:=h.rd
 obtain ⟨a,ca,ha,-⟩:=hr.ways.shape
 obtain ⟨b,cb,hb,-⟩:=hr.tree.shape
 obtain ⟨c,cc,hc,-⟩:=hr.modes.shape
 obtain ⟨d,cd,hd,-⟩:=hr.vols.shape
 have:=z9v y sl a b c d _ _ _ _ ca cb cc cd ha hb hc hd
 exact fun u hu=>Array.all_eq_true_iff_forall_mem.1 this u (by simpa using hu)
theorem k5l {l:List UInt8} {x:V} (h:z4w l=G x):rdV 16 l=G (x,[]):=by
 unfold z4w at h
 cases hN:rdV 16 l with
 | none=>rw [hN] at h;cases h
 | some p =>
  obtain ⟨y,r⟩:=p
  rw [hN] at h
  cases r with
  | cons c r=>cases h
  | nil=>simp at h;rw [h]
theorem k2w {rd:V→Option Inp} {l:List UInt8} (hd:z4w l=C):z8q rd l=(zP,10):=by unfold z8q;rw [hd]
theorem k6l {rd:V→Option Inp} {l:List UInt8} {v:V} (hd:z4w l=G v) (hi:rd v=C):z8q rd l=(zP,490):=by
 unfold z8q;rw [hd];show (match rd v with|none=>(zP,(490:Int))|some x=>if okI x&&O (z4o x=l) then (x,0) else (zP,490))=_;rw [hi]
theorem j2p {rd:V→Option Inp} {l:List UInt8} {v:V} {x:Inp} (hd:z4w l=G v) (hi:rd v=G x):z8q rd l=if okI x&&O (z4o x=l) then (x,0) else (zP,490):=by
 unfold z8q;rw [hd];show (match rd v with|none=>(zP,(490:Int))|some x=>if okI x&&O (z4o x=l) then (x,0) else (zP,490))=_;rw [hi]
theorem y5k (l:List UInt8) (hl:l.length≤4000) (v:Y) (w:H) (hb:z6c w.heap.size w l v) (hd:z4w l=C):L prog 22 #[v] w (j4v (z8q z8i l) w):=by
 have hdec:=hd_ (k2w (rd:=z8i) hd)
 have HD:=hd_ hd
 clear hd
 obtain ⟨ob,capb,rfl⟩:=hb.shape
 have aD:=hd_ z7s
 have fQ:R (prog.built 41 []=G ZIc.toArray):=hd_ (by kernel_rfl)
 have ax:E w.heap.size w (w.alloc ZI):=z4b _
 have kY:R (CB (w.alloc ZI) w.heap.size 41 ZIc):=hd_ (z3a w ZI _ _ rfl)
 have HW:=hd_ (hb.ext ax);have az:=hd_ ax;have HWb:=hd_ hb;have Hl:=hd_ hl
 clear hb ax hl
 go_enter func22,ntmps22
 go_upto_region 1 with fail
 change Code.wp _ _ _ _ (w.alloc ZI)
 generalize w.alloc ZI=w0 at *
 go_wp2_with (first
  | (go_at_call 65;refine (x4k l Hl.out _ w0 HW.out).mono ?_;rw [HD.out];(rintro e w1 ⟨rfl,af⟩;have ey:=hd_ ((kY.out.ext af).alloc (Q (w4 0 0 (Z C 0 0)).toArray 80));have aG:=hd_ (z0a (z0a az.out af) (z4b (w:=w1) (Q (w4 0 0 (Z C 0 0)).toArray 80)));clear af))
  | (have _g:=aD.out;refine scs 41 (.tmp 2) (.tmp 17) rfl w.heap.size ZIc rfl rfl ey.out aD.out (fun w8 aI bg dk=>?_);clear aD)
  | (have _g:=fQ.out;refine z9b (by rfl) 41 #[] rfl ZIc [] rfl fQ.out ?_))
 refine bodyPost_ret (v:=.tuple #[D (ZIc:List Y).toArray,J I 10]) (z6a (fn:=f22) (p:=2) (t2:=3) (ty:=41) rfl _ _ w.heap.size 41 _ (0,0) _ rfl aI.out underlying41 rfl (by kernel_rfl)) rfl ?_
 exact ⟨z1h,by rw [hdec.out];rfl,by rw [hdec.out];exact x4y _,aG.out.grown bg.out aG.out.size (fun q e=>by injection e with e;omega)⟩
theorem y6k (l:List UInt8) (hl:l.length≤4000) (v:Y) (w:H) (x:V) (hb:z6c w.heap.size w l v) (hd:z4w l=G x):L prog 22 #[v] w (j4v (z8q z8i l) w):=by
 have HD:=hd_ hd
 obtain ⟨-,-,aW,hsz⟩:=z5l hd (by unfold maxLen;omega)
 have dc:=hd_ aW
 have Hsz:=hd_ (show sz x≤60000 by omega)
 clear hd aW hsz
 obtain ⟨ob,capb,rfl⟩:=hb.shape
 have aD:=hd_ z7s
 have fQ:R (prog.built 41 []=G ZIc.toArray):=hd_ (by kernel_rfl)
 have ax:E w.heap.size w (w.alloc ZI):=z4b _
 have kY:R (CB (w.alloc ZI) w.heap.size 41 ZIc):=hd_ (z3a w ZI _ _ rfl)
 have HW:=hd_ (hb.ext ax);have az:=hd_ ax;have HWb:=hd_ hb;have Hl:=hd_ hl
 clear hb ax hl
 go_enter func22,ntmps22
 go_upto_region 1 with fail
 change Code.wp _ _ _ _ (w.alloc ZI)
 generalize w.alloc ZI=w0 at *
 go_upto_region 2 with (go_at_call 65;refine (z8x l Hl.out _ _ w0 HW.out x (k5l HD.out)).mono ?_;(rintro e w1 ⟨oa,cap,rfl,hr,af⟩;have ey:=hd_ ((kY.out.ext af).alloc (Q (v4 x (Z oa x.l.length cap)).toArray 80));have aG:=hd_ (z0a (z0a az.out af) (z4b (w:=w1) (Q (v4 x (Z oa x.l.length cap)).toArray 80)));have mL:=hd_ (RD.ext hr (z4b (w:=w1) (Q (v4 x (Z oa x.l.length cap)).toArray 80)));have cY:R (CB (w1.alloc (Q (v4 x (Z oa x.l.length cap)).toArray 80)) w1.heap.size 80 (v4 x (Z oa x.l.length cap))):=hd_ (z3a w1 (Q (v4 x (Z oa x.l.length cap)).toArray 80) _ _ rfl);clear hr af))
 change Code.wp _ _ _ _ (w1.alloc (Q (v4 x (Z oa x.l.length cap)).toArray 80))
 clear kY az HW
 have c0:=cY.out.cv 0 (J I x.kind)
 have c1:=cY.out.cv 1 (J I x.n)
 have c2:=cY.out.cv 2 (M x.s)
 have c3:=cY.out.cv 3 (Z oa x.l.length cap)
 generalize w1.alloc (Q (v4 x (Z oa x.l.length cap)).toArray 80)=w2 at *
 generalize w1.heap.size=g1 at *
 have bk:=j2w x _ w2 mL.out Hsz.out
 cases hs:z8i x with
 | none =>
  have hdec:=hd_ (k6l (rd:=z8i) HD.out hs)
  have HRD:R (L prog 66 #[D #[J I x.kind,J I x.n,M x.s,Z oa x.l.length cap]] w2 fun e w'=>∃ sl,e=.returned (.tuple #[D (zP.cells sl).toArray,B U])∧x8q zP sl w'∧E w2.heap.size w2 w'):=hd_ (bk.mono (fun e w' h=>by rw [hs] at h;exact h))
  clear bk hs
  go_wp2_with (first
   | (go_at_call 66;refine HRD.out.mono ?_;(rintro e w3 ⟨sl,rfl,hO,aB⟩;have jm:=hd_ (x9q hO);have dM:R (CB (w3.alloc ZI) w3.heap.size 41 ZIc):=hd_ (z3a w3 ZI _ _ rfl);have iC:=hd_ ((ey.out.ext aB).alloc ZI);have aA:=hd_ (z0a (z0a aG.out aB) (z4b (w:=w3) ZI));have Hlt3:=hd_ (show w.heap.size<w3.heap.size from (ey.out.ext aB).lt);clear hO aB HRD))
   | (have _g:=jm.out;refine scs 41 (.tmp 6) (.tmp 22) rfl w3.heap.size (zP.cells sl) rfl rfl dM.out jm.out (fun w4 dX iR fe=>?_);have oB:=hd_ (iC.out.keep (iR.out.block _ iC.out.lt (fun e=>by injection e with e;have:=Hlt3.out;omega)));have cH:=hd_ (aA.out.grown iR.out aA.out.size (fun q e=>by injection e with e;have:=Hlt3.out;omega));clear jm dM iC aA)
   | (have _g:=aD.out;refine scs 41 (.tmp 2) (.tmp 26) rfl w.heap.size ZIc rfl rfl oB.out aD.out (fun w8 aI bg dk=>?_);clear aD)
   | (have _g:=fQ.out;refine z9b (by rfl) 41 #[] rfl ZIc [] rfl fQ.out ?_))
  refine bodyPost_ret (v:=.tuple #[D (ZIc:List Y).toArray,J I 490]) (z6a (fn:=f22) (p:=2) (t2:=3) (ty:=41) rfl _ _ w.heap.size 41 _ (0,0) _ rfl aI.out underlying41 rfl (by kernel_rfl)) rfl ?_
  exact ⟨z1h,by rw [hdec.out];rfl,by rw [hdec.out];exact x4y _,cH.out.grown bg.out cH.out.size (fun q e=>by injection e with e;omega)⟩
 | some y =>
  obtain ⟨hi,hsy⟩:=y6a hs dc.out
  have HI:=hd_ hi
  have HS:=hd_ (show sz (lV (z6e y))≤60000 by have:=Hsz.out;omega)
  have nk:=hd_ (InpL.of HS.out)
  have Hs:=hd_ hs
  have HRD:R (L prog 66 #[D #[J I x.kind,J I x.n,M x.s,Z oa x.l.length cap]] w2 fun e w'=>∃ sl,e=.returned (.tuple #[D (y.cells sl).toArray,B F])∧x8q y sl w'∧E w2.heap.size w2 w'):=hd_ (bk.mono (fun e w' h=>by rw [hs] at h;exact h))
  clear bk hs hi hsy
  go_upto_region 7 with (first
   | (go_at_call 66;refine HRD.out.mono ?_;(rintro e w3 ⟨sl,rfl,hO,aB⟩;have jm:=hd_ (x9q hO);have ip:=hd_ (hO.ext (z4b (w:=w3) ZI));have dM:R (CB (w3.alloc ZI) w3.heap.size 41 ZIc):=hd_ (z3a w3 ZI _ _ rfl);have iC:=hd_ ((ey.out.ext aB).alloc ZI);have aA:=hd_ (z0a (z0a aG.out aB) (z4b (w:=w3) ZI));have Hlt3:=hd_ (show w.heap.size<w3.heap.size from (ey.out.ext aB).lt);clear hO aB HRD))
   | (have _g:=dM.out;refine scs 41 (.tmp 6) (.tmp 22) rfl w3.heap.size (y.cells sl) rfl rfl dM.out jm.out (fun w4 dX iR fe=>?_);have oB:=hd_ (iC.out.keep (iR.out.block _ iC.out.lt (fun e=>by injection e with e;have:=Hlt3.out;omega)));have cH:=hd_ (aA.out.grown iR.out aA.out.size (fun q e=>by injection e with e;have:=Hlt3.out;omega));have ia:=hd_ (ip.out.row dM.out (by decide) iR.out);clear dM iC aA ip))
  clear c0 c1 c2 c3 cY mL ey aG iR fe
  generalize w3.heap.size=g3 at *
  have HbW:=hd_ (HWb.out.ext cH.out)
  obtain ⟨bo,hbo⟩:∃ bo,okI y=bo:=⟨_,rfl⟩
  have Hbo:=hd_ hbo
  clear hbo
  cases bo
  case false =>
   have hdec:R (z8q z8i l=(zP,490)):=hd_ (by rw [j2p (rd:=z8i) HD.out Hs.out,Hbo.out];rfl)
   go_wp2_with (first
    | (have _g:=dX.out;refine lcs 41 (.tmp 6) rfl g3 (y.cells sl) rfl dX.out underlying41 ?_;have dF:=hd_ dX.out;clear dX)
    | (go_at_call 20;refine (z9q y sl _ ia.out.rd HI.out nk.out HS.out).mono ?_;unfold k3m;rw [Hbo.out];simp only [Bool.false_eq_true,if_false];(rintro e w7 ⟨u,rfl,hbt,ag⟩;obtain ⟨ou,cu,rfl⟩:=hbt.shape;have jU:=hd_ (oB.out.ext ag);have ky:=hd_ (z0a cH.out ag);clear hbt ag))
    | (have _g:=aD.out;refine scs 41 (.tmp 2) (.tmp 41) rfl w.heap.size ZIc rfl rfl jU.out aD.out (fun w8 aI bg dk=>?_);clear aD)
    | (have _g:=fQ.out;refine z9b (by rfl) 41 #[] rfl ZIc [] rfl fQ.out ?_))
   refine bodyPost_ret (v:=.tuple #[D (ZIc:List Y).toArray,J I 490]) (z6a (fn:=f22) (p:=2) (t2:=3) (ty:=41) rfl _ _ w.heap.size 41 _ (0,0) _ rfl aI.out underlying41 rfl (by kernel_rfl)) rfl ?_
   exact ⟨z1h,by rw [hdec.out];rfl,by rw [hdec.out];exact x4y _,ky.out.grown bg.out ky.out.size (fun q e=>by injection e with e;omega)⟩
  case true =>
   obtain ⟨sa,hsa⟩:∃ sa,(⟨(z4o y).toArray⟩:ByteArray)=sa:=⟨_,rfl⟩
   obtain ⟨sb,hsb⟩:∃ sb,(⟨l.toArray⟩:ByteArray)=sb:=⟨_,rfl⟩
   have hab:(sa=sb)↔z4o y=l:=by
    rw [← hsa,← hsb]
    constructor
    ·intro h;injection h with h;exact List.toArray_inj h
    ·intro h;rw [h]
   go_upto_region 8 with (first
    | (have _g:=dX.out;refine lcs 41 (.tmp 6) rfl g3 (y.cells sl) rfl dX.out underlying41 ?_;have dF:=hd_ dX.out;clear dX)
    | (go_at_call 20;refine (z9q y sl _ ia.out.rd HI.out nk.out HS.out).mono ?_;unfold k3m;rw [Hbo.out];simp only [if_true];(rintro e w7 ⟨u,rfl,hbt,ag⟩;obtain ⟨ou,cu,rfl⟩:=hbt.shape;have jU:=hd_ (oB.out.ext ag);have HC7:=hd_ (dF.out.ext ag);have iA:=hd_ (ia.out.ext ag);have ky:=hd_ (z0a cH.out ag);have k1:=z4p hbt;have k2:=z4p (HbW.out.ext ag);rw [hsa] at k1;rw [hsb] at k2;clear hbt ag)))
   clear oB dF ia cH HbW
   generalize (z4o y).length=ne at *
   by_cases he:z4o y=l
   ·have hdec:R (z8q z8i l=(y,0)):=hd_ (by rw [j2p (rd:=z8i) HD.out Hs.out,Hbo.out,he,decide_eq_true rfl];rfl)
    have kq:(sa.toList == sb.toList)=F:=by rw [y5x];exact decide_eq_true (hab.2 he)
    clear hab hsa hsb he
    go_wp2_with (first
     | (have _g:=HC7.out;refine lcs 41 (.tmp 6) rfl g3 (y.cells sl) rfl HC7.out underlying41 ?_;clear HC7)
     | (have _g:=jm.out;refine scs 41 (.tmp 2) (.tmp 42) rfl w.heap.size (y.cells sl) rfl rfl jU.out jm.out (fun w8 aI bg dk=>?_);clear jm))
    refine bodyPost_ret (v:=.tuple #[D (y.cells sl:List Y).toArray,J I 0]) (z6a (fn:=f22) (p:=2) (t2:=3) (ty:=41) rfl _ _ w.heap.size 41 _ (0,0) _ rfl aI.out underlying41 rfl (by kernel_rfl)) rfl ?_
    have oX:=iA.out.row jU.out (by decide) bg.out
    exact ⟨sl,by rw [hdec.out];first|done|rfl,by rw [hdec.out];exact oX.rd,ky.out.grown bg.out ky.out.size (fun q e=>by injection e with e;omega)⟩
   ·have hdec:R (z8q z8i l=(zP,490)):=hd_ (by rw [j2p (rd:=z8i) HD.out Hs.out,decide_eq_false he,Bool.and_false];rfl)
    have kq:(sa.toList == sb.toList)=U:=by rw [y5x];exact decide_eq_false (fun h=>he (hab.1 h))
    clear hab hsa hsb he
    go_wp2_with (first
     | (have _g:=aD.out;refine scs 41 (.tmp 2) (.tmp 41) rfl w.heap.size ZIc rfl rfl jU.out aD.out (fun w8 aI bg dk=>?_);clear aD)
     | (have _g:=fQ.out;refine z9b (by rfl) 41 #[] rfl ZIc [] rfl fQ.out ?_))
    refine bodyPost_ret (v:=.tuple #[D (ZIc:List Y).toArray,J I 490]) (z6a (fn:=f22) (p:=2) (t2:=3) (ty:=41) rfl _ _ w.heap.size 41 _ (0,0) _ rfl aI.out underlying41 rfl (by kernel_rfl)) rfl ?_
    exact ⟨z1h,by rw [hdec.out];rfl,by rw [hdec.out];exact x4y _,ky.out.grown bg.out ky.out.size (fun q e=>by injection e with e;omega)⟩
theorem y5t (l:List UInt8) (hl:l.length≤4000) (v:Y) (w:H) (hb:z6c w.heap.size w l v):L prog 22 #[v] w (j4v (z8q z2r l) w):=by
 rw [k2g l hl]
 cases hd:z4w l with
 | none=>exact y5k l hl v w hb hd
 | some x=>exact y6k l hl v w x hb hd
end Go.Proofs.YtdblnbnofjggnaaGreatDoor
