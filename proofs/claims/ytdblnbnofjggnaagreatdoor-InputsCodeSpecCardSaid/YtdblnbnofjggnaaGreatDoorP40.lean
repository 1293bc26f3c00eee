/- Parts of the proofs of chapter 49's laws. -/
import Derived.Test.YtdblnbnofjggnaaGreatDoorP39
set_option maxHeartbeats 8000000
set_option maxRecDepth 100000
open Go.Lib renaming hid → hd_
open List renaming mem_cons_self → mS, mem_cons → mC, not_mem_nil → nM
open Option renaming bind_eq_some_iff → bE
open Nat renaming lt_of_lt_of_le → lL, le_trans → lT
open Go.Value renaming int → I, slice → X, pointer → R, agg → T
open Go.IntKind renaming i64 → Z
open Go.Obj renaming cells → Y
open Option renaming none → Q, some → J
open Go renaming World → M, Value → U, Calls → F
open Go.RowKit renaming Hid → O
set_option linter.all false
namespace Go.Proofs.YtdblnbnofjggnaaGreatDoor
open Go.Proofs.Tryz
open Go.RowKit
theorem y5r {B c:Nat} {l r:List V} {n:Int} {w:M} (hc:z5h B w c l) (h:z7g l=J (n,r)):F prog 59 #[R (J ⟨c,0,Q⟩)] w fun e w'=>e=.returned (I Z n)∧z5h B w' c r∧w.grownBy w' (J c):=by
 have:=z5n B c l w hc
 rw [h] at this
 exact this
theorem x2q {B c:Nat} {l:List V} {w:M} (hc:z5h B w c l) (h:z7g l=Q):F prog 59 #[R (J ⟨c,0,Q⟩)] w fun e w'=>e=.panicked y3j∧w.grownBy w' (J c):=by
 have:=z5n B c l w hc
 rw [h] at this
 exact this
theorem x6w (B c:Nat) (l:List V) (w:M) (hc:z5h B w c l) (hB:B≤w.heap.size):F prog 62 #[R (J ⟨c,0,Q⟩)] w (RdP B c w (y2j l) (fun p=>T #[I Z p.1,I Z p.2])):=by
 have hcl:c<w.heap.size:=hc.2.elim fun _ h=>h.1.lt
 have H0:O (w.grownBy (w.alloc (Y [I Z 0,I Z 0].toArray 26)) (J c)):=World.grownBy_alloc w _ _
 have hz:(w.alloc (Y [I Z 0,I Z 0].toArray 26)).heap.size=w.heap.size+1:=World.size_alloc _ _
 have H2:O (CB (w.alloc (Y [I Z 0,I Z 0].toArray 26)) w.heap.size 26 [I Z 0,I Z 0]):=z3a w _ _ _ rfl
 have jH:z5h B (w.alloc (Y [I Z 0,I Z 0].toArray 26)) c l:=hc.keep (row:=Q) (World.grownBy_alloc w _ _) hB (fun q e=>by cases e)
 have HL:=hd_ (y2n B c l (w.alloc (Y [I Z 0,I Z 0].toArray 26)) jH (by omega))
 have Hc:O (c<(w.alloc (Y [I Z 0,I Z 0].toArray 26)).heap.size∧w.heap.size<(w.alloc (Y [I Z 0,I Z 0].toArray 26)).heap.size):=⟨by omega,by omega⟩
 have HZ:O (w.heap.size<(w.alloc (Y [I Z 0,I Z 0].toArray 26)).heap.size):=Hc.out.2
 have HB:O (B≤(w.alloc (Y [I Z 0,I Z 0].toArray 26)).heap.size):=hd_ (by omega)
 have mR:=hd_ hcl;have jc:=hd_ hB
 clear hc hB hcl hz jH
 cases hL:z6l l with
 | none =>
  have hs:y2j l=Q:=by unfold y2j;rw [hL];rfl
  rw [hs];rw [hL] at HL
  clear hL hs
  go_enter func62,ntmps62
  go_upto_region 1 with fail
  change Code.wp _ _ _ _ (w.alloc (Y [I Z 0,I Z 0].toArray 26))
  generalize w.alloc (Y [I Z 0,I Z 0].toArray 26)=w0 at *
  go_wp2_with (go_at_call 58;refine HL.out.mono ?_;(rintro e w1 ⟨rfl,hgr⟩))
  exact ⟨rfl,rfl,z2a H0.out hgr (.inl rfl)⟩
 | some p =>
  obtain ⟨pl,pr⟩:=p
  rw [hL] at HL
  cases hA:z7g pl with
  | none =>
   have hs:y2j l=Q:=by unfold y2j;rw [hL];show (z7g pl).bind _=Q;rw [hA];rfl
   rw [hs]
   have HA:=hd_ hA
   clear hL hs hA
   go_enter func62,ntmps62
   go_upto_region 1 with fail
   change Code.wp _ _ _ _ (w.alloc (Y [I Z 0,I Z 0].toArray 26))
   generalize w.alloc (Y [I Z 0,I Z 0].toArray 26)=w0 at *
   go_wp2_with (first|(go_at_call 58;refine HL.out.mono ?_;(rintro e w1 ⟨g,rfl,aK,al,cE,hgr⟩;have HgB:O (g≠c∧B≤g):=⟨Nat.ne_of_gt (lL Hc.out.1 aK),lT HB.out aK⟩;have HG:=hd_ al;have cY:=hd_ cE;have Hg:=hd_ (z2a H0.out hgr (.inl rfl));have kV:O (w.heap.size<g):=lL HZ.out aK;have aG:O (B≤w1.heap.size):=lT HB.out hgr.size;have kD:=hd_ (H2.out.keep (hgr.block _ H2.out.lt (fun e=>Nat.ne_of_gt mR.out (Option.some.inj e))));clear aK al cE hgr HL))|(go_at_call 59;refine (x2q HG.out HA.out).mono ?_;(rintro e w2 ⟨rfl,hgr⟩;have Hg2:=hd_ (z2a Hg.out hgr (.inr fun q e=>by injection e with e;have:=kV.out;omega));clear hgr)))
   exact ⟨rfl,rfl,Hg2.out⟩
  | some a =>
   obtain ⟨an,ar⟩:=a
   cases gZ:z7g ar with
   | none =>
    have hs:y2j l=Q:=by unfold y2j;rw [hL];show (z7g pl).bind _=Q;rw [hA];show (z7g ar).bind _=Q;rw [gZ];rfl
    rw [hs]
    have HA:=hd_ hA;have hF:=hd_ gZ
    clear hL hs hA gZ
    go_enter func62,ntmps62
    go_upto_region 1 with fail
    change Code.wp _ _ _ _ (w.alloc (Y [I Z 0,I Z 0].toArray 26))
    generalize w.alloc (Y [I Z 0,I Z 0].toArray 26)=w0 at *
    go_wp2_with (first|(go_at_call 58;refine HL.out.mono ?_;(rintro e w1 ⟨g,rfl,aK,al,cE,hgr⟩;have HgB:O (g≠c∧B≤g):=⟨Nat.ne_of_gt (lL Hc.out.1 aK),lT HB.out aK⟩;have HG:=hd_ al;have cY:=hd_ cE;have Hg:=hd_ (z2a H0.out hgr (.inl rfl));have kV:O (w.heap.size<g):=lL HZ.out aK;have aG:O (B≤w1.heap.size):=lT HB.out hgr.size;have kD:=hd_ (H2.out.keep (hgr.block _ H2.out.lt (fun e=>Nat.ne_of_gt mR.out (Option.some.inj e))));clear aK al cE hgr HL))|(go_at_call 59;refine (y5r HG.out HA.out).mono ?_;(rintro e w2 ⟨rfl,al,hgr⟩;have ml:=hd_ al;have aP:=hd_ (cY.out.keep hgr aG.out (fun q e=>by injection e with e;subst e;exact HgB.out));have Hg2:=hd_ (z2a Hg.out hgr (.inr fun q e=>by injection e with e;have:=kV.out;omega));have au:O (B≤w2.heap.size):=lT aG.out hgr.size;have em:=hd_ (kD.out.keep (hgr.block _ kD.out.lt (fun e=>Nat.ne_of_lt kV.out (Option.some.inj e))));clear al hgr HA HG))|(go_at_call 59;refine (x2q ml.out hF.out).mono ?_;(rintro e w3 ⟨rfl,hgr⟩;have mV:=hd_ (z2a Hg2.out hgr (.inr fun q e=>by injection e with e;have:=kV.out;omega));clear hgr)))
    exact ⟨rfl,rfl,mV.out⟩
   | some b =>
    obtain ⟨bn,br⟩:=b
    have hs:y2j l=J ((an,bn),pr):=by unfold y2j;rw [hL];show (z7g pl).bind _=_;rw [hA];show (z7g ar).bind _=_;rw [gZ];rfl
    rw [hs]
    have HA:=hd_ hA;have hF:=hd_ gZ
    have mj:O (∀ u∈([I Z an,I Z bn]:List U),u.oneCell'=true):=hd_ (z8y rfl)
    clear hL hs hA gZ
    go_enter func62,ntmps62
    go_upto_region 1 with fail
    change Code.wp _ _ _ _ (w.alloc (Y [I Z 0,I Z 0].toArray 26))
    generalize w.alloc (Y [I Z 0,I Z 0].toArray 26)=w0 at *
    go_wp2_with (first|(go_at_call 58;refine HL.out.mono ?_;(rintro e w1 ⟨g,rfl,aK,al,cE,hgr⟩;have HgB:O (g≠c∧B≤g):=⟨Nat.ne_of_gt (lL Hc.out.1 aK),lT HB.out aK⟩;have HG:=hd_ al;have cY:=hd_ cE;have Hg:=hd_ (z2a H0.out hgr (.inl rfl));have kV:O (w.heap.size<g):=lL HZ.out aK;have aG:O (B≤w1.heap.size):=lT HB.out hgr.size;have kD:=hd_ (H2.out.keep (hgr.block _ H2.out.lt (fun e=>Nat.ne_of_gt mR.out (Option.some.inj e))));clear aK al cE hgr HL))|(go_at_call 59;refine (y5r HG.out HA.out).mono ?_;(rintro e w2 ⟨rfl,al,hgr⟩;have ml:=hd_ al;have aP:=hd_ (cY.out.keep hgr aG.out (fun q e=>by injection e with e;subst e;exact HgB.out));have Hg2:=hd_ (z2a Hg.out hgr (.inr fun q e=>by injection e with e;have:=kV.out;omega));have au:O (B≤w2.heap.size):=lT aG.out hgr.size;have em:=hd_ (kD.out.keep (hgr.block _ kD.out.lt (fun e=>Nat.ne_of_lt kV.out (Option.some.inj e))));clear al hgr HA HG))|(go_at_call 59;refine (y5r ml.out hF.out).mono ?_;(rintro e w3 ⟨rfl,bj,hgr⟩;have iZ:=hd_ (aP.out.keep hgr au.out (fun q e=>by injection e with e;subst e;exact HgB.out));have mV:=hd_ (z2a Hg2.out hgr (.inr fun q e=>by injection e with e;have:=kV.out;omega));have aA:O (w2.heap.size≤w3.heap.size):=hgr.size;have eH:=hd_ (em.out.keep (hgr.block _ em.out.lt (fun e=>Nat.ne_of_lt kV.out (Option.some.inj e))));clear bj hgr hF ml))|(have _g:=mj.out;refine scs 26 (.tmp 2) (.tmp 10) rfl w.heap.size [I Z an,I Z bn] rfl rfl eH.out mj.out (fun w6 cD dw iz=>?_);clear mj))
    refine bodyPost_ret (v:=T ([I Z an,I Z bn]:List U).toArray) (results_cell_row rfl _ _ w.heap.size 26 _ (0,0) _ rfl cD.out underlying26 rfl (by kernel_rfl)) rfl ?_
    exact ⟨rfl,iZ.out.keep dw.out (lT au.out aA.out) (fun q e=>by injection e with e;subst e;exact ⟨Nat.ne_of_gt mR.out,jc.out⟩),z2a mV.out dw.out (.inr fun q e=>by injection e with e;omega)⟩
structure Thing where
 ok:M→Prop
 blk:Nat→Prop
 lt:∀ {W:M},ok W→∀ k,blk k→k<W.heap.size
 keep:∀ {W W':M} {row:Option Nat},ok W→W.grownBy W' row→(∀ k,blk k→row≠J k)→ok W'
def z2h (g:Nat) (t:TypeId) (cs:List U):Thing :=
 ⟨fun W=>CB W g t cs,fun k=>k=g,fun h _k e=>e ▸ h.lt,fun h hg hr=>h.keep (hg.block _ h.lt (fun e=>hr g rfl e.symm))⟩
def z1w {α:Type} (K:EK α) (t:TypeId) (b:Nat) (v:U) (l:List α):Thing :=
 ⟨fun W=>z7h K t W b v l,fun k=>v.ownBlock=J k,fun h k e=>(h.lt k e).2,fun h hg hr=>z7h.keepR h hg (by
  cases hv:v.ownBlock with
  | none=>exact .inl rfl
  | some k=>exact .inr fun e=>hr k hv e.symm)⟩
theorem z4c (x:V):sz x=24+x.s.size+szs x.l:=by obtain ⟨k,n,s,l⟩:=x;rfl
theorem j1i {k:Int} {l r:List V} {x:V} (h:nxt k l=J (x,r)):sz x+szs r=szs l:=by
 cases l with
 | nil=>cases h
 | cons y t =>
  have h:(if y.kind=k then J (y,t) else Q)=J (x,r):=h
  by_cases hk:y.kind=k
  ·rw [if_pos hk] at h;injection h with h;injection h with h1 h2;subst h1 h2;rfl
  ·rw [if_neg hk] at h;cases h
theorem j2i {l:List V} {a:Int} {r:List V} (h:z7g l=J (a,r)):szs r≤szs l:=by
 unfold z7g at h
 obtain ⟨⟨x,t⟩,h1,h2⟩:=bE.1 h
 injection h2 with h2;injection h2 with _ h2;subst h2
 have:=j1i h1;show szs t≤_;omega
theorem k0f {l:List V} {a:ByteArray} {r:List V} (h:x5v l=J (a,r)):szs r≤szs l:=by
 unfold x5v at h
 obtain ⟨⟨x,t⟩,h1,h2⟩:=bE.1 h
 injection h2 with h2;injection h2 with _ h2;subst h2
 have:=j1i h1;show szs t≤_;omega
theorem y6r {l p r:List V} (h:z6l l=J (p,r)):szs p+szs r≤szs l:=by
 unfold z6l at h
 obtain ⟨⟨x,t⟩,h1,h2⟩:=bE.1 h
 injection h2 with h2;injection h2 with h3 h2;subst h2 h3
 have:=j1i h1;have:=z4c x;show szs x.l+szs t≤_;omega
theorem k1f {l:List V} {a:Bool} {r:List V} (h:y4r l=J (a,r)):szs r≤szs l:=by
 unfold y4r at h
 obtain ⟨⟨x,t⟩,h1,h2⟩:=bE.1 h
 injection h2 with h2;injection h2 with _ h2;subst h2
 exact j2i h1
theorem k2f {l:List V} {a:Int × Int} {r:List V} (h:y2j l=J (a,r)):szs r≤szs l:=by
 unfold y2j at h
 simp only [bE] at h
 obtain ⟨⟨p,t⟩,h1,b,h2,c,h3,h4⟩:=h
 injection h4 with h4;injection h4 with _ h4;subst h4
 have:=y6r h1;show szs t≤_;omega
theorem y1c:∀ l:List V,24 * l.length≤szs l
 | []=>by simp
 | x::r=>by have:=y1c r;have:=z4c x;simp only [szs,List.length_cons];omega
structure DFin (w0:M) (G:Option Nat) (ts:List Thing) (W:M):Prop where
 gr:w0.grownBy W G
 thg:∀ t∈ts,t.ok W
structure DSt (w0:M) (G:Option Nat) (B:Nat) (cs:List (Nat × List V)) (ts:List Thing) (W:M):Prop where
 gr:w0.grownBy W G
 hB:B≤W.heap.size
 cur:∀ p∈cs,z5h B W p.1 p.2
 sm:∀ p∈cs,szs p.2≤1000000
 row:∀ p∈cs,w0.heap.size≤p.1∨G=J p.1
 nod:(cs.map Prod.fst).Nodup
 thg:∀ t∈ts,t.ok W
 far:∀ t∈ts,∀ p∈cs,¬ t.blk p.1
section
variable {w0 W W':M} {G:Option Nat} {B g n:Nat} {l r p:List V} {cs:List (Nat × List V)} {ts:List Thing} {t:Thing}
theorem z5h.lt' (h:z5h B W g l):g<W.heap.size:=h.2.elim fun _ h=>h.1.lt
theorem DSt.fin (h:DSt w0 G B cs ts W):DFin w0 G ts W:=⟨h.gr,h.thg⟩
theorem DSt.drop (h:DSt w0 G B ((g,l)::cs) ts W):DSt w0 G B cs ts W :=
 ⟨h.gr,h.hB,fun p hp=>h.cur p (List.mem_cons_of_mem _ hp),fun p hp=>h.sm p (List.mem_cons_of_mem _ hp),fun p hp=>h.row p (List.mem_cons_of_mem _ hp),(List.nodup_cons.1 h.nod).2,h.thg,fun t ht p hp=>h.far t ht p (List.mem_cons_of_mem _ hp)⟩
theorem DSt.top (h:DSt w0 G B ((g,l)::cs) ts W):z5h B W g l:=h.cur _ mS
theorem DSt.grB (h:DSt w0 G B ((g,l)::cs) ts W) (hg:W.grownBy W' (J g)):w0.grownBy W' G :=
 z2a h.gr hg (by
  rcases h.row _ mS with h1|h1
  ·exact .inr fun q e=>by injection e with e;subst e;exact h1
  ·exact .inl h1.symm)
theorem DSt.thgB (h:DSt w0 G B ((g,l)::cs) ts W) (hg:W.grownBy W' (J g)):∀ t∈ts,t.ok W' :=
 fun t ht=>t.keep (h.thg t ht) hg fun k hk e=>by injection e with e;subst e;exact h.far t ht _ mS hk
theorem DSt.stop (h:DSt w0 G B ((g,l)::cs) ts W) (hg:W.grownBy W' (J g)):DFin w0 G ts W':=⟨h.grB hg,h.thgB hg⟩
theorem DSt.step (h:DSt w0 G B ((g,l)::cs) ts W) (hg:W.grownBy W' (J g)) (hc:z5h B W' g r) (hz:szs r≤szs l):DSt w0 G B ((g,r)::cs) ts W':=by
 have hn:=List.nodup_cons.1 h.nod
 refine ⟨h.grB hg,lT h.hB hg.size,fun p hp=>?_,fun p hp=>?_,fun p hp=>?_,?_,h.thgB hg,fun t ht p hp=>?_⟩
 ·rcases mC.1 hp with rfl|hp
  ·exact hc
  ·refine (h.cur p (List.mem_cons_of_mem _ hp)).keep hg h.hB fun q e=>?_
   injection e with e;subst e
   exact ⟨fun e=>hn.1 (show g∈List.map Prod.fst cs from e ▸ (List.mem_map.2 ⟨p,hp,rfl⟩)),h.top.1⟩
 ·rcases mC.1 hp with rfl|hp
  ·exact lT hz (h.sm (g,l) mS)
  ·exact h.sm p (List.mem_cons_of_mem _ hp)
 ·rcases mC.1 hp with rfl|hp
  ·exact h.row (g,l) mS
  ·exact h.row p (List.mem_cons_of_mem _ hp)
 ·exact h.nod
 ·rcases mC.1 hp with rfl|hp
  ·exact h.far t ht (g,l) mS
  ·exact h.far t ht p (List.mem_cons_of_mem _ hp)
theorem DSt.push (h:DSt w0 G B cs ts W) (hn:W.heap.size≤n) (hb:Below W.heap.size W W') (hc:z5h B W' n p) (hz:szs p≤1000000):DSt w0 G B ((n,p)::cs) ts W':=by
 refine ⟨z2a h.gr (z9a hb) (.inr fun q e=>by cases e),lT h.hB hb.size,fun p hp=>?_,fun p hp=>?_,fun p hp=>?_,?_,fun t ht=>t.keep (h.thg t ht) (z9a hb) (fun _ _ e=>by cases e),fun t ht p hp=>?_⟩
 ·rcases mC.1 hp with rfl|hp
  ·exact hc
  ·exact (h.cur p hp).keep (z9a hb) h.hB (fun q e=>by cases e)
 ·rcases mC.1 hp with rfl|hp
  ·exact hz
  ·exact h.sm p hp
 ·rcases mC.1 hp with rfl|hp
  ·exact .inl (lT h.gr.size hn)
  ·exact h.row p hp
 ·refine List.nodup_cons.2 ⟨fun hm=>?_,h.nod⟩
  obtain ⟨q,hq,e⟩:=List.mem_map.1 hm
  have:=(h.cur q hq).lt'
  have e:q.1=n:=e
  omega
 ·rcases mC.1 hp with rfl|hp
  ·exact fun hk=>by have:=t.lt (h.thg t ht) _ hk;have:n<W.heap.size:=this;omega
  ·exact h.far t ht p hp
theorem DSt.grow (h:DSt w0 G B cs ts W) (hb:Below W.heap.size W W'):DSt w0 G B cs ts W' :=
 ⟨z2a h.gr (z9a hb) (.inr fun q e=>by cases e),lT h.hB hb.size,fun p hp=>(h.cur p hp).keep (z9a hb) h.hB (fun q e=>by cases e),h.sm,h.row,h.nod,
  fun t ht=>t.keep (h.thg t ht) (z9a hb) (fun _ _ e=>by cases e),h.far⟩
theorem DSt.add (h:DSt w0 G B cs ts W) (t:Thing) (ht:t.ok W) (hf:∀ p∈cs,¬ t.blk p.1):DSt w0 G B cs (t::ts) W :=
 ⟨h.gr,h.hB,h.cur,h.sm,h.row,h.nod,fun u hu=>(mC.1 hu).elim (fun e=>e ▸ ht) (fun hu=>h.thg u hu),fun u hu p hp=>(mC.1 hu).elim (fun e=>e ▸ hf p hp) (fun hu=>h.far u hu p hp)⟩
theorem DSt.sub (h:DSt w0 G B cs ts W) {ts':List Thing} (hs:∀ t∈ts',t∈ts):DSt w0 G B cs ts' W:=⟨h.gr,h.hB,h.cur,h.sm,h.row,h.nod,fun t ht=>h.thg t (hs t ht),fun t ht=>h.far t (hs t ht)⟩
theorem DSt.lst (h:DSt w0 G B ((g,l)::cs) ts W) (hg:W.grownBy W' (J g)) (hc:z5h B W' g r) (hn:W.heap.size≤n) (hm:z5h B W' n p) (hz:szs p+szs r≤szs l):DSt w0 G B ((n,p)::(g,r)::cs) ts W':=by
 have h1:=h.step hg hc (by omega)
 have hl:=h.sm (g,l) mS
 have hl:szs l≤1000000:=hl
 refine ⟨h1.gr,h1.hB,fun q hq=>?_,fun q hq=>?_,fun q hq=>?_,?_,h1.thg,fun t ht q hq=>?_⟩
 ·rcases mC.1 hq with rfl|hq
  ·exact hm
  ·exact h1.cur q hq
 ·rcases mC.1 hq with rfl|hq
  ·show szs p≤_;omega
  ·exact h1.sm q hq
 ·rcases mC.1 hq with rfl|hq
  ·exact .inl (lT h.gr.size hn)
  ·exact h1.row q hq
 ·refine List.nodup_cons.2 ⟨fun hx=>?_,h1.nod⟩
  have hx:n∈List.map Prod.fst ((g,l)::cs):=hx
  obtain ⟨q,hq,e⟩:=List.mem_map.1 hx
  have:=(h.cur q hq).lt'
  have e:q.1=n:=e
  omega
 ·rcases mC.1 hq with rfl|hq
  ·exact fun hk=>by have:=t.lt (h.thg t ht) _ hk;have:n<W.heap.size:=this;omega
  ·exact h1.far t ht q hq
theorem DSt.put (tl:List Thing) (h:DSt w0 G B cs (tl++ts) W) (t':Thing) (row:Option Nat) (hg:W.grownBy W' row) (hr:∀ k,row=J k→(∃ t∈tl,t.blk k)∧w0.heap.size≤k∧B≤k) (ht':t'.ok W') (hb:∀ k,t'.blk k→(∃ t∈tl,t.blk k)∨W.heap.size≤k)
 (hd:∀ u∈ts,∀ k,row=J k→¬ u.blk k):DSt w0 G B cs (t'::ts) W':=by
 have hf:∀ k,(∃ t∈tl,t.blk k)→∀ p∈cs,¬ p.1=k:=fun k ⟨t,ht,hk⟩ p hp e=>h.far t (List.mem_append.2 (.inl ht)) p hp (e ▸ hk)
 refine ⟨z2a h.gr hg (.inr fun q e=>(hr q e).2.1),lT h.hB hg.size,fun p hp=>(h.cur p hp).keep hg h.hB (fun q e=>⟨fun e2=>hf q (hr q e).1 p hp e2.symm,(hr q e).2.2⟩),h.sm,h.row,h.nod,fun u hu=>?_,fun u hu p hp=>?_⟩
 ·rcases mC.1 hu with rfl|hu
  ·exact ht'
  ·exact u.keep (h.thg u (List.mem_append.2 (.inr hu))) hg fun k hk e=>hd u hu k e hk
 ·rcases mC.1 hu with rfl|hu
  ·intro hk
   rcases hb _ hk with hk|hk
   ·exact hf _ hk p hp rfl
   ·have:=(h.cur p hp).lt';omega
  ·exact h.far u (List.mem_append.2 (.inr hu)) p hp
def RdS {α:Type} (w0:M) (G:Option Nat) (B g:Nat) (cs:List (Nat × List V)) (ts:List Thing) (o:Option (α × List V)) (f:α→U) (e:Ending) (w':M):Prop :=
 (∃ a r,o=J (a,r)∧e=.returned (f a)∧DSt w0 G B ((g,r)::cs) ts w')∨(o=Q∧e=.panicked y3j∧DFin w0 G ts w')
theorem RdP.st {α:Type} {o:Option (α × List V)} {f:α→Value} {e:Ending} (h:DSt w0 G B ((g,l)::cs) ts W) (hp:RdP B g W o f e W') (hz:∀ a r,o=J (a,r)→szs r≤szs l):RdS w0 G B g cs ts o f e W':=by
 cases o with
 | none=>exact .inr ⟨rfl,hp.1,h.stop hp.2⟩
 | some p =>
  obtain ⟨a,r⟩:=p
  exact .inl ⟨a,r,rfl,hp.1,h.step hp.2.2 hp.2.1 (hz a r rfl)⟩
theorem DSt.num (h:DSt w0 G B ((g,l)::cs) ts W):F prog 59 #[R (J ⟨g,0,Q⟩)] W (RdS w0 G B g cs ts (z7g l) (fun n=>I Z n)):=(z5n B g l W h.top).mono fun _ _ hp=>RdP.st h hp (fun _a _r e=>j2i e)
theorem DSt.txt (h:DSt w0 G B ((g,l)::cs) ts W):F prog 60 #[R (J ⟨g,0,Q⟩)] W (RdS w0 G B g cs ts (x5v l) (fun s=>.string s)):=(x4w B g l W h.top).mono fun _ _ hp=>RdP.st h hp (fun _a _r e=>k0f e)
theorem DSt.flg (h:DSt w0 G B ((g,l)::cs) ts W):F prog 63 #[R (J ⟨g,0,Q⟩)] W (RdS w0 G B g cs ts (y4r l) (fun b=>.bool b)):=(x5w B g l W h.top).mono fun _ _ hp=>RdP.st h hp (fun _a _r e=>k1f e)
theorem DSt.spn (h:DSt w0 G B ((g,l)::cs) ts W):F prog 62 #[R (J ⟨g,0,Q⟩)] W (RdS w0 G B g cs ts (y2j l) (fun p=>T #[I Z p.1,I Z p.2])):=(x6w B g l W h.top h.hB).mono fun _ _ hp=>RdP.st h hp (fun _a _r e=>k2f e)
theorem DSt.lis (h:DSt w0 G B ((g,l)::cs) ts W):F prog 58 #[R (J ⟨g,0,Q⟩)] W fun e w' =>
 (∃ p r n,z6l l=J (p,r)∧e=.returned (R (J ⟨n,0,Q⟩))∧W.heap.size≤n∧DSt w0 G B ((n,p)::(g,r)::cs) ts w')∨(z6l l=Q∧e=.panicked y3j∧DFin w0 G ts w'):=by
 refine (y2n B g l W h.top h.hB).mono fun e w' hp=>?_
 cases ho:z6l l with
 | none=>rw [ho] at hp;exact .inr ⟨rfl,hp.1,h.stop hp.2⟩
 | some q =>
  obtain ⟨p,r⟩:=q
  rw [ho] at hp
  obtain ⟨n,e1,h1,h2,h3,h4⟩:=hp
  exact .inl ⟨p,r,n,rfl,e1,h1,h.lst h4 h3 h1 h2 (y6r ho)⟩
theorem DSt.len (h:DSt w0 G B ((g,l)::cs) ts W):∃ oa cap,W.cell? ⟨g,0,Q⟩=J (X oa l.length cap):=by
 obtain ⟨-,lv,h1,h2⟩:=h.top
 obtain ⟨oa,cap,rfl⟩:=z1k h2
 exact ⟨oa,cap,h1.cell 0⟩
end
def x7w:U→Nat | X _ n _=>n|_=>0
def v0g (B c:Nat) (l:List V) (w:M) (e:Ending) (w':M):Prop :=
 (∃ q r v,y6t l=J (q,r)∧e=.returned v∧z7h nuK 3 w' w.heap.size v q∧z5h B w' c r∧w.grownBy w' (J c))∨(y6t l=Q∧e=.panicked y3j∧w.grownBy w' (J c))
theorem j3i {B c:Nat} {l:List V} {w:M} (hc:z5h B w c l) (hB:B≤w.heap.size) (hz:szs l≤1000000):DSt w (J c) B [(c,l)] [] w :=
 ⟨z1b w _,hB,fun p hp=>by rcases List.mem_singleton.1 hp with rfl;exact hc,fun p hp=>by rcases List.mem_singleton.1 hp with rfl;exact hz,fun p hp=>by rcases List.mem_singleton.1 hp with rfl;exact .inr rfl,by simp,fun t ht=>(nM ht).elim,fun t ht=>(nM ht).elim⟩
structure NbRel (B c n:Nat) (w:M) (pl pr:List V) (v:U) (wr:M):Prop where
 h:∃ q rest,z1l pl=(z1l rest).map (q ++ ·)∧DSt w (J c) B [(n,rest),(c,pr)] [z1w nuK 3 w.heap.size v q] wr∧q.length+rest.length=pl.length
theorem x8w {x:V} {r q pl:List V} {n:Int} {u:List Int} (h:z1l pl=(z1l (x::r)).map (u ++ ·)) (hn:z7g (x::r)=J (n,q)):q=r∧z1l pl=(z1l r).map ((u++[n]) ++ ·):=by
 have hq:q=r:=by
  unfold z7g at hn
  obtain ⟨⟨y,t⟩,e1,e2⟩:=bE.1 hn
  injection e2 with e2;injection e2 with _ e2
  have e1:(if x.kind=1 then J (x,r) else Q)=J (y,t):=e1
  by_cases hk:x.kind=1
  ·rw [if_pos hk] at e1;injection e1 with e1;injection e1 with _ e1;rw [← e2,← e1]
  ·rw [if_neg hk] at e1;cases e1
 refine ⟨hq,h.trans ?_⟩
 simp only [z1l,hn,Option.bind_some]
 cases z1l r with
 | none=>rfl
 | some t=>simp
theorem x9w {x:V} {r pl:List V} {u:List Int} (h:z1l pl=(z1l (x::r)).map (u ++ ·)) (hn:z7g (x::r)=Q):z1l pl=Q:=by
 rw [h];simp only [z1l,hn,Option.bind_none,Option.map_none]
theorem j0t {l pl pr:List V} {u:List Int} (hL:z6l l=J (pl,pr)) (h:z1l pl=(z1l []).map (u ++ ·)):y6t l=J (u,pr):=by
 unfold y6t;rw [hL];show (z1l pl).bind _=_;rw [h];simp [z1l]
theorem j1t {l pl pr:List V} (hL:z6l l=J (pl,pr)) (h:z1l pl=Q):y6t l=Q:=by
 unfold y6t;rw [hL];show (z1l pl).bind _=_;rw [h];rfl
theorem j4i:(prog.info? 3).map (fun i=>(i.zero,i.size,i.bytes))=J (J (I Z 0),1,8):=by kernel_rfl
theorem j5i (B c:Nat) (l:List V) (w:M) (hc:z5h B w c l) (hB:B≤w.heap.size) (hz:szs l≤1000000):F prog 61 #[R (J ⟨c,0,Q⟩)] w (v0g B c l w):=by
 have HS:=hd_ (j3i hc hB hz)
 have HB:=hd_ hB
 clear hc hB hz
 go_enter func61,ntmps61
 go_wp2_with (go_at_call 58;refine HS.out.lis.mono ?_;(rintro e w1 (⟨pl,pr,n,hL,rfl,hn,hs⟩|⟨hL,rfl,hf⟩)))
 case inr=>exact ⟨rfl,.inr ⟨by unfold y6t;rw [hL];rfl,rfl,hf.gr⟩⟩
 have HL:=hd_ hL;have Hs:=hd_ hs
 have HP:O (pl.length≤100000):=hd_ (by
  have h1:=y1c pl
  have h2:szs pl≤1000000:=hs.sm (n,pl) mS
  omega)
 clear HS hL hn hs
 go_loopw [2] (fun v wr=>NbRel B c n w pl pr v wr) (fun v _=>pl.length - x7w v)
 case atStart=>exact ⟨⟨[],pl,by simp,Hs.out.add _ (z7h.nil _ _ _) (fun p hp h=>by cases h),by simp⟩⟩
 case round =>
  obtain ⟨q,rest,hA,hS,hlq⟩:=hrel.h
  clear hrel
  obtain ⟨oc,cp,c0⟩:=hS.len
  have HO:=hd_ (hS.thg _ mS)
  replace HO:O (z7h nuK 3 wr w.heap.size _ q):=HO
  obtain ⟨ov,cv,hv,-⟩:=HO.out.rd.shape
  subst hv
  have HS:=hd_ hS;have HA:=hd_ hA;have HQ:=hd_ hlq
  have hsm:szs rest≤1000000:=hS.sm (n,rest) mS
  clear hS hA hlq
  cases rest with
  | nil =>
   clear hsm
   go_wp2_with fail
   go_ret
   exact .inl ⟨q,pr,_,j0t HL.out HA.out,rfl,HO.out,HS.out.cur (c,pr) (by simp),HS.out.gr⟩
  | cons x r =>
   obtain ⟨nn,hnn⟩:∃ nn,r.length+1=nn:=⟨_,rfl⟩
   have hlen:=y1c (x::r)
   have c0:wr.cell? ⟨n,0,Q⟩=J (X oc nn cp):=by rw [← hnn];exact c0
   have z0:(0:Int)<(nn:Int):=by omega
   have z1:decide ((0:Int)<(nn:Int))=true:=decide_eq_true z0
   have z2:0<nn:=by omega
   have z3:decide (0<nn)=true:=decide_eq_true z2
   have Hq:O (q.length≤100000):=hd_ (by have:=HQ.out;have:=HP.out;omega)
   clear hnn hlen hsm
   go_wp2_with (first
    | (have _g:=HS.out;go_at_call 59;refine HS.out.num.mono ?_;(rintro e w2 (⟨a,r2,hN,rfl,hs⟩|⟨hN,rfl,hf⟩));rotate_left;(have ac:=hd_ (x9w HA.out hN);clear HS);rotate_left;(
     obtain ⟨rfl,gZ⟩:=x8w HA.out hN
     have HA3:=hd_ gZ
     have bu:=hd_ (hs.grow (z4b (Y [I Z a].toArray 3)))
     have ip:=hd_ (show z7h nuK 3 (w2.alloc (Y [I Z a].toArray 3)) w.heap.size (X ov q.length cv) q from bu.out.thg _ mS)
     have fe:O (Src prog 1 24 (X (J ⟨w2.heap.size,0,Q⟩) 1 1) 1 (nuK.flat [a]) (w2.alloc (Y [I Z a].toArray 3))):=y3l (K:=nuK) (a:=a) underlying24 (CB.new w2 _ _)
     have ex:O (w.heap.size≤(w2.alloc (Y [I Z a].toArray 3)).heap.size):=bu.out.gr.size
     clear hs hN gZ HS))
    | (at_builtin;have _g:=fe.out;refine z4e (e:=3) (z:=(I Z 0)) (size:=1) (bytes:=8) underlying24 j4i rfl rfl _ _ rfl w.heap.size _ q.length (nuK.flat q) rfl ip.out _ 1 (nuK.flat [a]) rfl fe.out (by have:=Hq.out;unfold maxLen;omega) (by have:=Hq.out;omega) ex.out ?_;intro v5 w5 eA eh ir;have iq:O (z7h nuK 3 w5 w.heap.size v5 (q++[a])):=z7h.append (K:=nuK) eA (by simp);have Hg5:=hd_ eh;have Hn5:=hd_ ir;clear fe eA eh ir))
   all_goals (try (exact ⟨rfl,.inr ⟨j1t HL.out ac.out,rfl,hf.gr⟩⟩))
   go_roundw
   case rel =>
    have hlt:=ip.out.lt
    refine ⟨⟨q++[a],r2,HA3.out,bu.out.put [z1w nuK 3 w.heap.size (X ov q.length cv) q] (z1w nuK 3 w.heap.size v5 (q++[a])) _ Hg5.out (fun k hk=>⟨⟨_,List.mem_singleton.2 rfl,hk⟩,(hlt k hk).1,lT HB.out (hlt k hk).1⟩) iq.out (fun k hk=>?_) (fun u hu=>(nM hu).elim),?_⟩⟩
    ·rcases Hn5.out with h|h
     ·exact .inl ⟨_,List.mem_singleton.2 rfl,h.symm.trans hk⟩
     ·exact .inr (h k hk)
    ·have:=HQ.out;simp at this ⊢;omega
   case measure =>
    obtain ⟨o5,c5,hv5,-⟩:=iq.out.rd.shape
    rw [hv5]
    have:=HQ.out
    simp [x7w] at this ⊢
    omega
def x4b (b:Nat) (v:U) (rl:List Nb) (q:List Nod) (W:M):Prop :=
 z7h ndK 48 W b v rl∧rl.length=q.length∧∀ (i:Nat) (t:Nod) (r:Nb),q[i]? = J t→rl[i]? = J r→r.par=t.par∧r.frm=t.frm∧z7h cuK 88 W b r.cv t.cuts∧∀ k,r.cv.ownBlock=J k→v.ownBlock≠J k
def j2t (v:U) (rl:List Nb) (k:Nat):Prop:=v.ownBlock=J k∨∃ r∈rl,r.cv.ownBlock=J k
theorem x4b.mem {b:Nat} {v:Value} {rl:List Nb} {q:List Nod} {W:M} (h:x4b b v rl q W) {r:Nb} (hr:r∈rl):∃ t:Nod,z7h cuK 88 W b r.cv t.cuts∧∀ k,r.cv.ownBlock=J k→v.ownBlock≠J k:=by
 obtain ⟨i,hi,rfl⟩:=List.mem_iff_getElem.1 hr
 have hq:i<q.length:=by have:=h.2.1;omega
 obtain ⟨-,-,h3,h4⟩:=h.2.2 i q[i] rl[i] (List.getElem?_eq_getElem hq) (List.getElem?_eq_getElem hi)
 exact ⟨_,h3,h4⟩
theorem x4b.low {b:Nat} {v:Value} {rl:List Nb} {q:List Nod} {W:M} (h:x4b b v rl q W) {k:Nat} (hk:j2t v rl k):b≤k∧k<W.heap.size:=by
 rcases hk with hk|⟨r,hr,hk⟩
 ·exact h.1.lt k hk
 ·obtain ⟨t,h1,-⟩:=h.mem hr
  exact h1.lt k hk
theorem z6d {α:Type} {K:EK α} {e:TypeId} {w w':M} {base:Nat} {v:Value} {l:List α} {row:Option Nat} (h:z7h K e w base v l) (hg:w.grownBy w' row) (hne:∀ k,v.ownBlock=J k→row≠J k):z7h K e w' base v l :=
 (z1w K e base v l).keep h hg hne
def z1z (b:Nat) (v:U) (rl:List Nb) (q:List Nod):Thing :=
 ⟨x4b b v rl q,j2t v rl,fun h k hk=>(h.low hk).2,fun {W W'} {row} h hg hr =>
  ⟨z6d h.1 hg (fun k hk=>hr k (.inl hk)),h.2.1,fun i t r ht hi=>by
   obtain ⟨a1,a2,a3,a4⟩:=h.2.2 i t r ht hi
   exact ⟨a1,a2,z6d a3 hg (fun k hk=>hr k (.inr ⟨r,List.mem_of_getElem? hi,hk⟩)),a4⟩⟩⟩
theorem x4b.nil (b:Nat) (W:M):x4b b (X Q 0 0) [] [] W:=⟨z7h.nil _ _ _,rfl,fun i t r h=>by simp at h⟩
theorem x4b.app {b:Nat} {v v':Value} {rl:List Nb} {q:List Nod} {W W':M} {t:Nod} {r:Nb} (h:x4b b v rl q W) (hr:r.par=t.par∧r.frm=t.frm) (hc:z7h cuK 88 W b r.cv t.cuts)
 (hd:∀ k,r.cv.ownBlock=J k→¬ j2t v rl k) (hg:W.grownBy W' v.ownBlock) (ho:z7h ndK 48 W' b v' (rl++[r])) (hn:y4j W v v'):x4b b v' (rl++[r]) (q++[t]) W':=by
 have hnew:∀ (x:Nb) (u:Nod),z7h cuK 88 W b x.cv u.cuts→(∀ k,x.cv.ownBlock=J k→v.ownBlock≠J k)→z7h cuK 88 W' b x.cv u.cuts∧∀ k,x.cv.ownBlock=J k→v'.ownBlock≠J k:=fun x u h1 h2=>by
  refine ⟨z6d h1 hg h2,fun k hk e=>?_⟩
  rcases hn with hn|hn
  ·exact h2 k hk (hn ▸ e)
  ·have:=hn k e;have:=(h1.lt k hk).2;omega
 refine ⟨ho,by simp [h.2.1],fun i u x hu hx=>?_⟩
 by_cases hi:i<q.length
 ·rw [List.getElem?_append_left hi] at hu
  rw [List.getElem?_append_left (by rw [h.2.1];exact hi)] at hx
  obtain ⟨a1,a2,a3,a4⟩:=h.2.2 i u x hu hx
  obtain ⟨b1,b2⟩:=hnew x u a3 a4
  exact ⟨a1,a2,b1,b2⟩
 ·have hi2:i=q.length:=by
   have:=(List.getElem?_eq_some_iff.1 hu).1;simp at this;omega
  subst hi2
  rw [List.getElem?_append_right (Nat.le_refl _),Nat.sub_self] at hu
  rw [← h.2.1,List.getElem?_append_right (Nat.le_refl _),Nat.sub_self] at hx
  simp at hu hx
  subst hu hx
  obtain ⟨b1,b2⟩:=hnew r t hc (fun k hk e=>hd k hk (.inl e))
  exact ⟨hr.1,hr.2,b1,b2⟩
theorem x4b.at {b:Nat} {v:Value} {rl:List Nb} {q:List Nod} {W:M} (h:x4b b v rl q W):z9j W q v :=
 ⟨rl,h.1.rd,h.2.1,fun i t r ht hi=>by
  obtain ⟨a1,a2,a3,a4⟩:=h.2.2 i t r ht hi
  exact ⟨a1,a2,a3.rd⟩⟩
theorem k9s {l:List V} (h:y4r l=Q):x1e l=Q:=by unfold x1e;rw [h];rfl
theorem k0t {l r:List V} {a:Bool} (h:y4r l=J (a,r)) (h2:z7g r=Q):x1e l=Q:=by unfold x1e;rw [h];show (z7g r).bind _=Q;rw [h2];rfl
theorem k1t {l r s:List V} {a:Bool} {b:Int} (h:y4r l=J (a,r)) (h2:z7g r=J (b,s)) (h3:y2j s=Q):x1e l=Q:=by unfold x1e;rw [h];show (z7g r).bind _=Q;rw [h2];show (y2j s).bind _=Q;rw [h3];rfl
theorem k2t {l r s t:List V} {a:Bool} {b:Int} {c:Int × Int} (h:y4r l=J (a,r)) (h2:z7g r=J (b,s)) (h3:y2j s=J (c,t)) (h4:z7g t=Q):x1e l=Q:=by
 unfold x1e;rw [h];show (z7g r).bind _=Q;rw [h2];show (y2j s).bind _=Q;rw [h3];show (z7g t).bind _=Q;rw [h4];rfl
theorem k3t {l r s t u:List V} {a:Bool} {b d:Int} {c:Int × Int} (h:y4r l=J (a,r)) (h2:z7g r=J (b,s)) (h3:y2j s=J (c,t)) (h4:z7g t=J (d,u)):x1e l=J ⟨a,b,c.1,c.2,d⟩:=by
 unfold x1e;rw [h];show (z7g r).bind _=_;rw [h2];show (y2j s).bind _=_;rw [h3];show (z7g t).bind _=_;rw [h4];rfl
theorem k4t {l:List V} (h:z7g l=Q):x2e l=Q:=by unfold x2e;rw [h];rfl
theorem k5t {l r:List V} {a:Int} (h:z7g l=J (a,r)) (h2:z7g r=Q):x2e l=Q:=by unfold x2e;rw [h];show (z7g r).bind _=Q;rw [h2];rfl
theorem k6t {l r s:List V} {a b:Int} (h:z7g l=J (a,r)) (h2:z7g r=J (b,s)) (h3:z6l s=Q):x2e l=Q:=by unfold x2e;rw [h];show (z7g r).bind _=Q;rw [h2];show (z6l s).bind _=Q;rw [h3];rfl
theorem x5b {l r s p t:List V} {a b:Int} (h:z7g l=J (a,r)) (h2:z7g r=J (b,s)) (h3:z6l s=J (p,t)) (h4:z4i p=Q):x2e l=Q:=by
 unfold x2e;rw [h];show (z7g r).bind _=Q;rw [h2];show (z6l s).bind _=Q;rw [h3];show (z4i p).bind _=Q;rw [h4];rfl
theorem k7t {l r s p t:List V} {a b:Int} {q:List Cut} (h:z7g l=J (a,r)) (h2:z7g r=J (b,s)) (h3:z6l s=J (p,t)) (h4:z4i p=J q):x2e l=J ⟨a,b,q⟩:=by
 unfold x2e;rw [h];show (z7g r).bind _=_;rw [h2];show (z6l s).bind _=_;rw [h3];show (z4i p).bind _=_;rw [h4];rfl
theorem j7z {x:V} {r p t:List V} (h:z6l (x::r)=J (p,t)):t=r:=by
 unfold z6l at h
 obtain ⟨⟨y,u⟩,e1,e2⟩:=bE.1 h
 injection e2 with e2;injection e2 with _ e2
 have e1:(if x.kind=3 then J (x,r) else Q)=J (y,u):=e1
 by_cases hk:x.kind=3
 ·rw [if_pos hk] at e1;injection e1 with e1;injection e1 with _ e1;rw [← e2,← e1]
 ·rw [if_neg hk] at e1;cases e1
theorem k3f {x:V} {r pl:List V} {u:List Cut} (h:z4i pl=(z4i (x::r)).map (u ++ ·)) (h1:z6l (x::r)=Q):z4i pl=Q:=by rw [h];simp only [z4i,h1,Option.bind_none,Option.map_none]
theorem y7r {x:V} {r p t pl:List V} {u:List Cut} (h:z4i pl=(z4i (x::r)).map (u ++ ·)) (h1:z6l (x::r)=J (p,t)) (h2:x1e p=Q):z4i pl=Q:=by rw [h];simp only [z4i,h1,h2,Option.bind_some,Option.bind_none,Option.map_none]
theorem k4f {x:V} {r p t pl:List V} {u:List Cut} {c:Cut} (h:z4i pl=(z4i (x::r)).map (u ++ ·)) (h1:z6l (x::r)=J (p,t)) (h2:x1e p=J c):z4i pl=(z4i r).map ((u++[c]) ++ ·):=by
 refine h.trans ?_
 simp only [z4i,h1,h2,Option.bind_some]
 cases z4i r with
 | none=>rfl
 | some t=>simp
theorem j6i {pl:List V} {u:List Cut} (h:z4i pl=(z4i []).map (u ++ ·)):z4i pl=J u:=by rw [h];simp [z4i]
theorem k5f {x:V} {r pl:List V} {u:List Nod} (h:z4h pl=(z4h (x::r)).map (u ++ ·)) (h1:z6l (x::r)=Q):z4h pl=Q:=by rw [h];simp only [z4h,h1,Option.bind_none,Option.map_none]
theorem z4s {x:V} {r p t pl:List V} {u:List Nod} (h:z4h pl=(z4h (x::r)).map (u ++ ·)) (h1:z6l (x::r)=J (p,t)) (h2:x2e p=Q):z4h pl=Q:=by rw [h];simp only [z4h,h1,h2,Option.bind_some,Option.bind_none,Option.map_none]
theorem k6f {x:V} {r p t pl:List V} {u:List Nod} {c:Nod} (h:z4h pl=(z4h (x::r)).map (u ++ ·)) (h1:z6l (x::r)=J (p,t)) (h2:x2e p=J c):z4h pl=(z4h r).map ((u++[c]) ++ ·):=by
 refine h.trans ?_
 simp only [z4h,h1,h2,Option.bind_some]
 cases z4h r with
 | none=>rfl
 | some t=>simp
theorem j7i {pl:List V} {u:List Nod} (h:z4h pl=(z4h []).map (u ++ ·)):z4h pl=J u:=by rw [h];simp [z4h]
theorem j3t {l pl pr:List V} {u:List Nod} (hL:z6l l=J (pl,pr)) (h:z4h pl=(z4h []).map (u ++ ·)):x3e l=J (u,pr):=by
 unfold x3e;rw [hL];show (z4h pl).bind _=_;rw [j7i h];rfl
theorem z6q {l pl pr:List V} (hL:z6l l=J (pl,pr)) (h:z4h pl=Q):x3e l=Q:=by
 unfold x3e;rw [hL];show (z4h pl).bind _=_;rw [h];rfl
def v1g (B c:Nat) (l:List V) (w:M) (e:Ending) (w':M):Prop :=
 (∃ q r v rl,x3e l=J (q,r)∧e=.returned v∧x4b w.heap.size v rl q w'∧z5h B w' c r∧w.grownBy w' (J c))∨(x3e l=Q∧e=.panicked y3j∧w.grownBy w' (J c))
structure TdRel (B c s:Nat) (w:M) (sl pr:List V) (v:U) (wr:M):Prop where
 h:∃ q rl rest,z4h sl=(z4h rest).map (q ++ ·)∧DSt w (J c) B [(s,rest),(c,pr)] [z1z w.heap.size v rl q] wr∧q.length+rest.length=sl.length
structure CtRel (B c s x k n bn:Nat) (w:M) (cl xr r pr:List V) (par frm:Int) (v:U) (rl:List Nb) (q:List Nod) (wr:M):Prop where
 h:∃ cv cq crest,z4i cl=(z4i crest).map (cq ++ ·)∧DSt w (J c) B [(k,crest),(x,xr),(s,r),(c,pr)] [z1w cuK 88 bn cv cq,z2h n 48 [I Z par,I Z frm,cv],z1z w.heap.size v rl q] wr∧cq.length+crest.length=cl.length
theorem j8i:(prog.info? 88).map (fun i=>(i.zero,i.size,i.bytes))=J (J (T #[.bool false,I Z 0,I Z 0,I Z 0,I Z 0]),5,40):=by kernel_rfl
theorem j9i:(prog.info? 48).map (fun i=>(i.zero,i.size,i.bytes))=J (J (T #[I Z 0,I Z 0,X Q 0 0]),3,40):=by kernel_rfl
theorem j0j (a:Bool) (b c d e:Int):prog.built 88 [(0,.bool a),(1,I Z b),(2,T #[I Z c,I Z d]),(3,I Z e)]=J ((⟨a,b,c,d,e⟩:Cut).cells).toArray:=by kernel_rfl
theorem j4t {n bn b k:Nat} {v:Value} {rl:List Nb} {q:List Nod} {cs:List Value} {u:Thing} (hu:u∈[z2h n 48 cs,z1z b v rl q]) (hk:bn≤k) (hl:n<bn∧∀ j,j2t v rl j→j<bn) (h:u.blk k):False:=by
 simp only [mC,nM,or_false] at hu
 rcases hu with rfl|rfl
 ·have h:k=n:=h
  omega
 ·have:=hl.2 k h;omega
theorem z0d {P:Program} {ops:Array Oper} {o:Oper} {a:Act} {S:M→Prop} (hw:Region.wanted o (yielded ops a.tmps)=true) (t:TypeId) (parts:Array (Nat × Operand)) (ho:o.op=.build t parts) (cells:List U) (ps:List (Nat × U)) (hps:(parts.toList.map fun (i,x)=>(i,a.eval x))=ps)
 (hb:P.built t ps=J cells.toArray):YieldsIf P ops S o (T cells.toArray) a :=
 .inl ⟨hw,fun w _=>by
  unfold execOp
  subst hps
  rw [← Array.toList_map] at hb
  simp only [ho,Sem.run_bind,run_build w t _ _ hb,Result.andThen_ok,Sem.run_pure]⟩
theorem x0x (B c:Nat) (l:List V) (w:M) (hc:z5h B w c l) (hB:B≤w.heap.size) (hz:szs l≤1000000):F prog 64 #[R (J ⟨c,0,Q⟩)] w (v1g B c l w):=by
 have HS:=hd_ (j3i hc hB hz)
 have HB:=hd_ hB
 clear hc hB hz
 go_enter func64,ntmps64
 go_wp2_with (go_at_call 58;refine HS.out.lis.mono ?_;(rintro e w1 (⟨sl,pr,s,hL,rfl,hn,hs⟩|⟨hL,rfl,hf⟩)))
 case inr=>exact ⟨rfl,.inr ⟨by unfold x3e;rw [hL];rfl,rfl,hf.gr⟩⟩
 have HL:=hd_ hL;have Hs:=hd_ hs
 have HP:O (sl.length≤100000):=hd_ (by
  have h1:=y1c sl
  have h2:szs sl≤1000000:=hs.sm (s,sl) mS
  omega)
 clear HS hL hn hs
 go_loopw [2] (fun v wr=>TdRel B c s w sl pr v wr) (fun v _=>sl.length - x7w v)
 case atStart=>exact ⟨⟨[],[],sl,by simp,Hs.out.add (z1z w.heap.size (X Q 0 0) [] []) (x4b.nil _ _) (fun p hp h=>by rcases h with h|⟨r,h,_⟩ <;> cases h),by simp⟩⟩
 case round =>
  obtain ⟨q,rl,rest,hA,hS,hlq⟩:=hrel.h
  clear hrel Hs
  obtain ⟨oc,cp,c0⟩:=hS.len
  have hO:x4b w.heap.size _ rl q wr:=hS.thg _ mS
  obtain ⟨ov,cv,hv,-⟩:=hO.1.rd.shape
  subst hv
  have HO:=hd_ hO;have HS:=hd_ hS;have HA:=hd_ hA;have HQ:=hd_ hlq;have HRL:=hd_ hO.2.1
  clear hS hA hlq hO
  cases rest with
  | nil =>
   go_wp2_with fail
   go_ret
   exact .inl ⟨q,pr,_,rl,j3t HL.out HA.out,rfl,HO.out,HS.out.cur (c,pr) (by simp),HS.out.gr⟩
  | cons a r =>
   obtain ⟨nn,hnn⟩:∃ nn,r.length+1=nn:=⟨_,rfl⟩
   have c0:wr.cell? ⟨s,0,Q⟩=J (X oc nn cp):=by rw [← hnn];exact c0
   have z0nn:(0:Int)<(nn:Int):=by omega
   have z1nn:decide ((0:Int)<(nn:Int))=true:=decide_eq_true z0nn
   have z2nn:0<nn:=by omega
   have z3nn:decide (0<nn)=true:=decide_eq_true z2nn
   clear hnn
   go_upto_region 5 with (first
    | (have _g:=HS.out;go_at_call 58;refine HS.out.lis.mono ?_;(rintro e w2 (⟨xl,r2,x,hX,rfl,hxn,h1⟩|⟨hX,rfl,hf⟩));rotate_left;(have ac:=hd_ (k5f HA.out hX);clear HS);rotate_left;(obtain rfl:=j7z hX;have HX:=hd_ hX;have H1:=hd_ h1;have Hxn:=hd_ hxn;clear hX h1 hxn HS))
    | (have _g:=H1.out;go_at_call 59;refine H1.out.num.mono ?_;(rintro e w3 (⟨p1,x2,hN1,rfl,h2⟩|⟨hN1,rfl,hf⟩));rotate_left;(have ac:=hd_ (z4s HA.out HX.out (k4t hN1));clear H1);rotate_left;(have ey:=hd_ hN1;have H2:=hd_ h2;clear hN1 h2 H1))
    | (have _g:=H2.out;go_at_call 59;refine H2.out.num.mono ?_;(rintro e w4 (⟨p2,x3,hN2,rfl,h3⟩|⟨hN2,rfl,hf⟩));rotate_left;(have ac:=hd_ (z4s HA.out HX.out (k5t ey.out hN2));clear H2);rotate_left;(have fZ:=hd_ hN2;have H3:=hd_ h3;clear hN2 h3 H2)))
   all_goals (try (exact ⟨rfl,.inr ⟨z6q HL.out ac.out,rfl,hf.gr⟩⟩))
   obtain ⟨n,hn⟩:∃ n,w4.heap.size=n:=⟨_,rfl⟩
   have aO:CB (w4.alloc (Y [I Z p1,I Z p2,X Q 0 0].toArray 48)) n 48 [I Z p1,I Z p2,X Q 0 0]:=by rw [← hn];exact z3a w4 _ 48 _ rfl
   have aR:Below w4.heap.size w4 (w4.alloc (Y [I Z p1,I Z p2,X Q 0 0].toArray 48)):=z4b _
   have H4:=hd_ ((H3.out.grow aR).add (z2h n 48 [I Z p1,I Z p2,X Q 0 0]) aO (fun p hp e=>by have:=(H3.out.cur p hp).lt';have:p.1=n:=e;omega))
   have HlT:=hd_ (show ∀ j,j2t (X ov rl.length cv) rl j→j<n from fun j hj=>hn ▸ (z1z w.heap.size (X ov rl.length cv) rl q).lt (H3.out.thg _ mS) j hj)
   have Hnw:=hd_ (show w.heap.size≤n by have:=H3.out.gr.size;omega)
   rw [hn]
   change Code.wp _ _ _ _ (w4.alloc (Y [I Z p1,I Z p2,X Q 0 0].toArray 48))
   clear aO hn aR
   generalize w4.alloc (Y [I Z p1,I Z p2,X Q 0 0].toArray 48)=w5 at *
   clear H3
   go_wp2_with (have _g:=H4.out;go_at_call 58;refine H4.out.lis.mono ?_;(rintro e w6 (⟨cl,x4,k,hK,rfl,hkn,h5⟩|⟨hK,rfl,hf⟩));rotate_left;(have ac:=hd_ (z4s HA.out HX.out (k6t ey.out fZ.out hK)));rotate_left;(have HK:=hd_ hK;have H5:=hd_ h5;clear hK h5))
   all_goals (try (exact ⟨rfl,.inr ⟨z6q HL.out ac.out,rfl,hf.gr⟩⟩))
   have iE:=hd_ (show n<w5.heap.size∧∀ j,j2t (X ov rl.length cv) rl j→j<w5.heap.size from ⟨CB.lt (H4.out.thg (z2h n 48 _) mS),fun j hj=>(z1z w.heap.size (X ov rl.length cv) rl q).lt (H4.out.thg _ (List.mem_cons_of_mem _ mS)) j hj⟩)
   obtain ⟨bn,hbn⟩:∃ bn,w5.heap.size=bn:=⟨_,rfl⟩
   have Hbn6:O (bn≤w6.heap.size):=by rw [← hbn];exact hd_ (by have:=(H5.out.cur (k,cl) mS).lt';omega)
   rw [hbn] at iE
   have HP2:O (cl.length≤100000):=hd_ (by
    have h1:=y1c cl
    have h2:szs cl≤1000000:=H5.out.sm (k,cl) mS
    omega)
   have Hk6:O (bn≤k):=by rw [← hbn];exact hd_ hkn
   clear H4 hkn hbn Hxn
   obtain ⟨wo,rfl⟩:∃ wo:M,wo=wr:=⟨_,rfl⟩
   go_loopw [7] (fun _ wi=>CtRel B c s x k n bn w cl x4 r2 pr p1 p2 (X ov rl.length cv) rl q wi) (fun _ W=>cl.length - x7w ((W.cell? ⟨n,2,Q⟩).getD undef))
   case atStart=>exact ⟨⟨X Q 0 0,[],cl,by simp,H5.out.add (z1w cuK 88 bn (X Q 0 0) []) (z7h.nil _ _ _) (fun p hp h=>by cases h),by simp⟩⟩
   case round =>
    obtain ⟨cw,cq,crest,gZ,iF,iD⟩:=hrel.h
    clear hrel H5
    obtain ⟨o2,dq,d0⟩:=iF.len
    have dr:z7h cuK 88 wr bn cw cq:=iF.thg (z1w cuK 88 bn cw cq) mS
    obtain ⟨oq,cpq,rfl,-⟩:=dr.rd.shape
    have aj:CB wr n 48 [I Z p1,I Z p2,X oq cq.length cpq]:=iF.thg (z2h n 48 _) (List.mem_cons_of_mem _ mS)
    have dh:=hd_ dr;have ew:=hd_ iF;have hF:=hd_ gZ;have HQ2:=hd_ iD;have au:=hd_ aj
    have HM2:=hd_ (aj.cell 2)
    clear iF gZ iD dr aj
    cases crest with
    | nil =>
     have ht:O (z4h sl=(z4h r2).map ((q++[⟨p1,p2,cq⟩]) ++ ·)):=k6f HA.out HX.out (k7t ey.out fZ.out HK.out (j6i hF.out))
     have HT7:O (x4b w.heap.size (X ov rl.length cv) rl q wr):=ew.out.thg (z1z w.heap.size (X ov rl.length cv) rl q) (List.mem_cons_of_mem _ (List.mem_cons_of_mem _ mS))
     have NC:ndK.cells ⟨p1,p2,oq,cq.length,cpq⟩=[I Z p1,I Z p2,X oq cq.length cpq]:=rfl
     have Hb8:Below wr.heap.size wr (wr.alloc (Y [I Z p1,I Z p2,X oq cq.length cpq].toArray 48)):=z4b _
     have hsrc:O (Src prog 3 29 (X (J ⟨wr.heap.size,0,Q⟩) 1 1) 1 (ndK.flat [⟨p1,p2,oq,cq.length,cpq⟩]) (wr.alloc (Y [I Z p1,I Z p2,X oq cq.length cpq].toArray 48))):=y3l (K:=ndK) (a:=⟨p1,p2,oq,cq.length,cpq⟩) underlying29 (z3a wr _ 48 _ rfl)
     have dk:=hd_ (((ew.out.drop.drop).sub (ts':=[z1w cuK 88 bn (X oq cq.length cpq) cq,z1z w.heap.size (X ov rl.length cv) rl q]) (fun t ht=>by simp only [mC,nM,or_false] at *;rcases ht with rfl|rfl <;> simp)).grow Hb8)
     have oY:O (x4b w.heap.size (X ov rl.length cv) rl q (wr.alloc (Y [I Z p1,I Z p2,X oq cq.length cpq].toArray 48))):=dk.out.thg (z1z w.heap.size (X ov rl.length cv) rl q) (List.mem_cons_of_mem _ mS)
     have aI:O (z7h cuK 88 (wr.alloc (Y [I Z p1,I Z p2,X oq cq.length cpq].toArray 48)) bn (X oq cq.length cpq) cq):=dk.out.thg (z1w cuK 88 bn (X oq cq.length cpq) cq) mS
     have HlQ:O (rl.length≤100000):=hd_ (by have:=HQ.out;have:=HP.out;have:=HRL.out;omega)
     have mm:O (w.heap.size≤(wr.alloc (Y [I Z p1,I Z p2,X oq cq.length cpq].toArray 48)).heap.size):=dk.out.gr.size
     clear Hb8
     go_upto_region 9 with fail
     go_wp2_with (first
      | (have _g:=au.out;refine lcs 48 (.tmp 5) rfl n [I Z p1,I Z p2,X oq cq.length cpq] rfl au.out underlying48 ?_;clear au)
      | (at_builtin;have _g:=hsrc.out;go_loud (refine z4e (e:=48) (z:=(T #[I Z 0,I Z 0,X Q 0 0])) (size:=3) (bytes:=40) underlying29 j9i rfl rfl _ _ rfl w.heap.size (X ov rl.length cv) rl.length (ndK.flat rl) rfl oY.out.1 _ 1 _ rfl hsrc.out (by have:=HlQ.out;unfold maxLen;omega) (by have:=HlQ.out;omega) mm.out ?_);intro v9 w9 eC ay eM;have fF:O (z7h ndK 48 w9 w.heap.size v9 (rl++[⟨p1,p2,oq,cq.length,cpq⟩])):=z7h.append (K:=ndK) eC (by simp);have dA:=hd_ ay;have HN9:=hd_ eM;obtain ⟨o9,c9,eV,-⟩:=fF.out.rd.shape;rw [List.length_append,List.length_singleton] at eV;subst eV;clear hsrc eC ay eM))
     go_roundw
     case rel =>
      have hlt:=oY.out.1.lt
      have hcl:=aI.out.lt
      have hbw:w.heap.size≤bn:=by have:=iE.out.1;have:=Hnw.out;omega
      refine ⟨⟨q++[(⟨p1,p2,cq⟩:Nod)],rl++[(⟨p1,p2,oq,cq.length,cpq⟩:Nb)],r2,ht.out,dk.out.put [z1w cuK 88 bn (X oq cq.length cpq) cq,z1z w.heap.size (X ov rl.length cv) rl q] (z1z w.heap.size (X o9 (rl.length+1) c9) (rl++[(⟨p1,p2,oq,cq.length,cpq⟩:Nb)]) (q++[(⟨p1,p2,cq⟩:Nod)])) _ dA.out
       (fun j hj=>⟨⟨_,List.mem_cons_of_mem _ (List.mem_singleton.2 rfl),.inl hj⟩,(hlt j hj).1,lT HB.out (hlt j hj).1⟩)
       (x4b.app (t:=⟨p1,p2,cq⟩) (r:=⟨p1,p2,oq,cq.length,cpq⟩) oY.out ⟨rfl,rfl⟩ (aI.out.base hbw) (fun j hj ht2=>by have:=(hcl j hj).1;have:=iE.out.2 j ht2;omega) dA.out fF.out HN9.out) (fun j hj=>?_) (fun u hu=>(nM hu).elim),?_⟩⟩
      ·rcases hj with hj|⟨u,hu,hj⟩
       ·rcases HN9.out with h|h
        ·exact .inl ⟨_,List.mem_cons_of_mem _ (List.mem_singleton.2 rfl),.inl (h.symm.trans hj)⟩
        ·exact .inr (h j hj)
       ·rcases List.mem_append.1 hu with hu|hu
        ·exact .inl ⟨_,List.mem_cons_of_mem _ (List.mem_singleton.2 rfl),.inr ⟨u,hu,hj⟩⟩
        ·rcases List.mem_singleton.1 hu with rfl
         exact .inl ⟨_,mS,hj⟩
      ·have:=HQ.out;simp at this ⊢;omega
     case measure =>
      have h1:=HQ.out;have h2:=HRL.out
      simp [x7w] at h1 ⊢
      omega
    | cons y cr =>
     obtain ⟨n2,bv⟩:∃ n2,cr.length+1=n2:=⟨_,rfl⟩
     have d0:wr.cell? ⟨k,0,Q⟩=J (X o2 n2 dq):=by rw [← bv];exact d0
     have z0n2:(0:Int)<(n2:Int):=by omega
     have z1n2:decide ((0:Int)<(n2:Int))=true:=decide_eq_true z0n2
     have z2n2:0<n2:=by omega
     have z3n2:decide (0<n2)=true:=decide_eq_true z2n2
     have HQ3:O (cq.length≤100000):=hd_ (by have:=HQ2.out;have:=HP2.out;omega)
     clear bv
     go_upto_region 8 with (have _g:=ew.out;go_at_call 58;refine ew.out.lis.mono ?_;(rintro e w7 (⟨yl,c2,yn,hY,rfl,hyn,h1⟩|⟨hY,rfl,hf⟩));rotate_left;(have ac:=hd_ (z4s HA.out HX.out (x5b ey.out fZ.out HK.out (k3f hF.out hY))));rotate_left;(obtain rfl:=j7z hY;have HY:=hd_ hY;have bu:=hd_ h1;clear hY h1 hyn ew))
     all_goals (try (exact ⟨rfl,.inr ⟨z6q HL.out ac.out,rfl,hf.gr⟩⟩))
     have aA:=hd_ (show CB w7 n 48 [I Z p1,I Z p2,X oq cq.length cpq] from bu.out.thg (z2h n 48 _) (List.mem_cons_of_mem _ mS))
     clear au dh d0
     refine z7a (S:=fun w'=>CB w' n 48 [I Z p1,I Z p2,X oq cq.length cpq]) (late:=fun j=>j == 14) (by kernel_rfl) (aA.out.ext (Below.refl w7.heap.size w7).drew) (fun hHeld=>?_)
     have aQ:=(Below.refl w7.heap.size w7).drew
     replace bu:=hd_ (bu.out.grow aQ)
     replace aA:=hd_ (aA.out.ext aQ)
     clear aQ
     generalize w7.drew=w8 at *
     refine tkL 33 0 ?_
     refine tkL 34 1 ?_ (hy:=fun wS aa=>by have y2:_=J (X oq cq.length cpq):=CB.cell aa 2;go_simp;first|done|with_reducible rfl)
     refine tkL 35 2 ?_
     refine tkL 37 4 ?_
     refine tkL 39 6 ?_
     refine tkL 41 8 ?_
     refine rdL 3 fun K hK=>?_
     go_simp
     go_at_call 63
     refine bu.out.flg.mono ?_
     rintro e w9 (⟨b1,y1,af,rfl,h1⟩|⟨af,rfl,hf⟩)
     case inr=>(have ac:=z4s HA.out HX.out (x5b ey.out fZ.out HK.out (y7r hF.out HY.out (k9s af)));exact ⟨rfl,.inr ⟨z6q HL.out ac,rfl,hf.gr⟩⟩)
     have nD:=hd_ af
     replace bu:=hd_ h1
     replace aA:=hd_ (show CB w9 n 48 [I Z p1,I Z p2,X oq cq.length cpq] from bu.out.thg (z2h n 48 _) (List.mem_cons_of_mem _ mS))
     clear af h1
     refine z4n hK aA.out fun hHeld=>?_
     clear hK K
     refine rdL 5 fun K hK=>?_
     go_simp
     go_at_call 59
     refine bu.out.num.mono ?_
     rintro e wa (⟨b2,y2,aj,rfl,h1⟩|⟨aj,rfl,hf⟩)
     case inr=>(have ac:=z4s HA.out HX.out (x5b ey.out fZ.out HK.out (y7r hF.out HY.out (k0t nD.out aj)));exact ⟨rfl,.inr ⟨z6q HL.out ac,rfl,hf.gr⟩⟩)
     have eY:=hd_ aj
     replace bu:=hd_ h1
     replace aA:=hd_ (show CB wa n 48 [I Z p1,I Z p2,X oq cq.length cpq] from bu.out.thg (z2h n 48 _) (List.mem_cons_of_mem _ mS))
     clear aj h1
     refine z4n hK aA.out fun hHeld=>?_
     clear hK K
     refine rdL 7 fun K hK=>?_
     go_simp
     go_at_call 62
     refine bu.out.spn.mono ?_
     rintro e wb (⟨b3,y3,aB,rfl,h1⟩|⟨aB,rfl,hf⟩)
     case inr=>(have ac:=z4s HA.out HX.out (x5b ey.out fZ.out HK.out (y7r hF.out HY.out (k1t nD.out eY.out aB)));exact ⟨rfl,.inr ⟨z6q HL.out ac,rfl,hf.gr⟩⟩)
     have Hb3:=hd_ aB
     replace bu:=hd_ h1
     replace aA:=hd_ (show CB wb n 48 [I Z p1,I Z p2,X oq cq.length cpq] from bu.out.thg (z2h n 48 _) (List.mem_cons_of_mem _ mS))
     clear aB h1
     refine z4n hK aA.out fun hHeld=>?_
     clear hK K
     refine rdL 9 fun K hK=>?_
     go_simp
     go_at_call 59
     refine bu.out.num.mono ?_
     rintro e wc (⟨b4,y4,cO,rfl,h1⟩|⟨cO,rfl,hf⟩)
     case inr=>(have ac:=z4s HA.out HX.out (x5b ey.out fZ.out HK.out (y7r hF.out HY.out (k2t nD.out eY.out Hb3.out cO)));exact ⟨rfl,.inr ⟨z6q HL.out ac,rfl,hf.gr⟩⟩)
     have Hb4:=hd_ cO
     replace bu:=hd_ h1
     replace aA:=hd_ (show CB wc n 48 [I Z p1,I Z p2,X oq cq.length cpq] from bu.out.thg (z2h n 48 _) (List.mem_cons_of_mem _ mS))
     clear cO h1
     refine z4n hK aA.out fun hHeld=>?_
     clear hK K
     refine z2x 43 10 rfl (T ((⟨b1,b2,b3.1,b3.2,b4⟩:Cut).cells).toArray) (z0d (by rfl) 88 _ rfl ((⟨b1,b2,b3.1,b3.2,b4⟩:Cut).cells) [(0,.bool b1),(1,I Z b2),(2,T #[I Z b3.1,I Z b3.2]),(3,I Z b4)] rfl (j0j _ _ _ _ _)) ?_
     refine rdL 11 fun K hK=>?_
     go_simp
     have aF:O (CB (wc.alloc (Y ((⟨b1,b2,b3.1,b3.2,b4⟩:Cut).cells).toArray 88)) wc.heap.size 88 ((⟨b1,b2,b3.1,b3.2,b4⟩:Cut).cells)):=z3a wc _ _ _ rfl
     have hz:Below wc.heap.size wc (wc.alloc (Y ((⟨b1,b2,b3.1,b3.2,b4⟩:Cut).cells).toArray 88)):=z4b _
     change K _ (wc.alloc (Y ((⟨b1,b2,b3.1,b3.2,b4⟩:Cut).cells).toArray 88))
     replace bu:=hd_ (bu.out.grow hz)
     replace aA:=hd_ (aA.out.ext hz)
     clear hz
     generalize wc.alloc (Y ((⟨b1,b2,b3.1,b3.2,b4⟩:Cut).cells).toArray 88)=wd at *
     generalize wc.heap.size=gk at *
     refine z4n hK aA.out fun hHeld=>?_
     clear hK K
     refine rdL 12 fun K hK=>?_
     have ip:=hd_ (show z7h cuK 88 wd bn (X oq cq.length cpq) cq from bu.out.thg _ mS)
     have ex:O (bn≤wd.heap.size):=hd_ (by have:=Hk6.out;have:=(bu.out.cur (k,c2) (by simp)).lt';omega)
     refine z8k (e:=88) (z:=(T #[.bool false,I Z 0,I Z 0,I Z 0,I Z 0])) (size:=5) (bytes:=40) underlying46 j8i rfl rfl (.tmp 34) (.tmp 44) rfl bn (X oq cq.length cpq) cq.length (cuK.flat cq) rfl ?q1 (X (J ⟨gk,0,Q⟩) 1 1) 1 (cuK.flat [(⟨b1,b2,b3.1,b3.2,b4⟩:Cut)]) rfl ?q2 ?q3 ?q4 ?q5 ?_
     case q1=>exact ip.out
     case q2=>exact y3l (K:=cuK) (a:=(⟨b1,b2,b3.1,b3.2,b4⟩:Cut)) underlying46 aF.out
     case q3=>(have:=HQ3.out;unfold maxLen;omega)
     case q4=>(have:=HQ3.out;omega)
     case q5=>exact ex.out
     intro v9 we eC ay eM
     have fF:O (z7h cuK 88 we bn v9 (cq++[(⟨b1,b2,b3.1,b3.2,b4⟩:Cut)])):=z7h.append (K:=cuK) eC (by simp)
     obtain ⟨o9,c9,eV,-⟩:=fF.out.rd.shape
     rw [List.length_append,List.length_singleton] at eV
     subst eV
     have ek:=ip.out.lt
     have jx:=bu.out.put [z1w cuK 88 bn (X oq cq.length cpq) cq] (z1w cuK 88 bn (X o9 (cq.length+1) c9) (cq++[(⟨b1,b2,b3.1,b3.2,b4⟩:Cut)])) _ ay (fun j hj=>⟨⟨_,List.mem_singleton.2 rfl,hj⟩,lT Hnw.out (lT (Nat.le_of_lt iE.out.1) (ek j hj).1),lT HB.out (lT Hnw.out (lT (Nat.le_of_lt iE.out.1) (ek j hj).1))⟩) fF.out (fun j hj=>eM.elim (fun h=>.inl ⟨_,List.mem_singleton.2 rfl,h.symm.trans hj⟩) (fun h=>.inr (h j hj))) (fun u hu j hj gl=>j4t hu (ek j hj).1 iE.out gl)
     have jd:=hd_ jx
     have dx:=hd_ (show CB we n 48 [I Z p1,I Z p2,X oq cq.length cpq] from jd.out.thg (z2h n 48 _) (List.mem_cons_of_mem _ mS))
     have y3:=dx.out.cv 2 (X oq cq.length cpq)
     have yf:=dx.out.frozen 2
     clear jx eC ay eM ek aF bu aA ip
     refine hK.out (Act.put _ (J 45) _) we (fun _=>dx.out) (fun ae=>?_)
     clear hK K
     have hHeld:=ae (by rfl)
     clear ae
     try simp only [Act.put,List.setIfInBounds_toArray,List.set_cons_zero,List.set_cons_succ]
     refine tkL 46 13 ?_
     refine rdL 14 fun K hK=>?_
     go_simp
     refine hK.out _ _ (fun h=>absurd h (by decide)) (fun ae=>?_)
     clear hK K
     try simp only [Act.put,List.setIfInBounds_toArray,List.set_cons_zero,List.set_cons_succ]
     refine z3b (by kernel_rfl) ?_ _
     go_wp2_with fail
     have hcut:=hd_ (k4f hF.out HY.out (k3t nD.out eY.out Hb3.out Hb4.out))
     have ek:=fF.out.lt
     go_roundw
     case rel =>
      have h9:=(jd.out.drop).sub (ts':=[z2h n 48 [I Z p1,I Z p2,X oq cq.length cpq],z1w cuK 88 bn (X o9 (cq.length+1) c9) (cq++[(⟨b1,b2,b3.1,b3.2,b4⟩:Cut)]),z1z w.heap.size (X ov rl.length cv) rl q]) (fun t ht=>by simp only [mC,nM,or_false] at *;rcases ht with rfl|rfl|rfl <;> simp)
      have h10:=h9.put [z2h n 48 [I Z p1,I Z p2,X oq cq.length cpq]] (z2h n 48 [I Z p1,I Z p2,X o9 (cq.length+1) c9]) (J n) (z6b we n 2 (X o9 (cq.length+1) c9)) (fun j hj=>by injection hj with hj;subst hj;exact ⟨⟨_,List.mem_singleton.2 rfl,rfl⟩,Hnw.out,lT HB.out Hnw.out⟩) (dx.out.set 2 _) (fun j hj=>.inl ⟨_,List.mem_singleton.2 rfl,hj⟩)
       (fun u hu j hj gl=>by
        injection hj with hj;subst hj
        simp only [mC,nM,or_false] at hu
        rcases hu with rfl|rfl
        ·have:=(ek _ gl).1;have:=iE.out.1;omega
        ·have:=HlT.out _ gl;omega)
      have h11:=h10.sub (ts':=[z1w cuK 88 bn (X o9 (cq.length+1) c9) (cq++[(⟨b1,b2,b3.1,b3.2,b4⟩:Cut)]),z2h n 48 [I Z p1,I Z p2,X o9 (cq.length+1) c9],z1z w.heap.size (X ov rl.length cv) rl q]) (fun t ht=>by simp only [mC,nM,or_false] at *;rcases ht with rfl|rfl|rfl <;> simp)
      exact ⟨⟨_,_,c2,hcut.out,h11,by have:=HQ2.out;simp at this ⊢;omega⟩⟩
     case measure =>
      have e1:(we.setCell ⟨n,2,Q⟩ (X o9 (cq.length+1) c9)).cell? ⟨n,2,Q⟩=J (X o9 (cq.length+1) c9):=(dx.out.set 2 _).cell 2
      have e2:wr.cell? ⟨n,2,Q⟩=J (X oq cq.length cpq):=HM2.out
      rw [e1,e2]
      have:=HQ2.out
      simp [x7w] at this ⊢
      omega
theorem z7q (n:Int):sz (iV n)=24:=by unfold iV;simp only [sz,szs,show (⟨#[]⟩:ByteArray).size=0 from rfl]
theorem y0k (s:ByteArray):sz (tV s)=24+s.size:=by unfold tV;simp only [sz,szs];omega
theorem y8c (b:Bool):sz (bV b)=24:=z7q _
theorem z0r (a b:Int):sz (spV a b)=72:=by unfold spV;rw [z2j];simp only [szs,z7q]
theorem z5y (l:List Int):sz (nsV l)=24+szs (l.map iV):=by unfold nsV;rw [z2j]
theorem z6y:∀ l:List Int,szs (l.map iV)=24 * l.length
 | []=>rfl
 | x::r=>by simp only [List.map_cons,szs,z7q,z6y r,List.length_cons];omega
theorem k7f (x:V):24≤sz x:=by obtain ⟨k,n,s,l⟩:=x;simp only [sz];omega
theorem j1j:∀ l:List V,24 * l.length≤szs l
 | []=>by simp
 | x::r=>by have:=j1j r;have:=k7f x;simp only [szs,List.length_cons];omega
theorem z7f (x:V):sz x=24+x.s.size+szs x.l:=by obtain ⟨k,n,s,l⟩:=x;rfl
theorem z7e {x:V} (h:okV x):I64 x.kind∧I64 x.n∧x.s.size≤maxLen∧z2g x.l:=by
 obtain ⟨k,n,s,l⟩:=x
 simp only [okV] at h
 exact ⟨h.1,h.2.1,h.2.2.1,h.2.2.2.2⟩
theorem y8r {k:Int} {l r:List V} {x:V} (h:nxt k l=J (x,r)) (ok:z2g l):okV x∧z2g r∧szs l=sz x+szs r:=by
 cases l with
 | nil=>cases h
 | cons y t =>
  have h:(if y.kind=k then J (y,t) else Q)=J (x,r):=h
  by_cases hk:y.kind=k
  ·rw [if_pos hk] at h;injection h with h;injection h with h1 h2;subst h1 h2
   simp only [z2g] at ok
   exact ⟨ok.1,ok.2,by simp only [szs]⟩
  ·rw [if_neg hk] at h;cases h
theorem z0c {l:List V} {a:Int × List V} (h:z7g l=J a) (ok:z2g l):I64 a.1∧z2g a.2∧24+szs a.2≤szs l:=by
 unfold z7g at h
 obtain ⟨⟨x,r⟩,h1,h2⟩:=bE.1 h
 injection h2 with h2;subst h2
 obtain ⟨k1,k2,k3⟩:=y8r h1 ok
 have:=k7f x
 exact ⟨(z7e k1).2.1,k2,by show 24+szs r≤_;omega⟩
theorem y6h {l:List V} {a:ByteArray × List V} (h:x5v l=J a) (ok:z2g l):a.1.size≤maxLen∧z2g a.2∧24+a.1.size+szs a.2≤szs l:=by
 unfold x5v at h
 obtain ⟨⟨x,r⟩,h1,h2⟩:=bE.1 h
 injection h2 with h2;subst h2
 obtain ⟨k1,k2,k3⟩:=y8r h1 ok
 have:=z7f x
 exact ⟨(z7e k1).2.2.1,k2,by show 24+x.s.size+szs r≤_;omega⟩
theorem z1g {l:List V} {a:List V × List V} (h:z6l l=J a) (ok:z2g l):z2g a.1∧z2g a.2∧24+szs a.1+szs a.2≤szs l:=by
 unfold z6l at h
 obtain ⟨⟨x,r⟩,h1,h2⟩:=bE.1 h
 injection h2 with h2;subst h2
 obtain ⟨k1,k2,k3⟩:=y8r h1 ok
 have:=z7f x
 exact ⟨(z7e k1).2.2.2,k2,by show 24+szs x.l+szs r≤_;omega⟩
theorem y7h {l:List V} {a:Bool × List V} (h:y4r l=J a) (ok:z2g l):z2g a.2∧24+szs a.2≤szs l:=by
 unfold y4r at h
 obtain ⟨⟨x,r⟩,h1,h2⟩:=bE.1 h
 injection h2 with h2;subst h2
 exact (z0c h1 ok).2
theorem x6b {l:List V} {a:(Int × Int) × List V} (h:y2j l=J a) (ok:z2g l):I64 a.1.1∧I64 a.1.2∧z2g a.2∧72+szs a.2≤szs l:=by
 unfold y2j at h
 simp only [bE] at h
 obtain ⟨p,h1,b,h2,c,h3,h4⟩:=h
 injection h4 with h4;subst h4
 obtain ⟨k1,k2,k3⟩:=z1g h1 ok
 obtain ⟨m1,m2,m3⟩:=z0c h2 k1
 obtain ⟨n1,n2,n3⟩:=z0c h3 m2
 exact ⟨m1,n1,k2,by show 72+szs p.2≤_;omega⟩
theorem y3n:∀ {l:List V} {q:List Int} (_:z1l l=J q) (_:z2g l),(∀ x∈q,I64 x)∧szs (q.map iV)≤szs l
 | [],q,h,_=>by injection h with h;subst h;simp [szs]
 | x::r,q,h,ok=>by
  simp only [z1l,bE] at h
  obtain ⟨a,h1,t,h2,h3⟩:=h
  injection h3 with h3;subst h3
  have hr:a.2=r:=by
   unfold z7g at h1
   obtain ⟨⟨y,u⟩,e1,e2⟩:=bE.1 h1
   injection e2 with e2;subst e2
   have e1:(if x.kind=1 then J (x,r) else Q)=J (y,u):=e1
   by_cases hk:x.kind=1
   ·rw [if_pos hk] at e1;injection e1 with e1;injection e1 with _ e1;exact e1.symm
   ·rw [if_neg hk] at e1;cases e1
  obtain ⟨k1,k2,k3⟩:=z0c h1 ok
  rw [hr] at k2 k3
  obtain ⟨m1,m2⟩:=y3n h2 k2
  refine ⟨fun z hz=>?_,by simp only [List.map_cons,szs,z7q] at *;omega⟩
  rcases mC.1 hz with rfl|hz
  ·exact k1
  ·exact m1 z hz
theorem y8h {l:List V} {a:List Int × List V} (h:y6t l=J a) (ok:z2g l):(∀ x∈a.1,I64 x)∧z2g a.2∧sz (nsV a.1)+szs a.2≤szs l:=by
 unfold y6t at h
 simp only [bE] at h
 obtain ⟨p,h1,q,h2,h3⟩:=h
 injection h3 with h3;subst h3
 obtain ⟨k1,k2,k3⟩:=z1g h1 ok
 obtain ⟨m1,m2⟩:=y3n h2 k1
 exact ⟨m1,k2,by rw [z5y];show 24+szs (q.map iV)+szs p.2≤_;omega⟩
theorem j2j {l:List V} {c:Cut} (h:x1e l=J c) (ok:z2g l):CutI c∧sz (z0p c)≤24+szs l:=by
 unfold x1e at h
 simp only [bE] at h
 obtain ⟨a,h1,b,h2,d,h3,e,h4,h5⟩:=h
 injection h5 with h5;subst h5
 obtain ⟨k1,k2⟩:=y7h h1 ok
 obtain ⟨m1,m2,m3⟩:=z0c h2 k1
 obtain ⟨n1,n2,n3,n4⟩:=x6b h3 m2
 obtain ⟨p1,p2,p3⟩:=z0c h4 n3
 refine ⟨⟨m1,n1,n2,p1⟩,?_⟩
 unfold z0p
 rw [z2j]
 simp only [szs,y8c,z7q,z0r]
 omega
theorem x3q {x:V} {r:List V} {a:List V × List V} (h:z6l (x::r)=J a):a.2=r:=by
 unfold z6l at h
 obtain ⟨⟨y,u⟩,e1,e2⟩:=bE.1 h
 injection e2 with e2;subst e2
 have e1:(if x.kind=3 then J (x,r) else Q)=J (y,u):=e1
 by_cases hk:x.kind=3
 ·rw [if_pos hk] at e1;injection e1 with e1;injection e1 with _ e1;exact e1.symm
 ·rw [if_neg hk] at e1;cases e1
theorem y4n:∀ {l:List V} {q:List Cut} (_:z4i l=J q) (_:z2g l),(∀ x∈q,CutI x)∧szs (q.map z0p)≤szs l
 | [],q,h,_=>by injection h with h;subst h;simp [szs]
 | x::r,q,h,ok=>by
  simp only [z4i,bE] at h
  obtain ⟨a,h1,c,h2,t,h3,h4⟩:=h
  injection h4 with h4;subst h4
  have hr:=x3q h1
  obtain ⟨k1,k2,k3⟩:=z1g h1 ok
  rw [hr] at k2 k3
  obtain ⟨m1,m2⟩:=j2j h2 k1
  obtain ⟨n1,n2⟩:=y4n h3 k2
  refine ⟨fun z hz=>?_,by simp only [List.map_cons,szs] at *;omega⟩
  rcases mC.1 hz with rfl|hz
  ·exact m1
  ·exact n1 z hz
theorem j3j {l:List V} {c:Nod} (h:x2e l=J c) (ok:z2g l):NodI c∧sz (z5j c)≤24+szs l:=by
 unfold x2e at h
 simp only [bE] at h
 obtain ⟨a,h1,b,h2,d,h3,e,h4,h5⟩:=h
 injection h5 with h5;subst h5
 obtain ⟨k1,k2,k3⟩:=z0c h1 ok
 obtain ⟨m1,m2,m3⟩:=z0c h2 k2
 obtain ⟨n1,n2,n3⟩:=z1g h3 m2
 obtain ⟨p1,p2⟩:=y4n h4 n1
 refine ⟨⟨k1,m1,p1⟩,?_⟩
 unfold z5j
 rw [z2j]
 simp only [szs,z7q,z2j]
 omega
theorem y5n:∀ {l:List V} {q:List Nod} (_:z4h l=J q) (_:z2g l),(∀ x∈q,NodI x)∧szs (q.map z5j)≤szs l
 | [],q,h,_=>by injection h with h;subst h;simp [szs]
 | x::r,q,h,ok=>by
  simp only [z4h,bE] at h
  obtain ⟨a,h1,c,h2,t,h3,h4⟩:=h
  injection h4 with h4;subst h4
  have hr:=x3q h1
  obtain ⟨k1,k2,k3⟩:=z1g h1 ok
  rw [hr] at k2 k3
  obtain ⟨m1,m2⟩:=j3j h2 k1
  obtain ⟨n1,n2⟩:=y5n h3 k2
  refine ⟨fun z hz=>?_,by simp only [List.map_cons,szs] at *;omega⟩
  rcases mC.1 hz with rfl|hz
  ·exact m1
  ·exact n1 z hz
theorem j4j {l:List V} {a:List Nod × List V} (h:x3e l=J a) (ok:z2g l):(∀ x∈a.1,NodI x)∧z2g a.2∧24+szs (a.1.map z5j)+szs a.2≤szs l:=by
 unfold x3e at h
 simp only [bE] at h
 obtain ⟨p,h1,q,h2,h3⟩:=h
 injection h3 with h3;subst h3
 obtain ⟨k1,k2,k3⟩:=z1g h1 ok
 obtain ⟨m1,m2⟩:=y5n h2 k1
 exact ⟨m1,k2,by show 24+szs (q.map z5j)+szs p.2≤_;omega⟩
theorem v2g {x0 x1 x2 x3 :Nat} (h0:24+x1≤x0) (h1:24+x2≤x1) (h2:24+x3≤x2):24+(24+(24+0))≤x0:=by omega
theorem v3g {x0 x1 x2 x3 x4 x5 x6 x7 f4s f5n:Nat} (h0:24+x1≤x0) (h1:24+x2≤x1) (h2:24+x3≤x2) (h3:(24+f4s)+x4≤x3) (h4:f5n+x5≤x4) (h5:72+x6≤x5) (h6:24+x7≤x6):24+(24+(24+((24+f4s)+(f5n+(72+(24+0))))))≤x0:=by omega
theorem v4g {x0 x1 x2 x3 g3n:Nat} (h0:24+x1≤x0) (h1:24+x2≤x1) (h2:g3n+x3≤x2):24+(24+(g3n+0))≤x0:=by omega
theorem v5g {x0 x1 x2 x3 x4 x5 x6 r5s:Nat} (h0:24+x1≤x0) (h1:24+x2≤x1) (h2:24+x3≤x2) (h3:24+x4≤x3) (h4:(24+r5s)+x5≤x4) (h5:24+x6≤x5):24+(24+(24+(24+((24+r5s)+(24+0)))))≤x0:=by omega
theorem v6g {x0 x1 x2 x3 :Nat} (h0:24+x1≤x0) (h1:24+x2≤x1) (h2:24+x3≤x2):24+(24+(24+0))≤x0:=by omega
theorem v7g {x0 x1 x2 x3 p1n:Nat} (h0:p1n+x1≤x0) (h1:24+x2≤x1) (h2:24+x3≤x2):p1n+(24+(24+0))≤x0:=by omega
theorem v8g {x0 x1 x2 :Nat} (h0:24+x1≤x0) (h1:24+x2≤x1):24+(24+0)≤x0:=by omega
theorem k8t {l0 s1 s2 s0 k2 t2 ts f1 f2 f0 tr2 trn g1 g2 g0 r1 r2 r0 u1 u2 u0 n2 p1 p2 p0 q1 q2 q0:Nat} (hs:24+s1+s2≤l0) (gs:s0≤s1) (hk:24+k2≤s2) (ht:24+ts+t2≤k2) (hf:24+f1+f2≤t2) (gf:f0≤f1) (htr:24+trn+tr2≤f2) (hg:24+g1+g2≤tr2) (gg:g0≤g1) (hr:24+r1+r2≤g2) (gr:r0≤r1) (hu:24+u1+u2≤r2) (gu:u0≤u1) (hn:24+n2≤u2) (hp:24+p1+p2≤n2) (gp:p0≤p1) (hq:24+q1+q2≤p2) (gq:q0≤q1):(24+s0)+(24+((24+ts)+((24+f0)+((24+trn)+((24+g0)+((24+r0)+((24+u0)+(24+((24+p0)+0)))))))))+((24+q0)+0)≤l0:=by omega
theorem j5j {l:List V} {x:Inp} (h:j2h l=J x) (ok:z2g l):InpI x∧szs (z6e x)≤szs l:=by
 unfold j2h at h
 obtain ⟨s,hs,h⟩:=bE.1 h
 have Ks:=z1g hs ok
 clear hs
 obtain ⟨a1,ha1,h⟩:=bE.1 h
 have je:=z0c ha1 Ks.1
 clear ha1
 obtain ⟨a2,ha2,h⟩:=bE.1 h
 have kW:=z0c ha2 je.2.1
 clear ha2
 obtain ⟨a3,ha3,h⟩:=bE.1 h
 have oZ:=z0c ha3 kW.2.1
 clear ha3
 obtain ⟨k,hk,h⟩:=bE.1 h
 have Kk:=z0c hk Ks.2.1
 clear hk
 obtain ⟨t,ht,h⟩:=bE.1 h
 have Kt:=y6h ht Kk.2.1
 clear ht
 obtain ⟨f,hf,h⟩:=bE.1 h
 have Kf:=z1g hf Kt.2.1
 clear hf
 obtain ⟨f1,hf1,h⟩:=bE.1 h
 have Kf1:=z0c hf1 Kf.1
 clear hf1
 obtain ⟨f2,pb,h⟩:=bE.1 h
 have Kf2:=z0c pb Kf1.2.1
 clear pb
 obtain ⟨f3,hf3,h⟩:=bE.1 h
 have Kf3:=z0c hf3 Kf2.2.1
 clear hf3
 obtain ⟨f4,hf4,h⟩:=bE.1 h
 have Kf4:=y6h hf4 Kf3.2.1
 clear hf4
 obtain ⟨f5,hf5,h⟩:=bE.1 h
 have Kf5:=y8h hf5 Kf4.2.1
 clear hf5
 obtain ⟨f6,hf6,h⟩:=bE.1 h
 have Kf6:=x6b hf6 Kf5.2.1
 clear hf6
 obtain ⟨f7,hf7,h⟩:=bE.1 h
 have Kf7:=y7h hf7 Kf6.2.2.1
 clear hf7
 obtain ⟨tr,htr,h⟩:=bE.1 h
 have mW:=j4j htr Kf.2.1
 clear htr
 obtain ⟨g,hg,h⟩:=bE.1 h
 have Kg:=z1g hg mW.2.1
 clear hg
 obtain ⟨g1,aK,h⟩:=bE.1 h
 have Kg1:=z0c aK Kg.1
 clear aK
 obtain ⟨g2,al,h⟩:=bE.1 h
 have Kg2:=z0c al Kg1.2.1
 clear al
 obtain ⟨g3,bj,h⟩:=bE.1 h
 have Kg3:=y8h bj Kg2.2.1
 clear bj
 obtain ⟨r,hr,h⟩:=bE.1 h
 have Kr:=z1g hr Kg.2.1
 clear hr
 obtain ⟨r1,hr1,h⟩:=bE.1 h
 have Kr1:=z0c hr1 Kr.1
 clear hr1
 obtain ⟨r2,hr2,h⟩:=bE.1 h
 have Kr2:=z0c hr2 Kr1.2.1
 clear hr2
 obtain ⟨r3,jw,h⟩:=bE.1 h
 have Kr3:=z0c jw Kr2.2.1
 clear jw
 obtain ⟨r4,gO,h⟩:=bE.1 h
 have Kr4:=z0c gO Kr3.2.1
 clear gO
 obtain ⟨r5,kE,h⟩:=bE.1 h
 have Kr5:=y6h kE Kr4.2.1
 clear kE
 obtain ⟨r6,mX,h⟩:=bE.1 h
 have Kr6:=z0c mX Kr5.2.1
 clear mX
 obtain ⟨u,hu,h⟩:=bE.1 h
 have Ku:=z1g hu Kr.2.1
 clear hu
 obtain ⟨u1,hu1,h⟩:=bE.1 h
 have Ku1:=z0c hu1 Ku.1
 clear hu1
 obtain ⟨u2,gl,h⟩:=bE.1 h
 have Ku2:=z0c gl Ku1.2.1
 clear gl
 obtain ⟨u3,hu3,h⟩:=bE.1 h
 have Ku3:=y7h hu3 Ku2.2.1
 clear hu3
 obtain ⟨n,hn,h⟩:=bE.1 h
 have Kn:=z0c hn Ku.2.1
 clear hn
 obtain ⟨p,hp,h⟩:=bE.1 h
 have Kp:=z1g hp Kn.2.1
 clear hp
 obtain ⟨p1,hp1,h⟩:=bE.1 h
 have Kp1:=y8h hp1 Kp.1
 clear hp1
 obtain ⟨p2,hp2,h⟩:=bE.1 h
 have Kp2:=z0c hp2 Kp1.2.1
 clear hp2
 obtain ⟨p3,hp3,h⟩:=bE.1 h
 have Kp3:=z0c hp3 Kp2.2.1
 clear hp3
 obtain ⟨q,hq,h⟩:=bE.1 h
 have Kq:=z1g hq Kp.2.1
 clear hq
 obtain ⟨q1,hq1,h⟩:=bE.1 h
 have Kq1:=z0c hq1 Kq.1
 clear hq1
 obtain ⟨q2,jG,h⟩:=bE.1 h
 have Kq2:=z0c jG Kq1.2.1
 clear jG
 injection h with hx;subst hx
 refine ⟨⟨je.1,kW.1,oZ.1,Kk.1,Kt.1,⟨Kf1.1,Kf2.1,Kf3.1,Kf6.1,Kf6.2.1,Kf5.1,Kf4.1⟩,mW.1,Kg1.1,Kg2.1,Kg3.1,Kr1.1,Kr2.1,Kr3.1,Kr4.1,Kr5.1,Kr6.1,Ku1.1,Ku2.1,Kn.1,Kp1.1,Kp2.1,Kp3.1,Kq1.1,Kq2.1⟩,?_⟩
 have Zs:=Ks.2.2
 have Za1:=je.2.2
 have Za2:=kW.2.2
 have Za3:=oZ.2.2
 have Zk:=Kk.2.2
 have Zt:=Kt.2.2
 have Zf:=Kf.2.2
 have Zf1:=Kf1.2.2
 have Zf2:=Kf2.2.2
 have Zf3:=Kf3.2.2
 have Zf4:=Kf4.2.2
 have Zf5:=Kf5.2.2
 have Zf6:=Kf6.2.2.2
 have Zf7:=Kf7.2
 have Ztr:=mW.2.2
 have Zg:=Kg.2.2
 have Zg1:=Kg1.2.2
 have Zg2:=Kg2.2.2
 have Zg3:=Kg3.2.2
 have Zr:=Kr.2.2
 have Zr1:=Kr1.2.2
 have Zr2:=Kr2.2.2
 have Zr3:=Kr3.2.2
 have Zr4:=Kr4.2.2
 have Zr5:=Kr5.2.2
 have Zr6:=Kr6.2.2
 have Zu:=Ku.2.2
 have Zu1:=Ku1.2.2
 have Zu2:=Ku2.2.2
 have Zu3:=Ku3.2
 have Zn:=Kn.2.2
 have Zp:=Kp.2.2
 have Zp1:=Kp1.2.2
 have Zp2:=Kp2.2.2
 have Zp3:=Kp3.2.2
 have Zq:=Kq.2.2
 have Zq1:=Kq1.2.2
 have Zq2:=Kq2.2.2
 clear Ks je kW oZ Kk Kt Kf Kf1 Kf2 Kf3 Kf4 Kf5 Kf6 Kf7 mW Kg Kg1 Kg2 Kg3 Kr Kr1 Kr2 Kr3 Kr4 Kr5 Kr6 Ku Ku1 Ku2 Ku3 Kn Kp Kp1 Kp2 Kp3 Kq Kq1 Kq2
 have Gs:=v2g Za1 Za2 Za3
 have Gf:=v3g Zf1 Zf2 Zf3 Zf4 Zf5 Zf6 Zf7
 have Gg:=v4g Zg1 Zg2 Zg3
 have Gr:=v5g Zr1 Zr2 Zr3 Zr4 Zr5 Zr6
 have Gu:=v6g Zu1 Zu2 Zu3
 have Gp:=v7g Zp1 Zp2 Zp3
 have Gq:=v8g Zq1 Zq2
 unfold z6e z8e y0n z1p
 rw [z9l]
 simp only [szs,z2j,z7q,y0k,y8c,z0r]
 exact k8t Zs Gs Zk Zt Zf Gf Ztr Zg Gg Zr Gr Zu Gu Zn Zp Gp Zq Gq
theorem y9h {v:V} {x:Inp} (h:z2r v=J x) (ok:okV v):InpI x∧sz (lV (z6e x))≤sz v:=by
 unfold z2r at h
 by_cases hk:v.kind=3
 ·rw [if_pos hk] at h
  obtain ⟨h1,h2⟩:=j5j h (z7e ok).2.2.2
  exact ⟨h1,by rw [z2j,z7f v];omega⟩
 ·rw [if_neg hk] at h;cases h
theorem y9r {x:V}:∀ {l:List V},x∈l→sz x≤szs l
 | y::r,h=>by
  simp only [szs]
  rcases mC.1 h with rfl|h
  ·omega
  ·have:=y9r h;omega
theorem InpL.of {x:Inp} (h:sz (lV (z6e x))≤60000):InpL x:=by
 unfold z6e z8e y0n z1p at h
 rw [z2j,z9l] at h
 simp only [szs,z2j,z7q,y0k,y8c,z0r,z5y,z6y] at h
 have ht:=j1j (x.tree.map z5j)
 rw [List.length_map] at ht
 refine ⟨by omega,by omega,fun n hn=>?_,by omega,by omega⟩
 have h1:=y9r (List.mem_map_of_mem (f:=z5j) hn)
 have h2:=j1j (n.cuts.map z0p)
 rw [List.length_map] at h2
 have h3:sz (z5j n)=24+(24+(24+(24+szs (n.cuts.map z0p)+0))):=by unfold z5j;rw [z2j];simp only [szs,z7q,z2j]
 omega
def zP:Inp:=⟨0,0,0,0,ByteArray.empty,j5s,[],⟨0,0,[]⟩,rpZ,⟨0,0,false⟩,0,⟨[],0,0⟩,0,0⟩
def z8q (rd:V→Option Inp) (l:List UInt8):Inp × Int :=
 match z4w l with
 | none=>(zP,10)
 | some v=>match rd v with
  | none=>(zP,490)
  | some x=>if okI x&&decide (z4o x=l) then (x,0) else (zP,490)
end Go.Proofs.YtdblnbnofjggnaaGreatDoor
