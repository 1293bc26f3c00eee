/- Parts of the proofs of chapter 49's laws: Jds Jnb Jtp Jtd. -/
import Derived.Test.YtdblnbnofjggnaaGreatDoorM43
import Derived.Test.YtdblnbnofjggnaaGreatDoorM10
import Derived.Test.YtdblnbnofjggnaaGreatDoorM28
set_option maxHeartbeats 8000000
set_option maxRecDepth 100000
open Go
open Lib renaming hid → hd_
open List renaming mem_cons_self → mS
open List renaming mem_cons → mC
open List renaming not_mem_nil → nM
open Option renaming bind_eq_some_iff → bE
open Nat renaming le_trans → lT
namespace Go.Proofs.YtdblnbnofjggnaaGreatDoor
open Go.RowKit
structure Thing where
 ok:World→Prop
 blk:Nat→Prop
 lt:∀ {W:World},ok W→∀ k,blk k→k < W.heap.size
 keep:∀ {W W':World} {row:Option Nat},ok W→W.grownBy W' row→(∀ k,blk k→row ≠ some k)→ok W'
def z5m (g:Nat) (t:TypeId) (cs:List Value):Thing :=
 ⟨fun W=>CB W g t cs,fun k=>k = g,fun h _k e=>e ▸ h.lt,fun h hg hr=>h.keep (hg.block _ h.lt (fun e=>hr g rfl e.symm))⟩
def x1h {α:Type} (K:EK α) (t:TypeId) (b:Nat) (v:Value) (l:List α):Thing :=
 ⟨fun W=>z7m K t W b v l,fun k=>v.ownBlock = some k,fun h k e=>(h.lt k e).2,fun h hg hr=>z7m.keepR h hg (by
  cases hv:v.ownBlock with
  | none=>exact .inl rfl
  | some k=>exact .inr fun e=>hr k hv e.symm)⟩
theorem y9e (x:V):sz x = 24 + x.s.size + szs x.l:=by obtain ⟨k,n,s,l⟩:=x;rfl
theorem j4e {k:Int} {l r:List V} {x:V} (h:nxt k l = some (x,r)):sz x + szs r = szs l:=by
 cases l with
 | nil=>cases h
 | cons y t =>
  have h:(if y.kind = k then some (y,t) else none) = some (x,r):=h
  by_cases hk:y.kind = k
  · rw [if_pos hk] at h;injection h with h;injection h with h1 h2;subst h1 h2;rfl
  · rw [if_neg hk] at h;cases h
theorem j5e {l:List V} {a:Int} {r:List V} (h:z2f l = some (a,r)):szs r ≤ szs l:=by
 unfold z2f at h
 obtain ⟨⟨x,t⟩,h1,h2⟩:=bE.1 h
 injection h2 with h2;injection h2 with _ h2;subst h2
 have:=j4e h1;show szs t ≤ _;omega
theorem j4z {l:List V} {a:ByteArray} {r:List V} (h:x4m l = some (a,r)):szs r ≤ szs l:=by
 unfold x4m at h
 obtain ⟨⟨x,t⟩,h1,h2⟩:=bE.1 h
 injection h2 with h2;injection h2 with _ h2;subst h2
 have:=j4e h1;show szs t ≤ _;omega
theorem y9o {l p r:List V} (h:z5k l = some (p,r)):szs p + szs r ≤ szs l:=by
 unfold z5k at h
 obtain ⟨⟨x,t⟩,h1,h2⟩:=bE.1 h
 injection h2 with h2;injection h2 with h3 h2;subst h2 h3
 have:=j4e h1;have:=y9e x;show szs x.l + szs t ≤ _;omega
theorem j5z {l:List V} {a:Bool} {r:List V} (h:y5o l = some (a,r)):szs r ≤ szs l:=by
 unfold y5o at h
 obtain ⟨⟨x,t⟩,h1,h2⟩:=bE.1 h
 injection h2 with h2;injection h2 with _ h2;subst h2
 exact j5e h1
theorem j6z {l:List V} {a:Int × Int} {r:List V} (h:y1e l = some (a,r)):szs r ≤ szs l:=by
 unfold y1e at h
 simp only [bE] at h
 obtain ⟨⟨p,t⟩,h1,b,h2,c,h3,h4⟩:=h
 injection h4 with h4;injection h4 with _ h4;subst h4
 have:=y9o h1;show szs t ≤ _;omega
theorem y9x:∀ l:List V,24 * l.length ≤ szs l
 | []=>by simp
 | x :: r=>by have:=y9x r;have:=y9e x;simp only [szs,List.length_cons];omega
structure DFin (w0:World) (G:Option Nat) (ts:List Thing) (W:World):Prop where
 gr:w0.grownBy W G
 thg:∀ t ∈ ts,t.ok W
structure DSt (w0:World) (G:Option Nat) (B:Nat) (cs:List (Nat × List V)) (ts:List Thing) (W:World):Prop where
 gr:w0.grownBy W G
 hB:B ≤ W.heap.size
 cur:∀ p ∈ cs,z3g B W p.1 p.2
 sm:∀ p ∈ cs,szs p.2 ≤ 1000000
 row:∀ p ∈ cs,w0.heap.size ≤ p.1∨G = some p.1
 nod:(cs.map Prod.fst).Nodup
 thg:∀ t ∈ ts,t.ok W
 far:∀ t ∈ ts,∀ p ∈ cs,¬ t.blk p.1
section
variable {w0 W W':World} {G:Option Nat} {B g n:Nat} {l r p:List V} {cs:List (Nat × List V)} {ts:List Thing} {t:Thing}
theorem z3g.lt' (h:z3g B W g l):g < W.heap.size:=h.2.elim fun _ h=>h.1.lt
theorem DSt.fin (h:DSt w0 G B cs ts W):DFin w0 G ts W:=⟨h.gr,h.thg⟩
theorem DSt.drop (h:DSt w0 G B ((g,l) :: cs) ts W):DSt w0 G B cs ts W :=
 ⟨h.gr,h.hB,fun p hp=>h.cur p (List.mem_cons_of_mem _ hp),fun p hp=>h.sm p (List.mem_cons_of_mem _ hp),fun p hp=>h.row p (List.mem_cons_of_mem _ hp),(List.nodup_cons.1 h.nod).2,h.thg,fun t ht p hp=>h.far t ht p (List.mem_cons_of_mem _ hp)⟩
theorem DSt.top (h:DSt w0 G B ((g,l) :: cs) ts W):z3g B W g l:=h.cur _ mS
theorem DSt.grB (h:DSt w0 G B ((g,l) :: cs) ts W) (hg:W.grownBy W' (some g)):w0.grownBy W' G :=
 z2a h.gr hg (by
  rcases h.row _ mS with h1 | h1
  · exact .inr fun q e=>by injection e with e;subst e;exact h1
  · exact .inl h1.symm)
theorem DSt.thgB (h:DSt w0 G B ((g,l) :: cs) ts W) (hg:W.grownBy W' (some g)):∀ t ∈ ts,t.ok W' :=
 fun t ht=>t.keep (h.thg t ht) hg fun k hk e=>by injection e with e;subst e;exact h.far t ht _ mS hk
theorem DSt.stop (h:DSt w0 G B ((g,l) :: cs) ts W) (hg:W.grownBy W' (some g)):DFin w0 G ts W':=⟨h.grB hg,h.thgB hg⟩
theorem DSt.step (h:DSt w0 G B ((g,l) :: cs) ts W) (hg:W.grownBy W' (some g)) (hc:z3g B W' g r) (hz:szs r ≤ szs l):DSt w0 G B ((g,r) :: cs) ts W':=by
 have hn:=List.nodup_cons.1 h.nod
 refine ⟨h.grB hg,lT h.hB hg.size,fun p hp=>?_,fun p hp=>?_,fun p hp=>?_,?_,h.thgB hg,fun t ht p hp=>?_⟩
 · rcases mC.1 hp with rfl | hp
   · exact hc
   · refine (h.cur p (List.mem_cons_of_mem _ hp)).keep hg h.hB fun q e=>?_
     injection e with e;subst e
     exact ⟨fun e=>hn.1 (show g ∈ List.map Prod.fst cs from e ▸ (List.mem_map.2 ⟨p,hp,rfl⟩)),h.top.1⟩
 · rcases mC.1 hp with rfl | hp
   · exact lT hz (h.sm (g,l) mS)
   · exact h.sm p (List.mem_cons_of_mem _ hp)
 · rcases mC.1 hp with rfl | hp
   · exact h.row (g,l) mS
   · exact h.row p (List.mem_cons_of_mem _ hp)
 · exact h.nod
 · rcases mC.1 hp with rfl | hp
   · exact h.far t ht (g,l) mS
   · exact h.far t ht p (List.mem_cons_of_mem _ hp)
theorem DSt.push (h:DSt w0 G B cs ts W) (hn:W.heap.size ≤ n) (hb:Below W.heap.size W W') (hc:z3g B W' n p) (hz:szs p ≤ 1000000):DSt w0 G B ((n,p) :: cs) ts W':=by
 refine ⟨z2a h.gr (z0d hb) (.inr fun q e=>by cases e),lT h.hB hb.size,fun p hp=>?_,fun p hp=>?_,fun p hp=>?_,?_,fun t ht=>t.keep (h.thg t ht) (z0d hb) (fun _ _ e=>by cases e),fun t ht p hp=>?_⟩
 · rcases mC.1 hp with rfl | hp
   · exact hc
   · exact (h.cur p hp).keep (z0d hb) h.hB (fun q e=>by cases e)
 · rcases mC.1 hp with rfl | hp
   · exact hz
   · exact h.sm p hp
 · rcases mC.1 hp with rfl | hp
   · exact .inl (lT h.gr.size hn)
   · exact h.row p hp
 · refine List.nodup_cons.2 ⟨fun hm=>?_,h.nod⟩
   obtain ⟨q,hq,e⟩:=List.mem_map.1 hm
   have:=(h.cur q hq).lt'
   have e:q.1 = n:=e
   omega
 · rcases mC.1 hp with rfl | hp
   · exact fun hk=>by have:=t.lt (h.thg t ht) _ hk;have:n < W.heap.size:=this;omega
   · exact h.far t ht p hp
theorem DSt.grow (h:DSt w0 G B cs ts W) (hb:Below W.heap.size W W'):DSt w0 G B cs ts W' :=
 ⟨z2a h.gr (z0d hb) (.inr fun q e=>by cases e),lT h.hB hb.size,fun p hp=>(h.cur p hp).keep (z0d hb) h.hB (fun q e=>by cases e),h.sm,h.row,h.nod,
  fun t ht=>t.keep (h.thg t ht) (z0d hb) (fun _ _ e=>by cases e),h.far⟩
theorem DSt.add (h:DSt w0 G B cs ts W) (t:Thing) (ht:t.ok W) (hf:∀ p ∈ cs,¬ t.blk p.1):DSt w0 G B cs (t :: ts) W :=
 ⟨h.gr,h.hB,h.cur,h.sm,h.row,h.nod,fun u hu=>(mC.1 hu).elim (fun e=>e ▸ ht) (fun hu=>h.thg u hu),fun u hu p hp=>(mC.1 hu).elim (fun e=>e ▸ hf p hp) (fun hu=>h.far u hu p hp)⟩
theorem DSt.sub (h:DSt w0 G B cs ts W) {ts':List Thing} (hs:∀ t ∈ ts',t ∈ ts):DSt w0 G B cs ts' W:=⟨h.gr,h.hB,h.cur,h.sm,h.row,h.nod,fun t ht=>h.thg t (hs t ht),fun t ht=>h.far t (hs t ht)⟩
theorem DSt.lst (h:DSt w0 G B ((g,l) :: cs) ts W) (hg:W.grownBy W' (some g)) (hc:z3g B W' g r) (hn:W.heap.size ≤ n) (hm:z3g B W' n p) (hz:szs p + szs r ≤ szs l):DSt w0 G B ((n,p) :: (g,r) :: cs) ts W':=by
 have h1:=h.step hg hc (by omega)
 have hl:=h.sm (g,l) mS
 have hl:szs l ≤ 1000000:=hl
 refine ⟨h1.gr,h1.hB,fun q hq=>?_,fun q hq=>?_,fun q hq=>?_,?_,h1.thg,fun t ht q hq=>?_⟩
 · rcases mC.1 hq with rfl | hq
   · exact hm
   · exact h1.cur q hq
 · rcases mC.1 hq with rfl | hq
   · show szs p ≤ _;omega
   · exact h1.sm q hq
 · rcases mC.1 hq with rfl | hq
   · exact .inl (lT h.gr.size hn)
   · exact h1.row q hq
 · refine List.nodup_cons.2 ⟨fun hx=>?_,h1.nod⟩
   have hx:n ∈ List.map Prod.fst ((g,l) :: cs):=hx
   obtain ⟨q,hq,e⟩:=List.mem_map.1 hx
   have:=(h.cur q hq).lt'
   have e:q.1 = n:=e
   omega
 · rcases mC.1 hq with rfl | hq
   · exact fun hk=>by have:=t.lt (h.thg t ht) _ hk;have:n < W.heap.size:=this;omega
   · exact h1.far t ht q hq
theorem DSt.put (tl:List Thing) (h:DSt w0 G B cs (tl ++ ts) W) (t':Thing) (row:Option Nat) (hg:W.grownBy W' row) (hr:∀ k,row = some k→(∃ t ∈ tl,t.blk k)∧w0.heap.size ≤ k∧B ≤ k) (ht':t'.ok W') (hb:∀ k,t'.blk k→(∃ t ∈ tl,t.blk k)∨W.heap.size ≤ k)
 (hd:∀ u ∈ ts,∀ k,row = some k→¬ u.blk k):DSt w0 G B cs (t' :: ts) W':=by
 have hf:∀ k,(∃ t ∈ tl,t.blk k)→∀ p ∈ cs,¬ p.1 = k:=fun k ⟨t,ht,hk⟩ p hp e=>h.far t (List.mem_append.2 (.inl ht)) p hp (e ▸ hk)
 refine ⟨z2a h.gr hg (.inr fun q e=>(hr q e).2.1),lT h.hB hg.size,fun p hp=>(h.cur p hp).keep hg h.hB (fun q e=>⟨fun e2=>hf q (hr q e).1 p hp e2.symm,(hr q e).2.2⟩),h.sm,h.row,h.nod,fun u hu=>?_,fun u hu p hp=>?_⟩
 · rcases mC.1 hu with rfl | hu
   · exact ht'
   · exact u.keep (h.thg u (List.mem_append.2 (.inr hu))) hg fun k hk e=>hd u hu k e hk
 · rcases mC.1 hu with rfl | hu
   · intro hk
     rcases hb _ hk with hk | hk
     · exact hf _ hk p hp rfl
     · have:=(h.cur p hp).lt';omega
   · exact h.far u (List.mem_append.2 (.inr hu)) p hp
def RdS {α:Type} (w0:World) (G:Option Nat) (B g:Nat) (cs:List (Nat × List V)) (ts:List Thing) (o:Option (α × List V)) (f:α→Value) (e:Ending) (w':World):Prop :=
 (∃ a r,o = some (a,r)∧e = .returned (f a)∧DSt w0 G B ((g,r) :: cs) ts w')∨(o = none∧e = .panicked y6g∧DFin w0 G ts w')
theorem RdP.st {α:Type} {o:Option (α × List V)} {f:α→Value} {e:Ending} (h:DSt w0 G B ((g,l) :: cs) ts W) (hp:RdP B g W o f e W') (hz:∀ a r,o = some (a,r)→szs r ≤ szs l):RdS w0 G B g cs ts o f e W':=by
 cases o with
 | none=>exact .inr ⟨rfl,hp.1,h.stop hp.2⟩
 | some p =>
  obtain ⟨a,r⟩:=p
  exact .inl ⟨a,r,rfl,hp.1,h.step hp.2.2 hp.2.1 (hz a r rfl)⟩
theorem DSt.num (h:DSt w0 G B ((g,l) :: cs) ts W):Calls Tryz.prog 59 #[.pointer (some ⟨g,0,none⟩)] W (RdS w0 G B g cs ts (z2f l) (fun n=>.int .i64 n)):=(z2m B g l W h.top).mono fun _ _ hp=>RdP.st h hp (fun _a _r e=>j5e e)
theorem DSt.txt (h:DSt w0 G B ((g,l) :: cs) ts W):Calls Tryz.prog 60 #[.pointer (some ⟨g,0,none⟩)] W (RdS w0 G B g cs ts (x4m l) (fun s=>.string s)):=(x3t B g l W h.top).mono fun _ _ hp=>RdP.st h hp (fun _a _r e=>j4z e)
theorem DSt.flg (h:DSt w0 G B ((g,l) :: cs) ts W):Calls Tryz.prog 63 #[.pointer (some ⟨g,0,none⟩)] W (RdS w0 G B g cs ts (y5o l) (fun b=>.bool b)):=(x4t B g l W h.top).mono fun _ _ hp=>RdP.st h hp (fun _a _r e=>j5z e)
theorem DSt.spn (h:DSt w0 G B ((g,l) :: cs) ts W):Calls Tryz.prog 62 #[.pointer (some ⟨g,0,none⟩)] W (RdS w0 G B g cs ts (y1e l) (fun p=>.agg #[.int .i64 p.1,.int .i64 p.2])):=(x5t B g l W h.top h.hB).mono fun _ _ hp=>RdP.st h hp (fun _a _r e=>j6z e)
theorem DSt.lis (h:DSt w0 G B ((g,l) :: cs) ts W):Calls Tryz.prog 58 #[.pointer (some ⟨g,0,none⟩)] W fun e w' =>
 (∃ p r n,z5k l = some (p,r)∧e = .returned (.pointer (some ⟨n,0,none⟩))∧W.heap.size ≤ n∧DSt w0 G B ((n,p) :: (g,r) :: cs) ts w')∨(z5k l = none∧e = .panicked y6g∧DFin w0 G ts w'):=by
 refine (y0k B g l W h.top h.hB).mono fun e w' hp=>?_
 cases ho:z5k l with
 | none=>rw [ho] at hp;exact .inr ⟨rfl,hp.1,h.stop hp.2⟩
 | some q =>
  obtain ⟨p,r⟩:=q
  rw [ho] at hp
  obtain ⟨n,e1,h1,h2,h3,h4⟩:=hp
  exact .inl ⟨p,r,n,rfl,e1,h1,h.lst h4 h3 h1 h2 (y9o ho)⟩
theorem DSt.len (h:DSt w0 G B ((g,l) :: cs) ts W):∃ oa cap,W.cell? ⟨g,0,none⟩ = some (.slice oa l.length cap):=by
 obtain ⟨-,lv,h1,h2⟩:=h.top
 obtain ⟨oa,cap,rfl⟩:=z6n h2
 exact ⟨oa,cap,h1.cell 0⟩
end
def x6t:Value→Nat | .slice _ n _=>n | _=>0
def k5x (B c:Nat) (l:List V) (w:World) (e:Ending) (w':World):Prop :=
 (∃ q r v,y0r l = some (q,r)∧e = .returned v∧z7m nuK 3 w' w.heap.size v q∧z3g B w' c r∧w.grownBy w' (some c))∨(y0r l = none∧e = .panicked y6g∧w.grownBy w' (some c))
theorem j6e {B c:Nat} {l:List V} {w:World} (hc:z3g B w c l) (hB:B ≤ w.heap.size) (hz:szs l ≤ 1000000):DSt w (some c) B [(c,l)] [] w :=
 ⟨z7b w _,hB,fun p hp=>by rcases List.mem_singleton.1 hp with rfl;exact hc,fun p hp=>by rcases List.mem_singleton.1 hp with rfl;exact hz,fun p hp=>by rcases List.mem_singleton.1 hp with rfl;exact .inr rfl,by simp,fun t ht=>(nM ht).elim,fun t ht=>(nM ht).elim⟩
structure NbRel (B c n:Nat) (w:World) (pl pr:List V) (v:Value) (wr:World):Prop where
 h:∃ q rest,z6k pl = (z6k rest).map (q ++ ·)∧DSt w (some c) B [(n,rest),(c,pr)] [x1h nuK 3 w.heap.size v q] wr∧q.length + rest.length = pl.length
theorem x7t {x:V} {r q pl:List V} {n:Int} {u:List Int} (h:z6k pl = (z6k (x :: r)).map (u ++ ·)) (hn:z2f (x :: r) = some (n,q)):q = r∧z6k pl = (z6k r).map ((u ++ [n]) ++ ·):=by
 have hq:q = r:=by
  unfold z2f at hn
  obtain ⟨⟨y,t⟩,e1,e2⟩:=bE.1 hn
  injection e2 with e2;injection e2 with _ e2
  have e1:(if x.kind = 1 then some (x,r) else none) = some (y,t):=e1
  by_cases hk:x.kind = 1
  · rw [if_pos hk] at e1;injection e1 with e1;injection e1 with _ e1;rw [← e2,← e1]
  · rw [if_neg hk] at e1;cases e1
 refine ⟨hq,h.trans ?_⟩
 simp only [z6k,hn,Option.bind_some]
 cases z6k r with
 | none=>rfl
 | some t=>simp
theorem x8t {x:V} {r pl:List V} {u:List Int} (h:z6k pl = (z6k (x :: r)).map (u ++ ·)) (hn:z2f (x :: r) = none):z6k pl = none:=by
 rw [h];simp only [z6k,hn,Option.bind_none,Option.map_none]
theorem j6n {l pl pr:List V} {u:List Int} (hL:z5k l = some (pl,pr)) (h:z6k pl = (z6k []).map (u ++ ·)):y0r l = some (u,pr):=by
 unfold y0r;rw [hL];show (z6k pl).bind _ = _;rw [h];simp [z6k]
theorem j7n {l pl pr:List V} (hL:z5k l = some (pl,pr)) (h:z6k pl = none):y0r l = none:=by
 unfold y0r;rw [hL];show (z6k pl).bind _ = _;rw [h];rfl
theorem j7z:(Tryz.prog.info? 3).map (fun i=>(i.zero,i.size,i.bytes)) = some (some (.int .i64 0),1,8):=by kernel_rfl
theorem j7e (B c:Nat) (l:List V) (w:World) (hc:z3g B w c l) (hB:B ≤ w.heap.size) (hz:szs l ≤ 1000000):Calls Tryz.prog 61 #[.pointer (some ⟨c,0,none⟩)] w (k5x B c l w):=by
 have HS:=hd_ (j6e hc hB hz)
 have HB:=hd_ hB
 clear hc hB hz
 go_enter Tryz.func61,Tryz.ntmps61
 go_wp2_with (go_at_call 58;refine HS.out.lis.mono ?_;go_loud (rintro e w1 (⟨pl,pr,n,hL,rfl,hn,hs⟩ | ⟨hL,rfl,hf⟩)))
 case inr=>exact ⟨rfl,.inr ⟨by unfold y0r;rw [hL];rfl,rfl,hf.gr⟩⟩
 have HL:=hd_ hL;have Hs:=hd_ hs
 have HP:Hid (pl.length ≤ 100000):=hd_ (by
  have h1:=y9x pl
  have h2:szs pl ≤ 1000000:=hs.sm (n,pl) mS
  omega)
 clear HS hL hn hs
 go_loopw [2] (fun v wr=>NbRel B c n w pl pr v wr) (fun v _=>pl.length - x6t v)
 case atStart=>exact ⟨⟨[],pl,by simp,Hs.out.add _ (z7m.nil _ _ _) (fun p hp h=>by cases h),by simp⟩⟩
 case round =>
  obtain ⟨q,rest,hA,hS,hlq⟩:=hrel.h
  clear hrel
  obtain ⟨oc,cp,c0⟩:=hS.len
  have HO:=hd_ (hS.thg _ mS)
  replace HO:Hid (z7m nuK 3 wr w.heap.size _ q):=HO
  obtain ⟨ov,cv,hv,-⟩:=HO.out.rd.shape
  subst hv
  have HS:=hd_ hS;have HA:=hd_ hA;have HQ:=hd_ hlq
  have hsm:szs rest ≤ 1000000:=hS.sm (n,rest) mS
  clear hS hA hlq
  cases rest with
  | nil =>
   clear hsm
   go_wp2_with fail
   go_ret
   exact .inl ⟨q,pr,_,j6n HL.out HA.out,rfl,HO.out,HS.out.cur (c,pr) (by simp),HS.out.gr⟩
  | cons x r =>
   obtain ⟨nn,hnn⟩:∃ nn,r.length + 1 = nn:=⟨_,rfl⟩
   have hlen:=y9x (x :: r)
   have c0:wr.cell? ⟨n,0,none⟩ = some (Value.slice oc nn cp):=by rw [← hnn];exact c0
   have z0:(0:Int) < (nn:Int):=by omega
   have z1:decide ((0:Int) < (nn:Int)) = true:=decide_eq_true z0
   have z2:0 < nn:=by omega
   have z3:decide (0 < nn) = true:=decide_eq_true z2
   have Hq:Hid (q.length ≤ 100000):=hd_ (by have:=HQ.out;have:=HP.out;omega)
   clear hnn hlen hsm
   go_wp2_with (first
    | (have _g:=HS.out;go_at_call 59;refine HS.out.num.mono ?_;go_loud (rintro e w2 (⟨a,r2,hN,rfl,hs⟩ | ⟨hN,rfl,hf⟩));rotate_left;(have hbad:=hd_ (x8t HA.out hN);clear HS);rotate_left;(
     obtain ⟨rfl,hA2⟩:=x7t HA.out hN
     have HA3:=hd_ hA2
     have HS3:=hd_ (hs.grow (z5b (.cells [Value.int .i64 a].toArray 3)))
     have HO3:=hd_ (show z7m nuK 3 (w2.alloc (.cells [Value.int .i64 a].toArray 3)) w.heap.size (.slice ov q.length cv) q from HS3.out.thg _ mS)
     have HS4:Hid (Src Tryz.prog 1 24 (.slice (some ⟨w2.heap.size,0,none⟩) 1 1) 1 (nuK.flat [a]) (w2.alloc (.cells [Value.int .i64 a].toArray 3))):=x7w (K:=nuK) (a:=a) Tryz.underlying24 (CB.new w2 _ _)
     have HW3:Hid (w.heap.size ≤ (w2.alloc (.cells [Value.int .i64 a].toArray 3)).heap.size):=HS3.out.gr.size
     clear hs hN hA2 HS))
    | (at_builtin;have _g:=HS4.out;refine z4h (e:=3) (z:=(.int .i64 0)) (size:=1) (bytes:=8) Tryz.underlying24 j7z rfl rfl _ _ rfl w.heap.size _ q.length (nuK.flat q) rfl HO3.out _ 1 (nuK.flat [a]) rfl HS4.out (by have:=Hq.out;unfold maxLen;omega) (by have:=Hq.out;omega) HW3.out ?_;intro v5 w5 ho5 hg5 hn5;have HO5:Hid (z7m nuK 3 w5 w.heap.size v5 (q ++ [a])):=z7m.append (K:=nuK) ho5 (by simp);have Hg5:=hd_ hg5;have Hn5:=hd_ hn5;clear HS4 ho5 hg5 hn5))
   all_goals (try (exact ⟨rfl,.inr ⟨j7n HL.out hbad.out,rfl,hf.gr⟩⟩))
   go_roundw
   case rel =>
    have hlt:=HO3.out.lt
    refine ⟨⟨q ++ [a],r2,HA3.out,HS3.out.put [x1h nuK 3 w.heap.size (.slice ov q.length cv) q] (x1h nuK 3 w.heap.size v5 (q ++ [a])) _ Hg5.out (fun k hk=>⟨⟨_,List.mem_singleton.2 rfl,hk⟩,(hlt k hk).1,lT HB.out (hlt k hk).1⟩) HO5.out (fun k hk=>?_) (fun u hu=>(nM hu).elim),?_⟩⟩
    · rcases Hn5.out with h | h
      · exact .inl ⟨_,List.mem_singleton.2 rfl,h.symm.trans hk⟩
      · exact .inr (h k hk)
    · have:=HQ.out;simp at this ⊢;omega
   case measure =>
    obtain ⟨o5,c5,hv5,-⟩:=HO5.out.rd.shape
    rw [hv5]
    have:=HQ.out
    simp [x6t] at this ⊢
    omega
def x5v (b:Nat) (v:Value) (rl:List Nb) (q:List Nod) (W:World):Prop :=
 z7m ndK 48 W b v rl∧rl.length = q.length∧∀ (i:Nat) (t:Nod) (r:Nb),q[i]? = some t→rl[i]? = some r→r.par = t.par∧r.frm = t.frm∧z7m cuK 88 W b r.cv t.cuts∧∀ k,r.cv.ownBlock = some k→v.ownBlock ≠ some k
def j8z (v:Value) (rl:List Nb) (k:Nat):Prop:=v.ownBlock = some k∨∃ r ∈ rl,r.cv.ownBlock = some k
theorem x5v.mem {b:Nat} {v:Value} {rl:List Nb} {q:List Nod} {W:World} (h:x5v b v rl q W) {r:Nb} (hr:r ∈ rl):∃ t:Nod,z7m cuK 88 W b r.cv t.cuts∧∀ k,r.cv.ownBlock = some k→v.ownBlock ≠ some k:=by
 obtain ⟨i,hi,rfl⟩:=List.mem_iff_getElem.1 hr
 have hq:i < q.length:=by have:=h.2.1;omega
 obtain ⟨-,-,h3,h4⟩:=h.2.2 i q[i] rl[i] (List.getElem?_eq_getElem hq) (List.getElem?_eq_getElem hi)
 exact ⟨_,h3,h4⟩
theorem x5v.low {b:Nat} {v:Value} {rl:List Nb} {q:List Nod} {W:World} (h:x5v b v rl q W) {k:Nat} (hk:j8z v rl k):b ≤ k∧k < W.heap.size:=by
 rcases hk with hk | ⟨r,hr,hk⟩
 · exact h.1.lt k hk
 · obtain ⟨t,h1,-⟩:=h.mem hr
   exact h1.lt k hk
theorem y5a {α:Type} {K:EK α} {e:TypeId} {w w':World} {base:Nat} {v:Value} {l:List α} {row:Option Nat} (h:z7m K e w base v l) (hg:w.grownBy w' row) (hne:∀ k,v.ownBlock = some k→row ≠ some k):z7m K e w' base v l :=
 (x1h K e base v l).keep h hg hne
def x9a (b:Nat) (v:Value) (rl:List Nb) (q:List Nod):Thing :=
 ⟨x5v b v rl q,j8z v rl,fun h k hk=>(h.low hk).2,fun {W W'} {row} h hg hr =>
  ⟨y5a h.1 hg (fun k hk=>hr k (.inl hk)),h.2.1,fun i t r ht hi=>by
   obtain ⟨a1,a2,a3,a4⟩:=h.2.2 i t r ht hi
   exact ⟨a1,a2,y5a a3 hg (fun k hk=>hr k (.inr ⟨r,List.mem_of_getElem? hi,hk⟩)),a4⟩⟩⟩
theorem x5v.nil (b:Nat) (W:World):x5v b (.slice none 0 0) [] [] W:=⟨z7m.nil _ _ _,rfl,fun i t r h=>by simp at h⟩
theorem x5v.app {b:Nat} {v v':Value} {rl:List Nb} {q:List Nod} {W W':World} {t:Nod} {r:Nb} (h:x5v b v rl q W) (hr:r.par = t.par∧r.frm = t.frm) (hc:z7m cuK 88 W b r.cv t.cuts)
 (hd:∀ k,r.cv.ownBlock = some k→¬ j8z v rl k) (hg:W.grownBy W' v.ownBlock) (ho:z7m ndK 48 W' b v' (rl ++ [r])) (hn:y7g W v v'):x5v b v' (rl ++ [r]) (q ++ [t]) W':=by
 have hnew:∀ (x:Nb) (u:Nod),z7m cuK 88 W b x.cv u.cuts→(∀ k,x.cv.ownBlock = some k→v.ownBlock ≠ some k)→z7m cuK 88 W' b x.cv u.cuts∧∀ k,x.cv.ownBlock = some k→v'.ownBlock ≠ some k:=fun x u h1 h2=>by
  refine ⟨y5a h1 hg h2,fun k hk e=>?_⟩
  rcases hn with hn | hn
  · exact h2 k hk (hn ▸ e)
  · have:=hn k e;have:=(h1.lt k hk).2;omega
 refine ⟨ho,by simp [h.2.1],fun i u x hu hx=>?_⟩
 by_cases hi:i < q.length
 · rw [List.getElem?_append_left hi] at hu
   rw [List.getElem?_append_left (by rw [h.2.1];exact hi)] at hx
   obtain ⟨a1,a2,a3,a4⟩:=h.2.2 i u x hu hx
   obtain ⟨b1,b2⟩:=hnew x u a3 a4
   exact ⟨a1,a2,b1,b2⟩
 · have hi2:i = q.length:=by
    have:=(List.getElem?_eq_some_iff.1 hu).1;simp at this;omega
   subst hi2
   rw [List.getElem?_append_right (Nat.le_refl _),Nat.sub_self] at hu
   rw [← h.2.1,List.getElem?_append_right (Nat.le_refl _),Nat.sub_self] at hx
   simp at hu hx
   subst hu hx
   obtain ⟨b1,b2⟩:=hnew r t hc (fun k hk e=>hd k hk (.inl e))
   exact ⟨hr.1,hr.2,b1,b2⟩
theorem x5v.at {b:Nat} {v:Value} {rl:List Nb} {q:List Nod} {W:World} (h:x5v b v rl q W):z6j W q v :=
 ⟨rl,h.1.rd,h.2.1,fun i t r ht hi=>by
  obtain ⟨a1,a2,a3,a4⟩:=h.2.2 i t r ht hi
  exact ⟨a1,a2,a3.rd⟩⟩
theorem k9l {l:List V} (h:y5o l = none):x6a l = none:=by unfold x6a;rw [h];rfl
theorem k0m {l r:List V} {a:Bool} (h:y5o l = some (a,r)) (h2:z2f r = none):x6a l = none:=by unfold x6a;rw [h];show (z2f r).bind _ = none;rw [h2];rfl
theorem k1m {l r s:List V} {a:Bool} {b:Int} (h:y5o l = some (a,r)) (h2:z2f r = some (b,s)) (h3:y1e s = none):x6a l = none:=by unfold x6a;rw [h];show (z2f r).bind _ = none;rw [h2];show (y1e s).bind _ = none;rw [h3];rfl
theorem k2m {l r s t:List V} {a:Bool} {b:Int} {c:Int × Int} (h:y5o l = some (a,r)) (h2:z2f r = some (b,s)) (h3:y1e s = some (c,t)) (h4:z2f t = none):x6a l = none:=by
 unfold x6a;rw [h];show (z2f r).bind _ = none;rw [h2];show (y1e s).bind _ = none;rw [h3];show (z2f t).bind _ = none;rw [h4];rfl
theorem k3m {l r s t u:List V} {a:Bool} {b d:Int} {c:Int × Int} (h:y5o l = some (a,r)) (h2:z2f r = some (b,s)) (h3:y1e s = some (c,t)) (h4:z2f t = some (d,u)):x6a l = some ⟨a,b,c.1,c.2,d⟩:=by
 unfold x6a;rw [h];show (z2f r).bind _ = _;rw [h2];show (y1e s).bind _ = _;rw [h3];show (z2f t).bind _ = _;rw [h4];rfl
theorem k4m {l:List V} (h:z2f l = none):x7a l = none:=by unfold x7a;rw [h];rfl
theorem k5m {l r:List V} {a:Int} (h:z2f l = some (a,r)) (h2:z2f r = none):x7a l = none:=by unfold x7a;rw [h];show (z2f r).bind _ = none;rw [h2];rfl
theorem k6m {l r s:List V} {a b:Int} (h:z2f l = some (a,r)) (h2:z2f r = some (b,s)) (h3:z5k s = none):x7a l = none:=by unfold x7a;rw [h];show (z2f r).bind _ = none;rw [h2];show (z5k s).bind _ = none;rw [h3];rfl
theorem y0y {l r s p t:List V} {a b:Int} (h:z2f l = some (a,r)) (h2:z2f r = some (b,s)) (h3:z5k s = some (p,t)) (h4:z2h p = none):x7a l = none:=by
 unfold x7a;rw [h];show (z2f r).bind _ = none;rw [h2];show (z5k s).bind _ = none;rw [h3];show (z2h p).bind _ = none;rw [h4];rfl
theorem k7m {l r s p t:List V} {a b:Int} {q:List Cut} (h:z2f l = some (a,r)) (h2:z2f r = some (b,s)) (h3:z5k s = some (p,t)) (h4:z2h p = some q):x7a l = some ⟨a,b,q⟩:=by
 unfold x7a;rw [h];show (z2f r).bind _ = _;rw [h2];show (z5k s).bind _ = _;rw [h3];show (z2h p).bind _ = _;rw [h4];rfl
theorem j1u {x:V} {r p t:List V} (h:z5k (x :: r) = some (p,t)):t = r:=by
 unfold z5k at h
 obtain ⟨⟨y,u⟩,e1,e2⟩:=bE.1 h
 injection e2 with e2;injection e2 with _ e2
 have e1:(if x.kind = 3 then some (x,r) else none) = some (y,u):=e1
 by_cases hk:x.kind = 3
 · rw [if_pos hk] at e1;injection e1 with e1;injection e1 with _ e1;rw [← e2,← e1]
 · rw [if_neg hk] at e1;cases e1
theorem j9z {x:V} {r pl:List V} {u:List Cut} (h:z2h pl = (z2h (x :: r)).map (u ++ ·)) (h1:z5k (x :: r) = none):z2h pl = none:=by rw [h];simp only [z2h,h1,Option.bind_none,Option.map_none]
theorem y0p {x:V} {r p t pl:List V} {u:List Cut} (h:z2h pl = (z2h (x :: r)).map (u ++ ·)) (h1:z5k (x :: r) = some (p,t)) (h2:x6a p = none):z2h pl = none:=by rw [h];simp only [z2h,h1,h2,Option.bind_some,Option.bind_none,Option.map_none]
theorem k0a {x:V} {r p t pl:List V} {u:List Cut} {c:Cut} (h:z2h pl = (z2h (x :: r)).map (u ++ ·)) (h1:z5k (x :: r) = some (p,t)) (h2:x6a p = some c):z2h pl = (z2h r).map ((u ++ [c]) ++ ·):=by
 refine h.trans ?_
 simp only [z2h,h1,h2,Option.bind_some]
 cases z2h r with
 | none=>rfl
 | some t=>simp
theorem j8e {pl:List V} {u:List Cut} (h:z2h pl = (z2h []).map (u ++ ·)):z2h pl = some u:=by rw [h];simp [z2h]
theorem k1a {x:V} {r pl:List V} {u:List Nod} (h:z2g pl = (z2g (x :: r)).map (u ++ ·)) (h1:z5k (x :: r) = none):z2g pl = none:=by rw [h];simp only [z2g,h1,Option.bind_none,Option.map_none]
theorem z8q {x:V} {r p t pl:List V} {u:List Nod} (h:z2g pl = (z2g (x :: r)).map (u ++ ·)) (h1:z5k (x :: r) = some (p,t)) (h2:x7a p = none):z2g pl = none:=by rw [h];simp only [z2g,h1,h2,Option.bind_some,Option.bind_none,Option.map_none]
theorem k2a {x:V} {r p t pl:List V} {u:List Nod} {c:Nod} (h:z2g pl = (z2g (x :: r)).map (u ++ ·)) (h1:z5k (x :: r) = some (p,t)) (h2:x7a p = some c):z2g pl = (z2g r).map ((u ++ [c]) ++ ·):=by
 refine h.trans ?_
 simp only [z2g,h1,h2,Option.bind_some]
 cases z2g r with
 | none=>rfl
 | some t=>simp
theorem j9e {pl:List V} {u:List Nod} (h:z2g pl = (z2g []).map (u ++ ·)):z2g pl = some u:=by rw [h];simp [z2g]
theorem j8n {l pl pr:List V} {u:List Nod} (hL:z5k l = some (pl,pr)) (h:z2g pl = (z2g []).map (u ++ ·)):x8a l = some (u,pr):=by
 unfold x8a;rw [hL];show (z2g pl).bind _ = _;rw [j9e h];rfl
theorem z1p {l pl pr:List V} (hL:z5k l = some (pl,pr)) (h:z2g pl = none):x8a l = none:=by
 unfold x8a;rw [hL];show (z2g pl).bind _ = _;rw [h];rfl
def k6x (B c:Nat) (l:List V) (w:World) (e:Ending) (w':World):Prop :=
 (∃ q r v rl,x8a l = some (q,r)∧e = .returned v∧x5v w.heap.size v rl q w'∧z3g B w' c r∧w.grownBy w' (some c))∨(x8a l = none∧e = .panicked y6g∧w.grownBy w' (some c))
structure TdRel (B c s:Nat) (w:World) (sl pr:List V) (v:Value) (wr:World):Prop where
 h:∃ q rl rest,z2g sl = (z2g rest).map (q ++ ·)∧DSt w (some c) B [(s,rest),(c,pr)] [x9a w.heap.size v rl q] wr∧q.length + rest.length = sl.length
structure CtRel (B c s x k n bn:Nat) (w:World) (cl xr r pr:List V) (par frm:Int) (v:Value) (rl:List Nb) (q:List Nod) (wr:World):Prop where
 h:∃ cv cq crest,z2h cl = (z2h crest).map (cq ++ ·)∧DSt w (some c) B [(k,crest),(x,xr),(s,r),(c,pr)] [x1h cuK 88 bn cv cq,z5m n 48 [.int .i64 par,.int .i64 frm,cv],x9a w.heap.size v rl q] wr∧cq.length + crest.length = cl.length
theorem k3a:(Tryz.prog.info? 88).map (fun i=>(i.zero,i.size,i.bytes)) = some (some (.agg #[.bool false,.int .i64 0,.int .i64 0,.int .i64 0,.int .i64 0]),5,40):=by kernel_rfl
theorem k4a:(Tryz.prog.info? 48).map (fun i=>(i.zero,i.size,i.bytes)) = some (some (.agg #[.int .i64 0,.int .i64 0,.slice none 0 0]),3,40):=by kernel_rfl
theorem j0f (a:Bool) (b c d e:Int):Tryz.prog.built 88 [(0,.bool a),(1,.int .i64 b),(2,.agg #[.int .i64 c,.int .i64 d]),(3,.int .i64 e)] = some ((⟨a,b,c,d,e⟩:Cut).cells).toArray:=by kernel_rfl
theorem j9n {n bn b k:Nat} {v:Value} {rl:List Nb} {q:List Nod} {cs:List Value} {u:Thing} (hu:u ∈ [z5m n 48 cs,x9a b v rl q]) (hk:bn ≤ k) (hl:n < bn∧∀ j,j8z v rl j→j < bn) (h:u.blk k):False:=by
 simp only [mC,nM,or_false] at hu
 rcases hu with rfl | rfl
 · have h:k = n:=h
   omega
 · have:=hl.2 k h;omega
theorem z2z {P:Program} {ops:Array Oper} {o:Oper} {a:Act} {S:World→Prop} (hw:Region.wanted o (yielded ops a.tmps) = true) (t:TypeId) (parts:Array (Nat × Operand)) (ho:o.op = .build t parts) (cells:List Value) (ps:List (Nat × Value)) (hps:(parts.toList.map fun (i,x)=>(i,a.eval x)) = ps)
 (hb:P.built t ps = some cells.toArray):YieldsIf P ops S o (.agg cells.toArray) a :=
 .inl ⟨hw,fun w _=>by
  unfold execOp
  subst hps
  rw [← Array.toList_map] at hb
  simp only [ho,Sem.run_bind,run_build w t _ _ hb,Result.andThen_ok,Sem.run_pure]⟩
theorem x9t (B c:Nat) (l:List V) (w:World) (hc:z3g B w c l) (hB:B ≤ w.heap.size) (hz:szs l ≤ 1000000):Calls Tryz.prog 64 #[.pointer (some ⟨c,0,none⟩)] w (k6x B c l w):=by
 have HS:=hd_ (j6e hc hB hz)
 have HB:=hd_ hB
 clear hc hB hz
 go_enter Tryz.func64,Tryz.ntmps64
 go_wp2_with (go_at_call 58;refine HS.out.lis.mono ?_;go_loud (rintro e w1 (⟨sl,pr,s,hL,rfl,hn,hs⟩ | ⟨hL,rfl,hf⟩)))
 case inr=>exact ⟨rfl,.inr ⟨by unfold x8a;rw [hL];rfl,rfl,hf.gr⟩⟩
 have HL:=hd_ hL;have Hs:=hd_ hs
 have HP:Hid (sl.length ≤ 100000):=hd_ (by
  have h1:=y9x sl
  have h2:szs sl ≤ 1000000:=hs.sm (s,sl) mS
  omega)
 clear HS hL hn hs
 go_loopw [2] (fun v wr=>TdRel B c s w sl pr v wr) (fun v _=>sl.length - x6t v)
 case atStart=>exact ⟨⟨[],[],sl,by simp,Hs.out.add (x9a w.heap.size (.slice none 0 0) [] []) (x5v.nil _ _) (fun p hp h=>by rcases h with h | ⟨r,h,_⟩ <;> cases h),by simp⟩⟩
 case round =>
  obtain ⟨q,rl,rest,hA,hS,hlq⟩:=hrel.h
  clear hrel Hs
  obtain ⟨oc,cp,c0⟩:=hS.len
  have hO:x5v w.heap.size _ rl q wr:=hS.thg _ mS
  obtain ⟨ov,cv,hv,-⟩:=hO.1.rd.shape
  subst hv
  have HO:=hd_ hO;have HS:=hd_ hS;have HA:=hd_ hA;have HQ:=hd_ hlq;have HRL:=hd_ hO.2.1
  clear hS hA hlq hO
  cases rest with
  | nil =>
   go_wp2_with fail
   go_ret
   exact .inl ⟨q,pr,_,rl,j8n HL.out HA.out,rfl,HO.out,HS.out.cur (c,pr) (by simp),HS.out.gr⟩
  | cons a r =>
   obtain ⟨nn,hnn⟩:∃ nn,r.length + 1 = nn:=⟨_,rfl⟩
   have c0:wr.cell? ⟨s,0,none⟩ = some (Value.slice oc nn cp):=by rw [← hnn];exact c0
   have z0nn:(0:Int) < (nn:Int):=by omega
   have z1nn:decide ((0:Int) < (nn:Int)) = true:=decide_eq_true z0nn
   have z2nn:0 < nn:=by omega
   have z3nn:decide (0 < nn) = true:=decide_eq_true z2nn
   clear hnn
   go_upto_region 5 with (first
    | (have _g:=HS.out;go_at_call 58;refine HS.out.lis.mono ?_;go_loud (rintro e w2 (⟨xl,r2,x,hX,rfl,hxn,h1⟩ | ⟨hX,rfl,hf⟩));rotate_left;(have hbad:=hd_ (k1a HA.out hX);clear HS);rotate_left;(obtain rfl:=j1u hX;have HX:=hd_ hX;have H1:=hd_ h1;have Hxn:=hd_ hxn;clear hX h1 hxn HS))
    | (have _g:=H1.out;go_at_call 59;refine H1.out.num.mono ?_;go_loud (rintro e w3 (⟨p1,x2,hN1,rfl,h2⟩ | ⟨hN1,rfl,hf⟩));rotate_left;(have hbad:=hd_ (z8q HA.out HX.out (k4m hN1));clear H1);rotate_left;(have HN1:=hd_ hN1;have H2:=hd_ h2;clear hN1 h2 H1))
    | (have _g:=H2.out;go_at_call 59;refine H2.out.num.mono ?_;go_loud (rintro e w4 (⟨p2,x3,hN2,rfl,h3⟩ | ⟨hN2,rfl,hf⟩));rotate_left;(have hbad:=hd_ (z8q HA.out HX.out (k5m HN1.out hN2));clear H2);rotate_left;(have HN2:=hd_ hN2;have H3:=hd_ h3;clear hN2 h3 H2)))
   all_goals (try (exact ⟨rfl,.inr ⟨z1p HL.out hbad.out,rfl,hf.gr⟩⟩))
   obtain ⟨n,hn⟩:∃ n,w4.heap.size = n:=⟨_,rfl⟩
   have hcb:CB (w4.alloc (.cells [.int .i64 p1,.int .i64 p2,.slice none 0 0].toArray 48)) n 48 [.int .i64 p1,.int .i64 p2,.slice none 0 0]:=by rw [← hn];exact z6a w4 _ 48 _ rfl
   have hba:Below w4.heap.size w4 (w4.alloc (.cells [.int .i64 p1,.int .i64 p2,.slice none 0 0].toArray 48)):=z5b _
   have H4:=hd_ ((H3.out.grow hba).add (z5m n 48 [.int .i64 p1,.int .i64 p2,.slice none 0 0]) hcb (fun p hp e=>by have:=(H3.out.cur p hp).lt';have:p.1 = n:=e;omega))
   have HlT:=hd_ (show ∀ j,j8z (.slice ov rl.length cv) rl j→j < n from fun j hj=>hn ▸ (x9a w.heap.size (.slice ov rl.length cv) rl q).lt (H3.out.thg _ mS) j hj)
   have Hnw:=hd_ (show w.heap.size ≤ n by have:=H3.out.gr.size;omega)
   rw [hn]
   change Code.wp _ _ _ _ (w4.alloc (.cells [.int .i64 p1,.int .i64 p2,.slice none 0 0].toArray 48))
   clear hcb hn hba
   generalize w4.alloc (.cells [.int .i64 p1,.int .i64 p2,.slice none 0 0].toArray 48) = w5 at *
   clear H3
   go_wp2_with (have _g:=H4.out;go_at_call 58;refine H4.out.lis.mono ?_;go_loud (rintro e w6 (⟨cl,x4,k,hK,rfl,hkn,h5⟩ | ⟨hK,rfl,hf⟩));rotate_left;(have hbad:=hd_ (z8q HA.out HX.out (k6m HN1.out HN2.out hK)));rotate_left;(have HK:=hd_ hK;have H5:=hd_ h5;clear hK h5))
   all_goals (try (exact ⟨rfl,.inr ⟨z1p HL.out hbad.out,rfl,hf.gr⟩⟩))
   have Hlow:=hd_ (show n < w5.heap.size∧∀ j,j8z (.slice ov rl.length cv) rl j→j < w5.heap.size from ⟨CB.lt (H4.out.thg (z5m n 48 _) mS),fun j hj=>(x9a w.heap.size (.slice ov rl.length cv) rl q).lt (H4.out.thg _ (List.mem_cons_of_mem _ mS)) j hj⟩)
   obtain ⟨bn,hbn⟩:∃ bn,w5.heap.size = bn:=⟨_,rfl⟩
   have Hbn6:Hid (bn ≤ w6.heap.size):=by rw [← hbn];exact hd_ (by have:=(H5.out.cur (k,cl) mS).lt';omega)
   rw [hbn] at Hlow
   have HP2:Hid (cl.length ≤ 100000):=hd_ (by
    have h1:=y9x cl
    have h2:szs cl ≤ 1000000:=H5.out.sm (k,cl) mS
    omega)
   have Hk6:Hid (bn ≤ k):=by rw [← hbn];exact hd_ hkn
   clear H4 hkn hbn Hxn
   obtain ⟨wo,rfl⟩:∃ wo:World,wo = wr:=⟨_,rfl⟩
   go_loopw [7] (fun _ wi=>CtRel B c s x k n bn w cl x4 r2 pr p1 p2 (.slice ov rl.length cv) rl q wi) (fun _ W=>cl.length - x6t ((W.cell? ⟨n,2,none⟩).getD undef))
   case atStart=>exact ⟨⟨.slice none 0 0,[],cl,by simp,H5.out.add (x1h cuK 88 bn (.slice none 0 0) []) (z7m.nil _ _ _) (fun p hp h=>by cases h),by simp⟩⟩
   case round =>
    obtain ⟨cw,cq,crest,hA2,hS2,hl2⟩:=hrel.h
    clear hrel H5
    obtain ⟨o2,cp2,d0⟩:=hS2.len
    have hO2:z7m cuK 88 wr bn cw cq:=hS2.thg (x1h cuK 88 bn cw cq) mS
    obtain ⟨oq,cpq,rfl,-⟩:=hO2.rd.shape
    have hb2:CB wr n 48 [.int .i64 p1,.int .i64 p2,.slice oq cq.length cpq]:=hS2.thg (z5m n 48 _) (List.mem_cons_of_mem _ mS)
    have HO2:=hd_ hO2;have HS2:=hd_ hS2;have HA2:=hd_ hA2;have HQ2:=hd_ hl2;have HB2:=hd_ hb2
    have HM2:=hd_ (hb2.cell 2)
    clear hS2 hA2 hl2 hO2 hb2
    cases crest with
    | nil =>
     have ht:Hid (z2g sl = (z2g r2).map ((q ++ [⟨p1,p2,cq⟩]) ++ ·)):=k2a HA.out HX.out (k7m HN1.out HN2.out HK.out (j8e HA2.out))
     have HT7:Hid (x5v w.heap.size (.slice ov rl.length cv) rl q wr):=HS2.out.thg (x9a w.heap.size (.slice ov rl.length cv) rl q) (List.mem_cons_of_mem _ (List.mem_cons_of_mem _ mS))
     have NC:ndK.cells ⟨p1,p2,oq,cq.length,cpq⟩ = [.int .i64 p1,.int .i64 p2,.slice oq cq.length cpq]:=rfl
     have Hb8:Below wr.heap.size wr (wr.alloc (.cells [.int .i64 p1,.int .i64 p2,.slice oq cq.length cpq].toArray 48)):=z5b _
     have hsrc:Hid (Src Tryz.prog 3 29 (.slice (some ⟨wr.heap.size,0,none⟩) 1 1) 1 (ndK.flat [⟨p1,p2,oq,cq.length,cpq⟩]) (wr.alloc (.cells [.int .i64 p1,.int .i64 p2,.slice oq cq.length cpq].toArray 48))):=x7w (K:=ndK) (a:=⟨p1,p2,oq,cq.length,cpq⟩) Tryz.underlying29 (z6a wr _ 48 _ rfl)
     have HS8:=hd_ (((HS2.out.drop.drop).sub (ts':=[x1h cuK 88 bn (.slice oq cq.length cpq) cq,x9a w.heap.size (.slice ov rl.length cv) rl q]) (fun t ht=>by simp only [mC,nM,or_false] at *;rcases ht with rfl | rfl <;> simp)).grow Hb8)
     have HT8:Hid (x5v w.heap.size (.slice ov rl.length cv) rl q (wr.alloc (.cells [.int .i64 p1,.int .i64 p2,.slice oq cq.length cpq].toArray 48))):=HS8.out.thg (x9a w.heap.size (.slice ov rl.length cv) rl q) (List.mem_cons_of_mem _ mS)
     have HC8:Hid (z7m cuK 88 (wr.alloc (.cells [.int .i64 p1,.int .i64 p2,.slice oq cq.length cpq].toArray 48)) bn (.slice oq cq.length cpq) cq):=HS8.out.thg (x1h cuK 88 bn (.slice oq cq.length cpq) cq) mS
     have HlQ:Hid (rl.length ≤ 100000):=hd_ (by have:=HQ.out;have:=HP.out;have:=HRL.out;omega)
     have HW8:Hid (w.heap.size ≤ (wr.alloc (.cells [.int .i64 p1,.int .i64 p2,.slice oq cq.length cpq].toArray 48)).heap.size):=HS8.out.gr.size
     clear Hb8
     go_upto_region 9 with fail
     go_wp2_with (first
      | (have _g:=HB2.out;refine z3a (by rfl) 48 (.tmp 5) rfl n [.int .i64 p1,.int .i64 p2,.slice oq cq.length cpq] rfl 48 _ HB2.out Tryz.underlying48 rfl (by kernel_rfl) ?_;clear HB2)
      | (at_builtin;have _g:=hsrc.out;go_loud (refine z4h (e:=48) (z:=(.agg #[.int .i64 0,.int .i64 0,.slice none 0 0])) (size:=3) (bytes:=40) Tryz.underlying29 k4a rfl rfl _ _ rfl w.heap.size (.slice ov rl.length cv) rl.length (ndK.flat rl) rfl HT8.out.1 _ 1 _ rfl hsrc.out (by have:=HlQ.out;unfold maxLen;omega) (by have:=HlQ.out;omega) HW8.out ?_);intro v9 w9 ho9 hg9 hn9;have HO9:Hid (z7m ndK 48 w9 w.heap.size v9 (rl ++ [⟨p1,p2,oq,cq.length,cpq⟩])):=z7m.append (K:=ndK) ho9 (by simp);have HG9:=hd_ hg9;have HN9:=hd_ hn9;obtain ⟨o9,c9,hv9,-⟩:=HO9.out.rd.shape;rw [List.length_append,List.length_singleton] at hv9;subst hv9;clear hsrc ho9 hg9 hn9))
     go_roundw
     case rel =>
      have hlt:=HT8.out.1.lt
      have hcl:=HC8.out.lt
      have hbw:w.heap.size ≤ bn:=by have:=Hlow.out.1;have:=Hnw.out;omega
      refine ⟨⟨q ++ [(⟨p1,p2,cq⟩:Nod)],rl ++ [(⟨p1,p2,oq,cq.length,cpq⟩:Nb)],r2,ht.out,HS8.out.put [x1h cuK 88 bn (.slice oq cq.length cpq) cq,x9a w.heap.size (.slice ov rl.length cv) rl q] (x9a w.heap.size (.slice o9 (rl.length + 1) c9) (rl ++ [(⟨p1,p2,oq,cq.length,cpq⟩:Nb)]) (q ++ [(⟨p1,p2,cq⟩:Nod)])) _ HG9.out
       (fun j hj=>⟨⟨_,List.mem_cons_of_mem _ (List.mem_singleton.2 rfl),.inl hj⟩,(hlt j hj).1,lT HB.out (hlt j hj).1⟩)
       (x5v.app (t:=⟨p1,p2,cq⟩) (r:=⟨p1,p2,oq,cq.length,cpq⟩) HT8.out ⟨rfl,rfl⟩ (HC8.out.base hbw) (fun j hj ht2=>by have:=(hcl j hj).1;have:=Hlow.out.2 j ht2;omega) HG9.out HO9.out HN9.out) (fun j hj=>?_) (fun u hu=>(nM hu).elim),?_⟩⟩
      · rcases hj with hj | ⟨u,hu,hj⟩
        · rcases HN9.out with h | h
          · exact .inl ⟨_,List.mem_cons_of_mem _ (List.mem_singleton.2 rfl),.inl (h.symm.trans hj)⟩
          · exact .inr (h j hj)
        · rcases List.mem_append.1 hu with hu | hu
          · exact .inl ⟨_,List.mem_cons_of_mem _ (List.mem_singleton.2 rfl),.inr ⟨u,hu,hj⟩⟩
          · rcases List.mem_singleton.1 hu with rfl
            exact .inl ⟨_,mS,hj⟩
      · have:=HQ.out;simp at this ⊢;omega
     case measure =>
      have h1:=HQ.out;have h2:=HRL.out
      simp [x6t] at h1 ⊢
      omega
    | cons y cr =>
     obtain ⟨n2,hn2⟩:∃ n2,cr.length + 1 = n2:=⟨_,rfl⟩
     have d0:wr.cell? ⟨k,0,none⟩ = some (Value.slice o2 n2 cp2):=by rw [← hn2];exact d0
     have z0n2:(0:Int) < (n2:Int):=by omega
     have z1n2:decide ((0:Int) < (n2:Int)) = true:=decide_eq_true z0n2
     have z2n2:0 < n2:=by omega
     have z3n2:decide (0 < n2) = true:=decide_eq_true z2n2
     have HQ3:Hid (cq.length ≤ 100000):=hd_ (by have:=HQ2.out;have:=HP2.out;omega)
     clear hn2
     go_upto_region 8 with (have _g:=HS2.out;go_at_call 58;refine HS2.out.lis.mono ?_;go_loud (rintro e w7 (⟨yl,c2,yn,hY,rfl,hyn,h1⟩ | ⟨hY,rfl,hf⟩));rotate_left;(have hbad:=hd_ (z8q HA.out HX.out (y0y HN1.out HN2.out HK.out (j9z HA2.out hY))));rotate_left;(obtain rfl:=j1u hY;have HY:=hd_ hY;have HS3:=hd_ h1;clear hY h1 hyn HS2))
     all_goals (try (exact ⟨rfl,.inr ⟨z1p HL.out hbad.out,rfl,hf.gr⟩⟩))
     have HB3:=hd_ (show CB w7 n 48 [.int .i64 p1,.int .i64 p2,.slice oq cq.length cpq] from HS3.out.thg (z5m n 48 _) (List.mem_cons_of_mem _ mS))
     clear HB2 HO2 d0
     refine z9a (S:=fun w'=>CB w' n 48 [.int .i64 p1,.int .i64 p2,.slice oq cq.length cpq]) (late:=fun j=>j == 14) (by kernel_rfl) (HB3.out.ext (Below.refl w7.heap.size w7).drew) (fun hHeld=>?_)
     have hdr:=(Below.refl w7.heap.size w7).drew
     replace HS3:=hd_ (HS3.out.grow hdr)
     replace HB3:=hd_ (HB3.out.ext hdr)
     clear hdr
     generalize w7.drew = w8 at *
     refine tkL (some 33) 0 ?_
     refine tkL (some 34) 1 ?_ (hy:=fun wS hSw=>by have y2:_ = some (Value.slice oq cq.length cpq):=CB.cell hSw 2;go_simp;first | done | with_reducible rfl)
     refine tkL (some 35) 2 ?_
     refine tkL (some 37) 4 ?_
     refine tkL (some 39) 6 ?_
     refine tkL (some 41) 8 ?_
     refine rdL 3 fun K hK=>?_
     go_simp
     go_at_call 63
     refine HS3.out.flg.mono ?_
     rintro e w9 (⟨b1,y1,hb1,rfl,h1⟩ | ⟨hb1,rfl,hf⟩)
     case inr=>(have hbad:=z8q HA.out HX.out (y0y HN1.out HN2.out HK.out (y0p HA2.out HY.out (k9l hb1)));exact ⟨rfl,.inr ⟨z1p HL.out hbad,rfl,hf.gr⟩⟩)
     have Hb1:=hd_ hb1
     replace HS3:=hd_ h1
     replace HB3:=hd_ (show CB w9 n 48 [.int .i64 p1,.int .i64 p2,.slice oq cq.length cpq] from HS3.out.thg (z5m n 48 _) (List.mem_cons_of_mem _ mS))
     clear hb1 h1
     refine z8l hK HB3.out fun hHeld=>?_
     clear hK K
     refine rdL 5 fun K hK=>?_
     go_simp
     go_at_call 59
     refine HS3.out.num.mono ?_
     rintro e wa (⟨b2,y2,hb2,rfl,h1⟩ | ⟨hb2,rfl,hf⟩)
     case inr=>(have hbad:=z8q HA.out HX.out (y0y HN1.out HN2.out HK.out (y0p HA2.out HY.out (k0m Hb1.out hb2)));exact ⟨rfl,.inr ⟨z1p HL.out hbad,rfl,hf.gr⟩⟩)
     have Hb2:=hd_ hb2
     replace HS3:=hd_ h1
     replace HB3:=hd_ (show CB wa n 48 [.int .i64 p1,.int .i64 p2,.slice oq cq.length cpq] from HS3.out.thg (z5m n 48 _) (List.mem_cons_of_mem _ mS))
     clear hb2 h1
     refine z8l hK HB3.out fun hHeld=>?_
     clear hK K
     refine rdL 7 fun K hK=>?_
     go_simp
     go_at_call 62
     refine HS3.out.spn.mono ?_
     rintro e wb (⟨b3,y3,hb3,rfl,h1⟩ | ⟨hb3,rfl,hf⟩)
     case inr=>(have hbad:=z8q HA.out HX.out (y0y HN1.out HN2.out HK.out (y0p HA2.out HY.out (k1m Hb1.out Hb2.out hb3)));exact ⟨rfl,.inr ⟨z1p HL.out hbad,rfl,hf.gr⟩⟩)
     have Hb3:=hd_ hb3
     replace HS3:=hd_ h1
     replace HB3:=hd_ (show CB wb n 48 [.int .i64 p1,.int .i64 p2,.slice oq cq.length cpq] from HS3.out.thg (z5m n 48 _) (List.mem_cons_of_mem _ mS))
     clear hb3 h1
     refine z8l hK HB3.out fun hHeld=>?_
     clear hK K
     refine rdL 9 fun K hK=>?_
     go_simp
     go_at_call 59
     refine HS3.out.num.mono ?_
     rintro e wc (⟨b4,y4,hb4,rfl,h1⟩ | ⟨hb4,rfl,hf⟩)
     case inr=>(have hbad:=z8q HA.out HX.out (y0y HN1.out HN2.out HK.out (y0p HA2.out HY.out (k2m Hb1.out Hb2.out Hb3.out hb4)));exact ⟨rfl,.inr ⟨z1p HL.out hbad,rfl,hf.gr⟩⟩)
     have Hb4:=hd_ hb4
     replace HS3:=hd_ h1
     replace HB3:=hd_ (show CB wc n 48 [.int .i64 p1,.int .i64 p2,.slice oq cq.length cpq] from HS3.out.thg (z5m n 48 _) (List.mem_cons_of_mem _ mS))
     clear hb4 h1
     refine z8l hK HB3.out fun hHeld=>?_
     clear hK K
     refine z9s (some 43) 10 rfl (.agg ((⟨b1,b2,b3.1,b3.2,b4⟩:Cut).cells).toArray) (z2z (by rfl) 88 _ rfl ((⟨b1,b2,b3.1,b3.2,b4⟩:Cut).cells) [(0,.bool b1),(1,.int .i64 b2),(2,.agg #[.int .i64 b3.1,.int .i64 b3.2]),(3,.int .i64 b4)] rfl (j0f _ _ _ _ _)) ?_
     refine rdL 11 fun K hK=>?_
     go_simp
     have HBk:Hid (CB (wc.alloc (.cells ((⟨b1,b2,b3.1,b3.2,b4⟩:Cut).cells).toArray 88)) wc.heap.size 88 ((⟨b1,b2,b3.1,b3.2,b4⟩:Cut).cells)):=z6a wc _ _ _ rfl
     have hz:Below wc.heap.size wc (wc.alloc (.cells ((⟨b1,b2,b3.1,b3.2,b4⟩:Cut).cells).toArray 88)):=z5b _
     change K _ (wc.alloc (.cells ((⟨b1,b2,b3.1,b3.2,b4⟩:Cut).cells).toArray 88))
     replace HS3:=hd_ (HS3.out.grow hz)
     replace HB3:=hd_ (HB3.out.ext hz)
     clear hz
     generalize wc.alloc (.cells ((⟨b1,b2,b3.1,b3.2,b4⟩:Cut).cells).toArray 88) = wd at *
     generalize wc.heap.size = gk at *
     refine z8l hK HB3.out fun hHeld=>?_
     clear hK K
     refine rdL 12 fun K hK=>?_
     have HO3:=hd_ (show z7m cuK 88 wd bn (.slice oq cq.length cpq) cq from HS3.out.thg _ mS)
     have HW3:Hid (bn ≤ wd.heap.size):=hd_ (by have:=Hk6.out;have:=(HS3.out.cur (k,c2) (by simp)).lt';omega)
     refine z1k (e:=88) (z:=(.agg #[.bool false,.int .i64 0,.int .i64 0,.int .i64 0,.int .i64 0])) (size:=5) (bytes:=40) Tryz.underlying46 k3a rfl rfl (.tmp 34) (.tmp 44) rfl bn (.slice oq cq.length cpq) cq.length (cuK.flat cq) rfl ?q1 (.slice (some ⟨gk,0,none⟩) 1 1) 1 (cuK.flat [(⟨b1,b2,b3.1,b3.2,b4⟩:Cut)]) rfl ?q2 ?q3 ?q4 ?q5 ?_
     case q1=>exact HO3.out
     case q2=>exact x7w (K:=cuK) (a:=(⟨b1,b2,b3.1,b3.2,b4⟩:Cut)) Tryz.underlying46 HBk.out
     case q3=>(have:=HQ3.out;unfold maxLen;omega)
     case q4=>(have:=HQ3.out;omega)
     case q5=>exact HW3.out
     intro v9 we ho9 hg9 hn9
     have HO9:Hid (z7m cuK 88 we bn v9 (cq ++ [(⟨b1,b2,b3.1,b3.2,b4⟩:Cut)])):=z7m.append (K:=cuK) ho9 (by simp)
     obtain ⟨o9,c9,hv9,-⟩:=HO9.out.rd.shape
     rw [List.length_append,List.length_singleton] at hv9
     subst hv9
     have hlt9:=HO3.out.lt
     have hs9:=HS3.out.put [x1h cuK 88 bn (.slice oq cq.length cpq) cq] (x1h cuK 88 bn (.slice o9 (cq.length + 1) c9) (cq ++ [(⟨b1,b2,b3.1,b3.2,b4⟩:Cut)])) _ hg9 (fun j hj=>⟨⟨_,List.mem_singleton.2 rfl,hj⟩,lT Hnw.out (lT (Nat.le_of_lt Hlow.out.1) (hlt9 j hj).1),lT HB.out (lT Hnw.out (lT (Nat.le_of_lt Hlow.out.1) (hlt9 j hj).1))⟩) HO9.out (fun j hj=>hn9.elim (fun h=>.inl ⟨_,List.mem_singleton.2 rfl,h.symm.trans hj⟩) (fun h=>.inr (h j hj))) (fun u hu j hj hu2=>j9n hu (hlt9 j hj).1 Hlow.out hu2)
     have HS9:=hd_ hs9
     have HB9:=hd_ (show CB we n 48 [.int .i64 p1,.int .i64 p2,.slice oq cq.length cpq] from HS9.out.thg (z5m n 48 _) (List.mem_cons_of_mem _ mS))
     have y3:_ = some (Value.slice oq cq.length cpq):=HB9.out.cell 2
     have yf:=HB9.out.frozen 2
     clear hs9 ho9 hg9 hn9 hlt9 HBk HS3 HB3 HO3
     refine hK.out (Act.put _ (some 45) _) we (fun _=>HB9.out) (fun hHeld0=>?_)
     clear hK K
     have hHeld:=hHeld0 (by rfl)
     clear hHeld0
     try simp only [Act.put,List.setIfInBounds_toArray,List.set_cons_zero,List.set_cons_succ]
     refine tkL (some 46) 13 ?_
     refine rdL 14 fun K hK=>?_
     go_simp
     refine hK.out _ _ (fun h=>absurd h (by decide)) (fun hHeld0=>?_)
     clear hK K
     try simp only [Act.put,List.setIfInBounds_toArray,List.set_cons_zero,List.set_cons_succ]
     refine z6b (by kernel_rfl) ?_ _
     go_wp2_with fail
     have hcut:=hd_ (k0a HA2.out HY.out (k3m Hb1.out Hb2.out Hb3.out Hb4.out))
     have hlt9:=HO9.out.lt
     go_roundw
     case rel =>
      have h9:=(HS9.out.drop).sub (ts':=[z5m n 48 [.int .i64 p1,.int .i64 p2,.slice oq cq.length cpq],x1h cuK 88 bn (.slice o9 (cq.length + 1) c9) (cq ++ [(⟨b1,b2,b3.1,b3.2,b4⟩:Cut)]),x9a w.heap.size (.slice ov rl.length cv) rl q]) (fun t ht=>by simp only [mC,nM,or_false] at *;rcases ht with rfl | rfl | rfl <;> simp)
      have h10:=h9.put [z5m n 48 [.int .i64 p1,.int .i64 p2,.slice oq cq.length cpq]] (z5m n 48 [.int .i64 p1,.int .i64 p2,.slice o9 (cq.length + 1) c9]) (some n) (z8b we n 2 (.slice o9 (cq.length + 1) c9)) (fun j hj=>by injection hj with hj;subst hj;exact ⟨⟨_,List.mem_singleton.2 rfl,rfl⟩,Hnw.out,lT HB.out Hnw.out⟩) (HB9.out.set 2 _) (fun j hj=>.inl ⟨_,List.mem_singleton.2 rfl,hj⟩)
       (fun u hu j hj hu2=>by
        injection hj with hj;subst hj
        simp only [mC,nM,or_false] at hu
        rcases hu with rfl | rfl
        · have:=(hlt9 _ hu2).1;have:=Hlow.out.1;omega
        · have:=HlT.out _ hu2;omega)
      have h11:=h10.sub (ts':=[x1h cuK 88 bn (.slice o9 (cq.length + 1) c9) (cq ++ [(⟨b1,b2,b3.1,b3.2,b4⟩:Cut)]),z5m n 48 [.int .i64 p1,.int .i64 p2,.slice o9 (cq.length + 1) c9],x9a w.heap.size (.slice ov rl.length cv) rl q]) (fun t ht=>by simp only [mC,nM,or_false] at *;rcases ht with rfl | rfl | rfl <;> simp)
      exact ⟨⟨_,_,c2,hcut.out,h11,by have:=HQ2.out;simp at this ⊢;omega⟩⟩
     case measure =>
      have e1:(we.setCell ⟨n,2,none⟩ (.slice o9 (cq.length + 1) c9)).cell? ⟨n,2,none⟩ = some (.slice o9 (cq.length + 1) c9):=(HB9.out.set 2 _).cell 2
      have e2:wr.cell? ⟨n,2,none⟩ = some (.slice oq cq.length cpq):=HM2.out
      rw [e1,e2]
      have:=HQ2.out
      simp [x6t] at this ⊢
      omega
end Go.Proofs.YtdblnbnofjggnaaGreatDoor
