/- Parts of the proofs of chapter 49's laws. -/
import Derived.Test.YtdblnbnofjggnaaGreatDoorP40
set_option maxHeartbeats 8000000
set_option maxRecDepth 100000
open Go.Lib renaming hid → hd_
open List renaming getElem?_eq_getElem → gE, getElem?_eq_some_iff → gS
open Option renaming bind_eq_some_iff → bE
open Go.Value renaming int → O, slice → I, string → T, agg → L
open Go.IntKind renaming i64 → U
open Go.Obj renaming cells → Z
open Option renaming none → G, some → X
open Bool renaming true → M, false → Q
open Decidable renaming decide → J
open Go renaming World → R, Value → E, maxLen → Y
open Go.RowKit renaming Below → F, Hid → C
set_option linter.all false
namespace Go.Proofs.YtdblnbnofjggnaaGreatDoor
open Go.Proofs.Tryz
open Go.RowKit
def z3k:List V→Option (List Int)
 | []=>X []
 | x::r=>if x.kind=1 then (z3k r).bind fun q=>X (x.n::q) else G
def z7b (m:Int) (v:V):Option (List Int):=if v.kind=3∧(m<0∨(v.l.length:Int)=m) then z3k v.l else G
def y9c (v:V):Option Flt :=
 match v.l with
 | [v0,v1,v2,v3,v4,v5,v6]=>if v.kind=3∧v3.kind=2 then (z7b 4 (lV [v0,v1,v2,v6])).bind fun a=>(z7b (-1) v4).bind fun b=>(z7b 2 v5).bind fun c =>
  X ⟨a.getD 0 0,a.getD 1 0,a.getD 2 0,v3.s,b,c.getD 0 0,c.getD 1 0,J (a.getD 3 0=1)⟩ else G
 | _=>G
def y7t (v:V):Option Cut :=
 match v.l with
 | [v0,v1,v2,v3]=>if v.kind=3 then (z7b 3 (lV [v0,v1,v3])).bind fun a=>(z7b 2 v2).bind fun b=>X ⟨J (a.getD 0 0=1),a.getD 1 0,b.getD 0 0,b.getD 1 0,a.getD 2 0⟩ else G
 | _=>G
def z4k:List V→Option (List Cut)
 | []=>X []
 | x::r=>(y7t x).bind fun c=>(z4k r).bind fun q=>X (c::q)
def x7b (v:V):Option Nod :=
 match v.l with
 | [v0,v1,v2]=>if v.kind=3∧v2.kind=3 then (z7b 2 (lV [v0,v1])).bind fun a=>(z4k v2.l).bind fun q=>X ⟨a.getD 0 0,a.getD 1 0,q⟩ else G
 | _=>G
def z5k:List V→Option (List Nod)
 | []=>X []
 | x::r=>(x7b x).bind fun c=>(z5k r).bind fun q=>X (c::q)
def y6n (v:V):Option (List Nod):=if v.kind=3 then z5k v.l else G
def y1k (v:V):Option Chg :=
 match v.l with
 | [v0,v1,v2]=>if v.kind=3 then (z7b 2 (lV [v0,v1])).bind fun a=>(z7b (-1) v2).bind fun b=>X ⟨a.getD 0 0,a.getD 1 0,b⟩ else G
 | _=>G
def y2k (v:V):Option Rp :=
 match v.l with
 | [v0,v1,v2,v3,v4,v5]=>if v.kind=3∧v4.kind=2 then (z7b 5 (lV [v0,v1,v2,v3,v5])).bind fun a=>X ⟨a.getD 0 0,a.getD 1 0,a.getD 2 0,a.getD 3 0,v4.s,a.getD 4 0⟩ else G
 | _=>G
def y3k (v:V):Option Stn :=
 match v.l with
 | [v0,v1,v2]=>if v.kind=3 then (z7b 2 (lV [v1,v2])).bind fun a=>(z7b (-1) v0).bind fun b=>X ⟨b,a.getD 0 0,a.getD 1 0⟩ else G
 | _=>G
def z8i (v:V):Option Inp :=
 match v.l with
 | [v0,v1,v2,v3,v4,v5,v6,v7,v8,v9,dV]=>if v.kind=3∧v2.kind=2 then (z7b 3 v0).bind fun s=>(z7b 2 (lV [v1,v8])).bind fun k=>(y9c v3).bind fun f=>(y6n v4).bind fun tr=>(y1k v5).bind fun g=>(y2k v6).bind fun r=>(z7b 3 v7).bind fun u=>(y3k v9).bind fun p=>(z7b 2 dV).bind fun q =>
  X ⟨s.getD 0 0,s.getD 1 0,s.getD 2 0,k.getD 0 0,v2.s,f,tr,g,r,⟨u.getD 0 0,u.getD 1 0,J (u.getD 2 0=1)⟩,k.getD 1 0,p,q.getD 0 0,q.getD 1 0⟩ else G
 | _=>G
theorem x8b:∀ l:List Int,z3k (l.map iV)=X l
 | []=>rfl
 | x::r=>by
  simp only [List.map_cons,z3k,x8b r,Option.bind_some]
  rfl
theorem z0u (m:Int) (l:List Int) (h:m<0∨(l.length:Int)=m):z7b m (nsV l)=X l:=by
 unfold z7b nsV
 rw [if_pos ⟨rfl,by show m<0∨(((l.map iV).length:Nat):Int)=m;rw [List.length_map];exact h⟩]
 exact x8b l
theorem z1o (m:Int) (l:List Int) (vs:List V) (hv:vs=l.map iV) (h:m<0∨(l.length:Int)=m):z7b m (lV vs)=X l:=by subst hv;exact z0u m l h
theorem k9t (c:Cut):y7t (z0p c)=X c:=by
 obtain ⟨a,b,d,e,f⟩:=c
 unfold y7t z0p
 show (if (3:Int)=3 then (z7b 3 (lV [bV a,iV b,iV f])).bind fun a=>(z7b 2 (spV d e)).bind fun b=>X (⟨J (a.getD 0 0=1),a.getD 1 0,b.getD 0 0,b.getD 1 0,a.getD 2 0⟩:Cut) else G)=_
 rw [if_pos rfl,(show z7b 3 (lV [bV a,iV b,iV f])=X [if a then 1 else 0,b,f] from z1o 3 [if a then 1 else 0,b,f] _ rfl (.inr rfl)),show spV d e=nsV [d,e] from rfl,z0u 2 [d,e] (.inr rfl)]
 cases a <;> rfl
theorem j6j:∀ l:List Cut,z4k (l.map z0p)=X l
 | []=>rfl
 | c::r=>by simp only [List.map_cons,z4k,k9t,j6j r,Option.bind_some]
theorem k0u (c:Nod):x7b (z5j c)=X c:=by
 obtain ⟨a,b,d⟩:=c
 unfold x7b z5j
 show (if (3:Int)=3∧(3:Int)=3 then (z7b 2 (lV [iV a,iV b])).bind fun a=>(z4k (d.map z0p)).bind fun q=>X (⟨a.getD 0 0,a.getD 1 0,q⟩:Nod) else G)=_
 rw [if_pos ⟨rfl,rfl⟩,(show z7b 2 (lV [iV a,iV b])=X [a,b] from z1o 2 [a,b] _ rfl (.inr rfl)),j6j]
 rfl
theorem j7j:∀ l:List Nod,z5k (l.map z5j)=X l
 | []=>rfl
 | c::r=>by simp only [List.map_cons,z5k,k0u,j7j r,Option.bind_some]
theorem k1u (l:List Nod):y6n (lV (l.map z5j))=X l:=by
 unfold y6n
 rw [if_pos (show (lV (l.map z5j)).kind=3 from rfl)]
 exact j7j l
theorem k2u (f:Flt):y9c (lV (y0n f))=X f:=by
 obtain ⟨a,b,c,d,e,g,h,i⟩:=f
 unfold y9c y0n
 show (if (3:Int)=3∧(2:Int)=2 then (z7b 4 (lV [iV a,iV b,iV c,bV i])).bind fun a=>(z7b (-1) (nsV e)).bind fun b=>(z7b 2 (spV g h)).bind fun c=>X (⟨a.getD 0 0,a.getD 1 0,a.getD 2 0,d,b,c.getD 0 0,c.getD 1 0,J (a.getD 3 0=1)⟩:Flt) else G)=_
 rw [if_pos ⟨rfl,rfl⟩,(show z7b 4 (lV [iV a,iV b,iV c,bV i])=X [a,b,c,if i then 1 else 0] from z1o 4 [a,b,c,if i then 1 else 0] _ rfl (.inr rfl)),z0u (-1) e (.inl (by decide)),show spV g h=nsV [g,h] from rfl,z0u 2 [g,h] (.inr rfl)]
 cases i <;> rfl
theorem k3u (g:Chg):y1k (lV [iV g.frm,iV g.cfg,nsV g.modes])=X g:=by
 obtain ⟨a,b,c⟩:=g
 unfold y1k
 show (if (3:Int)=3 then (z7b 2 (lV [iV a,iV b])).bind fun a=>(z7b (-1) (nsV c)).bind fun b=>X (⟨a.getD 0 0,a.getD 1 0,b⟩:Chg) else G)=_
 rw [if_pos rfl,(show z7b 2 (lV [iV a,iV b])=X [a,b] from z1o 2 [a,b] _ rfl (.inr rfl)),z0u (-1) c (.inl (by decide))]
 rfl
theorem k4u (r:Rp):y2k (lV (z1p r))=X r:=by
 obtain ⟨a,b,c,d,e,f⟩:=r
 unfold y2k z1p
 show (if (3:Int)=3∧(2:Int)=2 then (z7b 5 (lV [iV a,iV b,iV c,iV d,iV f])).bind fun a=>X (⟨a.getD 0 0,a.getD 1 0,a.getD 2 0,a.getD 3 0,e,a.getD 4 0⟩:Rp) else G)=_
 rw [if_pos ⟨rfl,rfl⟩,(show z7b 5 (lV [iV a,iV b,iV c,iV d,iV f])=X [a,b,c,d,f] from z1o 5 [a,b,c,d,f] _ rfl (.inr rfl))]
 rfl
theorem k5u (g:Stn):y3k (lV [nsV g.vols,iV g.sh,iV g.fa])=X g:=by
 obtain ⟨a,b,c⟩:=g
 unfold y3k
 show (if (3:Int)=3 then (z7b 2 (lV [iV b,iV c])).bind fun x=>(z7b (-1) (nsV a)).bind fun y=>X (⟨y,x.getD 0 0,x.getD 1 0⟩:Stn) else G)=_
 rw [if_pos rfl,(show z7b 2 (lV [iV b,iV c])=X [b,c] from z1o 2 [b,c] _ rfl (.inr rfl)),z0u (-1) a (.inl (by decide))]
 rfl
theorem x1x (x:Inp):z8i (lV (z6e x))=X x:=by
 obtain ⟨a1,a2,a3,a4,a5,f,tr,g,r,⟨u1,u2,u3⟩,a11,p,q1,q2⟩:=x
 show (if (3:Int)=3∧(2:Int)=2 then (z7b 3 (lV [iV a1,iV a2,iV a3])).bind fun s=>(z7b 2 (lV [iV a4,iV a11])).bind fun k=>(y9c (lV (y0n f))).bind fun f=>(y6n (lV (tr.map z5j))).bind fun tr=>(y1k (lV [iV g.frm,iV g.cfg,nsV g.modes])).bind fun g=>(y2k (lV (z1p r))).bind fun r=>(z7b 3 (lV [iV u1,iV u2,bV u3])).bind fun u=>(y3k (lV [nsV p.vols,iV p.sh,iV p.fa])).bind fun p=>(z7b 2 (lV [iV q1,iV q2])).bind fun q =>
  X (⟨s.getD 0 0,s.getD 1 0,s.getD 2 0,k.getD 0 0,a5,f,tr,g,r,⟨u.getD 0 0,u.getD 1 0,J (u.getD 2 0=1)⟩,k.getD 1 0,p,q.getD 0 0,q.getD 1 0⟩:Inp) else G)=_
 rw [if_pos ⟨rfl,rfl⟩,(show z7b 3 (lV [iV a1,iV a2,iV a3])=X [a1,a2,a3] from z1o 3 [a1,a2,a3] _ rfl (.inr rfl)),(show z7b 2 (lV [iV a4,iV a11])=X [a4,a11] from z1o 2 [a4,a11] _ rfl (.inr rfl)),k2u,k1u,k3u,k4u,(show z7b 3 (lV [iV u1,iV u2,bV u3])=X [u1,u2,if u3 then 1 else 0] from z1o 3 [u1,u2,if u3 then 1 else 0] _ rfl (.inr rfl)),k5u,(show z7b 2 (lV [iV q1,iV q2])=X [q1,q2] from z1o 2 [q1,q2] _ rfl (.inr rfl))]
 cases u3 <;> rfl
theorem y7n:∀ {l:List V} {q:List Int} (_:z3k l=X q) (_:z2g l),(∀ x∈q,I64 x)∧24 * q.length≤szs l∧q.length=l.length
 | [],q,h,_=>by injection h with h;subst h;simp [szs]
 | x::r,q,h,ok=>by
  unfold z3k at h
  by_cases hk:x.kind=1
  ·rw [if_pos hk] at h
   obtain ⟨t,h1,h2⟩:=bE.1 h
   injection h2 with h2;subst h2
   simp only [z2g] at ok
   obtain ⟨m1,m2,m3⟩:=y7n h1 ok.2
   have hs:=k7f x
   refine ⟨fun z hz=>?_,by simp only [szs,List.length_cons];omega,by simp only [List.length_cons];omega⟩
   rcases List.mem_cons.1 hz with rfl|hz
   ·exact (z7e ok.1).2.1
   ·exact m1 z hz
  ·rw [if_neg hk] at h;cases h
theorem z3d {m:Int} {v:V} {q:List Int} (h:z7b m v=X q) (ok:okV v):(∀ x∈q,I64 x)∧24+24 * q.length≤sz v∧(0≤m→(q.length:Int)=m):=by
 unfold z7b at h
 by_cases hk:v.kind=3∧(m<0∨(v.l.length:Int)=m)
 ·rw [if_pos hk] at h
  obtain ⟨h1,h2,h3⟩:=y7n h (z7e ok).2.2.2
  have:=z7f v
  refine ⟨h1,by omega,fun hm=>?_⟩
  rcases hk.2 with h|h <;> omega
 ·rw [if_neg hk] at h;cases h
theorem z9m {l:List V} (h:z2g l) (hl:l.length≤Y):okV (lV l):=by
 unfold lV
 simp only [okV]
 exact ⟨by unfold I64;omega,by unfold I64;omega,by show (0:Nat)≤_;omega,hl,h⟩
theorem z4f {q:List Int} (h:∀ x∈q,I64 x) (k:Nat):I64 (q.getD k 0):=by
 rw [List.getD_eq_getElem?_getD]
 cases hk:q[k]? with
 | none=>show I64 0;unfold I64;omega
 | some x=>exact h x (List.mem_of_getElem? hk)
theorem j8j {v:V} {x:Flt} (h:y9c v=X x) (ok:okV v):FltI x∧sz (lV (y0n x))≤sz v:=by
 have hp:=z7f v
 have aW:=(z7e ok).2.2.2
 unfold y9c at h
 match hl:v.l,h with
 | [v0,v1,v2,v3,v4,v5,v6],h =>
  (try rw [hl] at hp);(try rw [hl] at aW)
  simp only [z2g,szs] at hp aW
  obtain ⟨jf,jg,jD,pd,kv4,kv5,kv6,-⟩:=aW
  by_cases hk:v.kind=3∧v3.kind=2
  ·simp only [if_pos hk,bE] at h
   obtain ⟨a,ha,b,hb,c,hc,hx⟩:=h
   injection hx with hx;subst hx
   have Ka:=z3d ha (z9m (by simp only [z2g];exact ⟨jf,jg,jD,kv6,trivial⟩) (by unfold Y;simp))
   have Kb:=z3d hb kv4
   have Kc:=z3d hc kv5
   have Za:=Ka.2.1
   have Ya:=Ka.2.2
   have Zb:=Kb.2.1
   have Yb:=Kb.2.2
   have Zc:=Kc.2.1
   have Yc:=Kc.2.2
   refine ⟨⟨z4f Ka.1 0,z4f Ka.1 1,z4f Ka.1 2,z4f Kc.1 0,z4f Kc.1 1,Kb.1,(z7e pd).2.2.1⟩,?_⟩
   have Ya:=Ya (by decide);have Yc:=Yc (by decide)
   have q3:=z7f v3
   unfold y0n
   clear Ka Kb Kc ha hb hc
   simp only [szs,z2j,z7q,y0k,y8c,z0r,z5y,z6y] at *
   omega
  ·simp only [if_neg hk] at h;first|done|cases h
theorem j9j {v:V} {x:Cut} (h:y7t v=X x) (ok:okV v):CutI x∧sz (z0p x)≤sz v:=by
 have hp:=z7f v
 have aW:=(z7e ok).2.2.2
 unfold y7t at h
 match hl:v.l,h with
 | [v0,v1,v2,v3],h =>
  (try rw [hl] at hp);(try rw [hl] at aW)
  simp only [z2g,szs] at hp aW
  obtain ⟨jf,jg,jD,pd,-⟩:=aW
  by_cases hk:v.kind=3
  ·simp only [if_pos hk,bE] at h
   obtain ⟨a,ha,b,hb,hx⟩:=h
   injection hx with hx;subst hx
   have Ka:=z3d ha (z9m (by simp only [z2g];exact ⟨jf,jg,pd,trivial⟩) (by unfold Y;simp))
   have Kb:=z3d hb jD
   have Za:=Ka.2.1
   have Ya:=Ka.2.2
   have Zb:=Kb.2.1
   have Yb:=Kb.2.2
   refine ⟨⟨z4f Ka.1 1,z4f Kb.1 0,z4f Kb.1 1,z4f Ka.1 2⟩,?_⟩
   have Ya:=Ya (by decide);have Yb:=Yb (by decide)
   unfold z0p
   clear Ka Kb ha hb
   simp only [szs,z2j,z7q,y0k,y8c,z0r,z5y,z6y] at *
   omega
  ·simp only [if_neg hk] at h;first|done|cases h
theorem y8n:∀ {l:List V} {q:List Cut} (_:z4k l=X q) (_:z2g l),(∀ x∈q,CutI x)∧szs (q.map z0p)≤szs l
 | [],q,h,_=>by injection h with h;subst h;simp [szs]
 | x::r,q,h,ok=>by
  simp only [z4k,bE] at h
  obtain ⟨c,h2,t,h3,h4⟩:=h
  injection h4 with h4;subst h4
  simp only [z2g] at ok
  obtain ⟨m1,m2⟩:=j9j h2 ok.1
  obtain ⟨n1,n2⟩:=y8n h3 ok.2
  refine ⟨fun z hz=>?_,by simp only [List.map_cons,szs] at *;omega⟩
  rcases List.mem_cons.1 hz with rfl|hz
  ·exact m1
  ·exact n1 z hz
theorem j0k {v:V} {x:Nod} (h:x7b v=X x) (ok:okV v):NodI x∧sz (z5j x)≤sz v:=by
 have hp:=z7f v
 have aW:=(z7e ok).2.2.2
 unfold x7b at h
 match hl:v.l,h with
 | [v0,v1,v2],h =>
  (try rw [hl] at hp);(try rw [hl] at aW)
  simp only [z2g,szs] at hp aW
  obtain ⟨jf,jg,jD,-⟩:=aW
  by_cases hk:v.kind=3∧v2.kind=3
  ·simp only [if_pos hk,bE] at h
   obtain ⟨a,ha,q,hq,hx⟩:=h
   injection hx with hx;subst hx
   have Ka:=z3d ha (z9m (by simp only [z2g];exact ⟨jf,jg,trivial⟩) (by unfold Y;simp))
   have Kq:=y8n hq (z7e jD).2.2.2
   have Za:=Ka.2.1
   have Ya:=Ka.2.2
   have Zq:=Kq.2
   refine ⟨⟨z4f Ka.1 0,z4f Ka.1 1,Kq.1⟩,?_⟩
   have Ya:=Ya (by decide)
   have q2:=z7f v2
   unfold z5j
   clear Ka Kq ha hq
   simp only [szs,z2j,z7q,y0k,y8c,z0r,z5y,z6y] at *
   omega
  ·simp only [if_neg hk] at h;first|done|cases h
theorem y9n:∀ {l:List V} {q:List Nod} (_:z5k l=X q) (_:z2g l),(∀ x∈q,NodI x)∧szs (q.map z5j)≤szs l
 | [],q,h,_=>by injection h with h;subst h;simp [szs]
 | x::r,q,h,ok=>by
  simp only [z5k,bE] at h
  obtain ⟨c,h2,t,h3,h4⟩:=h
  injection h4 with h4;subst h4
  simp only [z2g] at ok
  obtain ⟨m1,m2⟩:=j0k h2 ok.1
  obtain ⟨n1,n2⟩:=y9n h3 ok.2
  refine ⟨fun z hz=>?_,by simp only [List.map_cons,szs] at *;omega⟩
  rcases List.mem_cons.1 hz with rfl|hz
  ·exact m1
  ·exact n1 z hz
theorem j1k {v:V} {x:List Nod} (h:y6n v=X x) (ok:okV v):(∀ n∈x,NodI n)∧sz (lV (x.map z5j))≤sz v:=by
 unfold y6n at h
 by_cases hk:v.kind=3
 ·rw [if_pos hk] at h
  obtain ⟨h1,h2⟩:=y9n h (z7e ok).2.2.2
  have:=z7f v
  exact ⟨h1,by rw [z2j];omega⟩
 ·rw [if_neg hk] at h;cases h
theorem j2k {v:V} {x:Chg} (h:y1k v=X x) (ok:okV v):(I64 x.frm∧I64 x.cfg∧∀ m∈x.modes,I64 m)∧sz (lV [iV x.frm,iV x.cfg,nsV x.modes])≤sz v:=by
 have hp:=z7f v
 have aW:=(z7e ok).2.2.2
 unfold y1k at h
 match hl:v.l,h with
 | [v0,v1,v2],h =>
  (try rw [hl] at hp);(try rw [hl] at aW)
  simp only [z2g,szs] at hp aW
  obtain ⟨jf,jg,jD,-⟩:=aW
  by_cases hk:v.kind=3
  ·simp only [if_pos hk,bE] at h
   obtain ⟨a,ha,b,hb,hx⟩:=h
   injection hx with hx;subst hx
   have Ka:=z3d ha (z9m (by simp only [z2g];exact ⟨jf,jg,trivial⟩) (by unfold Y;simp))
   have Kb:=z3d hb jD
   have Za:=Ka.2.1
   have Ya:=Ka.2.2
   have Zb:=Kb.2.1
   have Yb:=Kb.2.2
   refine ⟨⟨z4f Ka.1 0,z4f Ka.1 1,Kb.1⟩,?_⟩
   have Ya:=Ya (by decide)
   clear Ka Kb ha hb
   simp only [szs,z2j,z7q,y0k,y8c,z0r,z5y,z6y] at *
   omega
  ·simp only [if_neg hk] at h;first|done|cases h
theorem j3k {v:V} {x:Rp} (h:y2k v=X x) (ok:okV v):(I64 x.st∧I64 x.no∧I64 x.mi∧I64 x.ar∧x.cl.size≤Y∧I64 x.vo)∧sz (lV (z1p x))≤sz v:=by
 have hp:=z7f v
 have aW:=(z7e ok).2.2.2
 unfold y2k at h
 match hl:v.l,h with
 | [v0,v1,v2,v3,v4,v5],h =>
  (try rw [hl] at hp);(try rw [hl] at aW)
  simp only [z2g,szs] at hp aW
  obtain ⟨jf,jg,jD,pd,kv4,kv5,-⟩:=aW
  by_cases hk:v.kind=3∧v4.kind=2
  ·simp only [if_pos hk,bE] at h
   obtain ⟨a,ha,hx⟩:=h
   injection hx with hx;subst hx
   have Ka:=z3d ha (z9m (by simp only [z2g];exact ⟨jf,jg,jD,pd,kv5,trivial⟩) (by unfold Y;simp))
   have Za:=Ka.2.1
   have Ya:=Ka.2.2
   refine ⟨⟨z4f Ka.1 0,z4f Ka.1 1,z4f Ka.1 2,z4f Ka.1 3,(z7e kv4).2.2.1,z4f Ka.1 4⟩,?_⟩
   have Ya:=Ya (by decide)
   have q4:=z7f v4
   unfold z1p
   clear Ka ha
   simp only [szs,z2j,z7q,y0k,y8c,z0r,z5y,z6y] at *
   omega
  ·simp only [if_neg hk] at h;first|done|cases h
theorem j4k {v:V} {x:Stn} (h:y3k v=X x) (ok:okV v):((∀ m∈x.vols,I64 m)∧I64 x.sh∧I64 x.fa)∧sz (lV [nsV x.vols,iV x.sh,iV x.fa])≤sz v:=by
 have hp:=z7f v
 have aW:=(z7e ok).2.2.2
 unfold y3k at h
 match hl:v.l,h with
 | [v0,v1,v2],h =>
  (try rw [hl] at hp);(try rw [hl] at aW)
  simp only [z2g,szs] at hp aW
  obtain ⟨jf,jg,jD,-⟩:=aW
  by_cases hk:v.kind=3
  ·simp only [if_pos hk,bE] at h
   obtain ⟨a,ha,b,hb,hx⟩:=h
   injection hx with hx;subst hx
   have Ka:=z3d ha (z9m (by simp only [z2g];exact ⟨jg,jD,trivial⟩) (by unfold Y;simp))
   have Kb:=z3d hb jf
   have Za:=Ka.2.1
   have Ya:=Ka.2.2
   have Zb:=Kb.2.1
   have Yb:=Kb.2.2
   refine ⟨⟨Kb.1,z4f Ka.1 0,z4f Ka.1 1⟩,?_⟩
   have Ya:=Ya (by decide)
   clear Ka Kb ha hb
   simp only [szs,z2j,z7q,y0k,y8c,z0r,z5y,z6y] at *
   omega
  ·simp only [if_neg hk] at h;first|done|cases h
theorem y0s {m:Nat} {v:V} {q:List Int} (h:z7b (m:Int) v=X q) (ok:okV v):24+24 * m≤sz v:=by
 obtain ⟨-,h2,h3⟩:=z3d h ok
 have:=h3 (by omega)
 omega
theorem j5t {z p2 v0 v1 v2 v3 v4 v5 v6 v7 v8 v9 dV s2 f t g r p:Nat} (hp:z=24+p2+(v0+(v1+(v2+(v3+(v4+(v5+(v6+(v7+(v8+(v9+(dV+0)))))))))))) {l2:Nat} (q2:v2=24+s2+l2) (e1:24+24 * 3≤v0) (e2:24+24 * 2≤24+(v1+(v8+0))) (e3:24+24 * 3≤v7) (e4:24+24 * 2≤dV)
 (e5:24+f≤v3) (e6:24+t≤v4) (e7:24+g≤v5) (e8:24+r≤v6) (e9:24+p≤v9) :
 24+(24+(24+(24+(24+0)))+(24+(24+s2+(24+f+(24+t+(24+g+(24+r+(24+(24+(24+(24+0)))+(24+(24+p+0)))))))))+(24+(24+(24+0))+0))≤z:=by omega
theorem y6a {v:V} {x:Inp} (h:z8i v=X x) (ok:okV v):InpI x∧sz (lV (z6e x))≤sz v:=by
 have hp:=z7f v
 have aW:=(z7e ok).2.2.2
 unfold z8i at h
 match hl:v.l,h with
 | [v0,v1,v2,v3,v4,v5,v6,v7,v8,v9,dV],h =>
  (try rw [hl] at hp);(try rw [hl] at aW)
  simp only [z2g,szs] at hp aW
  obtain ⟨jf,jg,jD,pd,kv4,kv5,kv6,kv7,kv8,kv9,kv10,-⟩:=aW
  by_cases hk:v.kind=3∧v2.kind=2
  ·simp only [if_pos hk,bE] at h
   obtain ⟨s,hs,k,hk,f,hf,tr,htr,g,hg,r,hr,u,hu,y,hy,q,hq,hx⟩:=h
   injection hx with hx;subst hx
   have Ks:=z3d hs jf
   have Kk:=z3d hk (z9m (by simp only [z2g];exact ⟨jg,kv8,trivial⟩) (by unfold Y;simp))
   have Kf:=j8j hf pd
   have mW:=j1k htr kv4
   have Kg:=j2k hg kv5
   have Kr:=j3k hr kv6
   have Ku:=z3d hu kv7
   have Ky:=j4k hy kv9
   have Kq:=z3d hq kv10
   have Zs:=Ks.2.1
   have Ys:=Ks.2.2
   have Zk:=Kk.2.1
   have Yk:=Kk.2.2
   have Zf:=Kf.2
   have Ztr:=mW.2
   have Zg:=Kg.2
   have Zr:=Kr.2
   have Zu:=Ku.2.1
   have Yu:=Ku.2.2
   have Zy:=Ky.2
   have Zq:=Kq.2.1
   have Yq:=Kq.2.2
   refine ⟨⟨z4f Ks.1 0,z4f Ks.1 1,z4f Ks.1 2,z4f Kk.1 0,(z7e jD).2.2.1,Kf.1,mW.1,Kg.1.1,Kg.1.2.1,Kg.1.2.2,Kr.1.1,Kr.1.2.1,Kr.1.2.2.1,Kr.1.2.2.2.1,Kr.1.2.2.2.2.1,Kr.1.2.2.2.2.2,z4f Ku.1 0,z4f Ku.1 1,z4f Kk.1 1,Ky.1.1,Ky.1.2.1,Ky.1.2.2,z4f Kq.1 0,z4f Kq.1 1⟩,?_⟩
   have q2:=z7f v2
   have e1:=y0s (m:=3) hs jf
   have e2:=y0s (m:=2) hk (v:=lV [v1,v8]) (z9m (by simp only [z2g];exact ⟨jg,kv8,trivial⟩) (by unfold Y;simp))
   have e3:=y0s (m:=3) hu kv7
   have e4:=y0s (m:=2) hq kv10
   have e5:=Kf.2;have e6:=mW.2;have e7:=Kg.2;have e8:=Kr.2;have e9:=Ky.2
   rw [z2j] at e2
   simp only [szs] at e2
   unfold z6e z8e
   rw [z2j,z9l]
   simp only [szs,z2j,z7q,y0k,y8c,z0r] at e5 e6 e7 e8 e9 ⊢
   exact j5t hp q2 e1 e2 e3 e4 e5 e6 e7 e8 e9
  ·simp only [if_neg hk] at h;first|done|cases h
theorem z9i {n:Int} (h:I64 n):okV (iV n):=by
 unfold iV
 simp only [okV,z2g]
 exact ⟨by unfold I64;omega,h,by show (0:Nat)≤_;omega,Nat.zero_le _,trivial⟩
theorem k8f {s:ByteArray} (h:s.size≤Y):okV (tV s):=by
 unfold tV
 simp only [okV,z2g]
 exact ⟨by unfold I64;omega,by unfold I64;omega,h,Nat.zero_le _,trivial⟩
theorem k9f (b:Bool):okV (bV b):=z9i (by unfold I64;split <;> omega)
theorem y1s {α:Type} {f:α→V}:∀ {l:List α},(∀ x∈l,okV (f x))→z2g (l.map f)
 | [],_=>trivial
 | x::r,h=>by
  simp only [List.map_cons,z2g]
  exact ⟨h x List.mem_cons_self,y1s fun y hy=>h y (List.mem_cons_of_mem _ hy)⟩
theorem j5k:∀ {a b:List V},z2g a→z2g b→z2g (a++b)
 | [],_,_,h=>h
 | x::r,b,h,h'=>by
  simp only [List.cons_append,z2g] at *
  exact ⟨h.1,j5k h.2 h'⟩
theorem j6k {l:List Int} (h:∀ x∈l,I64 x) (hl:l.length≤1000000):okV (nsV l):=z9m (y1s fun x hx=>z9i (h x hx)) (by rw [List.length_map];unfold Y;omega)
theorem j8z {a b:Int} (h1:I64 a) (h2:I64 b):okV (spV a b):=z9m (by simp only [z2g];exact ⟨z9i h1,z9i h2,trivial⟩) (by unfold Y;simp)
theorem k0g {c:Cut} (h:CutI c):okV (z0p c):=z9m (by simp only [z2g];exact ⟨k9f _,z9i h.ix,j8z h.mf h.mt,z9i h.less,trivial⟩) (by unfold Y;simp)
theorem k1g {n:Nod} (h:NodI n) (hl:n.cuts.length≤1000000):okV (z5j n) :=
 z9m (by simp only [z2g];exact ⟨z9i h.par,z9i h.frm,z9m (y1s fun c hc=>k0g (h.cuts c hc)) (by rw [List.length_map];unfold Y;omega),trivial⟩) (by unfold Y;simp)
theorem x6k {x:Inp} (h:InpI x) (hl:InpL x):okV (lV (z6e x)):=by
 refine z9m ?_ (by unfold z6e z8e Y;simp)
 unfold z6e z8e y0n z1p
 refine j5k ?_ ?_
 ·simp only [z2g]
  refine ⟨z9m ?_ ?_,z9i h.kind,k8f h.text,z9m ?_ ?_,z9m (y1s fun n hn=>k1g (h.tree n hn) (hl.cuts n hn)) (by rw [List.length_map];have:=hl.tree;unfold Y;omega),z9m ?_ ?_,z9m ?_ ?_,z9m ?_ ?_,z9i h.n,z9m ?_ ?_,trivial⟩
  ·simp only [z2g];exact ⟨z9i h.mi,z9i h.ce,z9i h.no,trivial⟩
  ·unfold Y;simp
  ·simp only [z2g];exact ⟨z9i h.flt.id,z9i h.flt.air,z9i h.flt.cls,k8f h.flt.call,j6k h.flt.ways hl.ways,j8z h.flt.wf h.flt.wt,k9f _,trivial⟩
  ·unfold Y;simp
  ·simp only [z2g];exact ⟨z9i h.cfrm,z9i h.cfg,j6k h.modes hl.modes,trivial⟩
  ·unfold Y;simp
  ·simp only [z2g];exact ⟨z9i h.rst,z9i h.rno,z9i h.rmi,z9i h.rar,k8f h.rcl,z9i h.rvo,trivial⟩
  ·unfold Y;simp
  ·simp only [z2g];exact ⟨z9i h.sst,z9i h.sfr,k9f _,trivial⟩
  ·unfold Y;simp
  ·simp only [z2g];exact ⟨j6k h.vols hl.vols,z9i h.sh,z9i h.fa,trivial⟩
  ·unfold Y;simp
 ·simp only [z2g]
  exact ⟨z9m (by simp only [z2g];exact ⟨z9i h.sr,z9i h.ss,trivial⟩) (by unfold Y;simp),trivial⟩
theorem y0i {l:List UInt8} {v:V} {x:Inp} (hd:z4w l=X v) (hl:l.length≤Y) (hi:InpI x) (hL:InpL x) (he:z4o x=l):v=lV (z6e x):=by
 obtain ⟨e1,e2,e3,-⟩:=z5l hd hl
 have:=x8s e2 (y5a x) e3 (x6k hi hL) [] [] (by rw [List.append_nil,List.append_nil,e1];exact he.symm)
 exact this.1
theorem k2g (l:List UInt8) (hl:l.length≤4000):z8q z2r l=z8q z8i l:=by
 unfold z8q
 cases hd:z4w l with
 | none=>rfl
 | some v =>
  obtain ⟨-,-,ok,hs⟩:=z5l hd (by unfold Y;omega)
  have h1:∀ x,z2r v=X x→InpI x∧InpL x:=fun x h=>⟨(y9h h ok).1,InpL.of (by have:=(y9h h ok).2;omega)⟩
  have h2:∀ x,z8i v=X x→InpI x∧InpL x:=fun x h=>⟨(y6a h ok).1,InpL.of (by have:=(y6a h ok).2;omega)⟩
  have f1:∀ x,z2r v=X x→z4o x=l→z8i v=X x:=fun x h he=>by rw [y0i hd (by unfold Y;omega) (h1 x h).1 (h1 x h).2 he];exact x1x x
  have f2:∀ x,z8i v=X x→z4o x=l→z2r v=X x:=fun x h he=>by rw [y0i hd (by unfold Y;omega) (h2 x h).1 (h2 x h).2 he];exact x9a x
  show (match z2r v with|none=>(zP,(490:Int))|some x=>if okI x&&J (z4o x=l) then (x,0) else (zP,490))=(match z8i v with|none=>(zP,(490:Int))|some x=>if okI x&&J (z4o x=l) then (x,0) else (zP,490))
  cases ha:z2r v with
  | none =>
   cases hb:z8i v with
   | none=>rfl
   | some y =>
    have:¬ z4o y=l:=fun he=>by have:=f2 y hb he;rw [ha] at this;cases this
    simp only [this,decide_false,Bool.and_false,Bool.false_eq_true,if_false]
  | some x =>
   cases hb:z8i v with
   | none =>
    have:¬ z4o x=l:=fun he=>by have:=f1 x ha he;rw [hb] at this;cases this
    simp only [this,decide_false,Bool.and_false,Bool.false_eq_true,if_false]
   | some y =>
    by_cases e1:z4o x=l
    ·have:=f1 x ha e1;rw [hb] at this;injection this with this;subst this;rfl
    ·by_cases e2:z4o y=l
     ·have:=f2 y hb e2;rw [ha] at this;injection this with this;subst this;rfl
     ·simp only [e1,e2,decide_false,Bool.and_false,Bool.false_eq_true,if_false]
theorem j6t {x:Inp} (hi:InpI x) (hl:InpL x) (hk:okI x=M):z8q z2r (z4o x)=(x,0):=by
 unfold z8q z4o
 rw [y8p (y5a x) (x6k hi hl)]
 show (match z2r (lV (z6e x)) with|none=>(zP,(490:Int))|some y=>if okI y&&J (z4o y=enc (lV (z6e x))) then (y,0) else (zP,490))=_
 rw [x9a]
 show (if okI x&&J (z4o x=z4o x) then _ else _)=_
 rw [hk,decide_eq_true rfl]
 rfl
def k6u (x:Inp):Bool:=J (x.text.size≤3000)&&J (x.flt.ways.length≤8)&&J (x.flt.call.size≤60)&&J (x.rep.cl.size≤60)&&J (x.tree.length≤10)&&J (x.chg.modes.length≤20)&&J (x.stn.vols.length≤20)
def j7k (x:Inp):Bool:=k6u x&&x.tree.all (fun n=>J (n.cuts.length≤8))
structure FewI (x:Inp):Prop where
 h0:x.text.size≤3000
 h1:x.flt.ways.length≤8
 h2:x.flt.call.size≤60
 h3:x.rep.cl.size≤60
 h4:x.tree.length≤10
 h5:x.chg.modes.length≤20
 h6:x.stn.vols.length≤20
 cu:∀ n∈x.tree,n.cuts.length≤8
theorem k7u {x:Inp} (h:j7k x=M):FewI x:=by
 unfold j7k k6u at h
 simp only [Bool.and_eq_true,decide_eq_true_eq,List.all_eq_true] at h
 obtain ⟨⟨⟨⟨⟨⟨⟨h0,h1⟩,h2⟩,h3⟩,h4⟩,h5⟩,h6⟩,h7⟩:=h
 exact ⟨h0,h1,h2,h3,h4,h5,h6,h7⟩
theorem j8k:∀ l:List Cut,szs (l.map z0p)=168 * l.length
 | []=>rfl
 | c::r=>by
  have h:sz (z0p c)=168:=by unfold z0p;rw [z2j];simp only [szs,y8c,z7q,z0r]
  simp only [List.map_cons,szs,h,j8k r,List.length_cons];omega
theorem j9k:∀ l:List Nod,(∀ n∈l,n.cuts.length≤8)→szs (l.map z5j)≤2000 * l.length
 | [],_=>by simp [szs]
 | n::r,h=>by
  have h1:sz (z5j n)=96+168 * n.cuts.length:=by unfold z5j;rw [z2j];simp only [szs,z7q,z2j,j8k];omega
  have h2:=h n List.mem_cons_self
  have h3:=j9k r (fun m hm=>h m (List.mem_cons_of_mem _ hm))
  simp only [List.map_cons,szs,h1,List.length_cons];omega
theorem FewI.sz {x:Inp} (h:FewI x):sz (lV (z6e x))≤60000:=by
 have ht:=j9k x.tree h.cu
 have:=h.h0;have:=h.h1;have:=h.h2;have:=h.h3;have:=h.h4;have:=h.h5;have:=h.h6
 unfold z6e z8e y0n z1p
 rw [z2j,z9l]
 simp only [szs,z2j,z7q,y0k,y8c,z0r,z5y,z6y]
 omega
structure FwRel (x:Inp) (s:Slc) (w:R) (i:E) (wr:R):Prop where
 h:∃ k:Nat,k≤x.tree.length∧i=O U (k:Int)∧(∀ j n,j<k→x.tree[j]? = X n→n.cuts.length≤8)∧CB wr w.heap.size 41 (x.cells s)∧F w.heap.size w wr
theorem k3g (x:Inp) (s:Slc) (w:R) (hx:InpR w x s) (z1:x.text.size≤Y) (z2:x.flt.call.size≤Y) (z3:x.rep.cl.size≤Y):Calls prog 12 #[x.v s] w fun e w'=>e=.returned (.bool (j7k x))∧F w.heap.size w w':=by
 obtain ⟨aw,cw,e1,l1⟩:=hx.ways.shape
 obtain ⟨jQ,ct,e2,l2⟩:=hx.tree.shape
 obtain ⟨am,cm,e3,l3⟩:=hx.modes.shape
 obtain ⟨av,cv,e4,l4⟩:=hx.vols.shape
 obtain ⟨sw,st,sm,sv⟩:=s
 simp only at e1 e2 e3 e4
 subst e1 e2 e3 e4
 have HT:=hd_ hx.tree
 have aO:=z3a w (bI x ⟨I aw x.flt.ways.length cw,I jQ x.tree.length ct,I am x.chg.modes.length cm,I av x.stn.vols.length cv⟩) 41 (x.cells (⟨I aw x.flt.ways.length cw,I jQ x.tree.length ct,I am x.chg.modes.length cm,I av x.stn.vols.length cv⟩:Slc)) rfl
 have HC:=hd_ aO;have HB:=hd_ (z4b (w:=w) (bI x ⟨I aw x.flt.ways.length cw,I jQ x.tree.length ct,I am x.chg.modes.length cm,I av x.stn.vols.length cv⟩))
 unfold Y at z1 z2 z3
 have y1:(x.text.size:Int)≤9223372036854775807:=by omega
 have y2:(x.flt.call.size:Int)≤9223372036854775807:=by omega
 have y3:(x.rep.cl.size:Int)≤9223372036854775807:=by omega
 have y4:(x.flt.ways.length:Int)≤9223372036854775807:=by omega
 have y5:(x.tree.length:Int)≤9223372036854775807:=by omega
 have y6:(x.chg.modes.length:Int)≤9223372036854775807:=by omega
 have y7:(x.stn.vols.length:Int)≤9223372036854775807:=by omega
 have c4:=aO.cv 4 (T x.text)
 have c8:=aO.cv 8 (T x.flt.call)
 have c9:=aO.cv 9 (I aw x.flt.ways.length cw)
 have kj:=aO.cv 13 (I jQ x.tree.length ct)
 have mx:=aO.cv 16 (I am x.chg.modes.length cm)
 have c21:=aO.cv 21 (T x.rep.cl)
 have c27:=aO.cv 27 (I av x.stn.vols.length cv)
 clear hx aO l1 l2 l3 l4 z1 z2 z3
 by_cases h7:k6u x=M
 case neg =>
  have hno:C (j7k x=Q):=hd_ (by unfold j7k;rw [Bool.eq_false_iff.2 h7];rfl)
  rw [hno.out]
  obtain ⟨b0,ax⟩:∃ b,J ((3000:Int)<(x.text.size:Int))=b:=⟨_,rfl⟩
  have hb0':J (3000<x.text.size)=b0:=by rw [← ax];exact decide_eq_decide.2 (by omega)
  obtain ⟨b1,af⟩:∃ b,J ((8:Int)<(x.flt.ways.length:Int))=b:=⟨_,rfl⟩
  have hb1':J (8<x.flt.ways.length)=b1:=by rw [← af];exact decide_eq_decide.2 (by omega)
  obtain ⟨b2,aj⟩:∃ b,J ((60:Int)<(x.flt.call.size:Int))=b:=⟨_,rfl⟩
  have dT:J (60<x.flt.call.size)=b2:=by rw [← aj];exact decide_eq_decide.2 (by omega)
  obtain ⟨b3,aB⟩:∃ b,J ((60:Int)<(x.rep.cl.size:Int))=b:=⟨_,rfl⟩
  have hb3':J (60<x.rep.cl.size)=b3:=by rw [← aB];exact decide_eq_decide.2 (by omega)
  obtain ⟨b4,cO⟩:∃ b,J ((10:Int)<(x.tree.length:Int))=b:=⟨_,rfl⟩
  have hb4':J (10<x.tree.length)=b4:=by rw [← cO];exact decide_eq_decide.2 (by omega)
  obtain ⟨b5,bp⟩:∃ b,J ((20:Int)<(x.chg.modes.length:Int))=b:=⟨_,rfl⟩
  have hb5':J (20<x.chg.modes.length)=b5:=by rw [← bp];exact decide_eq_decide.2 (by omega)
  obtain ⟨b6,dC⟩:∃ b,J ((20:Int)<(x.stn.vols.length:Int))=b:=⟨_,rfl⟩
  have hb6':J (20<x.stn.vols.length)=b6:=by rw [← dC];exact decide_eq_decide.2 (by omega)
  have Hall:C ((b0 || b1 || b2 || b3 || b4 || b5 || b6)=M):=hd_ (by
   cases hall:(b0 || b1 || b2 || b3 || b4 || b5 || b6) with
   | true=>rfl
   | false =>
    exfalso
    simp only [Bool.or_eq_false_iff] at hall
    obtain ⟨⟨⟨⟨⟨⟨p0,p1⟩,p2⟩,p3⟩,p4⟩,p5⟩,p6⟩:=hall
    apply h7
    unfold k6u
    simp only [Bool.and_eq_true,decide_eq_true_eq]
    rw [← ax] at p0
    have p0:=of_decide_eq_false p0
    rw [← af] at p1
    have p1:=of_decide_eq_false p1
    rw [← aj] at p2
    have p2:=of_decide_eq_false p2
    rw [← aB] at p3
    have p3:=of_decide_eq_false p3
    rw [← cO] at p4
    have p4:=of_decide_eq_false p4
    rw [← bp] at p5
    have p5:=of_decide_eq_false p5
    rw [← dC] at p6
    have p6:=of_decide_eq_false p6
    exact ⟨⟨⟨⟨⟨⟨by omega,by omega⟩,by omega⟩,by omega⟩,by omega⟩,by omega⟩,by omega⟩)
  clear h7
  change Calls prog 12 #[L (x.cells (⟨I aw x.flt.ways.length cw,I jQ x.tree.length ct,I am x.chg.modes.length cm,I av x.stn.vols.length cv⟩:Slc)).toArray] w _
  go_enter func12,ntmps12
  go_upto_region 1 with fail
  change Code.wp _ _ _ _ (w.alloc (bI x ⟨I aw x.flt.ways.length cw,I jQ x.tree.length ct,I am x.chg.modes.length cm,I av x.stn.vols.length cv⟩))
  clear HC HT
  generalize w.alloc (bI x ⟨I aw x.flt.ways.length cw,I jQ x.tree.length ct,I am x.chg.modes.length cm,I av x.stn.vols.length cv⟩)=w1 at *
  go_upto_region 3 with fail
  all_goals (try (go_ret;exact ⟨rfl,HB.out⟩))
  all_goals (have hh:=Hall.out;have p0:b0=Q:=(by first|assumption|(simpa using ‹(!b0)=M›)|(cases b0 <;> simp_all));have p1:b1=Q:=(by first|assumption|(simpa using ‹(!b1)=M›)|(cases b1 <;> simp_all));have p2:b2=Q:=(by first|assumption|(simpa using ‹(!b2)=M›)|(cases b2 <;> simp_all));have p3:b3=Q:=(by first|assumption|(simpa using ‹(!b3)=M›)|(cases b3 <;> simp_all));have p4:b4=Q:=(by first|assumption|(simpa using ‹(!b4)=M›)|(cases b4 <;> simp_all));have p5:b5=Q:=(by first|assumption|(simpa using ‹(!b5)=M›)|(cases b5 <;> simp_all));have p6:b6=Q:=(by first|assumption|(simpa using ‹(!b6)=M›)|(cases b6 <;> simp_all));rw [p0,p1,p2,p3,p4,p5,p6] at hh;exact absurd hh (by decide))
 case pos =>
  have h7':=h7
  unfold k6u at h7'
  simp only [Bool.and_eq_true,decide_eq_true_eq] at h7'
  obtain ⟨⟨⟨⟨⟨⟨p0,p1⟩,p2⟩,p3⟩,p4⟩,p5⟩,p6⟩:=h7'
  have u0:J ((3000:Int)<(x.text.size:Int))=Q:=decide_eq_false (by omega)
  have v0:J (3000<x.text.size)=Q:=decide_eq_false (by omega)
  have u1:J ((8:Int)<(x.flt.ways.length:Int))=Q:=decide_eq_false (by omega)
  have v1:J (8<x.flt.ways.length)=Q:=decide_eq_false (by omega)
  have u2:J ((60:Int)<(x.flt.call.size:Int))=Q:=decide_eq_false (by omega)
  have v2:J (60<x.flt.call.size)=Q:=decide_eq_false (by omega)
  have u3:J ((60:Int)<(x.rep.cl.size:Int))=Q:=decide_eq_false (by omega)
  have v3:J (60<x.rep.cl.size)=Q:=decide_eq_false (by omega)
  have u4:J ((10:Int)<(x.tree.length:Int))=Q:=decide_eq_false (by omega)
  have v4:J (10<x.tree.length)=Q:=decide_eq_false (by omega)
  have u5:J ((20:Int)<(x.chg.modes.length:Int))=Q:=decide_eq_false (by omega)
  have v5:J (20<x.chg.modes.length)=Q:=decide_eq_false (by omega)
  have u6:J ((20:Int)<(x.stn.vols.length:Int))=Q:=decide_eq_false (by omega)
  have v6:J (20<x.stn.vols.length)=Q:=decide_eq_false (by omega)
  have H7:=hd_ h7
  clear h7 p0 p1 p2 p3 p4 p5 p6
  change Calls prog 12 #[L (x.cells (⟨I aw x.flt.ways.length cw,I jQ x.tree.length ct,I am x.chg.modes.length cm,I av x.stn.vols.length cv⟩:Slc)).toArray] w _
  go_enter func12,ntmps12
  go_upto_region 1 with fail
  change Code.wp _ _ _ _ (w.alloc (bI x ⟨I aw x.flt.ways.length cw,I jQ x.tree.length ct,I am x.chg.modes.length cm,I av x.stn.vols.length cv⟩))
  generalize w.alloc (bI x ⟨I aw x.flt.ways.length cw,I jQ x.tree.length ct,I am x.chg.modes.length cm,I av x.stn.vols.length cv⟩)=w1 at *
  go_wp2_with fail
  clear c4 c8 c9 kj mx c21 c27 u0 u1 u2 u3 u4 u5 u6 v0 v1 v2 v3 v4 v5 v6
  go_loopw [3] (fun i wr=>FwRel x (⟨I aw x.flt.ways.length cw,I jQ x.tree.length ct,I am x.chg.modes.length cm,I av x.stn.vols.length cv⟩:Slc) w i wr) (fun i _=>x.tree.length - (intOf i).toNat)
  case atStart=>exact ⟨⟨0,Nat.zero_le _,rfl,fun j n h=>by omega,HC.out,HB.out⟩⟩
  case round =>
   obtain ⟨k,hk,rfl,hn,hc,hb⟩:=hrel.h
   clear hrel
   have HN:=hd_ hn;have aP:=hd_ hc;have au:=hd_ hb
   have kj:=hc.cv 13 (I jQ x.tree.length ct)
   clear hn hc
   by_cases hlt:k<x.tree.length
   case neg =>
    have hkl:k=x.tree.length:=by omega
    have t1:J ((k:Int)<(x.tree.length:Int))=Q:=by simp;omega
    have t2:J (k<x.tree.length)=Q:=by simp;omega
    have HY:C (j7k x=M):=hd_ (by
     unfold j7k
     rw [H7.out,Bool.true_and,List.all_eq_true]
     intro n hn
     obtain ⟨j,hj,rfl⟩:=List.mem_iff_getElem.1 hn
     exact decide_eq_true (HN.out j _ (by omega) (gE hj)))
    clear hkl hk hlt hb
    go_wp2_with fail
    go_ret
    exact ⟨by rw [HY.out];rfl,au.out⟩
   case pos =>
    have t1:J ((k:Int)<(x.tree.length:Int))=M:=by simp;omega
    have t2:J (k<x.tree.length)=M:=by simp;omega
    have t3:(k:Int)<(x.tree.length:Int):=by omega
    obtain ⟨n,hn⟩:∃ n,x.tree[k]? = X n:=⟨_,gE hlt⟩
    obtain ⟨b,off,r,rfl,hbw,aC,hnr⟩:=HT.out.el hn
    obtain ⟨oc,cc,hcv,hcl⟩:=hnr.cuts.shape
    have d2:wr.cell? ⟨b,off+k * 3+2,G⟩=X (I oc n.cuts.length cc):=z1a hb (by have:=aC 2 r.cv rfl;rw [hcv] at this;exact this)
    have hc8:(n.cuts.length:Int)≤9223372036854775807:=by omega
    have Hn:=hd_ hn;have Hkx:=hd_ hlt
    clear hn hbw aC hnr hcv hcl hlt hk hb
    by_cases h8:n.cuts.length≤8
    ·have g1:J ((8:Int)<(n.cuts.length:Int))=Q:=decide_eq_false (by omega)
     have g2:J (8<n.cuts.length)=Q:=decide_eq_false (by omega)
     have H8:=hd_ h8
     clear h8
     go_wp2_with fail
     go_roundw
     case rel=>exact ⟨⟨k+1,by have:=Hkx.out;omega,by go_num,fun j m hj hm=>by
      by_cases e:j=k
      ·subst e;rw [Hn.out] at hm;injection hm with hm;subst hm;exact H8.out
      ·exact HN.out j m (by omega) hm,aP.out,au.out⟩⟩
     case measure=>have:=Hkx.out;simp [intOf];omega
    ·have g1:J ((8:Int)<(n.cuts.length:Int))=M:=decide_eq_true (by omega)
     have g2:J (8<n.cuts.length)=M:=decide_eq_true (by omega)
     have HY:C (j7k x=Q):=hd_ (by
      unfold j7k
      have:x.tree.all (fun n=>J (n.cuts.length≤8))=Q:=List.all_eq_false.2 ⟨n,List.mem_of_getElem? Hn.out,by simpa using h8⟩
      rw [this,Bool.and_false])
     clear h8
     go_wp2_with fail
     go_ret
     exact ⟨by rw [HY.out];rfl,au.out⟩
def RD (w:R) (x:V) (v:E):Prop:=x2f (fun k=>k<w.heap.size) w x v
theorem RD.ext {w w':R} {x:V} {v:Value} (h:RD w x v) (hb:F w.heap.size w w'):RD w' x v:=x2f.keep h (fun k hk=>Nat.lt_of_lt_of_le hk hb.size) (fun k hk=>hb.block k hk)
theorem j9z {D:Nat→Prop} {w:R}:∀ {l:List V} {b off:Nat} (_:V.atsD D w l b off) (k:Nat) (x:V),l[k]? = X x→V.atD D w x b (off+k * 4)
 | [],_,_,_,_,_,h=>by simp at h
 | y::r,b,off,h,0,x,hx=>by simp at hx;subst hx;simp only [V.atsD] at h;simpa using h.1
 | y::r,b,off,h,k+1,x,hx=>by
  simp only [V.atsD] at h
  have:=j9z h.2 k x (by simpa using hx)
  rw [show off+(k+1) * 4=off+4+k * 4 from by omega];exact this
theorem RD.el {w:R} {x:V} {k' n':Value} {s':Value} {oa:Option Addr} {n cap:Nat} (h:RD w x (L #[k',n',s',I oa n cap])) {k:Nat} {y:V} (hy:x.l[k]? = X y) :
 ∃ b off,oa=X ⟨b,off,G⟩∧b<w.heap.size∧∃ ob cb,w.cell? ⟨b,off+k * 4,G⟩=X (O U y.kind)∧w.cell? ⟨b,off+k * 4+1,G⟩=X (O U y.n)∧w.cell? ⟨b,off+k * 4+2,G⟩=X (T y.s)∧w.cell? ⟨b,off+k * 4+3,G⟩=X (I ob y.l.length cb)∧RD w y (L #[O U y.kind,O U y.n,T y.s,I ob y.l.length cb]):=by
 obtain ⟨-,-,-,lv,he,hs⟩:=h
 injection he with he
 have he:I oa n cap=lv:=by injection he with he;injection he with _ he;injection he with _ he;injection he with _ he;injection he with he _
 subst he
 rcases hs with ⟨h0,-⟩|⟨hne,b,off,cp,hc,-,hat⟩
 ·rw [h0] at hy;simp at hy
 ·injection hc with hc _ _
  have h1:=j9z hat k y hy
  obtain ⟨k',n',st,l⟩:=y
  simp only [V.atD] at h1
  obtain ⟨g0,g1,g2,g3,g4,g5,g6,lv,g7,g8⟩:=h1
  obtain ⟨ob,cb,rfl⟩:=z1k (D:=fun k=>k<w.heap.size) (w:=w) (l:=l) g8
  exact ⟨b,off,hc,g0,ob,cb,g4,g5,g6,g7,g1,g2,g3,_,rfl,g8⟩
theorem RD.form {w:R} {x:V} {v:Value} (h:RD w x v):∃ oa cap,v=L #[O U x.kind,O U x.n,T x.s,I oa x.l.length cap]:=by
 obtain ⟨-,-,-,lv,rfl,hs⟩:=h
 obtain ⟨oa,cap,rfl⟩:=z1k hs
 exact ⟨oa,cap,rfl⟩
theorem RD.lt {w:R} {x:V} {v:Value} (h:RD w x v):(x.l.length:Int)≤9223372036854775807:=by
 obtain ⟨-,-,-,lv,rfl,hs⟩:=h
 rcases hs with ⟨h0,-⟩|⟨-,b,off,cp,-,⟨h1,-⟩,-⟩
 ·rw [h0];simp
 ·unfold Y at h1;omega
def v4e (m:Int) (x:V) (w:R) (e:Ending) (w':R):Prop :=
 (∃ q oa cap,z7b m x=X q∧e=.returned (.tuple #[I oa q.length cap,.bool M])∧(∃ b,z7h nuK 3 w' b (I oa q.length cap) q)∧F w.heap.size w w')∨(z7b m x=G∧e=.returned (.tuple #[I G 0 0,.bool Q])∧F w.heap.size w w')
theorem x4q {m:Int} {x:V} (h:¬ (x.kind=3∧(m<0∨(x.l.length:Int)=m))):z7b m x=G:=by unfold z7b;rw [if_neg h]
theorem j0l {m:Int} {x:V} (h:x.kind=3∧(m<0∨(x.l.length:Int)=m)):z7b m x=z3k x.l:=by unfold z7b;rw [if_pos h]
theorem x2x {l:List V} {k:Nat} {y:V} {u:List Int} (h:z3k l=(z3k (l.drop k)).map (u ++ ·)) (hy:l[k]? = X y) (hk:¬ y.kind=1):z3k l=G:=by
 obtain ⟨h1,h2⟩:=gS.1 hy
 rw [h,List.drop_eq_getElem_cons h1,h2,z3k,if_neg hk];rfl
theorem x3x {l:List V} {k:Nat} {y:V} {u:List Int} (h:z3k l=(z3k (l.drop k)).map (u ++ ·)) (hy:l[k]? = X y) (hk:y.kind=1):z3k l=(z3k (l.drop (k+1))).map ((u++[y.n]) ++ ·):=by
 obtain ⟨h1,h2⟩:=gS.1 hy
 rw [h,List.drop_eq_getElem_cons h1,h2]
 conv=>lhs;rw [z3k,if_pos hk]
 cases z3k (l.drop (k+1)) with
 | none=>rfl
 | some t=>simp
theorem j1l {l:List V} {u:List Int} (h:z3k l=(z3k (l.drop l.length)).map (u ++ ·)):z3k l=X u:=by
 rw [h,List.drop_length];simp [z3k]
structure RnRel (x:V) (oa:Option Addr) (cap:Nat) (w:R) (v6 v7:E) (wr:R):Prop where
 h:∃ (k:Nat) (q:List Int) (ov:Option Addr) (cv:Nat),k≤x.l.length∧q.length=k∧v7=O U (k:Int)∧v6=I ov q.length cv∧z3k x.l=(z3k (x.l.drop k)).map (q ++ ·)∧z7h nuK 3 wr (w.heap.size+1) (I ov q.length cv) q∧CB wr w.heap.size 80 (v4 x (I oa x.l.length cap))∧F w.heap.size w wr
theorem x9b (m:Int) (x:V) (v:E) (w:R) (hv:RD w x v) (hl:x.l.length≤100000):Calls prog 122 #[v,O U m] w (v4e m x w):=by
 obtain ⟨oa,cap,rfl⟩:=hv.form
 have HV:=hd_ hv;have Hl:=hd_ hl
 have Hb:=hd_ (z4b (w:=w) (Z (v4 x (I oa x.l.length cap)).toArray 80))
 have hc:CB (w.alloc (Z (v4 x (I oa x.l.length cap)).toArray 80)) w.heap.size 80 (v4 x (I oa x.l.length cap)):=z3a w (Z (v4 x (I oa x.l.length cap)).toArray 80) _ _ rfl
 have HC:=hd_ hc
 have c0:=hc.cv 0 (O U x.kind)
 have c3:=hc.cv 3 (I oa x.l.length cap)
 have HZ:C ((w.alloc (Z (v4 x (I oa x.l.length cap)).toArray 80)).heap.size=w.heap.size+1):=World.size_alloc _ _
 have b1:(x.l.length:Int)≤9223372036854775807:=by omega
 by_cases hk:x.kind=3
 case neg =>
  have HN:=hd_ (x4q (m:=m) (x:=x) (fun h=>hk h.1))
  have u1:J (x.kind=3)=Q:=decide_eq_false hk
  have u2:(x.kind == 3)=Q:=beq_false_of_ne hk
  have u2n:(x.kind != 3)=M:=by rw [bne,u2];rfl
  clear hv hl hc hk
  go_enter func122,ntmps122
  go_upto_region 1 with fail
  change Code.wp _ _ _ _ (w.alloc (Z (v4 x (I oa x.l.length cap)).toArray 80))
  generalize w.alloc (Z (v4 x (I oa x.l.length cap)).toArray 80)=w1 at *
  go_wp2_with fail
  go_ret2
  exact .inr ⟨HN.out,rfl,Hb.out⟩
 have u1:J (x.kind=3)=M:=decide_eq_true hk
 have u2:(x.kind == 3)=M:=by rw [hk];rfl
 have u2n:(x.kind != 3)=Q:=by rw [bne,u2];rfl
 by_cases hm:m<0∨(x.l.length:Int)=m
 case neg =>
  have HN:=hd_ (x4q (m:=m) (x:=x) (fun h=>hm h.2))
  have hm0:(0:Int)≤m:=by omega
  have hm1:¬ (x.l.length:Int)=m:=by omega
  have u3:J ((0:Int)≤m)=M:=decide_eq_true hm0
  have u4:J ((x.l.length:Int)=m)=Q:=decide_eq_false hm1
  have u5:((x.l.length:Int) == m)=Q:=beq_false_of_ne hm1
  have u5n:((x.l.length:Int) != m)=M:=by rw [bne,u5];rfl
  clear hv hl hc hm hm1 hm0 hk
  go_enter func122,ntmps122
  go_upto_region 1 with fail
  change Code.wp _ _ _ _ (w.alloc (Z (v4 x (I oa x.l.length cap)).toArray 80))
  generalize w.alloc (Z (v4 x (I oa x.l.length cap)).toArray 80)=w1 at *
  go_wp2_with fail
  go_ret2
  exact .inr ⟨HN.out,rfl,Hb.out⟩
 have HY:=hd_ (j0l (m:=m) (x:=x) ⟨hk,hm⟩)
 obtain ⟨g,hg,hgm⟩:∃ g,J ((0:Int)≤m)=g∧(g=M→(x.l.length:Int)=m):=⟨_,rfl,fun h=>by have:=of_decide_eq_true h;omega⟩
 have Hgm:=hd_ hgm
 clear hv hl hc hk hm hgm
 have eO:z7h nuK 3 ((w.alloc (Z (v4 x (I oa x.l.length cap)).toArray 80)).alloc (Z #[] 3)) (w.heap.size+1) (I (X ⟨(w.alloc (Z (v4 x (I oa x.l.length cap)).toArray 80)).heap.size,0,G⟩) 0 0) []:=z7h.made _ _ _ (by rw [HZ.out];exact Nat.le_refl _)
 have aj:F (w.alloc (Z (v4 x (I oa x.l.length cap)).toArray 80)).heap.size (w.alloc (Z (v4 x (I oa x.l.length cap)).toArray 80)) ((w.alloc (Z (v4 x (I oa x.l.length cap)).toArray 80)).alloc (Z #[] 3)):=z4b _
 have jO:=hd_ eO;have aP:=hd_ (HC.out.ext aj);have au:=hd_ (z0a Hb.out aj)
 clear eO aj
 go_enter func122,ntmps122
 go_upto_region 1 with fail
 change Code.wp _ _ _ _ (w.alloc (Z (v4 x (I oa x.l.length cap)).toArray 80))
 generalize w.alloc (Z (v4 x (I oa x.l.length cap)).toArray 80)=w1 at *
 cases g
 case' true =>
  have u4:=Hgm.out rfl
  have u5:J ((x.l.length:Int)=m)=M:=decide_eq_true u4
  have u6:((x.l.length:Int) == m)=M:=by rw [u4];exact beq_self_eq_true m
  have u6n:((x.l.length:Int) != m)=Q:=by rw [bne,u6];rfl
  replace u4:=hd_ u4
 all_goals
  go_upto_region 4 with fail
  change Code.wp _ _ _ _ (w1.alloc (Z #[] 3))
  clear c0 c3
  generalize w1.alloc (Z #[] 3)=w2 at *
  go_wp2_with fail
  go_loopw [6,7] (fun v6 v7 wr=>RnRel x oa cap w v6 v7 wr) (fun _ v7 _=>x.l.length - (intOf v7).toNat)
  case atStart=>exact ⟨⟨0,[],_,_,Nat.zero_le _,rfl,rfl,rfl,by simp,jO.out,aP.out,au.out⟩⟩
  case round =>
   obtain ⟨k,q,ov,cv,hkl,hql,rfl,rfl,hA,hO,hc,hb⟩:=hrel.h
   clear hrel
   have HA:=hd_ hA;have HO:=hd_ hO;have iZ:=hd_ hc;have aA:=hd_ hb;have HQ:=hd_ hql
   have c3:=hc.cv 3 (I oa x.l.length cap)
   clear hA hO hc hb hql
   by_cases hlt:k<x.l.length
   case neg =>
    have hkl2:k=x.l.length:=by omega
    have t1:J ((k:Int)<(x.l.length:Int))=Q:=by simp;omega
    have t2:J (k<x.l.length)=Q:=by simp;omega
    have HE:=hd_ hkl2
    clear hkl2 hkl hlt
    go_wp2_with fail
    go_ret2
    exact .inl ⟨q,ov,cv,by rw [HY.out];exact j1l (by have:=HA.out;rwa [HE.out] at this),rfl,⟨_,HO.out⟩,aA.out⟩
   case pos =>
    have t1:J ((k:Int)<(x.l.length:Int))=M:=by simp;omega
    have t2:J (k<x.l.length)=M:=by simp;omega
    have t3:(k:Int)<(x.l.length:Int):=by omega
    obtain ⟨y,hy⟩:∃ y,x.l[k]? = X y:=⟨_,gE hlt⟩
    have lX:=hd_ hy
    have aC:=(HV.out.ext aA.out).el hy
    obtain ⟨b,off,rfl,hbw,ob,cb,d0,d1,-,-,-⟩:=aC
    have jc:=hd_ hbw
    clear hy hbw hkl
    by_cases hk1:y.kind=1
    case neg =>
     have w1':J (y.kind=1)=Q:=decide_eq_false hk1
     have w2':(y.kind == 1)=Q:=beq_false_of_ne hk1
     have w3':(y.kind != 1)=M:=by rw [bne,w2'];rfl
     have HN:=hd_ (x2x HA.out lX.out hk1)
     clear hk1
     go_wp2_with fail
     go_ret2
     exact .inr ⟨by rw [HY.out];exact HN.out,rfl,aA.out⟩
    case pos =>
     have w1':J (y.kind=1)=M:=decide_eq_true hk1
     have w2':(y.kind == 1)=M:=by rw [hk1];rfl
     have w3':(y.kind != 1)=Q:=by rw [bne,w2'];rfl
     have HN:=hd_ (x3x HA.out lX.out hk1)
     have aR:F wr.heap.size wr (wr.alloc (Z [O U y.n].toArray 3)):=z4b _
     have fe:C (Src prog 1 24 (I (X ⟨wr.heap.size,0,G⟩) 1 1) 1 (nuK.flat [y.n]) (wr.alloc (Z [O U y.n].toArray 3))):=y3l (K:=nuK) (a:=y.n) underlying24 (CB.new wr _ _)
     have ip:=hd_ (HO.out.ext aR);have dX:=hd_ (iZ.out.ext aR);have cH:=hd_ (z0a aA.out aR)
     have Hq:C (q.length≤100000):=hd_ (by have:=HQ.out;have:=Hl.out;omega)
     have ex:C (w.heap.size+1≤(wr.alloc (Z [O U y.n].toArray 3)).heap.size):=hd_ (by have:=dX.out.lt;omega)
     clear hk1 aR
     go_wp2_with (at_builtin;have _g:=fe.out;refine z4e (e:=3) (z:=(O U 0)) (size:=1) (bytes:=8) underlying24 j4i rfl rfl _ _ rfl (w.heap.size+1) (I ov q.length cv) q.length (nuK.flat q) rfl ip.out _ 1 (nuK.flat [y.n]) rfl fe.out (by have:=Hq.out;unfold Y;omega) (by have:=Hq.out;omega) ex.out ?_;intro v5 w5 eA eh ir;have iq:C (z7h nuK 3 w5 (w.heap.size+1) v5 (q++[y.n])):=z7h.append (K:=nuK) eA (by simp);have dF:=hd_ (dX.out.keep (eh.block _ dX.out.lt (fun e=>by have:=(ip.out.lt _ e.symm).1;omega)));have bZ:=hd_ (x9s cH.out ip.out eh);obtain ⟨o5,c5,hv5,-⟩:=iq.out.rd.shape;rw [List.length_append,List.length_singleton] at hv5;subst hv5;clear fe eA eh ir)
     go_roundw
     case rel=>exact ⟨⟨k+1,q++[y.n],o5,c5,by omega,by simp [HQ.out],by go_num,by simp,HN.out,by rw [List.length_append,List.length_singleton];exact iq.out,dF.out,bZ.out⟩⟩
     case measure=>simp [intOf];omega
theorem z9c (m:Int) (x:V) (v:E) (w:R) (hv:RD w x v):Calls prog 121 #[v,O U m] w fun e w'=>e=.returned (.bool (J (x.kind=3∧(x.l.length:Int)=m)))∧F w.heap.size w w':=by
 obtain ⟨oa,cap,rfl⟩:=hv.form
 have Hb:=hd_ (z4b (w:=w) (Z (v4 x (I oa x.l.length cap)).toArray 80))
 have hc:CB (w.alloc (Z (v4 x (I oa x.l.length cap)).toArray 80)) w.heap.size 80 (v4 x (I oa x.l.length cap)):=z3a w (Z (v4 x (I oa x.l.length cap)).toArray 80) _ _ rfl
 have c0:=hc.cv 0 (O U x.kind)
 have c3:=hc.cv 3 (I oa x.l.length cap)
 have b1:=hv.lt
 clear hc hv
 by_cases hk:x.kind=3
 case neg =>
  rw [decide_eq_false (fun h=>hk h.1)]
  have u1:J (x.kind=3)=Q:=decide_eq_false hk
  have u2:(x.kind == 3)=Q:=beq_false_of_ne hk
  have u2n:(x.kind != 3)=M:=by rw [bne,u2];rfl
  clear hk
  go_enter func121,ntmps121
  go_upto_region 1 with fail
  change Code.wp _ _ _ _ (w.alloc (Z (v4 x (I oa x.l.length cap)).toArray 80))
  generalize w.alloc (Z (v4 x (I oa x.l.length cap)).toArray 80)=w1 at *
  go_wp2_with fail
  go_ret
  exact ⟨rfl,Hb.out⟩
 have u1:J (x.kind=3)=M:=decide_eq_true hk
 have u2:(x.kind == 3)=M:=by rw [hk];rfl
 have u2n:(x.kind != 3)=Q:=by rw [bne,u2];rfl
 by_cases hm:(x.l.length:Int)=m
 ·rw [decide_eq_true ⟨hk,hm⟩]
  have u3:J ((x.l.length:Int)=m)=M:=decide_eq_true hm
  have u4:((x.l.length:Int) == m)=M:=by rw [hm];exact beq_self_eq_true m
  clear hk hm
  go_enter func121,ntmps121
  go_upto_region 1 with fail
  change Code.wp _ _ _ _ (w.alloc (Z (v4 x (I oa x.l.length cap)).toArray 80))
  generalize w.alloc (Z (v4 x (I oa x.l.length cap)).toArray 80)=w1 at *
  go_wp2_with fail
  go_ret
  exact ⟨rfl,Hb.out⟩
 ·rw [decide_eq_false (fun h=>hm h.2)]
  have u3:J ((x.l.length:Int)=m)=Q:=decide_eq_false hm
  have u4:((x.l.length:Int) == m)=Q:=beq_false_of_ne hm
  clear hk hm
  go_enter func121,ntmps121
  go_upto_region 1 with fail
  change Code.wp _ _ _ _ (w.alloc (Z (v4 x (I oa x.l.length cap)).toArray 80))
  generalize w.alloc (Z (v4 x (I oa x.l.length cap)).toArray 80)=w1 at *
  go_wp2_with fail
  go_ret
  exact ⟨rfl,Hb.out⟩
theorem j7t {D:Nat→Prop} {B:Nat} {w:R} {lv:Value} {xs:List V} (h:z1j (fun _=>False) B w lv xs) (hD:∀ j,D j→j<B):z1j D B w lv xs:=by
 obtain ⟨⟨lvs,h1,h2,h3,h4⟩,h5⟩:=h
 exact ⟨⟨lvs,h1,z5f (fun k hk=>⟨hk.1.elim (fun h=>h.elim) .inr,hk.2⟩) (fun _ _=>rfl) _ _ h2,h3,fun k hk=>hk.2.2⟩,hD⟩
theorem j8t {α:Type} {l:List α} {k:Nat} {x:α} (h:l[k]? = X x):l.take (k+1)=l.take k++[x]:=by rw [List.take_add_one,h];rfl
structure PtRel (ys:List V) (w:R) (x:V) (oa:Option Addr) (cap:Nat) (v5 v6:E) (wr:R):Prop where
 h:∃ (xs:List V) (ov:Option Addr) (cv:Nat),xs=ys.take xs.length∧xs.length≤ys.length∧v6=O U (xs.length:Int)∧v5=I ov xs.length cv∧z1j (fun j=>j<w.heap.size) (w.heap.size+2) wr (I ov xs.length cv) xs∧CB wr w.heap.size 80 (v4 x (I oa x.l.length cap))∧CB wr (w.heap.size+1) 80 Z4c∧F w.heap.size w wr
theorem j2l {w w':R} {b o:Nat} {cs:List Value} (h:∀ j u,cs[j]? = X u→w.cell? ⟨b,o+j,G⟩=X u) (hk:w'.heap[b]? = w.heap[b]?):w'.rangeAt b o cs:=fun j u hu=>(World.cell?_of_block (w:=w) hk).trans (h j u hu)
theorem z2k (x:V) (v vi:E) (idx:List Nat) (ys:List V) (w:R) (hv:RD w x v) (hi:z4g nuK w.heap.size w (idx.map (fun (k:Nat)=>(k:Int))) vi) (hyl:ys.length=idx.length) (hyx:∀ (j i:Nat) (y:V),idx[j]? = X i→ys[j]? = X y→x.l[i]? = X y) (hn:idx.length≤100) :
 Calls prog 123 #[v,vi] w fun e w'=>∃ lv,e=.returned (L (lvC lv).toArray)∧RD w' (lV ys) (L (lvC lv).toArray)∧F w.heap.size w w':=by
 obtain ⟨oa,cap,rfl⟩:=hv.form
 obtain ⟨oi,ci,rfl,-⟩:=hi.shape
 have hm:(idx.map (fun (k:Nat)=>(k:Int))).length=idx.length:=List.length_map _
 rw [hm] at hi ⊢
 have HV:=hd_ hv;have HI:=hd_ hi;have HYL:=hd_ hyl;have gb:=hd_ hyx;have Hn:=hd_ hn
 have af:F w.heap.size w ((w.alloc (Z (v4 x (I oa x.l.length cap)).toArray 80)).alloc Z4):=(z4b (w:=w) (Z (v4 x (I oa x.l.length cap)).toArray 80)).alloc (z4b (w:=w) (Z (v4 x (I oa x.l.length cap)).toArray 80)).size _
 have cE:CB ((w.alloc (Z (v4 x (I oa x.l.length cap)).toArray 80)).alloc Z4) w.heap.size 80 (v4 x (I oa x.l.length cap)):=(z3a w (Z (v4 x (I oa x.l.length cap)).toArray 80) _ _ rfl).alloc _
 have gV:CB ((w.alloc (Z (v4 x (I oa x.l.length cap)).toArray 80)).alloc Z4) (w.heap.size+1) 80 Z4c:=by
  have:=z3a (w.alloc (Z (v4 x (I oa x.l.length cap)).toArray 80)) Z4 80 Z4c rfl
  rwa [World.size_alloc] at this
 have bJ:((w.alloc (Z (v4 x (I oa x.l.length cap)).toArray 80)).alloc Z4).heap.size=w.heap.size+2:=by rw [World.size_alloc,World.size_alloc]
 have aG:=hd_ af;have cY:=hd_ cE;have ku:=hd_ gV;have bC:=hd_ bJ
 clear hv hi hyl hyx hn af cE gV bJ hm
 go_enter func123,ntmps123
 go_upto_region 1 with fail
 change Code.wp _ _ _ _ ((w.alloc (Z (v4 x (I oa x.l.length cap)).toArray 80)).alloc Z4)
 generalize (w.alloc (Z (v4 x (I oa x.l.length cap)).toArray 80)).alloc Z4=w1 at *
 have eO:=z1i (B:=w.heap.size+2) (w:=w1) [] [] (by rw [bC.out];exact Nat.le_refl _) trivial (by simp)
 have jO:=hd_ (j7t (D:=fun j=>j<w.heap.size) eO (fun j hj=>by omega))
 have hbz:F w1.heap.size w1 (w1.alloc (Z (z8f [] []).toArray 80)):=z4b _
 replace cY:=hd_ (cY.out.ext hbz);replace ku:=hd_ (ku.out.ext hbz);replace aG:=hd_ (z0a aG.out hbz)
 clear eO hbz
 go_upto_region 2 with fail
 change Code.wp _ _ _ _ (w1.alloc (Z (z8f [] []).toArray 80))
 generalize w1.alloc (Z (z8f [] []).toArray 80)=w2 at *
 clear bC
 go_wp2_with fail
 go_loopw [5,6] (fun v5 v6 wr=>PtRel ys w x oa cap v5 v6 wr) (fun _ v6 _=>idx.length - (intOf v6).toNat)
 case atStart=>exact ⟨⟨[],_,_,rfl,Nat.zero_le _,rfl,rfl,jO.out,cY.out,ku.out,aG.out⟩⟩
 case round =>
  obtain ⟨xs,ov,cv,hx,hxl,rfl,rfl,hO,hC,hZ,hB⟩:=hrel.h
  clear hrel
  have HX:=hd_ hx;have HXl:=hd_ hxl;have HO:=hd_ hO;have eG:=hd_ hC;have HZr:=hd_ hZ;have HB:=hd_ hB
  have il:(idx.length:Int)≤9223372036854775807:=by have:=Hn.out;omega
  clear hx hxl hO hC hZ hB
  by_cases hlt:xs.length<idx.length
  case neg =>
   have t1:J ((xs.length:Int)<(idx.length:Int))=Q:=by simp;omega
   have t2:J (xs.length<idx.length)=Q:=by simp;omega
   have HE:C (xs=ys):=hd_ (by have:=HX.out;have:=HYL.out;rw [HX.out,List.take_of_length_le (by omega)])
   have eD:=hd_ (HO.out.rd)
   have aD:=hd_ (z0y 3 0 ⟨#[]⟩ (I ov xs.length cv) rfl)
   clear hlt
   go_wp2_with (first
    | (go_at_call 52;refine (z0g ov xs.length cv _).mono ?_;(rintro e w7 ⟨rfl,ag⟩;have mU:=hd_ (HZr.out.ext ag);have oC:=hd_ ag;have ky:=hd_ (z0a HB.out ag);clear ag HZr HB))
    | (have _g:=mU.out;refine scs 80 (.tmp 4) (.tmp 26) rfl (w.heap.size+1) [O U 3,O U 0,T ⟨#[]⟩,I ov xs.length cv] rfl rfl mU.out aD.out (fun w8 aI bg dk=>?_);clear aD))
   refine bodyPost_ret (v:=L ([O U 3,O U 0,T ⟨#[]⟩,I ov xs.length cv]:List E).toArray) (results_cell_row rfl _ _ (w.heap.size+1) 80 _ (0,0) _ rfl aI.out underlying80 rfl (by kernel_rfl)) rfl ?_
   refine ⟨_,rfl,?_,ky.out.grown bg.out ky.out.size (fun k hk=>by injection hk with hk;omega)⟩
   rw [← HE.out]
   refine eD.out.keep (fun k hk=>?_) (fun k hk=>?_)
   ·have:=oC.out.size;have:=bg.out.size;have:=hk.2;omega
   ·exact (bg.out.block k (by have:=oC.out.size;have:=hk.2;omega) (fun e=>by injection e with e;have:=hk.1;omega)).trans (oC.out.block k hk.2)
  case pos =>
   have t1:J ((xs.length:Int)<(idx.length:Int))=M:=by simp;omega
   have t2:J (xs.length<idx.length)=M:=by simp;omega
   have t3:(xs.length:Int)<(idx.length:Int):=by omega
   obtain ⟨i,hi⟩:∃ i,idx[xs.length]? = X i:=⟨_,gE hlt⟩
   obtain ⟨y,hy⟩:∃ y,ys[xs.length]? = X y:=⟨_,gE (by have:=HYL.out;omega)⟩
   have hxi:=gb.out _ i y hi hy
   have hil:=(gS.1 hxi).1
   have i1:(i:Int)<(x.l.length:Int):=by omega
   have i0:(0:Int)≤(i:Int):=by omega
   have xb:=HV.out.lt
   obtain ⟨bi,offi,rfl,hbi,hati⟩:=z4g.at (K:=nuK) (l:=idx.map (fun (k:Nat)=>(k:Int))) (by rw [List.length_map];exact HI.out) (k:=xs.length) (by rw [List.length_map];exact hlt)
   have CI:C (wr.cell? ⟨bi,offi+xs.length,G⟩=X (O U (i:Int))):=hd_ (by
    have h1:=hati xs.length (i:Int) (by rw [List.getElem?_map,hi];rfl) 0 _ rfl
    have h1:w.cell? ⟨bi,offi+xs.length * 1+0,G⟩=X (O U (i:Int)):=h1
    rw [Nat.mul_one,Nat.add_zero] at h1
    exact z1a HB.out h1)
   obtain ⟨b,off,rfl,hbw,oy,cy,d0,d1,d2,d3,hyr⟩:=HV.out.el hxi
   have C3:=hd_ (eG.out.cv 3 (I (X ⟨b,off,G⟩) x.l.length cap))
   have eX:=hd_ hbi;have jz:=hd_ hbw
   have CY:C (∀ wS:R,(∀ k,k<w.heap.size+1→wS.heap[k]? = wr.heap[k]?)→wS.rangeAt b (off+i * 4) (v4 y (I oy y.l.length cy))):=fun wS hS=>by
    refine j2l (w:=w) (fun j u hu=>?_) ((hS b (by omega)).trans (HB.out.block b hbw))
    match j,hu with
    | 0,hu=>simp at hu;subst hu;exact d0
    | 1,hu=>simp at hu;subst hu;exact d1
    | 2,hu=>simp at hu;subst hu;exact d2
    | 3,hu=>simp at hu;subst hu;exact d3
   have HN:C (z0z (DL (fun j=>j<w.heap.size) (w.heap.size+2) wr (I ov xs.length cv)) wr y (I oy y.l.length cy)):=by
    obtain ⟨g1,g2,g3,lv,he,g4⟩:=hyr
    injection he with he
    have he:I oy y.l.length cy=lv:=by injection he with he;injection he with _ he;injection he with _ he;injection he with _ he;injection he with he _
    subst he
    exact ⟨g1,g2,g3,g4.keep (fun k hk=>⟨.inl hk,Nat.lt_of_lt_of_le hk HB.out.size,fun e=>by have:=(HO.out.own k e.symm).1;omega⟩) (fun k hk=>HB.out.block k hk)⟩
   have HxL:C (xs.length≤100):=hd_ (by have:=Hn.out;omega)
   have HT:=hd_ (j8t hy)
   have HL2:=hd_ (show xs.length<ys.length from (gS.1 hy).1)
   clear hxi hil hati hbi hbw d0 d1 d2 d3 hyr hi hy hlt
   go_upto_region 5 with fail
   refine z7a (S:=fun w'=>∀ k,k<w.heap.size+1→w'.heap[k]? = wr.heap[k]?) (late:=fun _=>Q) (by kernel_rfl) (fun _ _=>rfl) (fun hHeld=>?_)
   have aQ:=(Below.refl wr.heap.size wr).drew
   have dh:=hd_ (HO.out.ext aQ)
   have fg:=hd_ (HZr.out.ext aQ)
   have au:=hd_ (z0a HB.out aQ)
   have fZ:=hd_ (show z0z (DL (fun j=>j<w.heap.size) (w.heap.size+2) wr.drew (I ov xs.length cv)) wr.drew y (I oy y.l.length cy) from HN.out.keep (fun k hk=>⟨hk.1,hk.2⟩) (fun k hk=>rfl))
   have fN:∀ k,k<w.heap.size+1→wr.drew.heap[k]? = wr.heap[k]?:=fun _ _=>rfl
   clear aQ HO HZr HB HN
   generalize wr.drew=w4 at *
   refine tkL 14 0 ?_
   refine tkL 15 1 ?_
   refine tkL 16 2 ?_ (hy:=fun wS aa=>by have z3:wS.cell? ⟨w.heap.size,3,G⟩=X (I (X ⟨b,off,G⟩) x.l.length cap):=(World.cell?_of_block (w:=wr) (aa w.heap.size (by omega))).trans C3.out;go_simp;first|done|with_reducible rfl)
   refine tkL 17 3 ?_
   refine tkL 18 4 ?_
   refine tkL 19 5 ?_
   refine tkL 20 6 ?_ (hy:=fun wS aa=>by have z4:wS.cell? ⟨bi,offi+xs.length,G⟩=X (O U (i:Int)):=(World.cell?_of_block (w:=wr) (aa bi (by have:=eX.out;omega))).trans CI.out;go_simp;first|done|with_reducible rfl)
   refine tkL 21 7 ?_
   refine z2x 22 8 rfl (L ((v4 y (I oy y.l.length cy))).toArray) (yieldsIf_load_mid (by rfl) 80 _ rfl b (off+i * 4) rfl ((v4 y (I oy y.l.length cy))) _ (fun wS aa=>(CY.out wS aa)) underlying80 rfl (by kernel_rfl)) ?_
   refine rdL 9 fun K hK=>?_
   go_simp
   have aF:C (CB (w4.alloc (Z (v4 y (I oy y.l.length cy)).toArray 80)) w4.heap.size 80 (v4 y (I oy y.l.length cy))):=z3a w4 _ _ _ rfl
   have hz:F w4.heap.size w4 (w4.alloc (Z (v4 y (I oy y.l.length cy)).toArray 80)):=z4b _
   change K _ (w4.alloc (Z (v4 y (I oy y.l.length cy)).toArray 80))
   have lN:∀ k,k<w.heap.size+1→(w4.alloc (Z (v4 y (I oy y.l.length cy)).toArray 80)).heap[k]? = wr.heap[k]?:=fun k hk=>(hz.block k (by have:=au.out.size;have:=fg.out.lt;omega)).trans (fN k hk)
   have iC:=hd_ (show z0z (DL (fun j=>j<w.heap.size) (w.heap.size+2) (w4.alloc (Z (v4 y (I oy y.l.length cy)).toArray 80)) (I ov xs.length cv)) (w4.alloc (Z (v4 y (I oy y.l.length cy)).toArray 80)) y (I oy y.l.length cy) from fZ.out.keep (fun k hk=>⟨hk.1,Nat.lt_of_lt_of_le hk.2.1 hz.size,hk.2.2⟩) (fun k hk=>hz.block k hk.2.1))
   replace dh:=hd_ (dh.out.ext hz)
   replace fg:=hd_ (fg.out.ext hz)
   replace au:=hd_ (z0a au.out hz)
   clear hz fN fZ
   generalize w4.alloc (Z (v4 y (I oy y.l.length cy)).toArray 80)=w5 at *
   generalize w4.heap.size=gk at *
   refine z4n hK lN fun hHeld=>?_
   clear hK K
   refine rdL 10 fun K hK=>?_
   refine z2f underlying78 z8j rfl (.tmp 14) (.tmp 23) rfl (fun j=>j<w.heap.size) (w.heap.size+2) (I ov xs.length cv) xs rfl ?q1 gk y (I oy y.l.length cy) rfl ?q2 ?q3 ?q4 ?q5 ?_
   case q1=>exact dh.out
   case q2=>exact iC.out
   case q3=>(refine ⟨?_,?_,?_,?_⟩ <;> first|exact aF.out.cell 0|exact aF.out.cell 1|exact aF.out.cell 2|exact aF.out.cell 3)
   case q4=>(have:=HxL.out;omega)
   case q5=>(have:=fg.out.lt;omega)
   intro dg dq w9 jh ay
   have fF:=hd_ jh
   have HZ9:=hd_ (fg.out.keep (ay.block _ fg.out.lt (fun e=>by have:=(dh.out.own _ e.symm).1;omega)))
   have dx:=hd_ (au.out.grown ay au.out.size (fun q e=>by have:=(dh.out.own q e).1;omega))
   have iF:∀ k,k<w.heap.size+1→w9.heap[k]? = wr.heap[k]?:=fun k hk=>(ay.block k (by have:=fg.out.lt;omega) (fun e=>by have:=(dh.out.own _ e.symm).1;omega)).trans (lN k hk)
   clear jh ay aF iC dh fg au lN
   refine hK.out (Act.put _ (X 24) _) w9 (fun _=>iF) (fun ae=>?_)
   clear hK K
   have hHeld:=ae (by rfl)
   clear ae
   try simp only [Act.put,List.setIfInBounds_toArray,List.set_cons_zero,List.set_cons_succ]
   refine tkL 5 11 ?_
   refine z3b (by kernel_rfl) ?_ _
   go_wp2_with fail
   go_roundw
   case rel =>
    have iD:(xs++[y]).length=xs.length+1:=by simp
    exact ⟨⟨xs++[y],dg,dq,by rw [iD,HT.out,← HX.out],by rw [iD];have:=HL2.out;omega,by rw [iD];go_num,by rw [iD],by rw [iD];exact fF.out,eG.out.keep (iF _ (by omega)),HZ9.out,dx.out⟩⟩
   case measure=>simp [intOf];omega
end Go.Proofs.YtdblnbnofjggnaaGreatDoor
