/- Parts of the proofs of chapter 49's laws: Jpl Jrp Jfw. -/
import Derived.Test.YtdblnbnofjggnaaGreatDoorM43
import Derived.Test.YtdblnbnofjggnaaGreatDoorM41
import Derived.Test.YtdblnbnofjggnaaGreatDoorM33
set_option maxHeartbeats 8000000
set_option maxRecDepth 100000
open Go
open Lib renaming hid → hd_
open Option renaming bind_eq_some_iff → bE
namespace Go.Proofs.YtdblnbnofjggnaaGreatDoor
open Go.RowKit
theorem z8z (n:Int):sz (iV n) = 24:=by unfold iV;simp only [sz,szs,show (⟨#[]⟩:ByteArray).size = 0 from rfl]
theorem k5a (s:ByteArray):sz (tV s) = 24 + s.size:=by unfold tV;simp only [sz,szs];omega
theorem j1f (b:Bool):sz (bV b) = 24:=z8z _
theorem y1y (a b:Int):sz (spV a b) = 72:=by unfold spV;rw [z7p];simp only [szs,z8z]
theorem j2f (l:List Int):sz (nsV l) = 24 + szs (l.map iV):=by unfold nsV;rw [z7p]
theorem j3f:∀ l:List Int,szs (l.map iV) = 24 * l.length
 | []=>rfl
 | x :: r=>by simp only [List.map_cons,szs,z8z,j3f r,List.length_cons];omega
theorem k8m (x:V):24 ≤ sz x:=by obtain ⟨k,n,s,l⟩:=x;simp only [sz];omega
theorem j4f:∀ l:List V,24 * l.length ≤ szs l
 | []=>by simp
 | x :: r=>by have:=j4f r;have:=k8m x;simp only [szs,List.length_cons];omega
theorem y1p (x:V):sz x = 24 + x.s.size + szs x.l:=by obtain ⟨k,n,s,l⟩:=x;rfl
theorem y6a {x:V} (h:okV x):I64 x.kind∧I64 x.n∧x.s.size ≤ maxLen∧z3h x.l:=by
 obtain ⟨k,n,s,l⟩:=x
 simp only [okV] at h
 exact ⟨h.1,h.2.1,h.2.2.1,h.2.2.2.2⟩
theorem y2p {k:Int} {l r:List V} {x:V} (h:nxt k l = some (x,r)) (ok:z3h l):okV x∧z3h r∧szs l = sz x + szs r:=by
 cases l with
 | nil=>cases h
 | cons y t =>
  have h:(if y.kind = k then some (y,t) else none) = some (x,r):=h
  by_cases hk:y.kind = k
  · rw [if_pos hk] at h;injection h with h;injection h with h1 h2;subst h1 h2
    simp only [z3h] at ok
    exact ⟨ok.1,ok.2,by simp only [szs]⟩
  · rw [if_neg hk] at h;cases h
theorem z0c {l:List V} {a:Int × List V} (h:z2f l = some a) (ok:z3h l):I64 a.1∧z3h a.2∧24 + szs a.2 ≤ szs l:=by
 unfold z2f at h
 obtain ⟨⟨x,r⟩,h1,h2⟩:=bE.1 h
 injection h2 with h2;subst h2
 obtain ⟨k1,k2,k3⟩:=y2p h1 ok
 have:=k8m x
 exact ⟨(y6a k1).2.1,k2,by show 24 + szs r ≤ _;omega⟩
theorem y0f {l:List V} {a:ByteArray × List V} (h:x4m l = some a) (ok:z3h l):a.1.size ≤ maxLen∧z3h a.2∧24 + a.1.size + szs a.2 ≤ szs l:=by
 unfold x4m at h
 obtain ⟨⟨x,r⟩,h1,h2⟩:=bE.1 h
 injection h2 with h2;subst h2
 obtain ⟨k1,k2,k3⟩:=y2p h1 ok
 have:=y1p x
 exact ⟨(y6a k1).2.2.1,k2,by show 24 + x.s.size + szs r ≤ _;omega⟩
theorem z8e {l:List V} {a:List V × List V} (h:z5k l = some a) (ok:z3h l):z3h a.1∧z3h a.2∧24 + szs a.1 + szs a.2 ≤ szs l:=by
 unfold z5k at h
 obtain ⟨⟨x,r⟩,h1,h2⟩:=bE.1 h
 injection h2 with h2;subst h2
 obtain ⟨k1,k2,k3⟩:=y2p h1 ok
 have:=y1p x
 exact ⟨(y6a k1).2.2.2,k2,by show 24 + szs x.l + szs r ≤ _;omega⟩
theorem y1f {l:List V} {a:Bool × List V} (h:y5o l = some a) (ok:z3h l):z3h a.2∧24 + szs a.2 ≤ szs l:=by
 unfold y5o at h
 obtain ⟨⟨x,r⟩,h1,h2⟩:=bE.1 h
 injection h2 with h2;subst h2
 exact (z0c h1 ok).2
theorem y2y {l:List V} {a:(Int × Int) × List V} (h:y1e l = some a) (ok:z3h l):I64 a.1.1∧I64 a.1.2∧z3h a.2∧72 + szs a.2 ≤ szs l:=by
 unfold y1e at h
 simp only [bE] at h
 obtain ⟨p,h1,b,h2,c,h3,h4⟩:=h
 injection h4 with h4;subst h4
 obtain ⟨k1,k2,k3⟩:=z8e h1 ok
 obtain ⟨m1,m2,m3⟩:=z0c h2 k1
 obtain ⟨n1,n2,n3⟩:=z0c h3 m2
 exact ⟨m1,n1,k2,by show 72 + szs p.2 ≤ _;omega⟩
theorem y1k:∀ {l:List V} {q:List Int} (_:z6k l = some q) (_:z3h l),(∀ x ∈ q,I64 x)∧szs (q.map iV) ≤ szs l
 | [],q,h,_=>by injection h with h;subst h;simp [szs]
 | x :: r,q,h,ok=>by
  simp only [z6k,bE] at h
  obtain ⟨a,h1,t,h2,h3⟩:=h
  injection h3 with h3;subst h3
  have hr:a.2 = r:=by
   unfold z2f at h1
   obtain ⟨⟨y,u⟩,e1,e2⟩:=bE.1 h1
   injection e2 with e2;subst e2
   have e1:(if x.kind = 1 then some (x,r) else none) = some (y,u):=e1
   by_cases hk:x.kind = 1
   · rw [if_pos hk] at e1;injection e1 with e1;injection e1 with _ e1;exact e1.symm
   · rw [if_neg hk] at e1;cases e1
  obtain ⟨k1,k2,k3⟩:=z0c h1 ok
  rw [hr] at k2 k3
  obtain ⟨m1,m2⟩:=y1k h2 k2
  refine ⟨fun z hz=>?_,by simp only [List.map_cons,szs,z8z] at *;omega⟩
  rcases List.mem_cons.1 hz with rfl | hz
  · exact k1
  · exact m1 z hz
theorem y2f {l:List V} {a:List Int × List V} (h:y0r l = some a) (ok:z3h l):(∀ x ∈ a.1,I64 x)∧z3h a.2∧sz (nsV a.1) + szs a.2 ≤ szs l:=by
 unfold y0r at h
 simp only [bE] at h
 obtain ⟨p,h1,q,h2,h3⟩:=h
 injection h3 with h3;subst h3
 obtain ⟨k1,k2,k3⟩:=z8e h1 ok
 obtain ⟨m1,m2⟩:=y1k h2 k1
 exact ⟨m1,k2,by rw [j2f];show 24 + szs (q.map iV) + szs p.2 ≤ _;omega⟩
theorem j5f {l:List V} {c:Cut} (h:x6a l = some c) (ok:z3h l):CutI c∧sz (z2s c) ≤ 24 + szs l:=by
 unfold x6a at h
 simp only [bE] at h
 obtain ⟨a,h1,b,h2,d,h3,e,h4,h5⟩:=h
 injection h5 with h5;subst h5
 obtain ⟨k1,k2⟩:=y1f h1 ok
 obtain ⟨m1,m2,m3⟩:=z0c h2 k1
 obtain ⟨n1,n2,n3,n4⟩:=y2y h3 m2
 obtain ⟨p1,p2,p3⟩:=z0c h4 n3
 refine ⟨⟨m1,n1,n2,p1⟩,?_⟩
 unfold z2s
 rw [z7p]
 simp only [szs,j1f,z8z,y1y]
 omega
theorem x1n {x:V} {r:List V} {a:List V × List V} (h:z5k (x :: r) = some a):a.2 = r:=by
 unfold z5k at h
 obtain ⟨⟨y,u⟩,e1,e2⟩:=bE.1 h
 injection e2 with e2;subst e2
 have e1:(if x.kind = 3 then some (x,r) else none) = some (y,u):=e1
 by_cases hk:x.kind = 3
 · rw [if_pos hk] at e1;injection e1 with e1;injection e1 with _ e1;exact e1.symm
 · rw [if_neg hk] at e1;cases e1
theorem y2k:∀ {l:List V} {q:List Cut} (_:z2h l = some q) (_:z3h l),(∀ x ∈ q,CutI x)∧szs (q.map z2s) ≤ szs l
 | [],q,h,_=>by injection h with h;subst h;simp [szs]
 | x :: r,q,h,ok=>by
  simp only [z2h,bE] at h
  obtain ⟨a,h1,c,h2,t,h3,h4⟩:=h
  injection h4 with h4;subst h4
  have hr:=x1n h1
  obtain ⟨k1,k2,k3⟩:=z8e h1 ok
  rw [hr] at k2 k3
  obtain ⟨m1,m2⟩:=j5f h2 k1
  obtain ⟨n1,n2⟩:=y2k h3 k2
  refine ⟨fun z hz=>?_,by simp only [List.map_cons,szs] at *;omega⟩
  rcases List.mem_cons.1 hz with rfl | hz
  · exact m1
  · exact n1 z hz
theorem j6f {l:List V} {c:Nod} (h:x7a l = some c) (ok:z3h l):NodI c∧sz (z8j c) ≤ 24 + szs l:=by
 unfold x7a at h
 simp only [bE] at h
 obtain ⟨a,h1,b,h2,d,h3,e,h4,h5⟩:=h
 injection h5 with h5;subst h5
 obtain ⟨k1,k2,k3⟩:=z0c h1 ok
 obtain ⟨m1,m2,m3⟩:=z0c h2 k2
 obtain ⟨n1,n2,n3⟩:=z8e h3 m2
 obtain ⟨p1,p2⟩:=y2k h4 n1
 refine ⟨⟨k1,m1,p1⟩,?_⟩
 unfold z8j
 rw [z7p]
 simp only [szs,z8z,z7p]
 omega
theorem y3k:∀ {l:List V} {q:List Nod} (_:z2g l = some q) (_:z3h l),(∀ x ∈ q,NodI x)∧szs (q.map z8j) ≤ szs l
 | [],q,h,_=>by injection h with h;subst h;simp [szs]
 | x :: r,q,h,ok=>by
  simp only [z2g,bE] at h
  obtain ⟨a,h1,c,h2,t,h3,h4⟩:=h
  injection h4 with h4;subst h4
  have hr:=x1n h1
  obtain ⟨k1,k2,k3⟩:=z8e h1 ok
  rw [hr] at k2 k3
  obtain ⟨m1,m2⟩:=j6f h2 k1
  obtain ⟨n1,n2⟩:=y3k h3 k2
  refine ⟨fun z hz=>?_,by simp only [List.map_cons,szs] at *;omega⟩
  rcases List.mem_cons.1 hz with rfl | hz
  · exact m1
  · exact n1 z hz
theorem j7f {l:List V} {a:List Nod × List V} (h:x8a l = some a) (ok:z3h l):(∀ x ∈ a.1,NodI x)∧z3h a.2∧24 + szs (a.1.map z8j) + szs a.2 ≤ szs l:=by
 unfold x8a at h
 simp only [bE] at h
 obtain ⟨p,h1,q,h2,h3⟩:=h
 injection h3 with h3;subst h3
 obtain ⟨k1,k2,k3⟩:=z8e h1 ok
 obtain ⟨m1,m2⟩:=y3k h2 k1
 exact ⟨m1,k2,by show 24 + szs (q.map z8j) + szs p.2 ≤ _;omega⟩
theorem k7x {x0 x1 x2 x3 :Nat} (h0:24 + x1 ≤ x0) (h1:24 + x2 ≤ x1) (h2:24 + x3 ≤ x2):24 + (24 + (24 + 0)) ≤ x0:=by omega
theorem k8x {x0 x1 x2 x3 x4 x5 x6 x7 f4s f5n:Nat} (h0:24 + x1 ≤ x0) (h1:24 + x2 ≤ x1) (h2:24 + x3 ≤ x2) (h3:(24 + f4s) + x4 ≤ x3) (h4:f5n + x5 ≤ x4) (h5:72 + x6 ≤ x5) (h6:24 + x7 ≤ x6):24 + (24 + (24 + ((24 + f4s) + (f5n + (72 + (24 + 0)))))) ≤ x0:=by omega
theorem k9x {x0 x1 x2 x3 g3n:Nat} (h0:24 + x1 ≤ x0) (h1:24 + x2 ≤ x1) (h2:g3n + x3 ≤ x2):24 + (24 + (g3n + 0)) ≤ x0:=by omega
theorem k0y {x0 x1 x2 x3 x4 x5 x6 r5s:Nat} (h0:24 + x1 ≤ x0) (h1:24 + x2 ≤ x1) (h2:24 + x3 ≤ x2) (h3:24 + x4 ≤ x3) (h4:(24 + r5s) + x5 ≤ x4) (h5:24 + x6 ≤ x5):24 + (24 + (24 + (24 + ((24 + r5s) + (24 + 0))))) ≤ x0:=by omega
theorem k1y {x0 x1 x2 x3 :Nat} (h0:24 + x1 ≤ x0) (h1:24 + x2 ≤ x1) (h2:24 + x3 ≤ x2):24 + (24 + (24 + 0)) ≤ x0:=by omega
theorem k2y {x0 x1 x2 x3 p1n:Nat} (h0:p1n + x1 ≤ x0) (h1:24 + x2 ≤ x1) (h2:24 + x3 ≤ x2):p1n + (24 + (24 + 0)) ≤ x0:=by omega
theorem k3y {x0 x1 x2 :Nat} (h0:24 + x1 ≤ x0) (h1:24 + x2 ≤ x1):24 + (24 + 0) ≤ x0:=by omega
theorem k9m {l0 s1 s2 s0 k2 t2 ts f1 f2 f0 tr2 trn g1 g2 g0 r1 r2 r0 u1 u2 u0 n2 p1 p2 p0 q1 q2 q0:Nat} (hs:24 + s1 + s2 ≤ l0) (gs:s0 ≤ s1) (hk:24 + k2 ≤ s2) (ht:24 + ts + t2 ≤ k2) (hf:24 + f1 + f2 ≤ t2) (gf:f0 ≤ f1) (htr:24 + trn + tr2 ≤ f2) (hg:24 + g1 + g2 ≤ tr2) (gg:g0 ≤ g1) (hr:24 + r1 + r2 ≤ g2) (gr:r0 ≤ r1) (hu:24 + u1 + u2 ≤ r2) (gu:u0 ≤ u1) (hn:24 + n2 ≤ u2) (hp:24 + p1 + p2 ≤ n2) (gp:p0 ≤ p1) (hq:24 + q1 + q2 ≤ p2) (gq:q0 ≤ q1):(24 + s0) + (24 + ((24 + ts) + ((24 + f0) + ((24 + trn) + ((24 + g0) + ((24 + r0) + ((24 + u0) + (24 + ((24 + p0) + 0))))))))) + ((24 + q0) + 0) ≤ l0:=by omega
theorem j8f {l:List V} {x:Inp} (h:j4d l = some x) (ok:z3h l):InpI x∧szs (z6e x) ≤ szs l:=by
 unfold j4d at h
 obtain ⟨s,hs,h⟩:=bE.1 h
 have Ks:=z8e hs ok
 clear hs
 obtain ⟨a1,ha1,h⟩:=bE.1 h
 have Ka1:=z0c ha1 Ks.1
 clear ha1
 obtain ⟨a2,ha2,h⟩:=bE.1 h
 have Ka2:=z0c ha2 Ka1.2.1
 clear ha2
 obtain ⟨a3,ha3,h⟩:=bE.1 h
 have Ka3:=z0c ha3 Ka2.2.1
 clear ha3
 obtain ⟨k,hk,h⟩:=bE.1 h
 have Kk:=z0c hk Ks.2.1
 clear hk
 obtain ⟨t,ht,h⟩:=bE.1 h
 have Kt:=y0f ht Kk.2.1
 clear ht
 obtain ⟨f,hf,h⟩:=bE.1 h
 have Kf:=z8e hf Kt.2.1
 clear hf
 obtain ⟨f1,hf1,h⟩:=bE.1 h
 have Kf1:=z0c hf1 Kf.1
 clear hf1
 obtain ⟨f2,hf2,h⟩:=bE.1 h
 have Kf2:=z0c hf2 Kf1.2.1
 clear hf2
 obtain ⟨f3,hf3,h⟩:=bE.1 h
 have Kf3:=z0c hf3 Kf2.2.1
 clear hf3
 obtain ⟨f4,hf4,h⟩:=bE.1 h
 have Kf4:=y0f hf4 Kf3.2.1
 clear hf4
 obtain ⟨f5,hf5,h⟩:=bE.1 h
 have Kf5:=y2f hf5 Kf4.2.1
 clear hf5
 obtain ⟨f6,hf6,h⟩:=bE.1 h
 have Kf6:=y2y hf6 Kf5.2.1
 clear hf6
 obtain ⟨f7,hf7,h⟩:=bE.1 h
 have Kf7:=y1f hf7 Kf6.2.2.1
 clear hf7
 obtain ⟨tr,htr,h⟩:=bE.1 h
 have Ktr:=j7f htr Kf.2.1
 clear htr
 obtain ⟨g,hg,h⟩:=bE.1 h
 have Kg:=z8e hg Ktr.2.1
 clear hg
 obtain ⟨g1,hg1,h⟩:=bE.1 h
 have Kg1:=z0c hg1 Kg.1
 clear hg1
 obtain ⟨g2,hg2,h⟩:=bE.1 h
 have Kg2:=z0c hg2 Kg1.2.1
 clear hg2
 obtain ⟨g3,hg3,h⟩:=bE.1 h
 have Kg3:=y2f hg3 Kg2.2.1
 clear hg3
 obtain ⟨r,hr,h⟩:=bE.1 h
 have Kr:=z8e hr Kg.2.1
 clear hr
 obtain ⟨r1,hr1,h⟩:=bE.1 h
 have Kr1:=z0c hr1 Kr.1
 clear hr1
 obtain ⟨r2,hr2,h⟩:=bE.1 h
 have Kr2:=z0c hr2 Kr1.2.1
 clear hr2
 obtain ⟨r3,hr3,h⟩:=bE.1 h
 have Kr3:=z0c hr3 Kr2.2.1
 clear hr3
 obtain ⟨r4,hr4,h⟩:=bE.1 h
 have Kr4:=z0c hr4 Kr3.2.1
 clear hr4
 obtain ⟨r5,hr5,h⟩:=bE.1 h
 have Kr5:=y0f hr5 Kr4.2.1
 clear hr5
 obtain ⟨r6,hr6,h⟩:=bE.1 h
 have Kr6:=z0c hr6 Kr5.2.1
 clear hr6
 obtain ⟨u,hu,h⟩:=bE.1 h
 have Ku:=z8e hu Kr.2.1
 clear hu
 obtain ⟨u1,hu1,h⟩:=bE.1 h
 have Ku1:=z0c hu1 Ku.1
 clear hu1
 obtain ⟨u2,hu2,h⟩:=bE.1 h
 have Ku2:=z0c hu2 Ku1.2.1
 clear hu2
 obtain ⟨u3,hu3,h⟩:=bE.1 h
 have Ku3:=y1f hu3 Ku2.2.1
 clear hu3
 obtain ⟨n,hn,h⟩:=bE.1 h
 have Kn:=z0c hn Ku.2.1
 clear hn
 obtain ⟨p,hp,h⟩:=bE.1 h
 have Kp:=z8e hp Kn.2.1
 clear hp
 obtain ⟨p1,hp1,h⟩:=bE.1 h
 have Kp1:=y2f hp1 Kp.1
 clear hp1
 obtain ⟨p2,hp2,h⟩:=bE.1 h
 have Kp2:=z0c hp2 Kp1.2.1
 clear hp2
 obtain ⟨p3,hp3,h⟩:=bE.1 h
 have Kp3:=z0c hp3 Kp2.2.1
 clear hp3
 obtain ⟨q,hq,h⟩:=bE.1 h
 have Kq:=z8e hq Kp.2.1
 clear hq
 obtain ⟨q1,hq1,h⟩:=bE.1 h
 have Kq1:=z0c hq1 Kq.1
 clear hq1
 obtain ⟨q2,hq2,h⟩:=bE.1 h
 have Kq2:=z0c hq2 Kq1.2.1
 clear hq2
 injection h with hx;subst hx
 refine ⟨⟨Ka1.1,Ka2.1,Ka3.1,Kk.1,Kt.1,⟨Kf1.1,Kf2.1,Kf3.1,Kf6.1,Kf6.2.1,Kf5.1,Kf4.1⟩,Ktr.1,Kg1.1,Kg2.1,Kg3.1,Kr1.1,Kr2.1,Kr3.1,Kr4.1,Kr5.1,Kr6.1,Ku1.1,Ku2.1,Kn.1,Kp1.1,Kp2.1,Kp3.1,Kq1.1,Kq2.1⟩,?_⟩
 have Zs:=Ks.2.2
 have Za1:=Ka1.2.2
 have Za2:=Ka2.2.2
 have Za3:=Ka3.2.2
 have Zk:=Kk.2.2
 have Zt:=Kt.2.2
 have Zf:=Kf.2.2
 have Zf1:=Kf1.2.2
 have Zf2:=Kf2.2.2
 have Zf3:=Kf3.2.2
 have Zf4:=Kf4.2.2
 have Zf5:=Kf5.2.2
 have Zf6:=Kf6.2.2.2
 have Zf7:=Kf7.2
 have Ztr:=Ktr.2.2
 have Zg:=Kg.2.2
 have Zg1:=Kg1.2.2
 have Zg2:=Kg2.2.2
 have Zg3:=Kg3.2.2
 have Zr:=Kr.2.2
 have Zr1:=Kr1.2.2
 have Zr2:=Kr2.2.2
 have Zr3:=Kr3.2.2
 have Zr4:=Kr4.2.2
 have Zr5:=Kr5.2.2
 have Zr6:=Kr6.2.2
 have Zu:=Ku.2.2
 have Zu1:=Ku1.2.2
 have Zu2:=Ku2.2.2
 have Zu3:=Ku3.2
 have Zn:=Kn.2.2
 have Zp:=Kp.2.2
 have Zp1:=Kp1.2.2
 have Zp2:=Kp2.2.2
 have Zp3:=Kp3.2.2
 have Zq:=Kq.2.2
 have Zq1:=Kq1.2.2
 have Zq2:=Kq2.2.2
 clear Ks Ka1 Ka2 Ka3 Kk Kt Kf Kf1 Kf2 Kf3 Kf4 Kf5 Kf6 Kf7 Ktr Kg Kg1 Kg2 Kg3 Kr Kr1 Kr2 Kr3 Kr4 Kr5 Kr6 Ku Ku1 Ku2 Ku3 Kn Kp Kp1 Kp2 Kp3 Kq Kq1 Kq2
 have Gs:=k7x Za1 Za2 Za3
 have Gf:=k8x Zf1 Zf2 Zf3 Zf4 Zf5 Zf6 Zf7
 have Gg:=k9x Zg1 Zg2 Zg3
 have Gr:=k0y Zr1 Zr2 Zr3 Zr4 Zr5 Zr6
 have Gu:=k1y Zu1 Zu2 Zu3
 have Gp:=k2y Zp1 Zp2 Zp3
 have Gq:=k3y Zq1 Zq2
 unfold z6e z5e z7z z9j
 rw [z8n]
 simp only [szs,z7p,z8z,k5a,j1f,y1y]
 exact k9m Zs Gs Zk Zt Zf Gf Ztr Zg Gg Zr Gr Zu Gu Zn Zp Gp Zq Gq
theorem j9f {v:V} {x:Inp} (h:z7x v = some x) (ok:okV v):InpI x∧sz (lV (z6e x)) ≤ sz v:=by
 unfold z7x at h
 by_cases hk:v.kind = 3
 · rw [if_pos hk] at h
   obtain ⟨h1,h2⟩:=j8f h (y6a ok).2.2.2
   exact ⟨h1,by rw [z7p,y1p v];omega⟩
 · rw [if_neg hk] at h;cases h
theorem j0g {x:V}:∀ {l:List V},x ∈ l→sz x ≤ szs l
 | y :: r,h=>by
  simp only [szs]
  rcases List.mem_cons.1 h with rfl | h
  · omega
  · have:=j0g h;omega
theorem InpL.of {x:Inp} (h:sz (lV (z6e x)) ≤ 60000):InpL x:=by
 unfold z6e z5e z7z z9j at h
 rw [z7p,z8n] at h
 simp only [szs,z7p,z8z,k5a,j1f,y1y,j2f,j3f] at h
 have ht:=j4f (x.tree.map z8j)
 rw [List.length_map] at ht
 refine ⟨by omega,by omega,fun n hn=>?_,by omega,by omega⟩
 have h1:=j0g (List.mem_map_of_mem (f:=z8j) hn)
 have h2:=j4f (n.cuts.map z2s)
 rw [List.length_map] at h2
 have h3:sz (z8j n) = 24 + (24 + (24 + (24 + szs (n.cuts.map z2s) + 0))):=by unfold z8j;rw [z7p];simp only [szs,z8z,z7p]
 omega
def zP:Inp:=⟨0,0,0,0,ByteArray.empty,j0z,[],⟨0,0,[]⟩,rpZ,⟨0,0,false⟩,0,⟨[],0,0⟩,0,0⟩
def y9g (rd:V→Option Inp) (l:List UInt8):Inp × Int :=
 match x5a l with
 | none=>(zP,10)
 | some v=>match rd v with
  | none=>(zP,490)
  | some x=>if okI x && decide (y6e x = l) then (x,0) else (zP,490)
theorem z4u {l:List V} (h:z3h l) (hl:l.length ≤ maxLen):okV (lV l):=by
 unfold lV
 simp only [okV]
 exact ⟨by unfold I64;omega,by unfold I64;omega,by show (0:Nat) ≤ _;omega,hl,h⟩
theorem z0i {n:Int} (h:I64 n):okV (iV n):=by
 unfold iV
 simp only [okV,z3h]
 exact ⟨by unfold I64;omega,h,by show (0:Nat) ≤ _;omega,Nat.zero_le _,trivial⟩
theorem k6a {s:ByteArray} (h:s.size ≤ maxLen):okV (tV s):=by
 unfold tV
 simp only [okV,z3h]
 exact ⟨by unfold I64;omega,by unfold I64;omega,h,Nat.zero_le _,trivial⟩
theorem k7a (b:Bool):okV (bV b):=z0i (by unfold I64;split <;> omega)
theorem y3p {α:Type} {f:α→V}:∀ {l:List α},(∀ x ∈ l,okV (f x))→z3h (l.map f)
 | [],_=>trivial
 | x :: r,h=>by
  simp only [List.map_cons,z3h]
  exact ⟨h x List.mem_cons_self,y3p fun y hy=>h y (List.mem_cons_of_mem _ hy)⟩
theorem j1g:∀ {a b:List V},z3h a→z3h b→z3h (a ++ b)
 | [],_,_,h=>h
 | x :: r,b,h,h'=>by
  simp only [List.cons_append,z3h] at *
  exact ⟨h.1,j1g h.2 h'⟩
theorem j2g {l:List Int} (h:∀ x ∈ l,I64 x) (hl:l.length ≤ 1000000):okV (nsV l):=z4u (y3p fun x hx=>z0i (h x hx)) (by rw [List.length_map];unfold maxLen;omega)
theorem j2u {a b:Int} (h1:I64 a) (h2:I64 b):okV (spV a b):=z4u (by simp only [z3h];exact ⟨z0i h1,z0i h2,trivial⟩) (by unfold maxLen;simp)
theorem k8a {c:Cut} (h:CutI c):okV (z2s c):=z4u (by simp only [z3h];exact ⟨k7a _,z0i h.ix,j2u h.mf h.mt,z0i h.less,trivial⟩) (by unfold maxLen;simp)
theorem k9a {n:Nod} (h:NodI n) (hl:n.cuts.length ≤ 1000000):okV (z8j n) :=
 z4u (by simp only [z3h];exact ⟨z0i h.par,z0i h.frm,z4u (y3p fun c hc=>k8a (h.cuts c hc)) (by rw [List.length_map];unfold maxLen;omega),trivial⟩) (by unfold maxLen;simp)
theorem j3g {x:Inp} (h:InpI x) (hl:InpL x):okV (lV (z6e x)):=by
 refine z4u ?_ (by unfold z6e z5e maxLen;simp)
 unfold z6e z5e z7z z9j
 refine j1g ?_ ?_
 · simp only [z3h]
   refine ⟨z4u ?_ ?_,z0i h.kind,k6a h.text,z4u ?_ ?_,z4u (y3p fun n hn=>k9a (h.tree n hn) (hl.cuts n hn)) (by rw [List.length_map];have:=hl.tree;unfold maxLen;omega),z4u ?_ ?_,z4u ?_ ?_,z4u ?_ ?_,z0i h.n,z4u ?_ ?_,trivial⟩
   · simp only [z3h];exact ⟨z0i h.mi,z0i h.ce,z0i h.no,trivial⟩
   · unfold maxLen;simp
   · simp only [z3h];exact ⟨z0i h.flt.id,z0i h.flt.air,z0i h.flt.cls,k6a h.flt.call,j2g h.flt.ways hl.ways,j2u h.flt.wf h.flt.wt,k7a _,trivial⟩
   · unfold maxLen;simp
   · simp only [z3h];exact ⟨z0i h.cfrm,z0i h.cfg,j2g h.modes hl.modes,trivial⟩
   · unfold maxLen;simp
   · simp only [z3h];exact ⟨z0i h.rst,z0i h.rno,z0i h.rmi,z0i h.rar,k6a h.rcl,z0i h.rvo,trivial⟩
   · unfold maxLen;simp
   · simp only [z3h];exact ⟨z0i h.sst,z0i h.sfr,k7a _,trivial⟩
   · unfold maxLen;simp
   · simp only [z3h];exact ⟨j2g h.vols hl.vols,z0i h.sh,z0i h.fa,trivial⟩
   · unfold maxLen;simp
 · simp only [z3h]
   exact ⟨z4u (by simp only [z3h];exact ⟨z0i h.sr,z0i h.ss,trivial⟩) (by unfold maxLen;simp),trivial⟩
theorem j0o {x:Inp} (hi:InpI x) (hl:InpL x) (hk:okI x = true):y9g z7x (y6e x) = (x,0):=by
 unfold y9g y6e
 rw [y3n (x9g x) (j3g hi hl)]
 show (match z7x (lV (z6e x)) with | none=>(zP,(490:Int)) | some y=>if okI y && decide (y6e y = enc (lV (z6e x))) then (y,0) else (zP,490)) = _
 rw [j5d]
 show (if okI x && decide (y6e x = y6e x) then _ else _) = _
 rw [hk,decide_eq_true rfl]
 rfl
def k0n (x:Inp):Bool:=decide (x.text.size ≤ 3000) && decide (x.flt.ways.length ≤ 8) && decide (x.flt.call.size ≤ 60) && decide (x.rep.cl.size ≤ 60) && decide (x.tree.length ≤ 10) && decide (x.chg.modes.length ≤ 20) && decide (x.stn.vols.length ≤ 20)
def y4k (x:Inp):Bool:=k0n x && x.tree.all (fun n=>decide (n.cuts.length ≤ 8))
structure FewI (x:Inp):Prop where
 h0:x.text.size ≤ 3000
 h1:x.flt.ways.length ≤ 8
 h2:x.flt.call.size ≤ 60
 h3:x.rep.cl.size ≤ 60
 h4:x.tree.length ≤ 10
 h5:x.chg.modes.length ≤ 20
 h6:x.stn.vols.length ≤ 20
 cu:∀ n ∈ x.tree,n.cuts.length ≤ 8
theorem k1n {x:Inp} (h:y4k x = true):FewI x:=by
 unfold y4k k0n at h
 simp only [Bool.and_eq_true,decide_eq_true_eq,List.all_eq_true] at h
 obtain ⟨⟨⟨⟨⟨⟨⟨h0,h1⟩,h2⟩,h3⟩,h4⟩,h5⟩,h6⟩,h7⟩:=h
 exact ⟨h0,h1,h2,h3,h4,h5,h6,h7⟩
theorem j4g:∀ l:List Cut,szs (l.map z2s) = 168 * l.length
 | []=>rfl
 | c :: r=>by
  have h:sz (z2s c) = 168:=by unfold z2s;rw [z7p];simp only [szs,j1f,z8z,y1y]
  simp only [List.map_cons,szs,h,j4g r,List.length_cons];omega
theorem j5g:∀ l:List Nod,(∀ n ∈ l,n.cuts.length ≤ 8)→szs (l.map z8j) ≤ 2000 * l.length
 | [],_=>by simp [szs]
 | n :: r,h=>by
  have h1:sz (z8j n) = 96 + 168 * n.cuts.length:=by unfold z8j;rw [z7p];simp only [szs,z8z,z7p,j4g];omega
  have h2:=h n List.mem_cons_self
  have h3:=j5g r (fun m hm=>h m (List.mem_cons_of_mem _ hm))
  simp only [List.map_cons,szs,h1,List.length_cons];omega
theorem FewI.sz {x:Inp} (h:FewI x):sz (lV (z6e x)) ≤ 60000:=by
 have ht:=j5g x.tree h.cu
 have:=h.h0;have:=h.h1;have:=h.h2;have:=h.h3;have:=h.h4;have:=h.h5;have:=h.h6
 unfold z6e z5e z7z z9j
 rw [z7p,z8n]
 simp only [szs,z7p,z8z,k5a,j1f,y1y,j2f,j3f]
 omega
structure FwRel (x:Inp) (s:Slc) (w:World) (i:Value) (wr:World):Prop where
 h:∃ k:Nat,k ≤ x.tree.length∧i = .int .i64 (k:Int)∧(∀ j n,j < k→x.tree[j]? = some n→n.cuts.length ≤ 8)∧CB wr w.heap.size 41 (x.cells s)∧Below w.heap.size w wr
theorem k0b (x:Inp) (s:Slc) (w:World) (hx:InpR w x s) (z1:x.text.size ≤ maxLen) (z2:x.flt.call.size ≤ maxLen) (z3:x.rep.cl.size ≤ maxLen):Calls Tryz.prog 12 #[x.v s] w fun e w'=>e = .returned (.bool (y4k x))∧Below w.heap.size w w':=by
 obtain ⟨aw,cw,e1,l1⟩:=hx.ways.shape
 obtain ⟨at',ct,e2,l2⟩:=hx.tree.shape
 obtain ⟨am,cm,e3,l3⟩:=hx.modes.shape
 obtain ⟨av,cv,e4,l4⟩:=hx.vols.shape
 obtain ⟨sw,st,sm,sv⟩:=s
 simp only at e1 e2 e3 e4
 subst e1 e2 e3 e4
 have HT:=hd_ hx.tree
 have hcb:=z6a w (bI x ⟨.slice aw x.flt.ways.length cw,.slice at' x.tree.length ct,.slice am x.chg.modes.length cm,.slice av x.stn.vols.length cv⟩) 41 (x.cells (⟨.slice aw x.flt.ways.length cw,.slice at' x.tree.length ct,.slice am x.chg.modes.length cm,.slice av x.stn.vols.length cv⟩:Slc)) rfl
 have HC:=hd_ hcb;have HB:=hd_ (z5b (w:=w) (bI x ⟨.slice aw x.flt.ways.length cw,.slice at' x.tree.length ct,.slice am x.chg.modes.length cm,.slice av x.stn.vols.length cv⟩))
 unfold maxLen at z1 z2 z3
 have y1:(x.text.size:Int) ≤ 9223372036854775807:=by omega
 have y2:(x.flt.call.size:Int) ≤ 9223372036854775807:=by omega
 have y3:(x.rep.cl.size:Int) ≤ 9223372036854775807:=by omega
 have y4:(x.flt.ways.length:Int) ≤ 9223372036854775807:=by omega
 have y5:(x.tree.length:Int) ≤ 9223372036854775807:=by omega
 have y6:(x.chg.modes.length:Int) ≤ 9223372036854775807:=by omega
 have y7:(x.stn.vols.length:Int) ≤ 9223372036854775807:=by omega
 have c4:(w.alloc (bI x ⟨.slice aw x.flt.ways.length cw,.slice at' x.tree.length ct,.slice am x.chg.modes.length cm,.slice av x.stn.vols.length cv⟩)).cell? ⟨w.heap.size,4,none⟩ = some (.string x.text):=hcb.cell 4
 have c8:(w.alloc (bI x ⟨.slice aw x.flt.ways.length cw,.slice at' x.tree.length ct,.slice am x.chg.modes.length cm,.slice av x.stn.vols.length cv⟩)).cell? ⟨w.heap.size,8,none⟩ = some (.string x.flt.call):=hcb.cell 8
 have c9:(w.alloc (bI x ⟨.slice aw x.flt.ways.length cw,.slice at' x.tree.length ct,.slice am x.chg.modes.length cm,.slice av x.stn.vols.length cv⟩)).cell? ⟨w.heap.size,9,none⟩ = some (.slice aw x.flt.ways.length cw):=hcb.cell 9
 have c13:(w.alloc (bI x ⟨.slice aw x.flt.ways.length cw,.slice at' x.tree.length ct,.slice am x.chg.modes.length cm,.slice av x.stn.vols.length cv⟩)).cell? ⟨w.heap.size,13,none⟩ = some (.slice at' x.tree.length ct):=hcb.cell 13
 have c16:(w.alloc (bI x ⟨.slice aw x.flt.ways.length cw,.slice at' x.tree.length ct,.slice am x.chg.modes.length cm,.slice av x.stn.vols.length cv⟩)).cell? ⟨w.heap.size,16,none⟩ = some (.slice am x.chg.modes.length cm):=hcb.cell 16
 have c21:(w.alloc (bI x ⟨.slice aw x.flt.ways.length cw,.slice at' x.tree.length ct,.slice am x.chg.modes.length cm,.slice av x.stn.vols.length cv⟩)).cell? ⟨w.heap.size,21,none⟩ = some (.string x.rep.cl):=hcb.cell 21
 have c27:(w.alloc (bI x ⟨.slice aw x.flt.ways.length cw,.slice at' x.tree.length ct,.slice am x.chg.modes.length cm,.slice av x.stn.vols.length cv⟩)).cell? ⟨w.heap.size,27,none⟩ = some (.slice av x.stn.vols.length cv):=hcb.cell 27
 clear hx hcb l1 l2 l3 l4 z1 z2 z3
 by_cases h7:k0n x = true
 case neg =>
  have hno:Hid (y4k x = false):=hd_ (by unfold y4k;rw [Bool.eq_false_iff.2 h7];rfl)
  rw [hno.out]
  obtain ⟨b0,hb0⟩:∃ b,decide ((3000:Int) < (x.text.size:Int)) = b:=⟨_,rfl⟩
  have hb0':decide (3000 < x.text.size) = b0:=by rw [← hb0];exact decide_eq_decide.2 (by omega)
  obtain ⟨b1,hb1⟩:∃ b,decide ((8:Int) < (x.flt.ways.length:Int)) = b:=⟨_,rfl⟩
  have hb1':decide (8 < x.flt.ways.length) = b1:=by rw [← hb1];exact decide_eq_decide.2 (by omega)
  obtain ⟨b2,hb2⟩:∃ b,decide ((60:Int) < (x.flt.call.size:Int)) = b:=⟨_,rfl⟩
  have hb2':decide (60 < x.flt.call.size) = b2:=by rw [← hb2];exact decide_eq_decide.2 (by omega)
  obtain ⟨b3,hb3⟩:∃ b,decide ((60:Int) < (x.rep.cl.size:Int)) = b:=⟨_,rfl⟩
  have hb3':decide (60 < x.rep.cl.size) = b3:=by rw [← hb3];exact decide_eq_decide.2 (by omega)
  obtain ⟨b4,hb4⟩:∃ b,decide ((10:Int) < (x.tree.length:Int)) = b:=⟨_,rfl⟩
  have hb4':decide (10 < x.tree.length) = b4:=by rw [← hb4];exact decide_eq_decide.2 (by omega)
  obtain ⟨b5,hb5⟩:∃ b,decide ((20:Int) < (x.chg.modes.length:Int)) = b:=⟨_,rfl⟩
  have hb5':decide (20 < x.chg.modes.length) = b5:=by rw [← hb5];exact decide_eq_decide.2 (by omega)
  obtain ⟨b6,hb6⟩:∃ b,decide ((20:Int) < (x.stn.vols.length:Int)) = b:=⟨_,rfl⟩
  have hb6':decide (20 < x.stn.vols.length) = b6:=by rw [← hb6];exact decide_eq_decide.2 (by omega)
  have Hall:Hid ((b0 || b1 || b2 || b3 || b4 || b5 || b6) = true):=hd_ (by
   cases hall:(b0 || b1 || b2 || b3 || b4 || b5 || b6) with
   | true=>rfl
   | false =>
    exfalso
    simp only [Bool.or_eq_false_iff] at hall
    obtain ⟨⟨⟨⟨⟨⟨p0,p1⟩,p2⟩,p3⟩,p4⟩,p5⟩,p6⟩:=hall
    apply h7
    unfold k0n
    simp only [Bool.and_eq_true,decide_eq_true_eq]
    rw [← hb0] at p0
    have p0:=of_decide_eq_false p0
    rw [← hb1] at p1
    have p1:=of_decide_eq_false p1
    rw [← hb2] at p2
    have p2:=of_decide_eq_false p2
    rw [← hb3] at p3
    have p3:=of_decide_eq_false p3
    rw [← hb4] at p4
    have p4:=of_decide_eq_false p4
    rw [← hb5] at p5
    have p5:=of_decide_eq_false p5
    rw [← hb6] at p6
    have p6:=of_decide_eq_false p6
    exact ⟨⟨⟨⟨⟨⟨by omega,by omega⟩,by omega⟩,by omega⟩,by omega⟩,by omega⟩,by omega⟩)
  clear h7
  change Calls Tryz.prog 12 #[.agg (x.cells (⟨.slice aw x.flt.ways.length cw,.slice at' x.tree.length ct,.slice am x.chg.modes.length cm,.slice av x.stn.vols.length cv⟩:Slc)).toArray] w _
  go_enter Tryz.func12,Tryz.ntmps12
  go_upto_region 1 with fail
  change Code.wp _ _ _ _ (w.alloc (bI x ⟨.slice aw x.flt.ways.length cw,.slice at' x.tree.length ct,.slice am x.chg.modes.length cm,.slice av x.stn.vols.length cv⟩))
  clear HC HT
  generalize w.alloc (bI x ⟨.slice aw x.flt.ways.length cw,.slice at' x.tree.length ct,.slice am x.chg.modes.length cm,.slice av x.stn.vols.length cv⟩) = w1 at *
  go_upto_region 3 with fail
  all_goals (try (go_ret;exact ⟨rfl,HB.out⟩))
  all_goals (have hh:=Hall.out;have p0:b0 = false:=(by first | assumption | (simpa using ‹(!b0) = true›) | (cases b0 <;> simp_all));have p1:b1 = false:=(by first | assumption | (simpa using ‹(!b1) = true›) | (cases b1 <;> simp_all));have p2:b2 = false:=(by first | assumption | (simpa using ‹(!b2) = true›) | (cases b2 <;> simp_all));have p3:b3 = false:=(by first | assumption | (simpa using ‹(!b3) = true›) | (cases b3 <;> simp_all));have p4:b4 = false:=(by first | assumption | (simpa using ‹(!b4) = true›) | (cases b4 <;> simp_all));have p5:b5 = false:=(by first | assumption | (simpa using ‹(!b5) = true›) | (cases b5 <;> simp_all));have p6:b6 = false:=(by first | assumption | (simpa using ‹(!b6) = true›) | (cases b6 <;> simp_all));rw [p0,p1,p2,p3,p4,p5,p6] at hh;exact absurd hh (by decide))
 case pos =>
  have h7':=h7
  unfold k0n at h7'
  simp only [Bool.and_eq_true,decide_eq_true_eq] at h7'
  obtain ⟨⟨⟨⟨⟨⟨p0,p1⟩,p2⟩,p3⟩,p4⟩,p5⟩,p6⟩:=h7'
  have u0:decide ((3000:Int) < (x.text.size:Int)) = false:=decide_eq_false (by omega)
  have v0:decide (3000 < x.text.size) = false:=decide_eq_false (by omega)
  have u1:decide ((8:Int) < (x.flt.ways.length:Int)) = false:=decide_eq_false (by omega)
  have v1:decide (8 < x.flt.ways.length) = false:=decide_eq_false (by omega)
  have u2:decide ((60:Int) < (x.flt.call.size:Int)) = false:=decide_eq_false (by omega)
  have v2:decide (60 < x.flt.call.size) = false:=decide_eq_false (by omega)
  have u3:decide ((60:Int) < (x.rep.cl.size:Int)) = false:=decide_eq_false (by omega)
  have v3:decide (60 < x.rep.cl.size) = false:=decide_eq_false (by omega)
  have u4:decide ((10:Int) < (x.tree.length:Int)) = false:=decide_eq_false (by omega)
  have v4:decide (10 < x.tree.length) = false:=decide_eq_false (by omega)
  have u5:decide ((20:Int) < (x.chg.modes.length:Int)) = false:=decide_eq_false (by omega)
  have v5:decide (20 < x.chg.modes.length) = false:=decide_eq_false (by omega)
  have u6:decide ((20:Int) < (x.stn.vols.length:Int)) = false:=decide_eq_false (by omega)
  have v6:decide (20 < x.stn.vols.length) = false:=decide_eq_false (by omega)
  have H7:=hd_ h7
  clear h7 p0 p1 p2 p3 p4 p5 p6
  change Calls Tryz.prog 12 #[.agg (x.cells (⟨.slice aw x.flt.ways.length cw,.slice at' x.tree.length ct,.slice am x.chg.modes.length cm,.slice av x.stn.vols.length cv⟩:Slc)).toArray] w _
  go_enter Tryz.func12,Tryz.ntmps12
  go_upto_region 1 with fail
  change Code.wp _ _ _ _ (w.alloc (bI x ⟨.slice aw x.flt.ways.length cw,.slice at' x.tree.length ct,.slice am x.chg.modes.length cm,.slice av x.stn.vols.length cv⟩))
  generalize w.alloc (bI x ⟨.slice aw x.flt.ways.length cw,.slice at' x.tree.length ct,.slice am x.chg.modes.length cm,.slice av x.stn.vols.length cv⟩) = w1 at *
  go_wp2_with fail
  clear c4 c8 c9 c13 c16 c21 c27 u0 u1 u2 u3 u4 u5 u6 v0 v1 v2 v3 v4 v5 v6
  go_loopw [3] (fun i wr=>FwRel x (⟨.slice aw x.flt.ways.length cw,.slice at' x.tree.length ct,.slice am x.chg.modes.length cm,.slice av x.stn.vols.length cv⟩:Slc) w i wr) (fun i _=>x.tree.length - (intOf i).toNat)
  case atStart=>exact ⟨⟨0,Nat.zero_le _,rfl,fun j n h=>by omega,HC.out,HB.out⟩⟩
  case round =>
   obtain ⟨k,hk,rfl,hn,hc,hb⟩:=hrel.h
   clear hrel
   have HN:=hd_ hn;have HC2:=hd_ hc;have HB2:=hd_ hb
   have c13:wr.cell? ⟨w.heap.size,13,none⟩ = some (.slice at' x.tree.length ct):=hc.cell 13
   clear hn hc
   by_cases hlt:k < x.tree.length
   case neg =>
    have hkl:k = x.tree.length:=by omega
    have t1:decide ((k:Int) < (x.tree.length:Int)) = false:=by simp;omega
    have t2:decide (k < x.tree.length) = false:=by simp;omega
    have HY:Hid (y4k x = true):=hd_ (by
     unfold y4k
     rw [H7.out,Bool.true_and,List.all_eq_true]
     intro n hn
     obtain ⟨j,hj,rfl⟩:=List.mem_iff_getElem.1 hn
     exact decide_eq_true (HN.out j _ (by omega) (List.getElem?_eq_getElem hj)))
    clear hkl hk hlt hb
    go_wp2_with fail
    go_ret
    exact ⟨by rw [HY.out];rfl,HB2.out⟩
   case pos =>
    have t1:decide ((k:Int) < (x.tree.length:Int)) = true:=by simp;omega
    have t2:decide (k < x.tree.length) = true:=by simp;omega
    have t3:(k:Int) < (x.tree.length:Int):=by omega
    obtain ⟨n,hn⟩:∃ n,x.tree[k]? = some n:=⟨_,List.getElem?_eq_getElem hlt⟩
    obtain ⟨b,off,r,rfl,hbw,hel,hnr⟩:=HT.out.el hn
    obtain ⟨oc,cc,hcv,hcl⟩:=hnr.cuts.shape
    have d2:wr.cell? ⟨b,off + k * 3 + 2,none⟩ = some (.slice oc n.cuts.length cc):=z1a hb (by have:=hel 2 r.cv rfl;rw [hcv] at this;exact this)
    have hc8:(n.cuts.length:Int) ≤ 9223372036854775807:=by omega
    have Hn:=hd_ hn;have Hkx:=hd_ hlt
    clear hn hbw hel hnr hcv hcl hlt hk hb
    by_cases h8:n.cuts.length ≤ 8
    · have g1:decide ((8:Int) < (n.cuts.length:Int)) = false:=decide_eq_false (by omega)
      have g2:decide (8 < n.cuts.length) = false:=decide_eq_false (by omega)
      have H8:=hd_ h8
      clear h8
      go_wp2_with fail
      go_roundw
      case rel=>exact ⟨⟨k + 1,by have:=Hkx.out;omega,by go_num,fun j m hj hm=>by
       by_cases e:j = k
       · subst e;rw [Hn.out] at hm;injection hm with hm;subst hm;exact H8.out
       · exact HN.out j m (by omega) hm,HC2.out,HB2.out⟩⟩
      case measure=>have:=Hkx.out;simp [intOf];omega
    · have g1:decide ((8:Int) < (n.cuts.length:Int)) = true:=decide_eq_true (by omega)
      have g2:decide (8 < n.cuts.length) = true:=decide_eq_true (by omega)
      have HY:Hid (y4k x = false):=hd_ (by
       unfold y4k
       have:x.tree.all (fun n=>decide (n.cuts.length ≤ 8)) = false:=List.all_eq_false.2 ⟨n,List.mem_of_getElem? Hn.out,by simpa using h8⟩
       rw [this,Bool.and_false])
      clear h8
      go_wp2_with fail
      go_ret
      exact ⟨by rw [HY.out];rfl,HB2.out⟩
end Go.Proofs.YtdblnbnofjggnaaGreatDoor
