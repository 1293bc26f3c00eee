/- Parts of the proofs of chapter 49's laws: Jcv. -/
import Derived.Test.YtdblnbnofjggnaaGreatDoorM33
import Derived.Test.YtdblnbnofjggnaaGreatDoorM25
namespace Go.Proofs.YtdblnbnofjggnaaGreatDoor
open Go.RowKit
def tV (s:ByteArray):V:=.mk 2 0 s []
def lV (l:List V):V:=.mk 3 0 ⟨#[]⟩ l
def bV (b:Bool):V:=iV (if b then 1 else 0)
def nsV (l:List Int):V:=lV (l.map iV)
def spV (a b:Int):V:=lV [iV a,iV b]
def z2s (c:Cut):V:=lV [bV c.ap,iV c.ix,spV c.mf c.mt,iV c.less]
def z8j (n:Nod):V:=lV [iV n.par,iV n.frm,lV (n.cuts.map z2s)]
def z7z (f:Flt):List V:=[iV f.id,iV f.air,iV f.cls,tV f.call,nsV f.ways,spV f.wf f.wt,bV f.can]
def z9j (r:Rp):List V:=[iV r.st,iV r.no,iV r.mi,iV r.ar,tV r.cl,iV r.vo]
def z5e (x:Inp):List V:=[lV [iV x.mi,iV x.ce,iV x.no],iV x.kind,tV x.text,lV (z7z x.flt),lV (x.tree.map z8j),lV [iV x.chg.frm,iV x.chg.cfg,nsV x.chg.modes],
 lV (z9j x.rep),lV [iV x.sts.st,iV x.sts.frm,bV x.sts.wk],iV x.n,lV [nsV x.stn.vols,iV x.stn.sh,iV x.stn.fa]]
def z6e (x:Inp):List V:=z5e x ++ [lV [iV x.sr,iV x.ss]]
def nxt (k:Int):List V→Option (V × List V)
 | []=>none
 | x :: r=>if x.kind = k then some (x,r) else none
def z2f (l:List V):Option (Int × List V):=(nxt 1 l).bind fun p=>some (p.1.n,p.2)
def x4m (l:List V):Option (ByteArray × List V):=(nxt 2 l).bind fun p=>some (p.1.s,p.2)
def y5o (l:List V):Option (Bool × List V):=(z2f l).bind fun p=>some (decide (p.1 = 1),p.2)
def z5k (l:List V):Option (List V × List V):=(nxt 3 l).bind fun p=>some (p.1.l,p.2)
def y1e (l:List V):Option ((Int × Int) × List V):=(z5k l).bind fun p=>(z2f p.1).bind fun a=>(z2f a.2).bind fun b=>some ((a.1,b.1),p.2)
def z6k:List V→Option (List Int)
 | []=>some []
 | x :: r=>(z2f (x :: r)).bind fun a=>(z6k r).bind fun q=>some (a.1 :: q)
def y0r (l:List V):Option (List Int × List V):=(z5k l).bind fun p=>(z6k p.1).bind fun q=>some (q,p.2)
def x6a (l:List V):Option Cut:=(y5o l).bind fun a=>(z2f a.2).bind fun b=>(y1e b.2).bind fun c=>(z2f c.2).bind fun d=>some ⟨a.1,b.1,c.1.1,c.1.2,d.1⟩
def z2h:List V→Option (List Cut)
 | []=>some []
 | x :: r=>(z5k (x :: r)).bind fun a=>(x6a a.1).bind fun c=>(z2h r).bind fun q=>some (c :: q)
def x7a (l:List V):Option Nod:=(z2f l).bind fun a=>(z2f a.2).bind fun b=>(z5k b.2).bind fun c=>(z2h c.1).bind fun d=>some ⟨a.1,b.1,d⟩
def z2g:List V→Option (List Nod)
 | []=>some []
 | x :: r=>(z5k (x :: r)).bind fun a=>(x7a a.1).bind fun c=>(z2g r).bind fun q=>some (c :: q)
def x8a (l:List V):Option (List Nod × List V):=(z5k l).bind fun p=>(z2g p.1).bind fun q=>some (q,p.2)
def j4d (c0:List V):Option Inp :=
 (z5k c0).bind fun s=>(z2f s.1).bind fun a1=>(z2f a1.2).bind fun a2=>(z2f a2.2).bind fun a3=>(z2f s.2).bind fun k=>(x4m k.2).bind fun t =>
 (z5k t.2).bind fun f=>(z2f f.1).bind fun f1=>(z2f f1.2).bind fun f2=>(z2f f2.2).bind fun f3=>(x4m f3.2).bind fun f4=>(y0r f4.2).bind fun f5=>(y1e f5.2).bind fun f6=>(y5o f6.2).bind fun f7 =>
 (x8a f.2).bind fun tr =>
 (z5k tr.2).bind fun g=>(z2f g.1).bind fun g1=>(z2f g1.2).bind fun g2=>(y0r g2.2).bind fun g3 =>
 (z5k g.2).bind fun r=>(z2f r.1).bind fun r1=>(z2f r1.2).bind fun r2=>(z2f r2.2).bind fun r3=>(z2f r3.2).bind fun r4=>(x4m r4.2).bind fun r5=>(z2f r5.2).bind fun r6 =>
 (z5k r.2).bind fun u=>(z2f u.1).bind fun u1=>(z2f u1.2).bind fun u2=>(y5o u2.2).bind fun u3 =>
 (z2f u.2).bind fun n =>
 (z5k n.2).bind fun p=>(y0r p.1).bind fun p1=>(z2f p1.2).bind fun p2=>(z2f p2.2).bind fun p3 =>
 (z5k p.2).bind fun q=>(z2f q.1).bind fun q1=>(z2f q1.2).bind fun q2 =>
 some ⟨a1.1,a2.1,a3.1,k.1,t.1,⟨f1.1,f2.1,f3.1,f4.1,f5.1,f6.1.1,f6.1.2,f7.1⟩,tr.1,⟨g1.1,g2.1,g3.1⟩,⟨r1.1,r2.1,r3.1,r4.1,r5.1,r6.1⟩,⟨u1.1,u2.1,u3.1⟩,n.1,⟨p1.1,p2.1,p3.1⟩,q1.1,q2.1⟩
def z7x (v:V):Option Inp:=if v.kind = 3 then j4d v.l else none
theorem z9k {α β:Type} {o:Option α} {p:α} {f:α→Option β} (h:o = some p):o.bind f = f p:=by rw [h];rfl
theorem z0l {α β:Type} {o:Option α} {f:α→Option β} (h:o = none):o.bind f = none:=by rw [h];rfl
theorem x5m (n:Int) (r:List V):z2f (iV n :: r) = some (n,r):=rfl
theorem k4k (s:ByteArray) (r:List V):x4m (tV s :: r) = some (s,r):=rfl
theorem j2t (b:Bool) (r:List V):y5o (bV b :: r) = some (b,r):=by cases b <;> rfl
theorem y2x (l r:List V):z5k (lV l :: r) = some (l,r):=rfl
theorem j3t (a b:Int) (r:List V):y1e (spV a b :: r) = some ((a,b),r):=rfl
theorem y3x:∀ l:List Int,z6k (l.map iV) = some l
 | []=>rfl
 | x :: r=>by simp only [List.map_cons,z6k,x5m,Option.bind_some,y3x r]
theorem k5k (l:List Int) (r:List V):y0r (nsV l :: r) = some (l,r):=by simp only [y0r,nsV,y2x,Option.bind_some,y3x]
theorem y4x:∀ l:List Cut,z2h (l.map z2s) = some l
 | []=>rfl
 | ⟨a,b,c,d,e⟩ :: r=>by simp only [List.map_cons,z2h,z2s,y2x,Option.bind_some,x6a,j2t,x5m,j3t,y4x r]
theorem y5x:∀ l:List Nod,z2g (l.map z8j) = some l
 | []=>rfl
 | ⟨a,b,c⟩ :: r=>by simp only [List.map_cons,z2g,z8j,y2x,Option.bind_some,x7a,x5m,y4x,y5x r]
theorem k6k (l:List Nod) (r:List V):x8a (lV (l.map z8j) :: r) = some (l,r):=by simp only [x8a,y2x,Option.bind_some,y5x]
theorem j5d (x:Inp):z7x (lV (z6e x)) = some x:=by
 obtain ⟨a1,a2,a3,a4,a5,⟨f1,f2,f3,f4,f5,f6,f7,f8⟩,a7,⟨g1,g2,g3⟩,⟨r1,r2,r3,r4,r5,r6⟩,⟨u1,u2,u3⟩,a11,⟨p1,p2,p3⟩,a13,a14⟩:=x
 show (if (3:Int) = 3 then j4d (z6e _) else none) = _
 rw [if_pos rfl]
 simp only [j4d,z6e,z5e,z7z,z9j,List.cons_append,List.nil_append,lV]
 simp only [show ∀ l,V.mk 3 0 ⟨#[]⟩ l = lV l from fun _=>rfl,y2x,x5m,k4k,k5k,j3t,j2t,k6k,Option.bind_some]
end Go.Proofs.YtdblnbnofjggnaaGreatDoor
