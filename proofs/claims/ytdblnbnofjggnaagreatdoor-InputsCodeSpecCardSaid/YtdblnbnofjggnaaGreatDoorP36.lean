/- Parts of the proofs of chapter 49's laws. -/
import Derived.Test.YtdblnbnofjggnaaGreatDoorP32
import Derived.Test.YtdblnbnofjggnaaGreatDoorP25
open Option renaming some → I
set_option linter.all false
namespace Go.Proofs.YtdblnbnofjggnaaGreatDoor
open Go.RowKit
def tV (s:ByteArray):V:=.mk 2 0 s []
def lV (l:List V):V:=.mk 3 0 ⟨#[]⟩ l
def bV (b:Bool):V:=iV (if b then 1 else 0)
def nsV (l:List Int):V:=lV (l.map iV)
def spV (a b:Int):V:=lV [iV a,iV b]
def z0p (c:Cut):V:=lV [bV c.ap,iV c.ix,spV c.mf c.mt,iV c.less]
def z5j (n:Nod):V:=lV [iV n.par,iV n.frm,lV (n.cuts.map z0p)]
def y0n (f:Flt):List V:=[iV f.id,iV f.air,iV f.cls,tV f.call,nsV f.ways,spV f.wf f.wt,bV f.can]
def z1p (r:Rp):List V:=[iV r.st,iV r.no,iV r.mi,iV r.ar,tV r.cl,iV r.vo]
def z8e (x:Inp):List V:=[lV [iV x.mi,iV x.ce,iV x.no],iV x.kind,tV x.text,lV (y0n x.flt),lV (x.tree.map z5j),lV [iV x.chg.frm,iV x.chg.cfg,nsV x.chg.modes],
 lV (z1p x.rep),lV [iV x.sts.st,iV x.sts.frm,bV x.sts.wk],iV x.n,lV [nsV x.stn.vols,iV x.stn.sh,iV x.stn.fa]]
def z6e (x:Inp):List V:=z8e x++[lV [iV x.sr,iV x.ss]]
def nxt (k:Int):List V→Option (V × List V)
 | []=>none
 | x::r=>if x.kind=k then I (x,r) else none
def z7g (l:List V):Option (Int × List V):=(nxt 1 l).bind fun p=>I (p.1.n,p.2)
def x5v (l:List V):Option (ByteArray × List V):=(nxt 2 l).bind fun p=>I (p.1.s,p.2)
def y4r (l:List V):Option (Bool × List V):=(z7g l).bind fun p=>I (decide (p.1=1),p.2)
def z6l (l:List V):Option (List V × List V):=(nxt 3 l).bind fun p=>I (p.1.l,p.2)
def y2j (l:List V):Option ((Int × Int) × List V):=(z6l l).bind fun p=>(z7g p.1).bind fun a=>(z7g a.2).bind fun b=>I ((a.1,b.1),p.2)
def z1l:List V→Option (List Int)
 | []=>I []
 | x::r=>(z7g (x::r)).bind fun a=>(z1l r).bind fun q=>I (a.1::q)
def y6t (l:List V):Option (List Int × List V):=(z6l l).bind fun p=>(z1l p.1).bind fun q=>I (q,p.2)
def x1e (l:List V):Option Cut:=(y4r l).bind fun a=>(z7g a.2).bind fun b=>(y2j b.2).bind fun c=>(z7g c.2).bind fun d=>I ⟨a.1,b.1,c.1.1,c.1.2,d.1⟩
def z4i:List V→Option (List Cut)
 | []=>I []
 | x::r=>(z6l (x::r)).bind fun a=>(x1e a.1).bind fun c=>(z4i r).bind fun q=>I (c::q)
def x2e (l:List V):Option Nod:=(z7g l).bind fun a=>(z7g a.2).bind fun b=>(z6l b.2).bind fun c=>(z4i c.1).bind fun d=>I ⟨a.1,b.1,d⟩
def z4h:List V→Option (List Nod)
 | []=>I []
 | x::r=>(z6l (x::r)).bind fun a=>(x2e a.1).bind fun c=>(z4h r).bind fun q=>I (c::q)
def x3e (l:List V):Option (List Nod × List V):=(z6l l).bind fun p=>(z4h p.1).bind fun q=>I (q,p.2)
def j2h (c0:List V):Option Inp :=
 (z6l c0).bind fun s=>(z7g s.1).bind fun a1=>(z7g a1.2).bind fun a2=>(z7g a2.2).bind fun a3=>(z7g s.2).bind fun k=>(x5v k.2).bind fun t =>
 (z6l t.2).bind fun f=>(z7g f.1).bind fun f1=>(z7g f1.2).bind fun f2=>(z7g f2.2).bind fun f3=>(x5v f3.2).bind fun f4=>(y6t f4.2).bind fun f5=>(y2j f5.2).bind fun f6=>(y4r f6.2).bind fun f7 =>
 (x3e f.2).bind fun tr =>
 (z6l tr.2).bind fun g=>(z7g g.1).bind fun g1=>(z7g g1.2).bind fun g2=>(y6t g2.2).bind fun g3 =>
 (z6l g.2).bind fun r=>(z7g r.1).bind fun r1=>(z7g r1.2).bind fun r2=>(z7g r2.2).bind fun r3=>(z7g r3.2).bind fun r4=>(x5v r4.2).bind fun r5=>(z7g r5.2).bind fun r6 =>
 (z6l r.2).bind fun u=>(z7g u.1).bind fun u1=>(z7g u1.2).bind fun u2=>(y4r u2.2).bind fun u3 =>
 (z7g u.2).bind fun n =>
 (z6l n.2).bind fun p=>(y6t p.1).bind fun p1=>(z7g p1.2).bind fun p2=>(z7g p2.2).bind fun p3 =>
 (z6l p.2).bind fun q=>(z7g q.1).bind fun q1=>(z7g q1.2).bind fun q2 =>
 I ⟨a1.1,a2.1,a3.1,k.1,t.1,⟨f1.1,f2.1,f3.1,f4.1,f5.1,f6.1.1,f6.1.2,f7.1⟩,tr.1,⟨g1.1,g2.1,g3.1⟩,⟨r1.1,r2.1,r3.1,r4.1,r5.1,r6.1⟩,⟨u1.1,u2.1,u3.1⟩,n.1,⟨p1.1,p2.1,p3.1⟩,q1.1,q2.1⟩
def z2r (v:V):Option Inp:=if v.kind=3 then j2h v.l else none
theorem z7l {α β:Type} {o:Option α} {p:α} {f:α→Option β} (h:o=I p):o.bind f=f p:=by rw [h];rfl
theorem z8l {α β:Type} {o:Option α} {f:α→Option β} (h:o=none):o.bind f=none:=by rw [h];rfl
theorem numR_i (n:Int) (r:List V):z7g (iV n::r)=I (n,r):=rfl
theorem txtR_t (s:ByteArray) (r:List V):x5v (tV s::r)=I (s,r):=rfl
theorem j9y (b:Bool) (r:List V):y4r (bV b::r)=I (b,r):=by cases b <;> rfl
theorem lstR_l (l r:List V):z6l (lV l::r)=I (l,r):=rfl
theorem spnR_s (a b:Int) (r:List V):y2j (spV a b::r)=I ((a,b),r):=rfl
theorem x6a:∀ l:List Int,z1l (l.map iV)=I l
 | []=>rfl
 | x::r=>by simp only [List.map_cons,z1l,numR_i,Option.bind_some,x6a r]
theorem k5r (l:List Int) (r:List V):y6t (nsV l::r)=I (l,r):=by simp only [y6t,nsV,lstR_l,Option.bind_some,x6a]
theorem x7a:∀ l:List Cut,z4i (l.map z0p)=I l
 | []=>rfl
 | ⟨a,b,c,d,e⟩::r=>by simp only [List.map_cons,z4i,z0p,lstR_l,Option.bind_some,x1e,j9y,numR_i,spnR_s,x7a r]
theorem x8a:∀ l:List Nod,z4h (l.map z5j)=I l
 | []=>rfl
 | ⟨a,b,c⟩::r=>by simp only [List.map_cons,z4h,z5j,lstR_l,Option.bind_some,x2e,numR_i,x7a,x8a r]
theorem k6r (l:List Nod) (r:List V):x3e (lV (l.map z5j)::r)=I (l,r):=by simp only [x3e,lstR_l,Option.bind_some,x8a]
theorem x9a (x:Inp):z2r (lV (z6e x))=I x:=by
 obtain ⟨a1,a2,a3,a4,a5,⟨f1,f2,f3,f4,f5,f6,f7,f8⟩,a7,⟨g1,g2,g3⟩,⟨r1,r2,r3,r4,r5,r6⟩,⟨u1,u2,u3⟩,a11,⟨p1,p2,p3⟩,a13,a14⟩:=x
 show (if (3:Int)=3 then j2h (z6e _) else none)=_
 rw [if_pos rfl]
 simp only [j2h,z6e,z8e,y0n,z1p,List.cons_append,List.nil_append,lV]
 simp only [show ∀ l,V.mk 3 0 ⟨#[]⟩ l=lV l from fun _=>rfl,lstR_l,numR_i,txtR_t,k5r,spnR_s,j9y,k6r,Option.bind_some]
end Go.Proofs.YtdblnbnofjggnaaGreatDoor
