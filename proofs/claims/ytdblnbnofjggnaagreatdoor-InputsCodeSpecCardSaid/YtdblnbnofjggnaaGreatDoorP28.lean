/- Parts of the proofs of chapter 49's laws. -/
import Derived.Test.YtdblnbnofjggnaaGreatDoorP10
import Derived.Test.YtdblnbnofjggnaaGreatDoorP07
import Derived.Test.YtdblnbnofjggnaaGreatDoorP12
import Derived.Test.YtdblnbnofjggnaaGreatDoorP17
import Derived.BigQuiet
set_option maxHeartbeats 4000000
set_option maxRecDepth 100000
open Go.Lib renaming hid → hd_
open List renaming getElem?_eq_getElem → gE, getElem?_eq_some_iff → gS
open Go.Value renaming int → J, slice → M, bool → F, pointer → C, agg → O
open Go.IntKind renaming i64 → I
open Option renaming none → D, some → Y
open Bool renaming true → U, false → R
open Decidable renaming decide → X
open Go renaming World → Z, Value → G, TypeId → T
open Go.RowKit renaming Below → L, Hid → H
set_option linter.all false
namespace Go.Proofs.YtdblnbnofjggnaaGreatDoor
open Go.Proofs.Tryz
open Go.RowKit
theorem z3a (w:Z) (o:Obj) (t:T) (cs:List G) (h:o=.cells cs.toArray t):CB (w.alloc o) w.heap.size t cs:=by subst h;exact CB.new w _ _
theorem z4b {w:Z} (o:Obj):L w.heap.size w (w.alloc o):=(Below.refl w.heap.size w).alloc (Nat.le_refl _) o
theorem z3h {w:Z} {g:Nat} {t:T} {cs:List Value} (h:CB w g t cs):w.rangeAt g 0 cs:=fun i u hu=>by rw [Nat.zero_add,h.cell];exact hu
theorem z2m {w w':Z} {b o:Nat} {cs:List Value} (h:w.rangeAt b o cs) (hb:L w.heap.size w w'):w'.rangeAt b o cs:=fun i u hu=>z1a hb (h i u hu)
def nuK:EK Int:=⟨1,fun x=>[J I x],fun _=>rfl,fun x u hu=>by simp only [List.mem_cons,List.not_mem_nil,or_false] at hu;subst hu;rfl,by decide⟩
theorem k1z {B:Nat} {w:Z} {l:List Int} {b off cap:Nat} {k:Nat} {x:Int} (h:z4g nuK B w l (M (Y ⟨b,off,D⟩) l.length cap)) (hx:l[k]? = Y x):w.cell? ⟨b,off+k,D⟩=Y (J I x):=by
 obtain ⟨b',off',he,_,hat⟩:=h.at (k:=k) (gS.1 hx).1
 injection he with he;injection he with e1 e2 _
 subst e1 e2
 have:=hat k x hx 0 _ rfl
 simpa [nuK] using this
theorem y5x (a b:ByteArray):(a.toList == b.toList)=X (a=b):=by
 rw [ByteArray.toList_eq,ByteArray.toList_eq]
 by_cases h:a=b
 ·subst h;simp
 ·rw [decide_eq_false h,beq_eq_false_iff_ne]
  intro e
  apply h
  cases a;cases b
  simpa using e
section
variable {P:Program} {w:Z}
theorem z8c (c:List G) (t:T) (i:Nat) (v:G) (h1:(isAgg t).run P w=.ok R w) (h2:c[i]? = Y v):(part t c.toArray i).run P w=.ok v w:=by simp [part,h1,h2]
end
section
variable {P:Program} {w:Z} {ops:Array Oper} {rest:List Oper} {o:Oper} {a:Act} {K:Act→Z→Prop} {Q:Exit→Act→Z→Prop} {E:Prop}
theorem j9d {cs:List Value} (h:∀ u∈cs,u.oneCell'=U):cs.toArray.all (·.oneCell')=U:=Array.all_eq_true_iff_forall_mem.2 fun u hu=>h u (by simpa using hu)
theorem y6x {w:Z} {g:Nat} {c:Array Value}:w.grownBy (w.setRow g c) (Y g) :=
 ⟨rfl,rfl,rfl,by rw [size_setRow];exact Nat.le_refl _,fun k hk hne=>by
  have hkg:k≠g:=fun e=>hne (by rw [e])
  simp [World.setRow,Array.getElem?_modify,Ne.symm hkg]⟩
theorem z2d (hgd:o.guard=D) (ty:T) (x y:Operand) (ho:o.op=.store ty x y) (g:Nat) (cs:List G) (hx:a.eval x=C (Y ⟨g,0,D⟩)) (hy:a.eval y=O cs.toArray)
 (t:T) (old:List G) (hg:CB w g t old) (hold:old.length=cs.length) (hi:(P.info? ty).map (·.size)=Y cs.length) (h1:∀ u∈cs,u.oneCell'=U)
 (h:∀ w',H (CB w' g t cs)→H (w.grownBy w' (Y g))→H (w'.heap.size=w.heap.size)→wpList P ops Q rest (a.put o.dst undef) w'):wpList P ops Q (o::rest) a w :=
 wpList_store_row hgd ty x y ho g cs.toArray hx hy t old.toArray hg (by rw [List.size_toArray];exact hi) (by rw [List.size_toArray,List.size_toArray,hold]) (j9d h1) (h _ (setRow_heap _ _ _ _ _ _ hg) y6x (size_setRow _ _ _))
theorem z0l (hw:Region.wanted o (yielded ops a.tmps)=U) (ty:T) (x y:Operand) (ho:o.op=.store ty x y) (g:Nat) (cs:List G) (hx:a.eval x=C (Y ⟨g,0,D⟩)) (hy:a.eval y=O cs.toArray)
 (t:T) (old:List G) (hg:CB w g t old) (hold:old.length=cs.length) (hi:(P.info? ty).map (·.size)=Y cs.length) (h1:∀ u∈cs,u.oneCell'=U)
 (h:∀ w',H (CB w' g t cs)→H (w.grownBy w' (Y g))→H (w'.heap.size=w.heap.size)→K (a.put o.dst undef) w'):if Region.wanted o (yielded ops a.tmps)=U then Oper.wp P o a w K Q else E:=by
 rw [if_pos hw]
 exact wp_store_row ty x y ho g cs.toArray hx hy t old.toArray hg (by rw [List.size_toArray];exact hi) (by rw [List.size_toArray,List.size_toArray,hold]) (j9d h1) (h _ (setRow_heap _ _ _ _ _ _ hg) y6x (size_setRow _ _ _))
theorem y7j (hw:Region.wanted o (yielded ops a.tmps)=U) (ty:T) (x:Operand) (ho:o.op=.load ty x) (g:Nat) (cs:List G) (hx:a.eval x=C (Y ⟨g,0,D⟩))
 (t:T) (d:TypeDesc) (hg:CB w g t cs) (hu:P.underlying ty=Y d) (hd:(match d with | .struct _ | .array _ _=>U|_=>R)=U) (hi:(P.info? ty).map (·.size)=Y cs.length)
 (h:wpList P ops Q rest (a.put o.dst (O cs.toArray)) w):wpList P ops Q (o::rest) a w:=by
 unfold wpList
 rw [if_pos hw]
 left
 exact wp_load_row ty x ho g hx t cs.toArray (0,0) d hg hu hd (by rw [List.size_toArray];exact hi) h
theorem y8j (hw:Region.wanted o (yielded ops a.tmps)=U) (ty:T) (x:Operand) (ho:o.op=.load ty x) (b off:Nat) (hx:a.eval x=C (Y ⟨b,off,D⟩)) (cs:List G) (d:TypeDesc) (hc:w.rangeAt b off cs)
 (hu:P.underlying ty=Y d) (hd:d.isRow=U) (hi:(P.info? ty).map (·.size)=Y cs.length) (h:wpList P ops Q rest (a.put o.dst (O cs.toArray)) w):wpList P ops Q (o::rest) a w:=by
 unfold wpList
 rw [if_pos hw]
 left
 exact wp_load_mid ty x ho b off hx cs d hc hu hd hi h
theorem lcs (ty:T) (x:Operand) (ho:o.op=.load ty x) (g:Nat) (cs:List G) (hx:a.eval x=C (Y ⟨g,0,D⟩)) {t:T} {d:TypeDesc} (hg:CB w g t cs) (hu:P.underlying ty=Y d)
 (h:wpList P ops Q rest (a.put o.dst (O cs.toArray)) w) (hw:Region.wanted o (yielded ops a.tmps)=U:=by rfl) (hd:(match d with | .struct _ | .array _ _=>U|_=>R)=U:=by exact rfl) (hi:(P.info? ty).map (·.size)=Y cs.length:=by kernel_rfl):wpList P ops Q (o::rest) a w:=y7j hw ty x ho g cs hx t d hg hu hd hi h
theorem lmg (ty:T) (x:Operand) (ho:o.op=.load ty x) (b off:Nat) (hx:a.eval x=C (Y ⟨b,off,D⟩)) (cs:List G) {d:TypeDesc} (hc:w.rangeAt b off cs) (hu:P.underlying ty=Y d)
 (h:wpList P ops Q rest (a.put o.dst (O cs.toArray)) w) (hw:Region.wanted o (yielded ops a.tmps)=U:=by rfl) (hd:d.isRow=U:=by exact rfl) (hi:(P.info? ty).map (·.size)=Y cs.length:=by kernel_rfl):wpList P ops Q (o::rest) a w:=y8j hw ty x ho b off hx cs d hc hu hd hi h
theorem scs (ty:T) (x y:Operand) (ho:o.op=.store ty x y) (g:Nat) (cs:List G) (hx:a.eval x=C (Y ⟨g,0,D⟩)) (hy:a.eval y=O cs.toArray) {t:T} {old:List Value} (hg:CB w g t old) (h1:∀ u∈cs,u.oneCell'=U)
 (h:∀ w',H (CB w' g t cs)→H (w.grownBy w' (Y g))→H (w'.heap.size=w.heap.size)→wpList P ops Q rest (a.put o.dst undef) w') (hgd:o.guard=D:=by exact rfl) (hold:old.length=cs.length:=by exact rfl) (hi:(P.info? ty).map (·.size)=Y cs.length:=by kernel_rfl):wpList P ops Q (o::rest) a w:=z2d hgd ty x y ho g cs hx hy t old hg hold hi h1 h
theorem sif (ty:T) (x y:Operand) (ho:o.op=.store ty x y) (g:Nat) (cs:List G) (hx:a.eval x=C (Y ⟨g,0,D⟩)) (hy:a.eval y=O cs.toArray) {t:T} {old:List Value} (hg:CB w g t old) (h1:∀ u∈cs,u.oneCell'=U)
 (h:∀ w',H (CB w' g t cs)→H (w.grownBy w' (Y g))→H (w'.heap.size=w.heap.size)→K (a.put o.dst undef) w') (hw:Region.wanted o (yielded ops a.tmps)=U:=by rfl) (hold:old.length=cs.length:=by exact rfl) (hi:(P.info? ty).map (·.size)=Y cs.length:=by kernel_rfl):if Region.wanted o (yielded ops a.tmps)=U then Oper.wp P o a w K Q else E:=z0l hw ty x y ho g cs hx hy t old hg hold hi h1 h
end
structure Flt where
 id:Int
 air:Int
 cls:Int
 call:ByteArray
 ways:List Int
 wf:Int
 wt:Int
 can:Bool
deriving DecidableEq
structure Cut where
 ap:Bool
 ix:Int
 mf:Int
 mt:Int
 less:Int
deriving DecidableEq
structure Nod where
 par:Int
 frm:Int
 cuts:List Cut
deriving DecidableEq
structure Chg where
 frm:Int
 cfg:Int
 modes:List Int
deriving DecidableEq
structure Stn where
 vols:List Int
 sh:Int
 fa:Int
deriving DecidableEq
structure Sts where
 st:Int
 frm:Int
 wk:Bool
deriving DecidableEq
instance:DecidableEq Rp:=fun a b=>decidable_of_iff (j5x a b=U) (x9m a b)
structure Inp where
 mi:Int
 ce:Int
 no:Int
 kind:Int
 text:ByteArray
 flt:Flt
 tree:List Nod
 chg:Chg
 rep:Rp
 sts:Sts
 n:Int
 stn:Stn
 sr:Int
 ss:Int
deriving DecidableEq
structure Slc where
 ways:G
 tree:G
 modes:G
 vols:G
def Flt.cells (f:Flt) (v:G):List G:=[.int I f.id,.int I f.air,.int I f.cls,.string f.call,v,.int I f.wf,.int I f.wt,.bool f.can]
def Chg.cells (c:Chg) (v:G):List G:=[J I c.frm,J I c.cfg,v]
def Stn.cells (s:Stn) (v:G):List G:=[v,J I s.sh,J I s.fa]
def Sts.cells (s:Sts):List G:=[J I s.st,J I s.frm,F s.wk]
def Inp.cells (x:Inp) (s:Slc):List G:=[J I x.mi,J I x.ce,J I x.no,J I x.kind,.string x.text]++x.flt.cells s.ways++[s.tree]++x.chg.cells s.modes++x.rep.cells++x.sts.cells++[J I x.n]++x.stn.cells s.vols++[J I x.sr,J I x.ss]
def Inp.v (x:Inp) (s:Slc):G:=O (x.cells s).toArray
def Cut.cells (c:Cut):List G:=[F c.ap,J I c.ix,J I c.mf,J I c.mt,J I c.less]
def cuK:EK Cut:=⟨5,Cut.cells,fun _=>rfl,fun x u hu=>by simp only [Cut.cells,List.mem_cons,List.not_mem_nil,or_false] at hu;rcases hu with rfl|rfl|rfl|rfl|rfl <;> rfl,by decide⟩
structure Nb where
 par:Int
 frm:Int
 oa:Option Addr
 n:Nat
 cap:Nat
def Nb.cv (r:Nb):G:=M r.oa r.n r.cap
def Nb.cells (r:Nb):List G:=[J I r.par,J I r.frm,r.cv]
def ndK:EK Nb:=⟨3,Nb.cells,fun _=>rfl,fun x u hu=>by simp only [Nb.cells,List.mem_cons,List.not_mem_nil,or_false] at hu;rcases hu with rfl|rfl|rfl <;> rfl,by decide⟩
structure NodR (w:Z) (t:Nod) (r:Nb):Prop where
 par:r.par=t.par
 frm:r.frm=t.frm
 cuts:z4g cuK w.heap.size w t.cuts r.cv
theorem NodR.ext {w w':Z} {t:Nod} {r:Nb} (h:NodR w t r) (hb:L w.heap.size w w'):NodR w' t r:=⟨h.par,h.frm,h.cuts.ext hb⟩
def z9j (w:Z) (l:List Nod) (v:G):Prop:=∃ rl:List Nb,z4g ndK w.heap.size w rl v∧rl.length=l.length∧∀ (i:Nat) (t:Nod) (r:Nb),l[i]? = Y t→rl[i]? = Y r→NodR w t r
theorem z9j.ext {w w':Z} {l:List Nod} {v:Value} (h:z9j w l v) (hb:L w.heap.size w w'):z9j w' l v:=by
 obtain ⟨rl,h1,h2,h3⟩:=h
 exact ⟨rl,h1.ext hb,h2,fun i t r ht hr=>(h3 i t r ht hr).ext hb⟩
theorem z9j.shape {w:Z} {l:List Nod} {v:Value} (h:z9j w l v):∃ oa cap,v=M oa l.length cap∧l.length≤9223372036854775807:=by
 obtain ⟨rl,h1,h2,h3⟩:=h
 obtain ⟨oa,cap,rfl,hm⟩:=h1.shape
 exact ⟨oa,cap,by rw [h2],by omega⟩
theorem z9j.el {w:Z} {l:List Nod} {oa:Option Addr} {n cap i:Nat} {t:Nod} (h:z9j w l (M oa n cap)) (ht:l[i]? = Y t):∃ b off r,oa=Y ⟨b,off,D⟩∧b<w.heap.size∧j4p ndK w b (off+i * 3) r∧NodR w t r:=by
 obtain ⟨rl,h1,h2,h3⟩:=h
 have hi:=(gS.1 ht).1
 obtain ⟨oa',cap',he,_⟩:=h1.shape
 injection he with e1 e2 e3
 subst e1 e2 e3
 obtain ⟨b,off,rfl,hb,hat⟩:=h1.at (k:=i) (by omega)
 have hr:rl[i]? = Y rl[i]:=gE (by omega)
 exact ⟨b,off,_,rfl,hb,hat i _ hr,h3 i t _ ht hr⟩
theorem z9j.nil (w:Z) (oa:Option Addr) (cap:Nat):z9j w [] (M oa 0 cap):=⟨[],z4g.nil _ _ _ _,rfl,fun i t r h=>by simp at h⟩
structure InpR (w:Z) (x:Inp) (s:Slc):Prop where
 ways:z4g nuK w.heap.size w x.flt.ways s.ways
 tree:z9j w x.tree s.tree
 modes:z4g nuK w.heap.size w x.chg.modes s.modes
 vols:z4g nuK w.heap.size w x.stn.vols s.vols
theorem InpR.ext {w w':Z} {x:Inp} {s:Slc} (h:InpR w x s) (hb:L w.heap.size w w'):InpR w' x s:=⟨h.ways.ext hb,h.tree.ext hb,h.modes.ext hb,h.vols.ext hb⟩
def bI (x:Inp) (s:Slc):Obj:=.cells (x.cells s).toArray 41
theorem z9v (x:Inp) (s:Slc) (a b c d:Option Addr) (na nb nc nd ca cb cc cd:Nat) (ha:s.ways=M a na ca) (hb:s.tree=M b nb cb) (hc:s.modes=M c nc cc) (hd:s.vols=M d nd cd):(x.cells s).toArray.all (·.oneCell')=U:=by
 refine Array.all_eq_true_iff_forall_mem.2 fun u hu=>?_
 have hu:u∈x.cells s:=by simpa using hu
 unfold Inp.cells Flt.cells Chg.cells Stn.cells Sts.cells Rp.cells at hu
 rw [ha,hb,hc,hd] at hu
 simp only [List.cons_append,List.nil_append,List.mem_cons,List.not_mem_nil,or_false] at hu
 rcases hu with rfl|rfl|rfl|rfl|rfl|rfl|rfl|rfl|rfl|rfl|rfl|rfl|rfl|rfl|rfl|rfl|rfl|rfl|rfl|rfl|rfl|rfl|rfl|rfl|rfl|rfl|rfl|rfl|rfl|rfl|rfl|rfl <;> rfl
structure FltI (f:Flt):Prop where
 id:I64 f.id
 air:I64 f.air
 cls:I64 f.cls
 wf:I64 f.wf
 wt:I64 f.wt
 ways:∀ x∈f.ways,I64 x
 call:f.call.size≤maxLen
structure CutI (c:Cut):Prop where
 ix:I64 c.ix
 mf:I64 c.mf
 mt:I64 c.mt
 less:I64 c.less
structure NodI (n:Nod):Prop where
 par:I64 n.par
 frm:I64 n.frm
 cuts:∀ c∈n.cuts,CutI c
structure InpI (x:Inp):Prop where
 mi:I64 x.mi
 ce:I64 x.ce
 no:I64 x.no
 kind:I64 x.kind
 text:x.text.size≤maxLen
 flt:FltI x.flt
 tree:∀ n∈x.tree,NodI n
 cfrm:I64 x.chg.frm
 cfg:I64 x.chg.cfg
 modes:∀ m∈x.chg.modes,I64 m
 rst:I64 x.rep.st
 rno:I64 x.rep.no
 rmi:I64 x.rep.mi
 rar:I64 x.rep.ar
 rcl:x.rep.cl.size≤maxLen
 rvo:I64 x.rep.vo
 sst:I64 x.sts.st
 sfr:I64 x.sts.frm
 n:I64 x.n
 vols:∀ m∈x.stn.vols,I64 m
 sh:I64 x.stn.sh
 fa:I64 x.stn.fa
 sr:I64 x.sr
 ss:I64 x.ss
theorem x2o (a0:Int) (a1:Int) (a2:Int) (b0:Int) (b1:Int) (b2:Int) (w:Z):(Op.equalIn 10000 23 (O #[J I a0,J I a1,J I a2]) (O #[J I b0,J I b1,J I b2])).run prog w=.ok (a0 == b0&&a1 == b1&&a2 == b2) w:=by
 rw [show (10000:Nat)=9999+1 from rfl,run_equalIn_struct w 9999 _ _ _ (by kernel_rfl) (by kernel_rfl)]
 have hi:=underlying3
 have hu:=underlying23
 simp only [Program.fieldsOf,hu]
 have p1:(isAgg 3).run prog w=.ok R w:=by kernel_rfl
 have q:∀ x y:Int,(Op.equalIn 9999 3 (J I x) (J I y)).run prog w=.ok (x == y) w:=fun x y=>run_equalIn_int w 9998 _ I I _ _ hi
 have nL:=z8c (P:=prog) (w:=w) [J I a0,J I a1,J I a2] 3 0 (J I a0) p1 rfl
 have nN:=z8c (P:=prog) (w:=w) [J I b0,J I b1,J I b2] 3 0 (J I b0) p1 rfl
 have nO:=z8c (P:=prog) (w:=w) [J I a0,J I a1,J I a2] 3 1 (J I a1) p1 rfl
 have nR:=z8c (P:=prog) (w:=w) [J I b0,J I b1,J I b2] 3 1 (J I b1) p1 rfl
 have a2':=z8c (P:=prog) (w:=w) [J I a0,J I a1,J I a2] 3 2 (J I a2) p1 rfl
 have b2':=z8c (P:=prog) (w:=w) [J I b0,J I b1,J I b2] 3 2 (J I b2) p1 rfl
 simp only [Op.eqFields,ne_eq,String.reduceEq,not_false_eq_true,if_true,Sem.run_bind,nL,nN,nO,nR,a2',b2',q,Result.andThen_ok,Sem.run_ite,Sem.run_pure]
 cases (a0 == b0) <;> cases (a1 == b1) <;> cases (a2 == b2) <;> rfl
theorem x3o (op:BinOp) (x y:Operand) (a0:Int) (a1:Int) (a2:Int) (b0:Int) (b1:Int) (b2:Int) (w:Z):(eqGuard op 23 x y (O #[J I a0,J I a1,J I a2]) (O #[J I b0,J I b1,J I b2])).run prog w=.ok () w :=
 run_eqGuard_agg w op _ x y _ _ (by kernel_rfl)
theorem j0e (a0:Int) (a1:Int) (b0:Int) (b1:Int) (w:Z):(Op.equalIn 10000 26 (O #[J I a0,J I a1]) (O #[J I b0,J I b1])).run prog w=.ok (a0 == b0&&a1 == b1) w:=by
 rw [show (10000:Nat)=9999+1 from rfl,run_equalIn_struct w 9999 _ _ _ (by kernel_rfl) (by kernel_rfl)]
 have hi:=underlying3
 have hu:=underlying26
 simp only [Program.fieldsOf,hu]
 have p1:(isAgg 3).run prog w=.ok R w:=by kernel_rfl
 have q:∀ x y:Int,(Op.equalIn 9999 3 (J I x) (J I y)).run prog w=.ok (x == y) w:=fun x y=>run_equalIn_int w 9998 _ I I _ _ hi
 have nL:=z8c (P:=prog) (w:=w) [J I a0,J I a1] 3 0 (J I a0) p1 rfl
 have nN:=z8c (P:=prog) (w:=w) [J I b0,J I b1] 3 0 (J I b0) p1 rfl
 have nO:=z8c (P:=prog) (w:=w) [J I a0,J I a1] 3 1 (J I a1) p1 rfl
 have nR:=z8c (P:=prog) (w:=w) [J I b0,J I b1] 3 1 (J I b1) p1 rfl
 simp only [Op.eqFields,ne_eq,String.reduceEq,not_false_eq_true,if_true,Sem.run_bind,nL,nN,nO,nR,q,Result.andThen_ok,Sem.run_ite,Sem.run_pure]
 cases (a0 == b0) <;> cases (a1 == b1) <;> rfl
theorem j1e (op:BinOp) (x y:Operand) (a0:Int) (a1:Int) (b0:Int) (b1:Int) (w:Z):(eqGuard op 26 x y (O #[J I a0,J I a1]) (O #[J I b0,J I b1])).run prog w=.ok () w :=
 run_eqGuard_agg w op _ x y _ _ (by kernel_rfl)
theorem y7x (a0:Int) (a1:Int) (a2:Bool) (b0:Int) (b1:Int) (b2:Bool) (w:Z):(Op.equalIn 10000 35 (O #[J I a0,J I a1,F a2]) (O #[J I b0,J I b1,F b2])).run prog w=.ok (a0 == b0&&a1 == b1&&a2 == b2) w:=by
 rw [show (10000:Nat)=9999+1 from rfl,run_equalIn_struct w 9999 _ _ _ (by kernel_rfl) (by kernel_rfl)]
 have hi:=underlying3
 have hu:=underlying35
 simp only [Program.fieldsOf,hu]
 have p1:(isAgg 3).run prog w=.ok R w:=by kernel_rfl
 have q:∀ x y:Int,(Op.equalIn 9999 3 (J I x) (J I y)).run prog w=.ok (x == y) w:=fun x y=>run_equalIn_int w 9998 _ I I _ _ hi
 have hs:=underlying4
 have p2:(isAgg 4).run prog w=.ok R w:=by kernel_rfl
 have qs:∀ x y:Bool,(Op.equalIn 9999 4 (F x) (F y)).run prog w=.ok (x == y) w:=fun x y=>by
  rw [show (9999:Nat)=9998+1 from rfl,Op.equalIn]
  simp only [Sem.run_bind,run_underlying hs,Result.andThen_ok]
  rfl
 have nL:=z8c (P:=prog) (w:=w) [J I a0,J I a1,F a2] 3 0 (J I a0) p1 rfl
 have nN:=z8c (P:=prog) (w:=w) [J I b0,J I b1,F b2] 3 0 (J I b0) p1 rfl
 have nO:=z8c (P:=prog) (w:=w) [J I a0,J I a1,F a2] 3 1 (J I a1) p1 rfl
 have nR:=z8c (P:=prog) (w:=w) [J I b0,J I b1,F b2] 3 1 (J I b1) p1 rfl
 have a2':=z8c (P:=prog) (w:=w) [J I a0,J I a1,F a2] 4 2 (F a2) p2 rfl
 have b2':=z8c (P:=prog) (w:=w) [J I b0,J I b1,F b2] 4 2 (F b2) p2 rfl
 simp only [Op.eqFields,ne_eq,String.reduceEq,not_false_eq_true,if_true,Sem.run_bind,nL,nN,nO,nR,a2',b2',q,qs,Result.andThen_ok,Sem.run_ite,Sem.run_pure]
 cases (a0 == b0) <;> cases (a1 == b1) <;> cases (a2 == b2) <;> rfl
theorem y8x (op:BinOp) (x y:Operand) (a0:Int) (a1:Int) (a2:Bool) (b0:Int) (b1:Int) (b2:Bool) (w:Z):(eqGuard op 35 x y (O #[J I a0,J I a1,F a2]) (O #[J I b0,J I b1,F b2])).run prog w=.ok () w :=
 run_eqGuard_agg w op _ x y _ _ (by kernel_rfl)
theorem j2y (a0:Int) (a1:Int) (b0:Int) (b1:Int) (w:Z):(Op.equalIn 10000 39 (O #[J I a0,J I a1]) (O #[J I b0,J I b1])).run prog w=.ok (a0 == b0&&a1 == b1) w:=by
 rw [show (10000:Nat)=9999+1 from rfl,run_equalIn_struct w 9999 _ _ _ (by kernel_rfl) (by kernel_rfl)]
 have hi:=underlying3
 have hu:=underlying39
 simp only [Program.fieldsOf,hu]
 have p1:(isAgg 3).run prog w=.ok R w:=by kernel_rfl
 have q:∀ x y:Int,(Op.equalIn 9999 3 (J I x) (J I y)).run prog w=.ok (x == y) w:=fun x y=>run_equalIn_int w 9998 _ I I _ _ hi
 have nL:=z8c (P:=prog) (w:=w) [J I a0,J I a1] 3 0 (J I a0) p1 rfl
 have nN:=z8c (P:=prog) (w:=w) [J I b0,J I b1] 3 0 (J I b0) p1 rfl
 have nO:=z8c (P:=prog) (w:=w) [J I a0,J I a1] 3 1 (J I a1) p1 rfl
 have nR:=z8c (P:=prog) (w:=w) [J I b0,J I b1] 3 1 (J I b1) p1 rfl
 simp only [Op.eqFields,ne_eq,String.reduceEq,not_false_eq_true,if_true,Sem.run_bind,nL,nN,nO,nR,q,Result.andThen_ok,Sem.run_ite,Sem.run_pure]
 cases (a0 == b0) <;> cases (a1 == b1) <;> rfl
theorem j3y (op:BinOp) (x y:Operand) (a0:Int) (a1:Int) (b0:Int) (b1:Int) (w:Z):(eqGuard op 39 x y (O #[J I a0,J I a1]) (O #[J I b0,J I b1])).run prog w=.ok () w :=
 run_eqGuard_agg w op _ x y _ _ (by kernel_rfl)
theorem x4o (a b:Cut) (w:Z):(Op.equalIn 10000 88 (O a.cells.toArray) (O b.cells.toArray)).run prog w=.ok (X (a=b)) w:=by
 rw [show (10000:Nat)=9999+1 from rfl,run_equalIn_struct w 9999 _ _ _ (by kernel_rfl) (by kernel_rfl)]
 have hi:=underlying3
 have hs:=underlying4
 have hu:=underlying88
 simp only [Program.fieldsOf,hu]
 have p1:(isAgg 3).run prog w=.ok R w:=by kernel_rfl
 have p2:(isAgg 4).run prog w=.ok R w:=by kernel_rfl
 have p3:(isAgg 26).run prog w=.ok U w:=by kernel_rfl
 have p4:(sizeOf 26).run prog w=.ok 2 w:=by kernel_rfl
 have q:∀ x y:Int,(Op.equalIn 9999 3 (J I x) (J I y)).run prog w=.ok (x == y) w:=fun x y=>run_equalIn_int w 9998 _ I I _ _ hi
 have qs:∀ x y:Bool,(Op.equalIn 9999 4 (F x) (F y)).run prog w=.ok (x == y) w:=fun x y=>by
  rw [show (9999:Nat)=9998+1 from rfl,Op.equalIn]
  simp only [Sem.run_bind,run_underlying hs,Result.andThen_ok]
  rfl
 have q2:∀ x y z u:Int,(Op.equalIn 9999 26 (O #[J I x,J I y]) (O #[J I z,J I u])).run prog w=.ok (x == z&&y == u) w:=fun x y z u=>by
  rw [show (9999:Nat)=9998+1 from rfl,run_equalIn_struct w 9998 _ _ _ (by kernel_rfl) (by kernel_rfl)]
  have gl:=underlying26
  simp only [Program.fieldsOf,gl]
  have q':∀ x y:Int,(Op.equalIn 9998 3 (J I x) (J I y)).run prog w=.ok (x == y) w:=fun x y=>run_equalIn_int w 9997 _ I I _ _ hi
  have e0:=z8c (P:=prog) (w:=w) [J I x,J I y] 3 0 (J I x) p1 rfl
  have e1:=z8c (P:=prog) (w:=w) [J I x,J I y] 3 1 (J I y) p1 rfl
  have f0:=z8c (P:=prog) (w:=w) [J I z,J I u] 3 0 (J I z) p1 rfl
  have f1:=z8c (P:=prog) (w:=w) [J I z,J I u] 3 1 (J I u) p1 rfl
  simp only [Op.eqFields,ne_eq,String.reduceEq,not_false_eq_true,if_true,Sem.run_bind,e0,e1,f0,f1,q',Result.andThen_ok,Sem.run_ite,Sem.run_pure]
  cases (x == z) <;> cases (y == u) <;> rfl
 have a0:=fun c:Cut=>z8c (P:=prog) (w:=w) c.cells 4 0 (F c.ap) p2 rfl
 have a1:=fun c:Cut=>z8c (P:=prog) (w:=w) c.cells 3 1 (J I c.ix) p1 rfl
 have a2:∀ c:Cut,(part 26 c.cells.toArray 2).run prog w=.ok (O #[J I c.mf,J I c.mt]) w:=fun c=>by
  simp only [part,Sem.run_bind,p3,p4,Result.andThen_ok,if_true,Sem.run_pure];rfl
 have a4:=fun c:Cut=>z8c (P:=prog) (w:=w) c.cells 3 4 (J I c.less) p1 rfl
 simp only [Op.eqFields,ne_eq,String.reduceEq,not_false_eq_true,if_true,Sem.run_bind,a0,a1,a2,a4,q,qs,q2,Result.andThen_ok,Sem.run_ite,Sem.run_pure]
 have e:X (a=b)=(a.ap == b.ap&&a.ix == b.ix&&(a.mf == b.mf&&a.mt == b.mt)&&a.less == b.less):=by
  obtain ⟨a1,a2,a3,a4,a5⟩:=a
  obtain ⟨b1,b2,b3,b4,b5⟩:=b
  rw [Bool.eq_iff_iff]
  simp only [decide_eq_true_eq,Bool.and_eq_true,beq_iff_eq,Cut.mk.injEq]
  exact ⟨fun ⟨h1,h2,h3,h4,h5⟩=>⟨⟨⟨h1,h2⟩,h3,h4⟩,h5⟩,fun ⟨⟨⟨h1,h2⟩,h3,h4⟩,h5⟩=>⟨h1,h2,h3,h4,h5⟩⟩
 rw [e]
 cases (a.ap == b.ap) <;> cases (a.ix == b.ix) <;> cases (a.mf == b.mf&&a.mt == b.mt) <;> cases (a.less == b.less) <;> rfl
theorem j4y (op:BinOp) (x y:Operand) (a b:Cut) (w:Z):(eqGuard op 88 x y (O a.cells.toArray) (O b.cells.toArray)).run prog w=.ok () w :=
 run_eqGuard_agg w op _ x y _ _ (by kernel_rfl)
def z1f:G→Nat
 | .int _ n=>n.toNat
 | _=>0
theorem z0k {α:Type} {a b:List α} (h:a.length=b.length) (hs:∀ j,j<a.length→a[j]? = b[j]?):a=b:=by
 apply List.ext_getElem?
 intro j
 by_cases hj:j<a.length
 ·exact hs j hj
 ·rw [List.getElem?_eq_none (by omega),List.getElem?_eq_none (by omega)]
def x0t {α:Type} (a b:List α) (n:Nat) (w:Z) (vi:G) (wr:Z):Prop:=∃ i:Nat,vi=J I (i:Int)∧i≤n∧(∀ j,j<i→a[j]? = b[j]?)∧L w.heap.size w wr
theorem z3m {B:Nat} {w:Z} {l:List Int} {b off cap n:Nat} {k:Nat} {x:Int} (h:z4g nuK B w l (M (Y ⟨b,off,D⟩) n cap)) (hx:l[k]? = Y x):w.cell? ⟨b,off+k,D⟩=Y (J I x):=by
 obtain ⟨_,_,he,_⟩:=h.shape
 injection he with _ e2 _
 subst e2
 exact k1z h hx
theorem z0w {α:Type} {K:EK α} {B:Nat} {w:Z} {l:List α} {b off cap n:Nat} {k:Nat} {x:α} (h:z4g K B w l (M (Y ⟨b,off,D⟩) n cap)) (hx:l[k]? = Y x):w.rangeAt b (off+k * K.n) (K.cells x):=by
 obtain ⟨_,_,he,_⟩:=h.shape
 injection he with _ e2 _
 subst e2
 obtain ⟨b',off',he,_,hat⟩:=h.at (k:=k) (gS.1 hx).1
 injection he with he;injection he with e1 e2 _
 subst e1 e2
 exact hat k x hx
theorem z9f {α:Type} {K:EK α} {B:Nat} {w:Z} {l:List α} {oa:Option Addr} {cap n k:Nat} (h:z4g K B w l (M oa n cap)) (hk:k<l.length):∃ b off,oa=Y ⟨b,off,D⟩:=by
 obtain ⟨_,_,he,_⟩:=h.shape
 injection he with _ e2 _
 subst e2
 obtain ⟨b',off',he,_,hat⟩:=h.at hk
 exact ⟨b',off',he⟩
theorem y1a (a b:List Int) (va vb:G) (w:Z) (ha:z4g nuK w.heap.size w a va) (hb:z4g nuK w.heap.size w b vb) :
 Calls prog 38 #[va,vb] w fun e w'=>e=.returned (F (X (a=b)))∧L w.heap.size w w':=by
 obtain ⟨oa,ca,rfl,la⟩:=ha.shape
 obtain ⟨ob,cb,rfl,lb⟩:=hb.shape
 have HA:=hd_ ha;have HB:=hd_ hb
 obtain ⟨n,hn⟩:∃ n,a.length=n:=⟨_,rfl⟩
 obtain ⟨m,hm⟩:∃ m,b.length=m:=⟨_,rfl⟩
 rw [hn] at HA la;rw [hm] at HB lb
 have l1:(n:Int)≤9223372036854775807:=by omega
 have l2:(m:Int)≤9223372036854775807:=by omega
 rw [hn,hm]
 have HN:=hd_ hn;have HM:=hd_ hm
 clear ha hb hn hm la lb
 go_enter func38,ntmps38
 by_cases hl:n=m
 case neg =>
  have t1:X ((n:Int)=(m:Int))=R:=decide_eq_false (by omega)
  have t2:((n:Int) == (m:Int))=R:=beq_false_of_ne (by omega)
  have t3:X (n=m)=R:=decide_eq_false hl
  have hne:X (a=b)=R:=decide_eq_false (fun e=>hl (by rw [← HN.out,← HM.out,e]))
  have HE:=hd_ hne
  clear hne hl
  go_wp2_with fail
  go_ret
  exact ⟨by rw [HE.out];rfl,Below.refl _ _⟩
 case pos =>
 subst hl
 go_wp2_with fail
 go_loopw [13] (fun vi wr=>x0t a b n w vi wr) (fun vi _=>n - z1f vi)
 case atStart=>exact ⟨0,rfl,by omega,fun j h=>by omega,Below.refl _ _⟩
 case round =>
  obtain ⟨i,rfl,hi,hs,hb⟩:=hrel
  have HS:=hd_ hs;have aq:=hd_ hb
  clear hs hb
  by_cases hlt:i<n
  case neg =>
   obtain rfl:i=n:=by omega
   have tj:X ((i:Int)<(i:Int))=R:=by simp
   have HE:H (X (a=b)=U):=decide_eq_true (z0k (by rw [HN.out,HM.out]) (fun j hj=>HS.out j (by rw [← HN.out];exact hj)))
   go_wp2_with fail
   go_ret
   exact ⟨by rw [HE.out];rfl,aq.out⟩
  case pos =>
  have tj:X ((i:Int)<(n:Int))=U:=by simp;omega
  have eu:X (i<n)=U:=by simp;omega
  have kb:(i:Int)<(n:Int):=by omega
  obtain ⟨x,hx⟩:∃ x,a[i]? = Y x:=⟨_,gE (by rw [HN.out];exact hlt)⟩
  obtain ⟨y,hy⟩:∃ y,b[i]? = Y y:=⟨_,gE (by rw [HM.out];exact hlt)⟩
  obtain ⟨ab,ao,rfl⟩:=z9f HA.out (k:=i) (by rw [HN.out];exact hlt)
  obtain ⟨bb,bo,rfl⟩:=z9f HB.out (k:=i) (by rw [HM.out];exact hlt)
  have aN:=hd_ hlt;have Hx:=hd_ hx;have Hy:=hd_ hy
  have iv:H (x=y→∀ j,j<i+1→a[j]? = b[j]?):=fun e j hj=>by
   rcases Nat.lt_succ_iff_lt_or_eq.1 hj with h|h
   ·exact HS.out j h
   ·rw [h,Hx.out,Hy.out,e]
  have gm:H (x≠y→X (a=b)=R):=fun hne=>decide_eq_false (fun e=>by
   have:=Hx.out;rw [e,Hy.out] at this;injection this with this;exact hne this.symm)
  have c1:=z1a aq.out (z3m HA.out hx);have c2:=z1a aq.out (z3m HB.out hy)
  clear hlt hx hy hi
  go_upto_region 6 with fail
  by_cases hxy:x=y
  ·subst hxy
   go_quiet (fail)
   have K:H (L w.heap.size w (wr.drewN nq)):=⟨aq.out.os,aq.out.tape,aq.out.output,aq.out.size,aq.out.block⟩
   clear c1 c2 aq
   generalize wr.drewN nq=wA at *
   go_wp2_with fail
   go_roundw
   case rel=>exact ⟨i+1,by go_num,aN.out,iv.out rfl,K.out⟩
   case measure=>simp [z1f];have:=aN.out;omega
  ·have u1:X (x=y)=R:=decide_eq_false hxy
   have u2:(x == y)=R:=beq_false_of_ne hxy
   have HE:=hd_ (gm.out hxy)
   clear hxy
   go_quiet (fail)
   have K:H (L w.heap.size w (wr.drewN nq)):=⟨aq.out.os,aq.out.tape,aq.out.output,aq.out.size,aq.out.block⟩
   clear c1 c2 aq
   generalize wr.drewN nq=wA at *
   go_wp2_with fail
   go_ret
   exact ⟨by rw [HE.out];rfl,K.out⟩
theorem x1t (a b:List Cut) (va vb:G) (w:Z) (ha:z4g cuK w.heap.size w a va) (hb:z4g cuK w.heap.size w b vb) :
 Calls prog 41 #[va,vb] w fun e w'=>e=.returned (F (X (a=b)))∧L w.heap.size w w':=by
 obtain ⟨oa,ca,rfl,la⟩:=ha.shape
 obtain ⟨ob,cb,rfl,lb⟩:=hb.shape
 have HA:=hd_ ha;have HB:=hd_ hb
 obtain ⟨n,hn⟩:∃ n,a.length=n:=⟨_,rfl⟩
 obtain ⟨m,hm⟩:∃ m,b.length=m:=⟨_,rfl⟩
 rw [hn] at HA la;rw [hm] at HB lb
 have l1:(n:Int)≤9223372036854775807:=by omega
 have l2:(m:Int)≤9223372036854775807:=by omega
 rw [hn,hm]
 have HN:=hd_ hn;have HM:=hd_ hm
 clear ha hb hn hm la lb
 go_enter func41,ntmps41
 by_cases hl:n=m
 case neg =>
  have t1:X ((n:Int)=(m:Int))=R:=decide_eq_false (by omega)
  have t2:((n:Int) == (m:Int))=R:=beq_false_of_ne (by omega)
  have t3:X (n=m)=R:=decide_eq_false hl
  have hne:X (a=b)=R:=decide_eq_false (fun e=>hl (by rw [← HN.out,← HM.out,e]))
  have HE:=hd_ hne
  clear hne hl
  go_wp2_with fail
  go_ret
  exact ⟨by rw [HE.out];rfl,Below.refl _ _⟩
 case pos =>
 subst hl
 go_wp2_with fail
 go_loopw [13] (fun vi wr=>x0t a b n w vi wr) (fun vi _=>n - z1f vi)
 case atStart=>exact ⟨0,rfl,by omega,fun j h=>by omega,Below.refl _ _⟩
 case round =>
  obtain ⟨i,rfl,hi,hs,hb⟩:=hrel
  have HS:=hd_ hs;have aq:=hd_ hb
  clear hs hb
  by_cases hlt:i<n
  case neg =>
   obtain rfl:i=n:=by omega
   have tj:X ((i:Int)<(i:Int))=R:=by simp
   have HE:H (X (a=b)=U):=decide_eq_true (z0k (by rw [HN.out,HM.out]) (fun j hj=>HS.out j (by rw [← HN.out];exact hj)))
   go_wp2_with fail
   go_ret
   exact ⟨by rw [HE.out];rfl,aq.out⟩
  case pos =>
  have tj:X ((i:Int)<(n:Int))=U:=by simp;omega
  have eu:X (i<n)=U:=by simp;omega
  have kb:(i:Int)<(n:Int):=by omega
  obtain ⟨x,hx⟩:∃ x,a[i]? = Y x:=⟨_,gE (by rw [HN.out];exact hlt)⟩
  obtain ⟨y,hy⟩:∃ y,b[i]? = Y y:=⟨_,gE (by rw [HM.out];exact hlt)⟩
  obtain ⟨ab,ao,rfl⟩:=z9f HA.out (k:=i) (by rw [HN.out];exact hlt)
  obtain ⟨bb,bo,rfl⟩:=z9f HB.out (k:=i) (by rw [HM.out];exact hlt)
  have aN:=hd_ hlt;have Hx:=hd_ hx;have Hy:=hd_ hy
  have iv:H (x=y→∀ j,j<i+1→a[j]? = b[j]?):=fun e j hj=>by
   rcases Nat.lt_succ_iff_lt_or_eq.1 hj with h|h
   ·exact HS.out j h
   ·rw [h,Hx.out,Hy.out,e]
  have gm:H (x≠y→X (a=b)=R):=fun hne=>decide_eq_false (fun e=>by
   have:=Hx.out;rw [e,Hy.out] at this;injection this with this;exact hne this.symm)
  have C1:=hd_ (z2m (z0w HA.out hx) (aq.out.drew));have C2:=hd_ (z2m (z0w HB.out hy) (aq.out.drew))
  have K:=hd_ aq.out.drew
  clear hlt hx hy hi
  go_upto_region 6 with fail
  refine wp_region_held_drew (S:=fun w'=>w'.rangeAt ab (ao+i * 5) x.cells∧w'.rangeAt bb (bo+i * 5) y.cells) (by kernel_rfl) ⟨C1.out,C2.out⟩ (fun hHeld=>?_)
  clear aq C1 C2
  generalize wr.drew=wA at *
  refine tkH 16 0 ?_
  refine tkH 17 1 ?_
  refine tkH 18 2 ?_
  refine x1m 19 3 rfl (O x.cells.toArray) (yieldsIf_load_mid (by rfl) 88 _ rfl ab (ao+i * 5) rfl x.cells _ (fun wS aa=>by obtain ⟨s1,s2⟩:=aa;exact s1) underlying88 rfl (by kernel_rfl)) ?_
  refine tkH 20 4 ?_
  refine tkH 21 5 ?_
  refine tkH 22 6 ?_
  refine x1m 23 7 rfl (O y.cells.toArray) (yieldsIf_load_mid (by rfl) 88 _ rfl bb (bo+i * 5) rfl y.cells _ (fun wS aa=>by obtain ⟨s1,s2⟩:=aa;exact s2) underlying88 rfl (by kernel_rfl)) ?_
  have hgd:=fun (a1 a2:Operand) (W:Z)=>j4y .neq a1 a2 x y W
  by_cases hxy:x=y
  ·have heq:∀ W:Z,(Op.equalIn 10000 88 (O x.cells.toArray) (O y.cells.toArray)).run prog W=.ok U W:=fun W=>by rw [x4o,decide_eq_true hxy]
   have HX:=hd_ (iv.out hxy)
   clear hxy
   refine tkH 24 8 ?_
   refine wpAnyH_done (by kernel_rfl) ?_ _
   go_wp2_with fail
   go_roundw
   case rel=>exact ⟨i+1,by go_num,aN.out,HX.out,K.out⟩
   case measure=>simp [z1f];have:=aN.out;omega
  ·have heq:∀ W:Z,(Op.equalIn 10000 88 (O x.cells.toArray) (O y.cells.toArray)).run prog W=.ok R W:=fun W=>by rw [x4o,decide_eq_false hxy]
   have HE:=hd_ (gm.out hxy)
   clear hxy
   refine tkH 24 8 ?_
   refine wpAnyH_done (by kernel_rfl) ?_ _
   go_wp2_with fail
   go_ret
   exact ⟨by rw [HE.out];rfl,K.out⟩
theorem y9x (p q:Nod):X (p=q)=(X (p.par=q.par)&&X (p.frm=q.frm)&&X (p.cuts=q.cuts)):=by
 obtain ⟨a1,a2,a3⟩:=p
 obtain ⟨b1,b2,b3⟩:=q
 rw [Bool.eq_iff_iff]
 simp only [decide_eq_true_eq,Bool.and_eq_true,Nod.mk.injEq,and_assoc]
theorem j2e (p q:Nod) (r s:Nb) (w:Z) (hp:NodR w p r) (hq:NodR w q s) :
 Calls prog 40 #[O #[J I r.par,J I r.frm,M r.oa r.n r.cap],O #[J I s.par,J I s.frm,M s.oa s.n s.cap]] w fun e w'=>e=.returned (F (X (p=q)))∧L w.heap.size w w':=by
 have aj:L w.heap.size w ((w.alloc (.cells #[J I r.par,J I r.frm,M r.oa r.n r.cap] 48)).alloc (.cells #[J I s.par,J I s.frm,M s.oa s.n s.cap] 48)):=(z4b (w:=w) _).alloc (z4b (w:=w) (.cells #[J I r.par,J I r.frm,M r.oa r.n r.cap] 48)).size _
 have HC:=hd_ (x1t p.cuts q.cuts _ _ _ (hp.cuts.ext aj) (hq.cuts.ext aj))
 have HB:=hd_ aj
 have HS:=hd_ (y9x p q)
 have e1:=hp.par;have e2:=hp.frm;have e3:=hq.par;have e4:=hq.frm
 obtain ⟨b1,af⟩:∃ b,X (p.par=q.par)=b:=⟨_,rfl⟩
 obtain ⟨b2,dT⟩:∃ b,X (p.frm=q.frm)=b:=⟨_,rfl⟩
 obtain ⟨b3,aB⟩:∃ b,X (p.cuts=q.cuts)=b:=⟨_,rfl⟩
 rw [af,dT,aB] at HS
 rw [aB] at HC
 rw [← e1,← e3] at af
 rw [← e2,← e4] at dT
 obtain ⟨rp,rf,ra,rn,rc⟩:=r
 obtain ⟨sp,sf,sa,sn,sc⟩:=s
 change X (rp=sp)=b1 at af
 change X (rf=sf)=b2 at dT
 have u1:(rp == sp)=b1:=by rw [← af];rfl
 have u2:(rf == sf)=b2:=by rw [← dT];rfl
 unfold Nb.cv at HC
 clear hp hq aj aB e1 e2 e3 e4
 change Calls prog 40 #[O #[J I rp,J I rf,M ra rn rc],O #[J I sp,J I sf,M sa sn sc]] w _
 cases b1
 ·go_enter func40,ntmps40
  go_wp2_with fail
  go_ret
  exact ⟨by rw [HS.out];rfl,HB.out⟩
 ·cases b2
  ·go_enter func40,ntmps40
   go_wp2_with fail
   go_ret
   exact ⟨by rw [HS.out];rfl,HB.out⟩
  ·go_enter func40,ntmps40
   go_wp2_with (go_at_call 41;refine HC.out.mono ?_;(rintro e w2 ⟨rfl,hb⟩;have au:=hd_ (z0a HB.out hb);clear hb))
   go_ret
   exact ⟨by rw [HS.out];rfl,au.out⟩
theorem x2t (a b:List Nod) (va vb:G) (w:Z) (ha:z9j w a va) (hb:z9j w b vb) :
 Calls prog 39 #[va,vb,.func (.func 40) #[] #[]] w fun e w'=>e=.returned (F (X (a=b)))∧L w.heap.size w w':=by
 obtain ⟨oa,ca,rfl,la⟩:=ha.shape
 obtain ⟨ob,cb,rfl,lb⟩:=hb.shape
 have HA:=hd_ ha;have HB:=hd_ hb
 obtain ⟨n,hn⟩:∃ n,a.length=n:=⟨_,rfl⟩
 obtain ⟨m,hm⟩:∃ m,b.length=m:=⟨_,rfl⟩
 rw [hn] at HA la;rw [hm] at HB lb
 have l1:(n:Int)≤9223372036854775807:=by omega
 have l2:(m:Int)≤9223372036854775807:=by omega
 rw [hn,hm]
 have HN:=hd_ hn;have HM:=hd_ hm
 clear ha hb hn hm la lb
 go_enter func39,ntmps39
 by_cases hl:n=m
 case neg =>
  have t1:X ((n:Int)=(m:Int))=R:=decide_eq_false (by omega)
  have t2:((n:Int) == (m:Int))=R:=beq_false_of_ne (by omega)
  have t3:X (n=m)=R:=decide_eq_false hl
  have hne:X (a=b)=R:=decide_eq_false (fun e=>hl (by rw [← HN.out,← HM.out,e]))
  have HE:=hd_ hne
  clear hne hl
  go_wp2_with fail
  go_ret
  exact ⟨by rw [HE.out];rfl,Below.refl _ _⟩
 case pos =>
 subst hl
 go_wp2_with fail
 go_loopw [17] (fun vi wr=>x0t a b n w vi wr) (fun vi _=>n - z1f vi)
 case atStart=>exact ⟨0,rfl,by omega,fun j h=>by omega,Below.refl _ _⟩
 case round =>
  obtain ⟨i,rfl,hi,hs,hb⟩:=hrel
  have HS:=hd_ hs;have aq:=hd_ hb
  clear hs hb
  by_cases hlt:i<n
  case neg =>
   obtain rfl:i=n:=by omega
   have tj:X ((i:Int)<(i:Int))=R:=by simp
   have HE:H (X (a=b)=U):=decide_eq_true (z0k (by rw [HN.out,HM.out]) (fun j hj=>HS.out j (by rw [← HN.out];exact hj)))
   go_wp2_with fail
   go_ret
   exact ⟨by rw [HE.out];rfl,aq.out⟩
  case pos =>
  have tj:X ((i:Int)<(n:Int))=U:=by simp;omega
  have eu:X (i<n)=U:=by simp;omega
  have kb:(i:Int)<(n:Int):=by omega
  obtain ⟨x,hx⟩:∃ x,a[i]? = Y x:=⟨_,gE (by rw [HN.out];exact hlt)⟩
  obtain ⟨y,hy⟩:∃ y,b[i]? = Y y:=⟨_,gE (by rw [HM.out];exact hlt)⟩
  obtain ⟨ab,ao,r,rfl,hab,aC,hr⟩:=HA.out.el hx
  obtain ⟨bb,bo,s,rfl,hbb,hem,hs⟩:=HB.out.el hy
  have aN:=hd_ hlt;have Hx:=hd_ hx;have Hy:=hd_ hy
  have iv:H (x=y→∀ j,j<i+1→a[j]? = b[j]?):=fun e j hj=>by
   rcases Nat.lt_succ_iff_lt_or_eq.1 hj with h|h
   ·exact HS.out j h
   ·rw [h,Hx.out,Hy.out,e]
  have gm:H (x≠y→X (a=b)=R):=fun hne=>decide_eq_false (fun e=>by
   have:=Hx.out;rw [e,Hy.out] at this;injection this with this;exact hne this.symm)
  have c0:wr.cell? ⟨ab,ao+i * 3,D⟩=Y (J I r.par):=z1a aq.out (aC 0 _ rfl)
  have c1:wr.cell? ⟨ab,ao+i * 3+1,D⟩=Y (J I r.frm):=z1a aq.out (aC 1 _ rfl)
  have c2:wr.cell? ⟨ab,ao+i * 3+2,D⟩=Y (M r.oa r.n r.cap):=z1a aq.out (aC 2 _ rfl)
  have af:=z4b (w:=wr) (.cells #[J I r.par,J I r.frm,M r.oa r.n r.cap] 48)
  have aj:=z0a af (z4b (w:=wr.alloc (.cells #[J I r.par,J I r.frm,M r.oa r.n r.cap] 48)) (.cells #[J I s.par,J I s.frm,M s.oa s.n s.cap] 48))
  have d0:(wr.alloc (.cells #[J I r.par,J I r.frm,M r.oa r.n r.cap] 48)).cell? ⟨bb,bo+i * 3,D⟩=Y (J I s.par):=z1a (z0a aq.out af) (hem 0 _ rfl)
  have d1:(wr.alloc (.cells #[J I r.par,J I r.frm,M r.oa r.n r.cap] 48)).cell? ⟨bb,bo+i * 3+1,D⟩=Y (J I s.frm):=z1a (z0a aq.out af) (hem 1 _ rfl)
  have d2:(wr.alloc (.cells #[J I r.par,J I r.frm,M r.oa r.n r.cap] 48)).cell? ⟨bb,bo+i * 3+2,D⟩=Y (M s.oa s.n s.cap):=z1a (z0a aq.out af) (hem 2 _ rfl)
  have HC:=hd_ (j2e x y r s _ ((hr.ext aq.out).ext aj) ((hs.ext aq.out).ext aj))
  have au:=hd_ (z0a aq.out aj)
  clear hlt hx hy hi hab aC hr hbb hem hs af aj
  by_cases hxy:x=y
  ·rw [decide_eq_true hxy] at HC
   have HX:=hd_ (iv.out hxy)
   clear hxy
   go_wp2_with (go_at_call 40;refine HC.out.mono ?_;(rintro e w2 ⟨rfl,hb⟩;have aA:=hd_ (z0a au.out hb);clear hb))
   go_roundw
   case rel=>exact ⟨i+1,by go_num,aN.out,HX.out,aA.out⟩
   case measure=>simp [z1f];have:=aN.out;omega
  ·rw [decide_eq_false hxy] at HC
   have HE:=hd_ (gm.out hxy)
   clear hxy
   go_wp2_with (go_at_call 40;refine HC.out.mono ?_;(rintro e w2 ⟨rfl,hb⟩;have aA:=hd_ (z0a au.out hb);clear hb))
   go_ret
   exact ⟨by rw [HE.out];rfl,aA.out⟩
end Go.Proofs.YtdblnbnofjggnaaGreatDoor
