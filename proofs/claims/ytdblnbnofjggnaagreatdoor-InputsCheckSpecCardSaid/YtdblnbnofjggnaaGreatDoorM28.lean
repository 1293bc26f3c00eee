/- Parts of the proofs of chapter 49's laws: Jba Jdt Jeq Jsn. -/
import Derived.Test.YtdblnbnofjggnaaGreatDoorM10
import Derived.Test.YtdblnbnofjggnaaGreatDoorM07
import Derived.Test.YtdblnbnofjggnaaGreatDoorM12
import Derived.Test.YtdblnbnofjggnaaGreatDoorM17
import Derived.Laws.StructEq
import Derived.Deep.MidRow
import Derived.Deep.DeepCutAuto
import Derived.BigQuiet
import Derived.Test.YtdblnbnofjggnaaGreatDoorM05
set_option maxHeartbeats 4000000
set_option maxRecDepth 100000
open Go
open Lib renaming hid → hd_
open List renaming getElem?_eq_getElem → gE
open List renaming getElem?_eq_some_iff → gS
namespace Go.Proofs.YtdblnbnofjggnaaGreatDoor
open Go.RowKit
theorem z6a (w:World) (o:Obj) (t:TypeId) (cs:List Value) (h:o = .cells cs.toArray t):CB (w.alloc o) w.heap.size t cs:=by subst h;exact CB.new w _ _
theorem z5b {w:World} (o:Obj):Below w.heap.size w (w.alloc o):=(Below.refl w.heap.size w).alloc (Nat.le_refl _) o
theorem z1d {w:World} {g:Nat} {t:TypeId} {cs:List Value} (h:CB w g t cs):w.rangeAt g 0 cs:=fun i u hu=>by rw [Nat.zero_add,h.cell];exact hu
theorem z2l {w w':World} {b o:Nat} {cs:List Value} (h:w.rangeAt b o cs) (hb:Below w.heap.size w w'):w'.rangeAt b o cs:=fun i u hu=>z1a hb (h i u hu)
def nuK:EK Int:=⟨1,fun x=>[.int .i64 x],fun _=>rfl,fun x u hu=>by simp only [List.mem_cons,List.not_mem_nil,or_false] at hu;subst hu;rfl,by decide⟩
theorem k1s {B:Nat} {w:World} {l:List Int} {b off cap:Nat} {k:Nat} {x:Int} (h:z9f nuK B w l (.slice (some ⟨b,off,none⟩) l.length cap)) (hx:l[k]? = some x):w.cell? ⟨b,off + k,none⟩ = some (.int .i64 x):=by
 obtain ⟨b',off',he,_,hat⟩:=h.at (k:=k) (gS.1 hx).1
 injection he with he;injection he with e1 e2 _
 subst e1 e2
 have:=hat k x hx 0 _ rfl
 simpa [nuK] using this
theorem j0b (a b:ByteArray):(a.toList == b.toList) = decide (a = b):=by
 rw [ByteArray.toList_eq,ByteArray.toList_eq]
 by_cases h:a = b
 · subst h;simp
 · rw [decide_eq_false h,beq_eq_false_iff_ne]
   intro e
   apply h
   cases a;cases b
   simpa using e
section
variable {P:Program} {w:World}
theorem z6c (c:List Value) (t:TypeId) (i:Nat) (v:Value) (h1:(isAgg t).run P w = .ok false w) (h2:c[i]? = some v):(part t c.toArray i).run P w = .ok v w:=by simp [part,h1,h2]
end
section
variable {P:Program} {w:World} {ops:Array Oper} {rest:List Oper} {o:Oper} {a:Act} {K:Act→World→Prop} {Q:Exit→Act→World→Prop} {E:Prop}
theorem j1b {cs:List Value} (h:∀ u ∈ cs,u.oneCell' = true):cs.toArray.all (·.oneCell') = true:=Array.all_eq_true_iff_forall_mem.2 fun u hu=>h u (by simpa using hu)
theorem y0v {w:World} {g:Nat} {c:Array Value}:w.grownBy (w.setRow g c) (some g) :=
 ⟨rfl,rfl,rfl,by rw [size_setRow];exact Nat.le_refl _,fun k hk hne=>by
  have hkg:k ≠ g:=fun e=>hne (by rw [e])
  simp [World.setRow,Array.getElem?_modify,Ne.symm hkg]⟩
theorem z4a (hgd:o.guard = none) (ty:TypeId) (x y:Operand) (ho:o.op = .store ty x y) (g:Nat) (cs:List Value) (hx:a.eval x = .pointer (some ⟨g,0,none⟩)) (hy:a.eval y = .agg cs.toArray)
 (t:TypeId) (old:List Value) (hg:CB w g t old) (hold:old.length = cs.length) (hi:(P.info? ty).map (·.size) = some cs.length) (h1:∀ u ∈ cs,u.oneCell' = true)
 (h:∀ w',Hid (CB w' g t cs)→Hid (w.grownBy w' (some g))→Hid (w'.heap.size = w.heap.size)→wpList P ops Q rest (a.put o.dst undef) w'):wpList P ops Q (o :: rest) a w :=
 wpList_store_row hgd ty x y ho g cs.toArray hx hy t old.toArray hg (by rw [List.size_toArray];exact hi) (by rw [List.size_toArray,List.size_toArray,hold]) (j1b h1) (h _ (setRow_heap _ _ _ _ _ _ hg) y0v (size_setRow _ _ _))
theorem z8c (hw:Region.wanted o (yielded ops a.tmps) = true) (ty:TypeId) (x y:Operand) (ho:o.op = .store ty x y) (g:Nat) (cs:List Value) (hx:a.eval x = .pointer (some ⟨g,0,none⟩)) (hy:a.eval y = .agg cs.toArray)
 (t:TypeId) (old:List Value) (hg:CB w g t old) (hold:old.length = cs.length) (hi:(P.info? ty).map (·.size) = some cs.length) (h1:∀ u ∈ cs,u.oneCell' = true)
 (h:∀ w',Hid (CB w' g t cs)→Hid (w.grownBy w' (some g))→Hid (w'.heap.size = w.heap.size)→K (a.put o.dst undef) w'):if Region.wanted o (yielded ops a.tmps) = true then Oper.wp P o a w K Q else E:=by
 rw [if_pos hw]
 exact wp_store_row ty x y ho g cs.toArray hx hy t old.toArray hg (by rw [List.size_toArray];exact hi) (by rw [List.size_toArray,List.size_toArray,hold]) (j1b h1) (h _ (setRow_heap _ _ _ _ _ _ hg) y0v (size_setRow _ _ _))
theorem z3a (hw:Region.wanted o (yielded ops a.tmps) = true) (ty:TypeId) (x:Operand) (ho:o.op = .load ty x) (g:Nat) (cs:List Value) (hx:a.eval x = .pointer (some ⟨g,0,none⟩))
 (t:TypeId) (d:TypeDesc) (hg:CB w g t cs) (hu:P.underlying ty = some d) (hd:(match d with | .struct _ | .array _ _=>true | _=>false) = true) (hi:(P.info? ty).map (·.size) = some cs.length)
 (h:wpList P ops Q rest (a.put o.dst (.agg cs.toArray)) w):wpList P ops Q (o :: rest) a w:=by
 unfold wpList
 rw [if_pos hw]
 left
 exact wp_load_row ty x ho g hx t cs.toArray (0,0) d hg hu hd (by rw [List.size_toArray];exact hi) h
theorem z7a (hw:Region.wanted o (yielded ops a.tmps) = true) (ty:TypeId) (x:Operand) (ho:o.op = .load ty x) (b off:Nat) (hx:a.eval x = .pointer (some ⟨b,off,none⟩)) (cs:List Value) (d:TypeDesc) (hc:w.rangeAt b off cs)
 (hu:P.underlying ty = some d) (hd:d.isRow = true) (hi:(P.info? ty).map (·.size) = some cs.length) (h:wpList P ops Q rest (a.put o.dst (.agg cs.toArray)) w):wpList P ops Q (o :: rest) a w:=by
 unfold wpList
 rw [if_pos hw]
 left
 exact wp_load_mid ty x ho b off hx cs d hc hu hd hi h
end
structure Flt where
 id:Int
 air:Int
 cls:Int
 call:ByteArray
 ways:List Int
 wf:Int
 wt:Int
 can:Bool
deriving DecidableEq
structure Cut where
 ap:Bool
 ix:Int
 mf:Int
 mt:Int
 less:Int
deriving DecidableEq
structure Nod where
 par:Int
 frm:Int
 cuts:List Cut
deriving DecidableEq
structure Chg where
 frm:Int
 cfg:Int
 modes:List Int
deriving DecidableEq
structure Stn where
 vols:List Int
 sh:Int
 fa:Int
deriving DecidableEq
structure Sts where
 st:Int
 frm:Int
 wk:Bool
deriving DecidableEq
instance:DecidableEq Rp:=fun a b=>decidable_of_iff (j8r a b = true) (x3k a b)
structure Inp where
 mi:Int
 ce:Int
 no:Int
 kind:Int
 text:ByteArray
 flt:Flt
 tree:List Nod
 chg:Chg
 rep:Rp
 sts:Sts
 n:Int
 stn:Stn
 sr:Int
 ss:Int
deriving DecidableEq
structure Slc where
 ways:Value
 tree:Value
 modes:Value
 vols:Value
def Flt.cells (f:Flt) (v:Value):List Value:=[.int .i64 f.id,.int .i64 f.air,.int .i64 f.cls,.string f.call,v,.int .i64 f.wf,.int .i64 f.wt,.bool f.can]
def Chg.cells (c:Chg) (v:Value):List Value:=[.int .i64 c.frm,.int .i64 c.cfg,v]
def Stn.cells (s:Stn) (v:Value):List Value:=[v,.int .i64 s.sh,.int .i64 s.fa]
def Sts.cells (s:Sts):List Value:=[.int .i64 s.st,.int .i64 s.frm,.bool s.wk]
def Inp.cells (x:Inp) (s:Slc):List Value:=[.int .i64 x.mi,.int .i64 x.ce,.int .i64 x.no,.int .i64 x.kind,.string x.text] ++ x.flt.cells s.ways ++ [s.tree] ++ x.chg.cells s.modes ++ x.rep.cells ++ x.sts.cells ++ [.int .i64 x.n] ++ x.stn.cells s.vols ++ [.int .i64 x.sr,.int .i64 x.ss]
def Inp.v (x:Inp) (s:Slc):Value:=.agg (x.cells s).toArray
def Cut.cells (c:Cut):List Value:=[.bool c.ap,.int .i64 c.ix,.int .i64 c.mf,.int .i64 c.mt,.int .i64 c.less]
def cuK:EK Cut:=⟨5,Cut.cells,fun _=>rfl,fun x u hu=>by simp only [Cut.cells,List.mem_cons,List.not_mem_nil,or_false] at hu;rcases hu with rfl | rfl | rfl | rfl | rfl <;> rfl,by decide⟩
structure Nb where
 par:Int
 frm:Int
 oa:Option Addr
 n:Nat
 cap:Nat
def Nb.cv (r:Nb):Value:=.slice r.oa r.n r.cap
def Nb.cells (r:Nb):List Value:=[.int .i64 r.par,.int .i64 r.frm,r.cv]
def ndK:EK Nb:=⟨3,Nb.cells,fun _=>rfl,fun x u hu=>by simp only [Nb.cells,List.mem_cons,List.not_mem_nil,or_false] at hu;rcases hu with rfl | rfl | rfl <;> rfl,by decide⟩
structure NodR (w:World) (t:Nod) (r:Nb):Prop where
 par:r.par = t.par
 frm:r.frm = t.frm
 cuts:z9f cuK w.heap.size w t.cuts r.cv
theorem NodR.ext {w w':World} {t:Nod} {r:Nb} (h:NodR w t r) (hb:Below w.heap.size w w'):NodR w' t r:=⟨h.par,h.frm,h.cuts.ext hb⟩
def z6j (w:World) (l:List Nod) (v:Value):Prop:=∃ rl:List Nb,z9f ndK w.heap.size w rl v∧rl.length = l.length∧∀ (i:Nat) (t:Nod) (r:Nb),l[i]? = some t→rl[i]? = some r→NodR w t r
theorem z6j.ext {w w':World} {l:List Nod} {v:Value} (h:z6j w l v) (hb:Below w.heap.size w w'):z6j w' l v:=by
 obtain ⟨rl,h1,h2,h3⟩:=h
 exact ⟨rl,h1.ext hb,h2,fun i t r ht hr=>(h3 i t r ht hr).ext hb⟩
theorem z6j.shape {w:World} {l:List Nod} {v:Value} (h:z6j w l v):∃ oa cap,v = .slice oa l.length cap∧l.length ≤ 9223372036854775807:=by
 obtain ⟨rl,h1,h2,h3⟩:=h
 obtain ⟨oa,cap,rfl,hm⟩:=h1.shape
 exact ⟨oa,cap,by rw [h2],by omega⟩
theorem z6j.el {w:World} {l:List Nod} {oa:Option Addr} {n cap i:Nat} {t:Nod} (h:z6j w l (.slice oa n cap)) (ht:l[i]? = some t):∃ b off r,oa = some ⟨b,off,none⟩∧b < w.heap.size∧x5w ndK w b (off + i * 3) r∧NodR w t r:=by
 obtain ⟨rl,h1,h2,h3⟩:=h
 have hi:=(gS.1 ht).1
 obtain ⟨oa',cap',he,_⟩:=h1.shape
 injection he with e1 e2 e3
 subst e1 e2 e3
 obtain ⟨b,off,rfl,hb,hat⟩:=h1.at (k:=i) (by omega)
 have hr:rl[i]? = some rl[i]:=gE (by omega)
 exact ⟨b,off,_,rfl,hb,hat i _ hr,h3 i t _ ht hr⟩
theorem z6j.nil (w:World) (oa:Option Addr) (cap:Nat):z6j w [] (.slice oa 0 cap):=⟨[],z9f.nil _ _ _ _,rfl,fun i t r h=>by simp at h⟩
structure InpR (w:World) (x:Inp) (s:Slc):Prop where
 ways:z9f nuK w.heap.size w x.flt.ways s.ways
 tree:z6j w x.tree s.tree
 modes:z9f nuK w.heap.size w x.chg.modes s.modes
 vols:z9f nuK w.heap.size w x.stn.vols s.vols
theorem InpR.ext {w w':World} {x:Inp} {s:Slc} (h:InpR w x s) (hb:Below w.heap.size w w'):InpR w' x s:=⟨h.ways.ext hb,h.tree.ext hb,h.modes.ext hb,h.vols.ext hb⟩
def bI (x:Inp) (s:Slc):Obj:=.cells (x.cells s).toArray 41
theorem z2u (x:Inp) (s:Slc) (a b c d:Option Addr) (na nb nc nd ca cb cc cd:Nat) (ha:s.ways = .slice a na ca) (hb:s.tree = .slice b nb cb) (hc:s.modes = .slice c nc cc) (hd:s.vols = .slice d nd cd):(x.cells s).toArray.all (·.oneCell') = true:=by
 refine Array.all_eq_true_iff_forall_mem.2 fun u hu=>?_
 have hu:u ∈ x.cells s:=by simpa using hu
 unfold Inp.cells Flt.cells Chg.cells Stn.cells Sts.cells Rp.cells at hu
 rw [ha,hb,hc,hd] at hu
 simp only [List.cons_append,List.nil_append,List.mem_cons,List.not_mem_nil,or_false] at hu
 rcases hu with rfl | rfl | rfl | rfl | rfl | rfl | rfl | rfl | rfl | rfl | rfl | rfl | rfl | rfl | rfl | rfl | rfl | rfl | rfl | rfl | rfl | rfl | rfl | rfl | rfl | rfl | rfl | rfl | rfl | rfl | rfl | rfl <;> rfl
structure FltI (f:Flt):Prop where
 id:I64 f.id
 air:I64 f.air
 cls:I64 f.cls
 wf:I64 f.wf
 wt:I64 f.wt
 ways:∀ x ∈ f.ways,I64 x
 call:f.call.size ≤ maxLen
structure CutI (c:Cut):Prop where
 ix:I64 c.ix
 mf:I64 c.mf
 mt:I64 c.mt
 less:I64 c.less
structure NodI (n:Nod):Prop where
 par:I64 n.par
 frm:I64 n.frm
 cuts:∀ c ∈ n.cuts,CutI c
structure InpI (x:Inp):Prop where
 mi:I64 x.mi
 ce:I64 x.ce
 no:I64 x.no
 kind:I64 x.kind
 text:x.text.size ≤ maxLen
 flt:FltI x.flt
 tree:∀ n ∈ x.tree,NodI n
 cfrm:I64 x.chg.frm
 cfg:I64 x.chg.cfg
 modes:∀ m ∈ x.chg.modes,I64 m
 rst:I64 x.rep.st
 rno:I64 x.rep.no
 rmi:I64 x.rep.mi
 rar:I64 x.rep.ar
 rcl:x.rep.cl.size ≤ maxLen
 rvo:I64 x.rep.vo
 sst:I64 x.sts.st
 sfr:I64 x.sts.frm
 n:I64 x.n
 vols:∀ m ∈ x.stn.vols,I64 m
 sh:I64 x.stn.sh
 fa:I64 x.stn.fa
 sr:I64 x.sr
 ss:I64 x.ss
theorem z3k (a0:Int) (a1:Int) (a2:Int) (b0:Int) (b1:Int) (b2:Int) (w:World):(Op.equalIn 10000 23 (.agg #[.int .i64 a0,.int .i64 a1,.int .i64 a2]) (.agg #[.int .i64 b0,.int .i64 b1,.int .i64 b2])).run Tryz.prog w = .ok (a0 == b0 && a1 == b1 && a2 == b2) w:=by
 rw [show (10000:Nat) = 9999 + 1 from rfl,run_equalIn_struct w 9999 _ _ _ (by kernel_rfl) (by kernel_rfl)]
 have hi:=Tryz.underlying3
 have hu:=Tryz.underlying23
 simp only [Program.fieldsOf,hu]
 have p1:(isAgg 3).run Tryz.prog w = .ok false w:=by kernel_rfl
 have q:∀ x y:Int,(Op.equalIn 9999 3 (.int .i64 x) (.int .i64 y)).run Tryz.prog w = .ok (x == y) w:=fun x y=>run_equalIn_int w 9998 _ .i64 .i64 _ _ hi
 have a0':=z6c (P:=Tryz.prog) (w:=w) [.int .i64 a0,.int .i64 a1,.int .i64 a2] 3 0 (.int .i64 a0) p1 rfl
 have b0':=z6c (P:=Tryz.prog) (w:=w) [.int .i64 b0,.int .i64 b1,.int .i64 b2] 3 0 (.int .i64 b0) p1 rfl
 have a1':=z6c (P:=Tryz.prog) (w:=w) [.int .i64 a0,.int .i64 a1,.int .i64 a2] 3 1 (.int .i64 a1) p1 rfl
 have b1':=z6c (P:=Tryz.prog) (w:=w) [.int .i64 b0,.int .i64 b1,.int .i64 b2] 3 1 (.int .i64 b1) p1 rfl
 have a2':=z6c (P:=Tryz.prog) (w:=w) [.int .i64 a0,.int .i64 a1,.int .i64 a2] 3 2 (.int .i64 a2) p1 rfl
 have b2':=z6c (P:=Tryz.prog) (w:=w) [.int .i64 b0,.int .i64 b1,.int .i64 b2] 3 2 (.int .i64 b2) p1 rfl
 simp only [Op.eqFields,ne_eq,String.reduceEq,not_false_eq_true,if_true,Sem.run_bind,a0',b0',a1',b1',a2',b2',q,Result.andThen_ok,Sem.run_ite,Sem.run_pure]
 cases (a0 == b0) <;> cases (a1 == b1) <;> cases (a2 == b2) <;> rfl
theorem z4k (op:BinOp) (x y:Operand) (a0:Int) (a1:Int) (a2:Int) (b0:Int) (b1:Int) (b2:Int) (w:World):(eqGuard op 23 x y (.agg #[.int .i64 a0,.int .i64 a1,.int .i64 a2]) (.agg #[.int .i64 b0,.int .i64 b1,.int .i64 b2])).run Tryz.prog w = .ok () w :=
 run_eqGuard_agg w op _ x y _ _ (by kernel_rfl)
theorem j2b (a0:Int) (a1:Int) (b0:Int) (b1:Int) (w:World):(Op.equalIn 10000 26 (.agg #[.int .i64 a0,.int .i64 a1]) (.agg #[.int .i64 b0,.int .i64 b1])).run Tryz.prog w = .ok (a0 == b0 && a1 == b1) w:=by
 rw [show (10000:Nat) = 9999 + 1 from rfl,run_equalIn_struct w 9999 _ _ _ (by kernel_rfl) (by kernel_rfl)]
 have hi:=Tryz.underlying3
 have hu:=Tryz.underlying26
 simp only [Program.fieldsOf,hu]
 have p1:(isAgg 3).run Tryz.prog w = .ok false w:=by kernel_rfl
 have q:∀ x y:Int,(Op.equalIn 9999 3 (.int .i64 x) (.int .i64 y)).run Tryz.prog w = .ok (x == y) w:=fun x y=>run_equalIn_int w 9998 _ .i64 .i64 _ _ hi
 have a0':=z6c (P:=Tryz.prog) (w:=w) [.int .i64 a0,.int .i64 a1] 3 0 (.int .i64 a0) p1 rfl
 have b0':=z6c (P:=Tryz.prog) (w:=w) [.int .i64 b0,.int .i64 b1] 3 0 (.int .i64 b0) p1 rfl
 have a1':=z6c (P:=Tryz.prog) (w:=w) [.int .i64 a0,.int .i64 a1] 3 1 (.int .i64 a1) p1 rfl
 have b1':=z6c (P:=Tryz.prog) (w:=w) [.int .i64 b0,.int .i64 b1] 3 1 (.int .i64 b1) p1 rfl
 simp only [Op.eqFields,ne_eq,String.reduceEq,not_false_eq_true,if_true,Sem.run_bind,a0',b0',a1',b1',q,Result.andThen_ok,Sem.run_ite,Sem.run_pure]
 cases (a0 == b0) <;> cases (a1 == b1) <;> rfl
theorem j3b (op:BinOp) (x y:Operand) (a0:Int) (a1:Int) (b0:Int) (b1:Int) (w:World):(eqGuard op 26 x y (.agg #[.int .i64 a0,.int .i64 a1]) (.agg #[.int .i64 b0,.int .i64 b1])).run Tryz.prog w = .ok () w :=
 run_eqGuard_agg w op _ x y _ _ (by kernel_rfl)
theorem y1v (a0:Int) (a1:Int) (a2:Bool) (b0:Int) (b1:Int) (b2:Bool) (w:World):(Op.equalIn 10000 35 (.agg #[.int .i64 a0,.int .i64 a1,.bool a2]) (.agg #[.int .i64 b0,.int .i64 b1,.bool b2])).run Tryz.prog w = .ok (a0 == b0 && a1 == b1 && a2 == b2) w:=by
 rw [show (10000:Nat) = 9999 + 1 from rfl,run_equalIn_struct w 9999 _ _ _ (by kernel_rfl) (by kernel_rfl)]
 have hi:=Tryz.underlying3
 have hu:=Tryz.underlying35
 simp only [Program.fieldsOf,hu]
 have p1:(isAgg 3).run Tryz.prog w = .ok false w:=by kernel_rfl
 have q:∀ x y:Int,(Op.equalIn 9999 3 (.int .i64 x) (.int .i64 y)).run Tryz.prog w = .ok (x == y) w:=fun x y=>run_equalIn_int w 9998 _ .i64 .i64 _ _ hi
 have hs:=Tryz.underlying4
 have p2:(isAgg 4).run Tryz.prog w = .ok false w:=by kernel_rfl
 have qs:∀ x y:Bool,(Op.equalIn 9999 4 (.bool x) (.bool y)).run Tryz.prog w = .ok (x == y) w:=fun x y=>by
  rw [show (9999:Nat) = 9998 + 1 from rfl,Op.equalIn]
  simp only [Sem.run_bind,run_underlying hs,Result.andThen_ok]
  rfl
 have a0':=z6c (P:=Tryz.prog) (w:=w) [.int .i64 a0,.int .i64 a1,.bool a2] 3 0 (.int .i64 a0) p1 rfl
 have b0':=z6c (P:=Tryz.prog) (w:=w) [.int .i64 b0,.int .i64 b1,.bool b2] 3 0 (.int .i64 b0) p1 rfl
 have a1':=z6c (P:=Tryz.prog) (w:=w) [.int .i64 a0,.int .i64 a1,.bool a2] 3 1 (.int .i64 a1) p1 rfl
 have b1':=z6c (P:=Tryz.prog) (w:=w) [.int .i64 b0,.int .i64 b1,.bool b2] 3 1 (.int .i64 b1) p1 rfl
 have a2':=z6c (P:=Tryz.prog) (w:=w) [.int .i64 a0,.int .i64 a1,.bool a2] 4 2 (.bool a2) p2 rfl
 have b2':=z6c (P:=Tryz.prog) (w:=w) [.int .i64 b0,.int .i64 b1,.bool b2] 4 2 (.bool b2) p2 rfl
 simp only [Op.eqFields,ne_eq,String.reduceEq,not_false_eq_true,if_true,Sem.run_bind,a0',b0',a1',b1',a2',b2',q,qs,Result.andThen_ok,Sem.run_ite,Sem.run_pure]
 cases (a0 == b0) <;> cases (a1 == b1) <;> cases (a2 == b2) <;> rfl
theorem y2v (op:BinOp) (x y:Operand) (a0:Int) (a1:Int) (a2:Bool) (b0:Int) (b1:Int) (b2:Bool) (w:World):(eqGuard op 35 x y (.agg #[.int .i64 a0,.int .i64 a1,.bool a2]) (.agg #[.int .i64 b0,.int .i64 b1,.bool b2])).run Tryz.prog w = .ok () w :=
 run_eqGuard_agg w op _ x y _ _ (by kernel_rfl)
theorem j5s (a0:Int) (a1:Int) (b0:Int) (b1:Int) (w:World):(Op.equalIn 10000 39 (.agg #[.int .i64 a0,.int .i64 a1]) (.agg #[.int .i64 b0,.int .i64 b1])).run Tryz.prog w = .ok (a0 == b0 && a1 == b1) w:=by
 rw [show (10000:Nat) = 9999 + 1 from rfl,run_equalIn_struct w 9999 _ _ _ (by kernel_rfl) (by kernel_rfl)]
 have hi:=Tryz.underlying3
 have hu:=Tryz.underlying39
 simp only [Program.fieldsOf,hu]
 have p1:(isAgg 3).run Tryz.prog w = .ok false w:=by kernel_rfl
 have q:∀ x y:Int,(Op.equalIn 9999 3 (.int .i64 x) (.int .i64 y)).run Tryz.prog w = .ok (x == y) w:=fun x y=>run_equalIn_int w 9998 _ .i64 .i64 _ _ hi
 have a0':=z6c (P:=Tryz.prog) (w:=w) [.int .i64 a0,.int .i64 a1] 3 0 (.int .i64 a0) p1 rfl
 have b0':=z6c (P:=Tryz.prog) (w:=w) [.int .i64 b0,.int .i64 b1] 3 0 (.int .i64 b0) p1 rfl
 have a1':=z6c (P:=Tryz.prog) (w:=w) [.int .i64 a0,.int .i64 a1] 3 1 (.int .i64 a1) p1 rfl
 have b1':=z6c (P:=Tryz.prog) (w:=w) [.int .i64 b0,.int .i64 b1] 3 1 (.int .i64 b1) p1 rfl
 simp only [Op.eqFields,ne_eq,String.reduceEq,not_false_eq_true,if_true,Sem.run_bind,a0',b0',a1',b1',q,Result.andThen_ok,Sem.run_ite,Sem.run_pure]
 cases (a0 == b0) <;> cases (a1 == b1) <;> rfl
theorem j6s (op:BinOp) (x y:Operand) (a0:Int) (a1:Int) (b0:Int) (b1:Int) (w:World):(eqGuard op 39 x y (.agg #[.int .i64 a0,.int .i64 a1]) (.agg #[.int .i64 b0,.int .i64 b1])).run Tryz.prog w = .ok () w :=
 run_eqGuard_agg w op _ x y _ _ (by kernel_rfl)
theorem x7l (a b:Cut) (w:World):(Op.equalIn 10000 88 (.agg a.cells.toArray) (.agg b.cells.toArray)).run Tryz.prog w = .ok (decide (a = b)) w:=by
 rw [show (10000:Nat) = 9999 + 1 from rfl,run_equalIn_struct w 9999 _ _ _ (by kernel_rfl) (by kernel_rfl)]
 have hi:=Tryz.underlying3
 have hs:=Tryz.underlying4
 have hu:=Tryz.underlying88
 simp only [Program.fieldsOf,hu]
 have p1:(isAgg 3).run Tryz.prog w = .ok false w:=by kernel_rfl
 have p2:(isAgg 4).run Tryz.prog w = .ok false w:=by kernel_rfl
 have p3:(isAgg 26).run Tryz.prog w = .ok true w:=by kernel_rfl
 have p4:(sizeOf 26).run Tryz.prog w = .ok 2 w:=by kernel_rfl
 have q:∀ x y:Int,(Op.equalIn 9999 3 (.int .i64 x) (.int .i64 y)).run Tryz.prog w = .ok (x == y) w:=fun x y=>run_equalIn_int w 9998 _ .i64 .i64 _ _ hi
 have qs:∀ x y:Bool,(Op.equalIn 9999 4 (.bool x) (.bool y)).run Tryz.prog w = .ok (x == y) w:=fun x y=>by
  rw [show (9999:Nat) = 9998 + 1 from rfl,Op.equalIn]
  simp only [Sem.run_bind,run_underlying hs,Result.andThen_ok]
  rfl
 have q2:∀ x y z u:Int,(Op.equalIn 9999 26 (.agg #[.int .i64 x,.int .i64 y]) (.agg #[.int .i64 z,.int .i64 u])).run Tryz.prog w = .ok (x == z && y == u) w:=fun x y z u=>by
  rw [show (9999:Nat) = 9998 + 1 from rfl,run_equalIn_struct w 9998 _ _ _ (by kernel_rfl) (by kernel_rfl)]
  have hu2:=Tryz.underlying26
  simp only [Program.fieldsOf,hu2]
  have q':∀ x y:Int,(Op.equalIn 9998 3 (.int .i64 x) (.int .i64 y)).run Tryz.prog w = .ok (x == y) w:=fun x y=>run_equalIn_int w 9997 _ .i64 .i64 _ _ hi
  have e0:=z6c (P:=Tryz.prog) (w:=w) [.int .i64 x,.int .i64 y] 3 0 (.int .i64 x) p1 rfl
  have e1:=z6c (P:=Tryz.prog) (w:=w) [.int .i64 x,.int .i64 y] 3 1 (.int .i64 y) p1 rfl
  have f0:=z6c (P:=Tryz.prog) (w:=w) [.int .i64 z,.int .i64 u] 3 0 (.int .i64 z) p1 rfl
  have f1:=z6c (P:=Tryz.prog) (w:=w) [.int .i64 z,.int .i64 u] 3 1 (.int .i64 u) p1 rfl
  simp only [Op.eqFields,ne_eq,String.reduceEq,not_false_eq_true,if_true,Sem.run_bind,e0,e1,f0,f1,q',Result.andThen_ok,Sem.run_ite,Sem.run_pure]
  cases (x == z) <;> cases (y == u) <;> rfl
 have a0:=fun c:Cut=>z6c (P:=Tryz.prog) (w:=w) c.cells 4 0 (.bool c.ap) p2 rfl
 have a1:=fun c:Cut=>z6c (P:=Tryz.prog) (w:=w) c.cells 3 1 (.int .i64 c.ix) p1 rfl
 have a2:∀ c:Cut,(part 26 c.cells.toArray 2).run Tryz.prog w = .ok (.agg #[.int .i64 c.mf,.int .i64 c.mt]) w:=fun c=>by
  simp only [part,Sem.run_bind,p3,p4,Result.andThen_ok,if_true,Sem.run_pure];rfl
 have a4:=fun c:Cut=>z6c (P:=Tryz.prog) (w:=w) c.cells 3 4 (.int .i64 c.less) p1 rfl
 simp only [Op.eqFields,ne_eq,String.reduceEq,not_false_eq_true,if_true,Sem.run_bind,a0,a1,a2,a4,q,qs,q2,Result.andThen_ok,Sem.run_ite,Sem.run_pure]
 have e:decide (a = b) = (a.ap == b.ap && a.ix == b.ix && (a.mf == b.mf && a.mt == b.mt) && a.less == b.less):=by
  obtain ⟨a1,a2,a3,a4,a5⟩:=a
  obtain ⟨b1,b2,b3,b4,b5⟩:=b
  rw [Bool.eq_iff_iff]
  simp only [decide_eq_true_eq,Bool.and_eq_true,beq_iff_eq,Cut.mk.injEq]
  exact ⟨fun ⟨h1,h2,h3,h4,h5⟩=>⟨⟨⟨h1,h2⟩,h3,h4⟩,h5⟩,fun ⟨⟨⟨h1,h2⟩,h3,h4⟩,h5⟩=>⟨h1,h2,h3,h4,h5⟩⟩
 rw [e]
 cases (a.ap == b.ap) <;> cases (a.ix == b.ix) <;> cases (a.mf == b.mf && a.mt == b.mt) <;> cases (a.less == b.less) <;> rfl
theorem j7s (op:BinOp) (x y:Operand) (a b:Cut) (w:World):(eqGuard op 88 x y (.agg a.cells.toArray) (.agg b.cells.toArray)).run Tryz.prog w = .ok () w :=
 run_eqGuard_agg w op _ x y _ _ (by kernel_rfl)
def z3e:Value→Nat
 | .int _ n=>n.toNat
 | _=>0
theorem z7j {α:Type} {a b:List α} (h:a.length = b.length) (hs:∀ j,j < a.length→a[j]? = b[j]?):a = b:=by
 apply List.ext_getElem?
 intro j
 by_cases hj:j < a.length
 · exact hs j hj
 · rw [List.getElem?_eq_none (by omega),List.getElem?_eq_none (by omega)]
def x1q {α:Type} (a b:List α) (n:Nat) (w:World) (vi:Value) (wr:World):Prop:=∃ i:Nat,vi = .int .i64 (i:Int)∧i ≤ n∧(∀ j,j < i→a[j]? = b[j]?)∧Below w.heap.size w wr
theorem z3l {B:Nat} {w:World} {l:List Int} {b off cap n:Nat} {k:Nat} {x:Int} (h:z9f nuK B w l (.slice (some ⟨b,off,none⟩) n cap)) (hx:l[k]? = some x):w.cell? ⟨b,off + k,none⟩ = some (.int .i64 x):=by
 obtain ⟨_,_,he,_⟩:=h.shape
 injection he with _ e2 _
 subst e2
 exact k1s h hx
theorem z3u {α:Type} {K:EK α} {B:Nat} {w:World} {l:List α} {b off cap n:Nat} {k:Nat} {x:α} (h:z9f K B w l (.slice (some ⟨b,off,none⟩) n cap)) (hx:l[k]? = some x):w.rangeAt b (off + k * K.n) (K.cells x):=by
 obtain ⟨_,_,he,_⟩:=h.shape
 injection he with _ e2 _
 subst e2
 obtain ⟨b',off',he,_,hat⟩:=h.at (k:=k) (gS.1 hx).1
 injection he with he;injection he with e1 e2 _
 subst e1 e2
 exact hat k x hx
theorem z7e {α:Type} {K:EK α} {B:Nat} {w:World} {l:List α} {oa:Option Addr} {cap n k:Nat} (h:z9f K B w l (.slice oa n cap)) (hk:k < l.length):∃ b off,oa = some ⟨b,off,none⟩:=by
 obtain ⟨_,_,he,_⟩:=h.shape
 injection he with _ e2 _
 subst e2
 obtain ⟨b',off',he,_,hat⟩:=h.at hk
 exact ⟨b',off',he⟩
theorem z5x (a b:List Int) (va vb:Value) (w:World) (ha:z9f nuK w.heap.size w a va) (hb:z9f nuK w.heap.size w b vb) :
 Calls Tryz.prog 38 #[va,vb] w fun e w'=>e = .returned (.bool (decide (a = b)))∧Below w.heap.size w w':=by
 obtain ⟨oa,ca,rfl,la⟩:=ha.shape
 obtain ⟨ob,cb,rfl,lb⟩:=hb.shape
 have HA:=hd_ ha;have HB:=hd_ hb
 obtain ⟨n,hn⟩:∃ n,a.length = n:=⟨_,rfl⟩
 obtain ⟨m,hm⟩:∃ m,b.length = m:=⟨_,rfl⟩
 rw [hn] at HA la;rw [hm] at HB lb
 have l1:(n:Int) ≤ 9223372036854775807:=by omega
 have l2:(m:Int) ≤ 9223372036854775807:=by omega
 rw [hn,hm]
 have HN:=hd_ hn;have HM:=hd_ hm
 clear ha hb hn hm la lb
 go_enter Tryz.func38,Tryz.ntmps38
 by_cases hl:n = m
 case neg =>
  have t1:decide ((n:Int) = (m:Int)) = false:=decide_eq_false (by omega)
  have t2:((n:Int) == (m:Int)) = false:=beq_false_of_ne (by omega)
  have t3:decide (n = m) = false:=decide_eq_false hl
  have hne:decide (a = b) = false:=decide_eq_false (fun e=>hl (by rw [← HN.out,← HM.out,e]))
  have HE:=hd_ hne
  clear hne hl
  go_wp2_with fail
  go_ret
  exact ⟨by rw [HE.out];rfl,Below.refl _ _⟩
 case pos =>
 subst hl
 go_wp2_with fail
 go_loopw [13] (fun vi wr=>x1q a b n w vi wr) (fun vi _=>n - z3e vi)
 case atStart=>exact ⟨0,rfl,by omega,fun j h=>by omega,Below.refl _ _⟩
 case round =>
  obtain ⟨i,rfl,hi,hs,hb⟩:=hrel
  have HS:=hd_ hs;have HBr:=hd_ hb
  clear hs hb
  by_cases hlt:i < n
  case neg =>
   obtain rfl:i = n:=by omega
   have tj:decide ((i:Int) < (i:Int)) = false:=by simp
   have HE:Hid (decide (a = b) = true):=decide_eq_true (z7j (by rw [HN.out,HM.out]) (fun j hj=>HS.out j (by rw [← HN.out];exact hj)))
   go_wp2_with fail
   go_ret
   exact ⟨by rw [HE.out];rfl,HBr.out⟩
  case pos =>
  have tj:decide ((i:Int) < (n:Int)) = true:=by simp;omega
  have tj':decide (i < n) = true:=by simp;omega
  have kb:(i:Int) < (n:Int):=by omega
  obtain ⟨x,hx⟩:∃ x,a[i]? = some x:=⟨_,gE (by rw [HN.out];exact hlt)⟩
  obtain ⟨y,hy⟩:∃ y,b[i]? = some y:=⟨_,gE (by rw [HM.out];exact hlt)⟩
  obtain ⟨ab,ao,rfl⟩:=z7e HA.out (k:=i) (by rw [HN.out];exact hlt)
  obtain ⟨bb,bo,rfl⟩:=z7e HB.out (k:=i) (by rw [HM.out];exact hlt)
  have Hlt:=hd_ hlt;have Hx:=hd_ hx;have Hy:=hd_ hy
  have HNX:Hid (x = y→∀ j,j < i + 1→a[j]? = b[j]?):=fun e j hj=>by
   rcases Nat.lt_succ_iff_lt_or_eq.1 hj with h | h
   · exact HS.out j h
   · rw [h,Hx.out,Hy.out,e]
  have HNE:Hid (x ≠ y→decide (a = b) = false):=fun hne=>decide_eq_false (fun e=>by
   have:=Hx.out;rw [e,Hy.out] at this;injection this with this;exact hne this.symm)
  have c1:=z1a HBr.out (z3l HA.out hx);have c2:=z1a HBr.out (z3l HB.out hy)
  clear hlt hx hy hi
  go_upto_region 6 with fail
  by_cases hxy:x = y
  · subst hxy
    go_quiet (fail)
    have K:Hid (Below w.heap.size w (wr.drewN nq)):=⟨HBr.out.os,HBr.out.tape,HBr.out.output,HBr.out.size,HBr.out.block⟩
    clear c1 c2 HBr
    generalize wr.drewN nq = wA at *
    go_wp2_with fail
    go_roundw
    case rel=>exact ⟨i + 1,by go_num,Hlt.out,HNX.out rfl,K.out⟩
    case measure=>simp [z3e];have:=Hlt.out;omega
  · have u1:decide (x = y) = false:=decide_eq_false hxy
    have u2:(x == y) = false:=beq_false_of_ne hxy
    have HE:=hd_ (HNE.out hxy)
    clear hxy
    go_quiet (fail)
    have K:Hid (Below w.heap.size w (wr.drewN nq)):=⟨HBr.out.os,HBr.out.tape,HBr.out.output,HBr.out.size,HBr.out.block⟩
    clear c1 c2 HBr
    generalize wr.drewN nq = wA at *
    go_wp2_with fail
    go_ret
    exact ⟨by rw [HE.out];rfl,K.out⟩
theorem x2q (a b:List Cut) (va vb:Value) (w:World) (ha:z9f cuK w.heap.size w a va) (hb:z9f cuK w.heap.size w b vb) :
 Calls Tryz.prog 41 #[va,vb] w fun e w'=>e = .returned (.bool (decide (a = b)))∧Below w.heap.size w w':=by
 obtain ⟨oa,ca,rfl,la⟩:=ha.shape
 obtain ⟨ob,cb,rfl,lb⟩:=hb.shape
 have HA:=hd_ ha;have HB:=hd_ hb
 obtain ⟨n,hn⟩:∃ n,a.length = n:=⟨_,rfl⟩
 obtain ⟨m,hm⟩:∃ m,b.length = m:=⟨_,rfl⟩
 rw [hn] at HA la;rw [hm] at HB lb
 have l1:(n:Int) ≤ 9223372036854775807:=by omega
 have l2:(m:Int) ≤ 9223372036854775807:=by omega
 rw [hn,hm]
 have HN:=hd_ hn;have HM:=hd_ hm
 clear ha hb hn hm la lb
 go_enter Tryz.func41,Tryz.ntmps41
 by_cases hl:n = m
 case neg =>
  have t1:decide ((n:Int) = (m:Int)) = false:=decide_eq_false (by omega)
  have t2:((n:Int) == (m:Int)) = false:=beq_false_of_ne (by omega)
  have t3:decide (n = m) = false:=decide_eq_false hl
  have hne:decide (a = b) = false:=decide_eq_false (fun e=>hl (by rw [← HN.out,← HM.out,e]))
  have HE:=hd_ hne
  clear hne hl
  go_wp2_with fail
  go_ret
  exact ⟨by rw [HE.out];rfl,Below.refl _ _⟩
 case pos =>
 subst hl
 go_wp2_with fail
 go_loopw [13] (fun vi wr=>x1q a b n w vi wr) (fun vi _=>n - z3e vi)
 case atStart=>exact ⟨0,rfl,by omega,fun j h=>by omega,Below.refl _ _⟩
 case round =>
  obtain ⟨i,rfl,hi,hs,hb⟩:=hrel
  have HS:=hd_ hs;have HBr:=hd_ hb
  clear hs hb
  by_cases hlt:i < n
  case neg =>
   obtain rfl:i = n:=by omega
   have tj:decide ((i:Int) < (i:Int)) = false:=by simp
   have HE:Hid (decide (a = b) = true):=decide_eq_true (z7j (by rw [HN.out,HM.out]) (fun j hj=>HS.out j (by rw [← HN.out];exact hj)))
   go_wp2_with fail
   go_ret
   exact ⟨by rw [HE.out];rfl,HBr.out⟩
  case pos =>
  have tj:decide ((i:Int) < (n:Int)) = true:=by simp;omega
  have tj':decide (i < n) = true:=by simp;omega
  have kb:(i:Int) < (n:Int):=by omega
  obtain ⟨x,hx⟩:∃ x,a[i]? = some x:=⟨_,gE (by rw [HN.out];exact hlt)⟩
  obtain ⟨y,hy⟩:∃ y,b[i]? = some y:=⟨_,gE (by rw [HM.out];exact hlt)⟩
  obtain ⟨ab,ao,rfl⟩:=z7e HA.out (k:=i) (by rw [HN.out];exact hlt)
  obtain ⟨bb,bo,rfl⟩:=z7e HB.out (k:=i) (by rw [HM.out];exact hlt)
  have Hlt:=hd_ hlt;have Hx:=hd_ hx;have Hy:=hd_ hy
  have HNX:Hid (x = y→∀ j,j < i + 1→a[j]? = b[j]?):=fun e j hj=>by
   rcases Nat.lt_succ_iff_lt_or_eq.1 hj with h | h
   · exact HS.out j h
   · rw [h,Hx.out,Hy.out,e]
  have HNE:Hid (x ≠ y→decide (a = b) = false):=fun hne=>decide_eq_false (fun e=>by
   have:=Hx.out;rw [e,Hy.out] at this;injection this with this;exact hne this.symm)
  have C1:=hd_ (z2l (z3u HA.out hx) (HBr.out.drew));have C2:=hd_ (z2l (z3u HB.out hy) (HBr.out.drew))
  have K:=hd_ HBr.out.drew
  clear hlt hx hy hi
  go_upto_region 6 with fail
  refine wp_region_held_drew (S:=fun w'=>w'.rangeAt ab (ao + i * 5) x.cells∧w'.rangeAt bb (bo + i * 5) y.cells) (by kernel_rfl) ⟨C1.out,C2.out⟩ (fun hHeld=>?_)
  clear HBr C1 C2
  generalize wr.drew = wA at *
  refine tkH (some 16) 0 ?_
  refine tkH (some 17) 1 ?_
  refine tkH (some 18) 2 ?_
  refine x5j (some 19) 3 rfl (.agg x.cells.toArray) (yieldsIf_load_mid (by rfl) 88 _ rfl ab (ao + i * 5) rfl x.cells _ (fun wS hSw=>by obtain ⟨s1,s2⟩:=hSw;exact s1) Tryz.underlying88 rfl (by kernel_rfl)) ?_
  refine tkH (some 20) 4 ?_
  refine tkH (some 21) 5 ?_
  refine tkH (some 22) 6 ?_
  refine x5j (some 23) 7 rfl (.agg y.cells.toArray) (yieldsIf_load_mid (by rfl) 88 _ rfl bb (bo + i * 5) rfl y.cells _ (fun wS hSw=>by obtain ⟨s1,s2⟩:=hSw;exact s2) Tryz.underlying88 rfl (by kernel_rfl)) ?_
  have hgd:=fun (a1 a2:Operand) (W:World)=>j7s .neq a1 a2 x y W
  by_cases hxy:x = y
  · have heq:∀ W:World,(Op.equalIn 10000 88 (.agg x.cells.toArray) (.agg y.cells.toArray)).run Tryz.prog W = .ok true W:=fun W=>by rw [x7l,decide_eq_true hxy]
    have HX:=hd_ (HNX.out hxy)
    clear hxy
    refine tkH (some 24) 8 ?_
    refine wpAnyH_done (by kernel_rfl) ?_ _
    go_wp2_with fail
    go_roundw
    case rel=>exact ⟨i + 1,by go_num,Hlt.out,HX.out,K.out⟩
    case measure=>simp [z3e];have:=Hlt.out;omega
  · have heq:∀ W:World,(Op.equalIn 10000 88 (.agg x.cells.toArray) (.agg y.cells.toArray)).run Tryz.prog W = .ok false W:=fun W=>by rw [x7l,decide_eq_false hxy]
    have HE:=hd_ (HNE.out hxy)
    clear hxy
    refine tkH (some 24) 8 ?_
    refine wpAnyH_done (by kernel_rfl) ?_ _
    go_wp2_with fail
    go_ret
    exact ⟨by rw [HE.out];rfl,K.out⟩
theorem y3v (p q:Nod):decide (p = q) = (decide (p.par = q.par) && decide (p.frm = q.frm) && decide (p.cuts = q.cuts)):=by
 obtain ⟨a1,a2,a3⟩:=p
 obtain ⟨b1,b2,b3⟩:=q
 rw [Bool.eq_iff_iff]
 simp only [decide_eq_true_eq,Bool.and_eq_true,Nod.mk.injEq,and_assoc]
theorem j4b (p q:Nod) (r s:Nb) (w:World) (hp:NodR w p r) (hq:NodR w q s) :
 Calls Tryz.prog 40 #[.agg #[.int .i64 r.par,.int .i64 r.frm,.slice r.oa r.n r.cap],.agg #[.int .i64 s.par,.int .i64 s.frm,.slice s.oa s.n s.cap]] w fun e w'=>e = .returned (.bool (decide (p = q)))∧Below w.heap.size w w':=by
 have hb2:Below w.heap.size w ((w.alloc (.cells #[.int .i64 r.par,.int .i64 r.frm,.slice r.oa r.n r.cap] 48)).alloc (.cells #[.int .i64 s.par,.int .i64 s.frm,.slice s.oa s.n s.cap] 48)):=(z5b (w:=w) _).alloc (z5b (w:=w) (.cells #[.int .i64 r.par,.int .i64 r.frm,.slice r.oa r.n r.cap] 48)).size _
 have HC:=hd_ (x2q p.cuts q.cuts _ _ _ (hp.cuts.ext hb2) (hq.cuts.ext hb2))
 have HB:=hd_ hb2
 have HS:=hd_ (y3v p q)
 have e1:=hp.par;have e2:=hp.frm;have e3:=hq.par;have e4:=hq.frm
 obtain ⟨b1,hb1⟩:∃ b,decide (p.par = q.par) = b:=⟨_,rfl⟩
 obtain ⟨b2,hb2'⟩:∃ b,decide (p.frm = q.frm) = b:=⟨_,rfl⟩
 obtain ⟨b3,hb3⟩:∃ b,decide (p.cuts = q.cuts) = b:=⟨_,rfl⟩
 rw [hb1,hb2',hb3] at HS
 rw [hb3] at HC
 rw [← e1,← e3] at hb1
 rw [← e2,← e4] at hb2'
 obtain ⟨rp,rf,ra,rn,rc⟩:=r
 obtain ⟨sp,sf,sa,sn,sc⟩:=s
 change decide (rp = sp) = b1 at hb1
 change decide (rf = sf) = b2 at hb2'
 have u1:(rp == sp) = b1:=by rw [← hb1];rfl
 have u2:(rf == sf) = b2:=by rw [← hb2'];rfl
 unfold Nb.cv at HC
 clear hp hq hb2 hb3 e1 e2 e3 e4
 change Calls Tryz.prog 40 #[.agg #[.int .i64 rp,.int .i64 rf,.slice ra rn rc],.agg #[.int .i64 sp,.int .i64 sf,.slice sa sn sc]] w _
 cases b1
 · go_enter Tryz.func40,Tryz.ntmps40
   go_wp2_with fail
   go_ret
   exact ⟨by rw [HS.out];rfl,HB.out⟩
 · cases b2
   · go_enter Tryz.func40,Tryz.ntmps40
     go_wp2_with fail
     go_ret
     exact ⟨by rw [HS.out];rfl,HB.out⟩
   · go_enter Tryz.func40,Tryz.ntmps40
     go_wp2_with (go_at_call 41;refine HC.out.mono ?_;go_loud (rintro e w2 ⟨rfl,hb⟩;have HB2:=hd_ (z0a HB.out hb);clear hb))
     go_ret
     exact ⟨by rw [HS.out];rfl,HB2.out⟩
theorem x3q (a b:List Nod) (va vb:Value) (w:World) (ha:z6j w a va) (hb:z6j w b vb) :
 Calls Tryz.prog 39 #[va,vb,.func (.func 40) #[] #[]] w fun e w'=>e = .returned (.bool (decide (a = b)))∧Below w.heap.size w w':=by
 obtain ⟨oa,ca,rfl,la⟩:=ha.shape
 obtain ⟨ob,cb,rfl,lb⟩:=hb.shape
 have HA:=hd_ ha;have HB:=hd_ hb
 obtain ⟨n,hn⟩:∃ n,a.length = n:=⟨_,rfl⟩
 obtain ⟨m,hm⟩:∃ m,b.length = m:=⟨_,rfl⟩
 rw [hn] at HA la;rw [hm] at HB lb
 have l1:(n:Int) ≤ 9223372036854775807:=by omega
 have l2:(m:Int) ≤ 9223372036854775807:=by omega
 rw [hn,hm]
 have HN:=hd_ hn;have HM:=hd_ hm
 clear ha hb hn hm la lb
 go_enter Tryz.func39,Tryz.ntmps39
 by_cases hl:n = m
 case neg =>
  have t1:decide ((n:Int) = (m:Int)) = false:=decide_eq_false (by omega)
  have t2:((n:Int) == (m:Int)) = false:=beq_false_of_ne (by omega)
  have t3:decide (n = m) = false:=decide_eq_false hl
  have hne:decide (a = b) = false:=decide_eq_false (fun e=>hl (by rw [← HN.out,← HM.out,e]))
  have HE:=hd_ hne
  clear hne hl
  go_wp2_with fail
  go_ret
  exact ⟨by rw [HE.out];rfl,Below.refl _ _⟩
 case pos =>
 subst hl
 go_wp2_with fail
 go_loopw [17] (fun vi wr=>x1q a b n w vi wr) (fun vi _=>n - z3e vi)
 case atStart=>exact ⟨0,rfl,by omega,fun j h=>by omega,Below.refl _ _⟩
 case round =>
  obtain ⟨i,rfl,hi,hs,hb⟩:=hrel
  have HS:=hd_ hs;have HBr:=hd_ hb
  clear hs hb
  by_cases hlt:i < n
  case neg =>
   obtain rfl:i = n:=by omega
   have tj:decide ((i:Int) < (i:Int)) = false:=by simp
   have HE:Hid (decide (a = b) = true):=decide_eq_true (z7j (by rw [HN.out,HM.out]) (fun j hj=>HS.out j (by rw [← HN.out];exact hj)))
   go_wp2_with fail
   go_ret
   exact ⟨by rw [HE.out];rfl,HBr.out⟩
  case pos =>
  have tj:decide ((i:Int) < (n:Int)) = true:=by simp;omega
  have tj':decide (i < n) = true:=by simp;omega
  have kb:(i:Int) < (n:Int):=by omega
  obtain ⟨x,hx⟩:∃ x,a[i]? = some x:=⟨_,gE (by rw [HN.out];exact hlt)⟩
  obtain ⟨y,hy⟩:∃ y,b[i]? = some y:=⟨_,gE (by rw [HM.out];exact hlt)⟩
  obtain ⟨ab,ao,r,rfl,hab,hel,hr⟩:=HA.out.el hx
  obtain ⟨bb,bo,s,rfl,hbb,hem,hs⟩:=HB.out.el hy
  have Hlt:=hd_ hlt;have Hx:=hd_ hx;have Hy:=hd_ hy
  have HNX:Hid (x = y→∀ j,j < i + 1→a[j]? = b[j]?):=fun e j hj=>by
   rcases Nat.lt_succ_iff_lt_or_eq.1 hj with h | h
   · exact HS.out j h
   · rw [h,Hx.out,Hy.out,e]
  have HNE:Hid (x ≠ y→decide (a = b) = false):=fun hne=>decide_eq_false (fun e=>by
   have:=Hx.out;rw [e,Hy.out] at this;injection this with this;exact hne this.symm)
  have c0:wr.cell? ⟨ab,ao + i * 3,none⟩ = some (.int .i64 r.par):=z1a HBr.out (hel 0 _ rfl)
  have c1:wr.cell? ⟨ab,ao + i * 3 + 1,none⟩ = some (.int .i64 r.frm):=z1a HBr.out (hel 1 _ rfl)
  have c2:wr.cell? ⟨ab,ao + i * 3 + 2,none⟩ = some (.slice r.oa r.n r.cap):=z1a HBr.out (hel 2 _ rfl)
  have hb1:=z5b (w:=wr) (.cells #[.int .i64 r.par,.int .i64 r.frm,.slice r.oa r.n r.cap] 48)
  have hb2:=z0a hb1 (z5b (w:=wr.alloc (.cells #[.int .i64 r.par,.int .i64 r.frm,.slice r.oa r.n r.cap] 48)) (.cells #[.int .i64 s.par,.int .i64 s.frm,.slice s.oa s.n s.cap] 48))
  have d0:(wr.alloc (.cells #[.int .i64 r.par,.int .i64 r.frm,.slice r.oa r.n r.cap] 48)).cell? ⟨bb,bo + i * 3,none⟩ = some (.int .i64 s.par):=z1a (z0a HBr.out hb1) (hem 0 _ rfl)
  have d1:(wr.alloc (.cells #[.int .i64 r.par,.int .i64 r.frm,.slice r.oa r.n r.cap] 48)).cell? ⟨bb,bo + i * 3 + 1,none⟩ = some (.int .i64 s.frm):=z1a (z0a HBr.out hb1) (hem 1 _ rfl)
  have d2:(wr.alloc (.cells #[.int .i64 r.par,.int .i64 r.frm,.slice r.oa r.n r.cap] 48)).cell? ⟨bb,bo + i * 3 + 2,none⟩ = some (.slice s.oa s.n s.cap):=z1a (z0a HBr.out hb1) (hem 2 _ rfl)
  have HC:=hd_ (j4b x y r s _ ((hr.ext HBr.out).ext hb2) ((hs.ext HBr.out).ext hb2))
  have HB2:=hd_ (z0a HBr.out hb2)
  clear hlt hx hy hi hab hel hr hbb hem hs hb1 hb2
  by_cases hxy:x = y
  · rw [decide_eq_true hxy] at HC
    have HX:=hd_ (HNX.out hxy)
    clear hxy
    go_wp2_with (go_at_call 40;refine HC.out.mono ?_;go_loud (rintro e w2 ⟨rfl,hb⟩;have HB3:=hd_ (z0a HB2.out hb);clear hb))
    go_roundw
    case rel=>exact ⟨i + 1,by go_num,Hlt.out,HX.out,HB3.out⟩
    case measure=>simp [z3e];have:=Hlt.out;omega
  · rw [decide_eq_false hxy] at HC
    have HE:=hd_ (HNE.out hxy)
    clear hxy
    go_wp2_with (go_at_call 40;refine HC.out.mono ?_;go_loud (rintro e w2 ⟨rfl,hb⟩;have HB3:=hd_ (z0a HB2.out hb);clear hb))
    go_ret
    exact ⟨by rw [HE.out];rfl,HB3.out⟩
end Go.Proofs.YtdblnbnofjggnaaGreatDoor
