/- Parts of the proofs of chapter 49's laws. -/
import Derived.Test.YtdblnbnofjggnaaGreatDoorP05
import Derived.Test.YtdblnbnofjggnaaGreatDoorP13
import Derived.Deep.DeepCutAuto
set_option maxHeartbeats 4000000
set_option maxRecDepth 100000
open Go.Lib renaming hid → hd_
open Go.Value renaming int → I, slice → Y, string → X
open Go.IntKind renaming i64 → J
open Go.Obj renaming cells → Q
open Go renaming World → Z, Value → G
set_option linter.all false
namespace Go.Proofs.YtdblnbnofjggnaaGreatDoor
open Go.Proofs.Tryz
open Go.RowKit
structure Rp where
 st:Int
 no:Int
 mi:Int
 ar:Int
 cl:ByteArray
 vo:Int
def Rp.cells (r:Rp):List G:=[I J r.st,I J r.no,I J r.mi,I J r.ar,X r.cl,I J r.vo]
def Rp.v (r:Rp):G:=.agg r.cells.toArray
def k3c (m m1:Int) (r:Rp):List (Int × Int × Int):=[(m,0,4),(r.st,0,m1),(r.no,1,1048576),(r.mi,0,1439),(r.ar,0,1439),(r.vo,0,63)]
def j5b (m m1:Int) (r:Rp):Bool:=!(k3c m m1 r).any z1r&&z1q r.cl.data.toList
theorem y9v (L:List (Int × Int × Int)) (w:Z) (g:Nat) (t:TypeId) (h:CB w g t (L.flatMap fun x=>[I J x.1,I J x.2.1,I J x.2.2])):y5u w g L:=by
 have key:∀ (L:List (Int × Int × Int)) (j:Nat) (x:Int × Int × Int),L[j]? = some x→((L.flatMap fun x=>[I J x.1,I J x.2.1,I J x.2.2])[j * 3]? = some (I J x.1))∧((L.flatMap fun x=>[I J x.1,I J x.2.1,I J x.2.2])[j * 3+1]? = some (I J x.2.1))∧((L.flatMap fun x=>[I J x.1,I J x.2.1,I J x.2.2])[j * 3+2]? = some (I J x.2.2)):=by
  intro L
  induction L with
  | nil=>intro j x h;simp at h
  | cons a r ih =>
   intro j x h
   cases j with
   | zero=>simp at h;subst h;simp
   | succ j =>
    have:=ih j x (by simpa using h)
    simp only [List.flatMap_cons,Nat.succ_mul]
    rw [show j * 3+3+1=(j * 3+1)+3 by omega,show j * 3+3+2=(j * 3+2)+3 by omega]
    simpa using this
 intro j x hx
 obtain ⟨a,b,c⟩:=key L j x hx
 rw [h.cell,h.cell,h.cell]
 exact ⟨a,b,c⟩
def j4x (t:Bool) (w:Z) (e:Ending) (w':Z):Prop:=e=.returned (I J (if t then 0 else 220))∧Below w.heap.size w w'
theorem x0g (m m1:Int) (r:Rp) (w:Z) (hm:IntKind.i64.wrap (m - 1)=m1) (hs:r.cl.size≤9223372036854775807) :
 Calls prog 31 #[I J m,r.v] w (j4x (j5b m m1 r) w):=by
 obtain ⟨st,no,mi,ar,cl,vo⟩:=r
 have e1:wrap64 (m - 1)=m1:=by rw [← hm];exact (IntWalk.i64_left _).symm
 obtain ⟨L,hL⟩:∃ L,k3c m m1 ⟨st,no,mi,ar,cl,vo⟩=L:=⟨_,rfl⟩
 have HL:=hd_ hL
 have Hs:Hid (cl.size≤9223372036854775807):=hs
 have hfin:Hid (j5b m m1 ⟨st,no,mi,ar,cl,vo⟩=(!L.any z1r&&z1q cl.data.toList)):=by show _=_;unfold j5b;rw [hL]
 clear hL hs
 have hlim:Hid (∀ w:Z,y5u (w.alloc (Q #[I J m,I J 0,I J 4,I J st,I J 0,I J m1,I J no,I J 1,I J 1048576,I J mi,I J 0,I J 1439,I J ar,I J 0,I J 1439,I J vo,I J 0,I J 63] 123)) w.heap.size L):=by
  show ∀ w,_
  intro w
  rw [← HL.out]
  exact y9v _ _ _ 123 (CB.new w _ _)
 have hll:Hid (L.length=6):=by show _=_;rw [← HL.out];rfl
 have aX:Hid (CB (w.alloc (Q #[I J st,I J no,I J mi,I J ar,X cl,I J vo] 33)) w.heap.size 33 [I J st,I J no,I J mi,I J ar,X cl,I J vo]):=CB.new w _ _
 have ax:=hd_ ((Below.refl w.heap.size w).alloc (Nat.le_refl _) (Q #[I J st,I J no,I J mi,I J ar,X cl,I J vo] 33))
 change Calls prog 31 #[I J m,.agg #[I J st,I J no,I J mi,I J ar,X cl,I J vo]] w _
 go_enter func31,ntmps31
 go_upto_region 1 with fail
 generalize w.alloc (Q #[I J st,I J no,I J mi,I J ar,X cl,I J vo] 33)=w0 at *
 have c0:=aX.out.ce 0
 have c1:=aX.out.ce 1
 have c2:=aX.out.ce 2
 have c3:=aX.out.ce 3
 have c5:=aX.out.ce 5
 go_wp2_with fail
 refine (y0l _ 6 _ L hll.out (by decide) _ (hlim.out _)).mono ?_
 rintro e w1 ⟨rfl,hb⟩
 have af:=hd_ (z0a (ax.out.alloc ax.out.size _) hb)
 have hcb1:=hd_ (CB.ext (aX.out.alloc _) hb)
 clear hb c0 c1 c2 c3 c5
 have c4:=hcb1.out.ce 4
 obtain ⟨t,ht⟩:∃ t,L.any z1r=t:=⟨_,rfl⟩
 have Ht:=hd_ ht
 rw [ht]
 clear ht
 cases t
 ·go_wp2_with fail
  refine (x6m cl Hs.out _).mono ?_
  obtain ⟨u,hu⟩:∃ u,z1q cl.data.toList=u:=⟨_,rfl⟩
  have Hu:=hd_ hu
  unfold z2q
  rw [hu]
  clear hu
  rintro e w2 ⟨rfl,rfl⟩
  have hf:=hfin.out
  rw [Ht.out,Hu.out] at hf
  have Hf:=hd_ hf
  clear hf
  cases u
  all_goals
   go_wp2_with fail
   go_ret
   exact ⟨by rw [Hf.out];rfl,af.out⟩
 ·have hf:=hfin.out
  rw [Ht.out] at hf
  have Hf:=hd_ hf
  clear hf
  go_wp2_with fail
  go_ret
  exact ⟨by rw [Hf.out];rfl,af.out⟩
def j5x (a b:Rp):Bool:=a.st == b.st&&a.no == b.no&&a.mi == b.mi&&a.ar == b.ar&&a.cl == b.cl&&a.vo == b.vo
theorem k8y {a b:ByteArray} (h:(a == b)=true):a=b:=by
 obtain ⟨⟨x⟩⟩:=a
 obtain ⟨⟨y⟩⟩:=b
 have:((⟨x⟩:Array UInt8) == ⟨y⟩)=true:=h
 simpa using this
theorem k4c (a:ByteArray):(a == a)=true:=by
 obtain ⟨⟨x⟩⟩:=a
 show ((⟨x⟩:Array UInt8) == ⟨x⟩)=true
 simp
theorem x9m (a b:Rp):j5x a b=true↔a=b:=by
 obtain ⟨a1,a2,a3,a4,a5,a6⟩:=a
 obtain ⟨b1,b2,b3,b4,b5,b6⟩:=b
 unfold j5x
 simp only [Bool.and_eq_true,beq_iff_eq,Rp.mk.injEq]
 constructor
 ·rintro ⟨⟨⟨⟨⟨h1,h2⟩,h3⟩,h4⟩,h5⟩,h6⟩
  exact ⟨h1,h2,h3,h4,k8y h5,h6⟩
 ·rintro ⟨h1,h2,h3,h4,rfl,h6⟩
  exact ⟨⟨⟨⟨⟨h1,h2⟩,h3⟩,h4⟩,k4c _⟩,h6⟩
theorem k5o (a b:Rp) (w:Z):(Op.equalIn 10000 33 a.v b.v).run prog w=.ok (j5x a b) w:=by
 unfold Rp.v
 rw [show (10000:Nat)=9999+1 from rfl,run_equalIn_struct w 9999 _ _ _ (by kernel_rfl) (by kernel_rfl)]
 have hi:=underlying3
 have hs:=underlying9
 have hu:=underlying33
 simp only [Program.fieldsOf,hu]
 have p1:(isAgg 3).run prog w=.ok false w:=by kernel_rfl
 have p2:(isAgg 9).run prog w=.ok false w:=by kernel_rfl
 have q:∀ x y:Int,(Op.equalIn 9999 3 (I J x) (I J y)).run prog w=.ok (x == y) w:=fun x y=>run_equalIn_int w 9998 _ J J _ _ hi
 have qs:∀ x y:ByteArray,(Op.equalIn 9999 9 (X x) (X y)).run prog w=.ok (x == y) w:=fun x y=>by
  rw [show (9999:Nat)=9998+1 from rfl,Op.equalIn]
  simp only [Sem.run_bind,run_underlying hs,Result.andThen_ok]
  rfl
 have g:∀ (c:List G) (t:TypeId) (i:Nat) (v:G),(isAgg t).run prog w=.ok false w→c[i]? = some v→(part t c.toArray i).run prog w=.ok v w:=fun c t i v h1 h2=>by
  simp [part,h1,h2]
 have a0:=fun r:Rp=>g r.cells _ 0 (I J r.st) p1 rfl
 have a1:=fun r:Rp=>g r.cells _ 1 (I J r.no) p1 rfl
 have a2:=fun r:Rp=>g r.cells _ 2 (I J r.mi) p1 rfl
 have a3:=fun r:Rp=>g r.cells _ 3 (I J r.ar) p1 rfl
 have a4:=fun r:Rp=>g r.cells _ 4 (X r.cl) p2 rfl
 have a5:=fun r:Rp=>g r.cells _ 5 (I J r.vo) p1 rfl
 simp only [Op.eqFields,ne_eq,String.reduceEq,not_false_eq_true,if_true,Sem.run_bind,a0,a1,a2,a3,a4,a5,q,qs,Result.andThen_ok,Sem.run_ite,Sem.run_pure]
 unfold j5x
 cases (a.st == b.st) <;> cases (a.no == b.no) <;> cases (a.mi == b.mi) <;> cases (a.ar == b.ar) <;> cases (a.cl == b.cl) <;> cases (a.vo == b.vo) <;> rfl
theorem k6o (op:BinOp) (x y:Operand) (a b:Rp) (w:Z):(eqGuard op 33 x y a.v b.v).run prog w=.ok () w :=
 run_eqGuard_agg w op _ x y _ _ (by kernel_rfl)
def y6b (B:Nat) (w:Z) (l:List Int) (v:G):Prop :=
 (l=[]∧∃ oa cap,v=Y oa 0 cap)∨(∃ b off cap,v=Y (some ⟨b,off,none⟩) l.length cap∧l.length≤cap∧cap≤maxLen∧b<B∧∀ j x,l[j]? = some x→w.cell? ⟨b,off+j,none⟩=some (I J x))
theorem y6b.keep {B B':Nat} {w w':Z} {l:List Int} {v:Value} (h:y6b B w l v) (hB:B≤B') (hs:∀ k,k<B→w'.heap[k]? = w.heap[k]?):y6b B' w' l v:=by
 rcases h with h|⟨b,off,cap,h1,h2,h3,h4,h5⟩
 ·exact .inl h
 ·exact .inr ⟨b,off,cap,h1,h2,h3,Nat.lt_of_lt_of_le h4 hB,fun j c hj=>by rw [World.cell?_of_block (w:=w) (hs _ h4)];exact h5 j c hj⟩
theorem y6b.ext {w w':Z} {l:List Int} {v:Value} (h:y6b w.heap.size w l v) (hb:Below w.heap.size w w'):y6b w'.heap.size w' l v:=h.keep hb.size hb.block
theorem y6b.shape {B:Nat} {w:Z} {l:List Int} {v:Value} (h:y6b B w l v):∃ oa cap,v=Y oa l.length cap∧l.length≤9223372036854775807:=by
 rcases h with ⟨rfl,oa,cap,rfl⟩|⟨b,off,cap,rfl,h2,h3,_⟩
 ·exact ⟨oa,cap,rfl,by simp⟩
 ·exact ⟨_,cap,rfl,by unfold maxLen at h3;omega⟩
def y6j:Int→Int→List Int→Bool
 | _,_,[]=>true
 | last,vol,v::r=>!(decide (v≤last) || decide (vol≤v))&&y6j v vol r
def k5c (vol sh fa:Int):List (Int × Int × Int):=[(vol,1,64),(sh,0,3),(fa,0,3)]
def x0n (vol:Int) (l:List Int) (sh fa:Int):Bool:=(!(k5c vol sh fa).any z1r && !l.isEmpty)&&y6j (-1) vol l
def k9y (vol:Int) (l:List Int) (w:Z) (a i:G) (wr:Z):Prop:=∃ (k:Nat) (x:Int),k≤l.length∧a=I J x∧i=I J k∧y6j (-1) vol l=y6j x vol (l.drop k)∧w=wr
theorem x1n {l:List Int} {k:Nat} {x:Int} (h:l[k]? = some x):l.drop k=x::l.drop (k+1):=by
 obtain ⟨h1,h2⟩:=List.getElem?_eq_some_iff.1 h
 rw [List.drop_eq_getElem_cons h1,h2]
theorem x1g (vol sh fa:Int) (l:List Int) (v:G) (w:Z) (hl:y6b w.heap.size w l v) :
 Calls prog 32 #[I J vol,.agg #[v,I J sh,I J fa]] w (j4x (x0n vol l sh fa) w):=by
 obtain ⟨oa,cap,rfl,hlm⟩:=hl.shape
 have HI:=hd_ hl
 have bl:(l.length:Int)≤9223372036854775807:=by omega
 clear hl hlm
 obtain ⟨L,hL⟩:∃ L,k5c vol sh fa=L:=⟨_,rfl⟩
 have HL:=hd_ hL
 have hfin:Hid (x0n vol l sh fa=((!L.any z1r && !l.isEmpty)&&y6j (-1) vol l)):=by show _=_;unfold x0n;rw [hL]
 have hlim:Hid (∀ w:Z,y5u (w.alloc (Q #[I J vol,I J 1,I J 64,I J sh,I J 0,I J 3,I J fa,I J 0,I J 3] 123)) w.heap.size L):=by
  show ∀ w,_
  intro w
  rw [← hL]
  exact y9v _ _ _ 123 (CB.new w _ _)
 have hll:Hid (L.length=3):=by show _=_;rw [← hL];rfl
 clear hL
 have aX:Hid (CB (w.alloc (Q #[Y oa l.length cap,I J sh,I J fa] 37)) w.heap.size 37 [Y oa l.length cap,I J sh,I J fa]):=CB.new w _ _
 have ax:=hd_ ((Below.refl w.heap.size w).alloc (Nat.le_refl _) (Q #[Y oa l.length cap,I J sh,I J fa] 37))
 go_enter func32,ntmps32
 go_upto_region 1 with fail
 generalize w.alloc (Q #[Y oa l.length cap,I J sh,I J fa] 37)=w0 at *
 have c1:=aX.out.ce 1
 have c2:=aX.out.ce 2
 go_wp2_with fail
 refine (y0l _ 3 _ L hll.out (by decide) _ (hlim.out _)).mono ?_
 rintro e w1 ⟨rfl,hb⟩
 have af:=hd_ (z0a (ax.out.alloc ax.out.size _) hb)
 have hcb1:=hd_ (CB.ext (aX.out.alloc _) hb)
 clear hb c1 c2
 have c0:=hcb1.out.ce 0
 obtain ⟨t,ht⟩:∃ t,L.any z1r=t:=⟨_,rfl⟩
 have Ht:=hd_ ht
 rw [ht]
 clear ht
 cases t
 case true =>
  have hf:=hfin.out
  rw [Ht.out] at hf
  have Hf:=hd_ hf
  clear hf
  go_wp2_with fail
  go_ret
  exact ⟨by rw [Hf.out];rfl,af.out⟩
 case false =>
  by_cases h0:l.length=0
  ·have hf:=hfin.out
   rw [List.eq_nil_of_length_eq_zero h0] at hf
   have Hf:=hd_ (show x0n vol l sh fa=false by rw [List.eq_nil_of_length_eq_zero h0];simpa using hf)
   have k0:((l.length:Int) == 0)=true:=by rw [h0];rfl
   clear hf h0
   go_wp2_with fail
   go_ret
   exact ⟨by rw [Hf.out];rfl,af.out⟩
  ·have k0:((l.length:Int) == 0)=false:=by rw [beq_eq_false_iff_ne];omega
   have hemp:l.isEmpty=false:=by cases l <;> simp_all
   have hf:=hfin.out
   rw [Ht.out,hemp] at hf
   have Hf:=hd_ hf
   clear hf hemp h0
   go_wp2_with fail
   go_loopw [5,28] (fun a i wr=>k9y vol l w1 a i wr) (fun _ i _=>l.length - (intOf i).toNat)
   case atStart=>exact ⟨0,-1,by omega,rfl,rfl,rfl,rfl⟩
   case round =>
    obtain ⟨k,x,hk,rfl,rfl,hi,rfl⟩:=hrel
    have HIn:=hd_ hi
    clear hi
    by_cases hlt:k<l.length
    ·have tj:decide ((k:Int)<(l.length:Int))=true:=by simp;omega
     have eu:decide (k<l.length)=true:=by simp;omega
     obtain ⟨y,hy⟩:∃ y,l[k]? = some y:=⟨_,List.getElem?_eq_getElem hlt⟩
     have hnn:¬ l=[]:=by rintro rfl;simp at hlt
     obtain ⟨b,off,rfl,hcell⟩:∃ b off,oa=some ⟨b,off,none⟩∧w1.cell? ⟨b,off+k,none⟩=some (I J y):=by
      rcases HI.out.ext af.out with ⟨h,_⟩|⟨b,off,cp,h1,_,_,_,h5⟩
      ·exact absurd h hnn
      ·injection h1 with h1 _ _
       exact ⟨b,off,h1,h5 k y hy⟩
     have aQ:=hd_ (x1n hy)
     clear hy hnn
     obtain ⟨t1,h1⟩:∃ t,decide (y≤x)=t:=⟨_,rfl⟩
     obtain ⟨t2,h2⟩:∃ t,decide (vol≤y)=t:=⟨_,rfl⟩
     have hst:Hid (y6j (-1) vol l=(!(t1 || t2)&&y6j y vol (l.drop (k+1)))):=by
      show _=_
      rw [HIn.out,aQ.out,y6j,h1,h2]
     cases t1 <;> cases t2
     case false.false =>
      go_wp2_with fail
      go_roundw
      case rel=>exact ⟨k+1,y,by omega,rfl,by go_num,by rw [hst.out];rfl,rfl⟩
      case measure=>simp [intOf];omega
     all_goals
      go_wp2_with fail
      go_ret
      exact ⟨by rw [Hf.out,hst.out];rfl,af.out⟩
    ·obtain rfl:k=l.length:=by omega
     have tj:decide ((l.length:Int)<(l.length:Int))=false:=by simp
     have hend:Hid (y6j (-1) vol l=true):=by show _=_;rw [HIn.out,List.drop_of_length_le (Nat.le_refl _)];rfl
     go_wp2_with fail
     go_ret
     exact ⟨by rw [Hf.out,hend.out];rfl,af.out⟩
theorem y0w (m m1:Int) (r:Rp) (w:Z) (hm:IntKind.i64.wrap (m - 1)=m1) (hs:r.cl.size≤9223372036854775807) :
 Calls prog 109 #[I J m,r.v] w (j4x (j5b m m1 r) w):=by
 obtain ⟨st,no,mi,ar,cl,vo⟩:=r
 have e1:wrap64 (m - 1)=m1:=by rw [← hm];exact (IntWalk.i64_left _).symm
 have Hs:Hid (cl.size≤9223372036854775807):=hs
 clear hs
 obtain ⟨t0,h0⟩:∃ t,z1r (m,0,4)=t:=⟨_,rfl⟩
 obtain ⟨t1,h1⟩:∃ t,z1r (st,0,m1)=t:=⟨_,rfl⟩
 obtain ⟨t2,h2⟩:∃ t,z1r (no,1,1048576)=t:=⟨_,rfl⟩
 obtain ⟨t3,h3⟩:∃ t,z1r (mi,0,1439)=t:=⟨_,rfl⟩
 obtain ⟨t4,h4⟩:∃ t,z1r (ar,0,1439)=t:=⟨_,rfl⟩
 obtain ⟨t5,h5⟩:∃ t,z1r (vo,0,63)=t:=⟨_,rfl⟩
 obtain ⟨u,hu⟩:∃ t,z1q cl.data.toList=t:=⟨_,rfl⟩
 have hfin:Hid (j5b m m1 ⟨st,no,mi,ar,cl,vo⟩=(!(t0 || t1 || t2 || t3 || t4 || t5)&&u)):=by
  show _=_
  unfold j5b k3c
  simp only [List.any_cons,List.any_nil,h0,h1,h2,h3,h4,h5,hu]
  cases t0 <;> cases t1 <;> cases t2 <;> cases t3 <;> cases t4 <;> cases t5 <;> rfl
 have H0:=hd_ h0
 have H1:=hd_ h1
 have H2:=hd_ h2
 have H3:=hd_ h3
 have H4:=hd_ h4
 have H5:=hd_ h5
 have Hu:=hd_ hu
 clear h0 h1 h2 h3 h4 h5 hu
 have aX:Hid (CB (w.alloc (Q #[I J st,I J no,I J mi,I J ar,X cl,I J vo] 33)) w.heap.size 33 [I J st,I J no,I J mi,I J ar,X cl,I J vo]):=CB.new w _ _
 have ax:=hd_ ((Below.refl w.heap.size w).alloc (Nat.le_refl _) (Q #[I J st,I J no,I J mi,I J ar,X cl,I J vo] 33))
 change Calls prog 109 #[I J m,.agg #[I J st,I J no,I J mi,I J ar,X cl,I J vo]] w _
 go_enter func109,ntmps109
 go_upto_region 1 with fail
 generalize w.alloc (Q #[I J st,I J no,I J mi,I J ar,X cl,I J vo] 33)=w0 at *
 have c0:=aX.out.ce 0
 have c1:=aX.out.ce 1
 have c2:=aX.out.ce 2
 have c3:=aX.out.ce 3
 have c4:=aX.out.ce 4
 have c5:=aX.out.ce 5
 go_wp2_with fail
 refine (z6u m 0 4 _).mono ?_
 rw [H0.out]
 rintro e w2 ⟨rfl,rfl⟩
 cases t0
 case true =>
  go_wp2_with fail
  go_ret
  exact ⟨by rw [hfin.out];simp,ax.out⟩
 case false =>
 skip
 go_wp2_with fail
 refine (z6u st 0 m1 _).mono ?_
 rw [H1.out]
 rintro e w2 ⟨rfl,rfl⟩
 cases t1
 case true =>
  go_wp2_with fail
  go_ret
  exact ⟨by rw [hfin.out];simp,ax.out⟩
 case false =>
 skip
 go_wp2_with fail
 refine (z6u no 1 1048576 _).mono ?_
 rw [H2.out]
 rintro e w2 ⟨rfl,rfl⟩
 cases t2
 case true =>
  go_wp2_with fail
  go_ret
  exact ⟨by rw [hfin.out];simp,ax.out⟩
 case false =>
 skip
 go_wp2_with fail
 refine (z6u mi 0 1439 _).mono ?_
 rw [H3.out]
 rintro e w2 ⟨rfl,rfl⟩
 cases t3
 case true =>
  go_wp2_with fail
  go_ret
  exact ⟨by rw [hfin.out];simp,ax.out⟩
 case false =>
 skip
 go_wp2_with fail
 refine (z6u ar 0 1439 _).mono ?_
 rw [H4.out]
 rintro e w2 ⟨rfl,rfl⟩
 cases t4
 case true =>
  go_wp2_with fail
  go_ret
  exact ⟨by rw [hfin.out];simp,ax.out⟩
 case false =>
 skip
 go_wp2_with fail
 refine (y5v cl Hs.out _).mono ?_
 unfold z2q
 rw [Hu.out]
 rintro e w2 ⟨rfl,rfl⟩
 cases u
 case false =>
  go_wp2_with fail
  go_ret
  exact ⟨by rw [hfin.out];simp,ax.out⟩
 case true =>
 skip
 go_wp2_with fail
 refine (z6u vo 0 63 _).mono ?_
 rw [H5.out]
 rintro e w2 ⟨rfl,rfl⟩
 cases t5
 case true =>
  go_wp2_with fail
  go_ret
  exact ⟨by rw [hfin.out];simp,ax.out⟩
 case false =>
 skip
 go_wp2_with fail
 go_ret
 exact ⟨by rw [hfin.out];simp,ax.out⟩
end Go.Proofs.YtdblnbnofjggnaaGreatDoor
