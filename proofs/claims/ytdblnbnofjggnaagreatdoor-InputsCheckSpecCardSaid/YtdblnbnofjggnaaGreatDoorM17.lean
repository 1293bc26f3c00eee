/- Parts of the proofs of chapter 49's laws: Rck Rqp Rst Rcr. -/
import Derived.Test.YtdblnbnofjggnaaGreatDoorM05
import Derived.Test.YtdblnbnofjggnaaGreatDoorM13
import Derived.Deep.DeepCutAuto
import Derived.Laws.StructEq
set_option maxHeartbeats 4000000
set_option maxRecDepth 100000
open Go
open Lib renaming hid → hd_
namespace Go.Proofs.YtdblnbnofjggnaaGreatDoor
open Go.RowKit
structure Rp where
 st:Int
 no:Int
 mi:Int
 ar:Int
 cl:ByteArray
 vo:Int
def Rp.cells (r:Rp):List Value:=[.int .i64 r.st,.int .i64 r.no,.int .i64 r.mi,.int .i64 r.ar,.string r.cl,.int .i64 r.vo]
def Rp.v (r:Rp):Value:=.agg r.cells.toArray
def j7w (m m1:Int) (r:Rp):List (Int × Int × Int):=[(m,0,4),(r.st,0,m1),(r.no,1,1048576),(r.mi,0,1439),(r.ar,0,1439),(r.vo,0,63)]
def x0y (m m1:Int) (r:Rp):Bool:=!(j7w m m1 r).any z5p && z7o r.cl.data.toList
theorem y4t (L:List (Int × Int × Int)) (w:World) (g:Nat) (t:TypeId) (h:CB w g t (L.flatMap fun x=>[.int .i64 x.1,.int .i64 x.2.1,.int .i64 x.2.2])):y9r w g L:=by
 have key:∀ (L:List (Int × Int × Int)) (j:Nat) (x:Int × Int × Int),L[j]? = some x→((L.flatMap fun x=>[Value.int .i64 x.1,.int .i64 x.2.1,.int .i64 x.2.2])[j * 3]? = some (.int .i64 x.1))∧((L.flatMap fun x=>[Value.int .i64 x.1,.int .i64 x.2.1,.int .i64 x.2.2])[j * 3 + 1]? = some (.int .i64 x.2.1))∧((L.flatMap fun x=>[Value.int .i64 x.1,.int .i64 x.2.1,.int .i64 x.2.2])[j * 3 + 2]? = some (.int .i64 x.2.2)):=by
  intro L
  induction L with
  | nil=>intro j x h;simp at h
  | cons a r ih =>
   intro j x h
   cases j with
   | zero=>simp at h;subst h;simp
   | succ j =>
    have:=ih j x (by simpa using h)
    simp only [List.flatMap_cons,Nat.succ_mul]
    rw [show j * 3 + 3 + 1 = (j * 3 + 1) + 3 by omega,show j * 3 + 3 + 2 = (j * 3 + 2) + 3 by omega]
    simpa using this
 intro j x hx
 obtain ⟨a,b,c⟩:=key L j x hx
 rw [h.cell,h.cell,h.cell]
 exact ⟨a,b,c⟩
def j7r (t:Bool) (w:World) (e:Ending) (w':World):Prop:=e = .returned (.int .i64 (if t then 0 else 220))∧Below w.heap.size w w'
theorem x6c (m m1:Int) (r:Rp) (w:World) (hm:IntKind.i64.wrap (m - 1) = m1) (hs:r.cl.size ≤ 9223372036854775807) :
 Calls Tryz.prog 31 #[.int .i64 m,r.v] w (j7r (x0y m m1 r) w):=by
 obtain ⟨st,no,mi,ar,cl,vo⟩:=r
 have e1:wrap64 (m - 1) = m1:=by rw [← hm];exact (IntWalk.i64_left _).symm
 obtain ⟨L,hL⟩:∃ L,j7w m m1 ⟨st,no,mi,ar,cl,vo⟩ = L:=⟨_,rfl⟩
 have HL:=hd_ hL
 have Hs:Hid (cl.size ≤ 9223372036854775807):=hs
 have hfin:Hid (x0y m m1 ⟨st,no,mi,ar,cl,vo⟩ = (!L.any z5p && z7o cl.data.toList)):=by show _ = _;unfold x0y;rw [hL]
 clear hL hs
 have hlim:Hid (∀ w:World,y9r (w.alloc (.cells #[.int .i64 m,.int .i64 0,.int .i64 4,.int .i64 st,.int .i64 0,.int .i64 m1,.int .i64 no,.int .i64 1,.int .i64 1048576,.int .i64 mi,.int .i64 0,.int .i64 1439,.int .i64 ar,.int .i64 0,.int .i64 1439,.int .i64 vo,.int .i64 0,.int .i64 63] 123)) w.heap.size L):=by
  show ∀ w,_
  intro w
  rw [← HL.out]
  exact y4t _ _ _ 123 (CB.new w _ _)
 have hll:Hid (L.length = 6):=by show _ = _;rw [← HL.out];rfl
 have hcb0:Hid (CB (w.alloc (.cells #[.int .i64 st,.int .i64 no,.int .i64 mi,.int .i64 ar,.string cl,.int .i64 vo] 33)) w.heap.size 33 [.int .i64 st,.int .i64 no,.int .i64 mi,.int .i64 ar,.string cl,.int .i64 vo]):=CB.new w _ _
 have hb0:=hd_ ((Below.refl w.heap.size w).alloc (Nat.le_refl _) (.cells #[.int .i64 st,.int .i64 no,.int .i64 mi,.int .i64 ar,.string cl,.int .i64 vo] 33))
 change Calls Tryz.prog 31 #[.int .i64 m,.agg #[.int .i64 st,.int .i64 no,.int .i64 mi,.int .i64 ar,.string cl,.int .i64 vo]] w _
 go_enter Tryz.func31,Tryz.ntmps31
 go_upto_region 1 with fail
 generalize w.alloc (.cells #[.int .i64 st,.int .i64 no,.int .i64 mi,.int .i64 ar,.string cl,.int .i64 vo] 33) = w0 at *
 have c0:w0.cell? ⟨w.heap.size,0,none⟩ = some (.int .i64 st):=hcb0.out.cell 0
 have c1:w0.cell? ⟨w.heap.size,1,none⟩ = some (.int .i64 no):=hcb0.out.cell 1
 have c2:w0.cell? ⟨w.heap.size,2,none⟩ = some (.int .i64 mi):=hcb0.out.cell 2
 have c3:w0.cell? ⟨w.heap.size,3,none⟩ = some (.int .i64 ar):=hcb0.out.cell 3
 have c5:w0.cell? ⟨w.heap.size,5,none⟩ = some (.int .i64 vo):=hcb0.out.cell 5
 go_wp2_with fail
 refine (y4h _ 6 _ L hll.out (by decide) _ (hlim.out _)).mono ?_
 rintro e w1 ⟨rfl,hb⟩
 have hb1:=hd_ (z0a (hb0.out.alloc hb0.out.size _) hb)
 have hcb1:=hd_ (CB.ext (hcb0.out.alloc _) hb)
 clear hb c0 c1 c2 c3 c5
 have c4:w1.cell? ⟨w.heap.size,4,none⟩ = some (.string cl):=hcb1.out.cell 4
 obtain ⟨t,ht⟩:∃ t,L.any z5p = t:=⟨_,rfl⟩
 have Ht:=hd_ ht
 rw [ht]
 clear ht
 cases t
 · go_wp2_with fail
   refine (x0k cl Hs.out _).mono ?_
   obtain ⟨u,hu⟩:∃ u,z7o cl.data.toList = u:=⟨_,rfl⟩
   have Hu:=hd_ hu
   unfold z8o
   rw [hu]
   clear hu
   rintro e w2 ⟨rfl,rfl⟩
   have hf:=hfin.out
   rw [Ht.out,Hu.out] at hf
   have Hf:=hd_ hf
   clear hf
   cases u
   all_goals
    go_wp2_with fail
    go_ret
    exact ⟨by rw [Hf.out];rfl,hb1.out⟩
 · have hf:=hfin.out
   rw [Ht.out] at hf
   have Hf:=hd_ hf
   clear hf
   go_wp2_with fail
   go_ret
   exact ⟨by rw [Hf.out];rfl,hb1.out⟩
def j8r (a b:Rp):Bool:=a.st == b.st && a.no == b.no && a.mi == b.mi && a.ar == b.ar && a.cl == b.cl && a.vo == b.vo
theorem k6q {a b:ByteArray} (h:(a == b) = true):a = b:=by
 obtain ⟨⟨x⟩⟩:=a
 obtain ⟨⟨y⟩⟩:=b
 have:((⟨x⟩:Array UInt8) == ⟨y⟩) = true:=h
 simpa using this
theorem j8w (a:ByteArray):(a == a) = true:=by
 obtain ⟨⟨x⟩⟩:=a
 show ((⟨x⟩:Array UInt8) == ⟨x⟩) = true
 simp
theorem x3k (a b:Rp):j8r a b = true↔a = b:=by
 obtain ⟨a1,a2,a3,a4,a5,a6⟩:=a
 obtain ⟨b1,b2,b3,b4,b5,b6⟩:=b
 unfold j8r
 simp only [Bool.and_eq_true,beq_iff_eq,Rp.mk.injEq]
 constructor
 · rintro ⟨⟨⟨⟨⟨h1,h2⟩,h3⟩,h4⟩,h5⟩,h6⟩
   exact ⟨h1,h2,h3,h4,k6q h5,h6⟩
 · rintro ⟨h1,h2,h3,h4,rfl,h6⟩
   exact ⟨⟨⟨⟨⟨h1,h2⟩,h3⟩,h4⟩,j8w _⟩,h6⟩
theorem k2h (a b:Rp) (w:World):(Op.equalIn 10000 33 a.v b.v).run Tryz.prog w = .ok (j8r a b) w:=by
 unfold Rp.v
 rw [show (10000:Nat) = 9999 + 1 from rfl,run_equalIn_struct w 9999 _ _ _ (by kernel_rfl) (by kernel_rfl)]
 have hi:=Tryz.underlying3
 have hs:=Tryz.underlying9
 have hu:=Tryz.underlying33
 simp only [Program.fieldsOf,hu]
 have p1:(isAgg 3).run Tryz.prog w = .ok false w:=by kernel_rfl
 have p2:(isAgg 9).run Tryz.prog w = .ok false w:=by kernel_rfl
 have q:∀ x y:Int,(Op.equalIn 9999 3 (.int .i64 x) (.int .i64 y)).run Tryz.prog w = .ok (x == y) w:=fun x y=>run_equalIn_int w 9998 _ .i64 .i64 _ _ hi
 have qs:∀ x y:ByteArray,(Op.equalIn 9999 9 (.string x) (.string y)).run Tryz.prog w = .ok (x == y) w:=fun x y=>by
  rw [show (9999:Nat) = 9998 + 1 from rfl,Op.equalIn]
  simp only [Sem.run_bind,run_underlying hs,Result.andThen_ok]
  rfl
 have g:∀ (c:List Value) (t:TypeId) (i:Nat) (v:Value),(isAgg t).run Tryz.prog w = .ok false w→c[i]? = some v→(part t c.toArray i).run Tryz.prog w = .ok v w:=fun c t i v h1 h2=>by
  simp [part,h1,h2]
 have a0:=fun r:Rp=>g r.cells _ 0 (.int .i64 r.st) p1 rfl
 have a1:=fun r:Rp=>g r.cells _ 1 (.int .i64 r.no) p1 rfl
 have a2:=fun r:Rp=>g r.cells _ 2 (.int .i64 r.mi) p1 rfl
 have a3:=fun r:Rp=>g r.cells _ 3 (.int .i64 r.ar) p1 rfl
 have a4:=fun r:Rp=>g r.cells _ 4 (.string r.cl) p2 rfl
 have a5:=fun r:Rp=>g r.cells _ 5 (.int .i64 r.vo) p1 rfl
 simp only [Op.eqFields,ne_eq,String.reduceEq,not_false_eq_true,if_true,Sem.run_bind,a0,a1,a2,a3,a4,a5,q,qs,Result.andThen_ok,Sem.run_ite,Sem.run_pure]
 unfold j8r
 cases (a.st == b.st) <;> cases (a.no == b.no) <;> cases (a.mi == b.mi) <;> cases (a.ar == b.ar) <;> cases (a.cl == b.cl) <;> cases (a.vo == b.vo) <;> rfl
theorem k3h (op:BinOp) (x y:Operand) (a b:Rp) (w:World):(eqGuard op 33 x y a.v b.v).run Tryz.prog w = .ok () w :=
 run_eqGuard_agg w op _ x y _ _ (by kernel_rfl)
def z4y (B:Nat) (w:World) (l:List Int) (v:Value):Prop :=
 (l = []∧∃ oa cap,v = .slice oa 0 cap)∨(∃ b off cap,v = .slice (some ⟨b,off,none⟩) l.length cap∧l.length ≤ cap∧cap ≤ maxLen∧b < B∧∀ j x,l[j]? = some x→w.cell? ⟨b,off + j,none⟩ = some (.int .i64 x))
theorem z4y.keep {B B':Nat} {w w':World} {l:List Int} {v:Value} (h:z4y B w l v) (hB:B ≤ B') (hs:∀ k,k < B→w'.heap[k]? = w.heap[k]?):z4y B' w' l v:=by
 rcases h with h | ⟨b,off,cap,h1,h2,h3,h4,h5⟩
 · exact .inl h
 · exact .inr ⟨b,off,cap,h1,h2,h3,Nat.lt_of_lt_of_le h4 hB,fun j c hj=>by rw [World.cell?_of_block (w:=w) (hs _ h4)];exact h5 j c hj⟩
theorem z4y.ext {w w':World} {l:List Int} {v:Value} (h:z4y w.heap.size w l v) (hb:Below w.heap.size w w'):z4y w'.heap.size w' l v:=h.keep hb.size hb.block
theorem z4y.shape {B:Nat} {w:World} {l:List Int} {v:Value} (h:z4y B w l v):∃ oa cap,v = .slice oa l.length cap∧l.length ≤ 9223372036854775807:=by
 rcases h with ⟨rfl,oa,cap,rfl⟩ | ⟨b,off,cap,rfl,h2,h3,_⟩
 · exact ⟨oa,cap,rfl,by simp⟩
 · exact ⟨_,cap,rfl,by unfold maxLen at h3;omega⟩
def y8g:Int→Int→List Int→Bool
 | _,_,[]=>true
 | last,vol,v :: r=>!(decide (v ≤ last) || decide (vol ≤ v)) && y8g v vol r
def j9w (vol sh fa:Int):List (Int × Int × Int):=[(vol,1,64),(sh,0,3),(fa,0,3)]
def x4k (vol:Int) (l:List Int) (sh fa:Int):Bool:=(!(j9w vol sh fa).any z5p && !l.isEmpty) && y8g (-1) vol l
def k7q (vol:Int) (l:List Int) (w:World) (a i:Value) (wr:World):Prop:=∃ (k:Nat) (x:Int),k ≤ l.length∧a = .int .i64 x∧i = .int .i64 k∧y8g (-1) vol l = y8g x vol (l.drop k)∧w = wr
theorem x5k {l:List Int} {k:Nat} {x:Int} (h:l[k]? = some x):l.drop k = x :: l.drop (k + 1):=by
 obtain ⟨h1,h2⟩:=List.getElem?_eq_some_iff.1 h
 rw [List.drop_eq_getElem_cons h1,h2]
theorem x7c (vol sh fa:Int) (l:List Int) (v:Value) (w:World) (hl:z4y w.heap.size w l v) :
 Calls Tryz.prog 32 #[.int .i64 vol,.agg #[v,.int .i64 sh,.int .i64 fa]] w (j7r (x4k vol l sh fa) w):=by
 obtain ⟨oa,cap,rfl,hlm⟩:=hl.shape
 have HI:=hd_ hl
 have bl:(l.length:Int) ≤ 9223372036854775807:=by omega
 clear hl hlm
 obtain ⟨L,hL⟩:∃ L,j9w vol sh fa = L:=⟨_,rfl⟩
 have HL:=hd_ hL
 have hfin:Hid (x4k vol l sh fa = ((!L.any z5p && !l.isEmpty) && y8g (-1) vol l)):=by show _ = _;unfold x4k;rw [hL]
 have hlim:Hid (∀ w:World,y9r (w.alloc (.cells #[.int .i64 vol,.int .i64 1,.int .i64 64,.int .i64 sh,.int .i64 0,.int .i64 3,.int .i64 fa,.int .i64 0,.int .i64 3] 123)) w.heap.size L):=by
  show ∀ w,_
  intro w
  rw [← hL]
  exact y4t _ _ _ 123 (CB.new w _ _)
 have hll:Hid (L.length = 3):=by show _ = _;rw [← hL];rfl
 clear hL
 have hcb0:Hid (CB (w.alloc (.cells #[.slice oa l.length cap,.int .i64 sh,.int .i64 fa] 37)) w.heap.size 37 [.slice oa l.length cap,.int .i64 sh,.int .i64 fa]):=CB.new w _ _
 have hb0:=hd_ ((Below.refl w.heap.size w).alloc (Nat.le_refl _) (.cells #[.slice oa l.length cap,.int .i64 sh,.int .i64 fa] 37))
 go_enter Tryz.func32,Tryz.ntmps32
 go_upto_region 1 with fail
 generalize w.alloc (.cells #[.slice oa l.length cap,.int .i64 sh,.int .i64 fa] 37) = w0 at *
 have c1:w0.cell? ⟨w.heap.size,1,none⟩ = some (.int .i64 sh):=hcb0.out.cell 1
 have c2:w0.cell? ⟨w.heap.size,2,none⟩ = some (.int .i64 fa):=hcb0.out.cell 2
 go_wp2_with fail
 refine (y4h _ 3 _ L hll.out (by decide) _ (hlim.out _)).mono ?_
 rintro e w1 ⟨rfl,hb⟩
 have hb1:=hd_ (z0a (hb0.out.alloc hb0.out.size _) hb)
 have hcb1:=hd_ (CB.ext (hcb0.out.alloc _) hb)
 clear hb c1 c2
 have c0:w1.cell? ⟨w.heap.size,0,none⟩ = some (.slice oa l.length cap):=hcb1.out.cell 0
 obtain ⟨t,ht⟩:∃ t,L.any z5p = t:=⟨_,rfl⟩
 have Ht:=hd_ ht
 rw [ht]
 clear ht
 cases t
 case true =>
  have hf:=hfin.out
  rw [Ht.out] at hf
  have Hf:=hd_ hf
  clear hf
  go_wp2_with fail
  go_ret
  exact ⟨by rw [Hf.out];rfl,hb1.out⟩
 case false =>
  by_cases h0:l.length = 0
  · have hf:=hfin.out
    rw [List.eq_nil_of_length_eq_zero h0] at hf
    have Hf:=hd_ (show x4k vol l sh fa = false by rw [List.eq_nil_of_length_eq_zero h0];simpa using hf)
    have k0:((l.length:Int) == 0) = true:=by rw [h0];rfl
    clear hf h0
    go_wp2_with fail
    go_ret
    exact ⟨by rw [Hf.out];rfl,hb1.out⟩
  · have k0:((l.length:Int) == 0) = false:=by rw [beq_eq_false_iff_ne];omega
    have hemp:l.isEmpty = false:=by cases l <;> simp_all
    have hf:=hfin.out
    rw [Ht.out,hemp] at hf
    have Hf:=hd_ hf
    clear hf hemp h0
    go_wp2_with fail
    go_loopw [5,28] (fun a i wr=>k7q vol l w1 a i wr) (fun _ i _=>l.length - (intOf i).toNat)
    case atStart=>exact ⟨0,-1,by omega,rfl,rfl,rfl,rfl⟩
    case round =>
     obtain ⟨k,x,hk,rfl,rfl,hi,rfl⟩:=hrel
     have HIn:=hd_ hi
     clear hi
     by_cases hlt:k < l.length
     · have tj:decide ((k:Int) < (l.length:Int)) = true:=by simp;omega
       have tj':decide (k < l.length) = true:=by simp;omega
       obtain ⟨y,hy⟩:∃ y,l[k]? = some y:=⟨_,List.getElem?_eq_getElem hlt⟩
       have hnn:¬ l = []:=by rintro rfl;simp at hlt
       obtain ⟨b,off,rfl,hcell⟩:∃ b off,oa = some ⟨b,off,none⟩∧w1.cell? ⟨b,off + k,none⟩ = some (.int .i64 y):=by
        rcases HI.out.ext hb1.out with ⟨h,_⟩ | ⟨b,off,cp,h1,_,_,_,h5⟩
        · exact absurd h hnn
        · injection h1 with h1 _ _
          exact ⟨b,off,h1,h5 k y hy⟩
       have hdr:=hd_ (x5k hy)
       clear hy hnn
       obtain ⟨t1,h1⟩:∃ t,decide (y ≤ x) = t:=⟨_,rfl⟩
       obtain ⟨t2,h2⟩:∃ t,decide (vol ≤ y) = t:=⟨_,rfl⟩
       have hst:Hid (y8g (-1) vol l = (!(t1 || t2) && y8g y vol (l.drop (k + 1)))):=by
        show _ = _
        rw [HIn.out,hdr.out,y8g,h1,h2]
       cases t1 <;> cases t2
       case false.false =>
        go_wp2_with fail
        go_roundw
        case rel=>exact ⟨k + 1,y,by omega,rfl,by go_num,by rw [hst.out];rfl,rfl⟩
        case measure=>simp [intOf];omega
       all_goals
        go_wp2_with fail
        go_ret
        exact ⟨by rw [Hf.out,hst.out];rfl,hb1.out⟩
     · obtain rfl:k = l.length:=by omega
       have tj:decide ((l.length:Int) < (l.length:Int)) = false:=by simp
       have hend:Hid (y8g (-1) vol l = true):=by show _ = _;rw [HIn.out,List.drop_of_length_le (Nat.le_refl _)];rfl
       go_wp2_with fail
       go_ret
       exact ⟨by rw [Hf.out,hend.out];rfl,hb1.out⟩
theorem y5t (m m1:Int) (r:Rp) (w:World) (hm:IntKind.i64.wrap (m - 1) = m1) (hs:r.cl.size ≤ 9223372036854775807) :
 Calls Tryz.prog 109 #[.int .i64 m,r.v] w (j7r (x0y m m1 r) w):=by
 obtain ⟨st,no,mi,ar,cl,vo⟩:=r
 have e1:wrap64 (m - 1) = m1:=by rw [← hm];exact (IntWalk.i64_left _).symm
 have Hs:Hid (cl.size ≤ 9223372036854775807):=hs
 clear hs
 obtain ⟨t0,h0⟩:∃ t,z5p (m,0,4) = t:=⟨_,rfl⟩
 obtain ⟨t1,h1⟩:∃ t,z5p (st,0,m1) = t:=⟨_,rfl⟩
 obtain ⟨t2,h2⟩:∃ t,z5p (no,1,1048576) = t:=⟨_,rfl⟩
 obtain ⟨t3,h3⟩:∃ t,z5p (mi,0,1439) = t:=⟨_,rfl⟩
 obtain ⟨t4,h4⟩:∃ t,z5p (ar,0,1439) = t:=⟨_,rfl⟩
 obtain ⟨t5,h5⟩:∃ t,z5p (vo,0,63) = t:=⟨_,rfl⟩
 obtain ⟨u,hu⟩:∃ t,z7o cl.data.toList = t:=⟨_,rfl⟩
 have hfin:Hid (x0y m m1 ⟨st,no,mi,ar,cl,vo⟩ = (!(t0 || t1 || t2 || t3 || t4 || t5) && u)):=by
  show _ = _
  unfold x0y j7w
  simp only [List.any_cons,List.any_nil,h0,h1,h2,h3,h4,h5,hu]
  cases t0 <;> cases t1 <;> cases t2 <;> cases t3 <;> cases t4 <;> cases t5 <;> rfl
 have H0:=hd_ h0
 have H1:=hd_ h1
 have H2:=hd_ h2
 have H3:=hd_ h3
 have H4:=hd_ h4
 have H5:=hd_ h5
 have Hu:=hd_ hu
 clear h0 h1 h2 h3 h4 h5 hu
 have hcb0:Hid (CB (w.alloc (.cells #[.int .i64 st,.int .i64 no,.int .i64 mi,.int .i64 ar,.string cl,.int .i64 vo] 33)) w.heap.size 33 [.int .i64 st,.int .i64 no,.int .i64 mi,.int .i64 ar,.string cl,.int .i64 vo]):=CB.new w _ _
 have hb0:=hd_ ((Below.refl w.heap.size w).alloc (Nat.le_refl _) (.cells #[.int .i64 st,.int .i64 no,.int .i64 mi,.int .i64 ar,.string cl,.int .i64 vo] 33))
 change Calls Tryz.prog 109 #[.int .i64 m,.agg #[.int .i64 st,.int .i64 no,.int .i64 mi,.int .i64 ar,.string cl,.int .i64 vo]] w _
 go_enter Tryz.func109,Tryz.ntmps109
 go_upto_region 1 with fail
 generalize w.alloc (.cells #[.int .i64 st,.int .i64 no,.int .i64 mi,.int .i64 ar,.string cl,.int .i64 vo] 33) = w0 at *
 have c0:w0.cell? ⟨w.heap.size,0,none⟩ = some (.int .i64 st):=hcb0.out.cell 0
 have c1:w0.cell? ⟨w.heap.size,1,none⟩ = some (.int .i64 no):=hcb0.out.cell 1
 have c2:w0.cell? ⟨w.heap.size,2,none⟩ = some (.int .i64 mi):=hcb0.out.cell 2
 have c3:w0.cell? ⟨w.heap.size,3,none⟩ = some (.int .i64 ar):=hcb0.out.cell 3
 have c4:w0.cell? ⟨w.heap.size,4,none⟩ = some (.string cl):=hcb0.out.cell 4
 have c5:w0.cell? ⟨w.heap.size,5,none⟩ = some (.int .i64 vo):=hcb0.out.cell 5
 go_wp2_with fail
 refine (z1t m 0 4 _).mono ?_
 rw [H0.out]
 rintro e w2 ⟨rfl,rfl⟩
 cases t0
 case true =>
  go_wp2_with fail
  go_ret
  exact ⟨by rw [hfin.out];simp,hb0.out⟩
 case false =>
 skip
 go_wp2_with fail
 refine (z1t st 0 m1 _).mono ?_
 rw [H1.out]
 rintro e w2 ⟨rfl,rfl⟩
 cases t1
 case true =>
  go_wp2_with fail
  go_ret
  exact ⟨by rw [hfin.out];simp,hb0.out⟩
 case false =>
 skip
 go_wp2_with fail
 refine (z1t no 1 1048576 _).mono ?_
 rw [H2.out]
 rintro e w2 ⟨rfl,rfl⟩
 cases t2
 case true =>
  go_wp2_with fail
  go_ret
  exact ⟨by rw [hfin.out];simp,hb0.out⟩
 case false =>
 skip
 go_wp2_with fail
 refine (z1t mi 0 1439 _).mono ?_
 rw [H3.out]
 rintro e w2 ⟨rfl,rfl⟩
 cases t3
 case true =>
  go_wp2_with fail
  go_ret
  exact ⟨by rw [hfin.out];simp,hb0.out⟩
 case false =>
 skip
 go_wp2_with fail
 refine (z1t ar 0 1439 _).mono ?_
 rw [H4.out]
 rintro e w2 ⟨rfl,rfl⟩
 cases t4
 case true =>
  go_wp2_with fail
  go_ret
  exact ⟨by rw [hfin.out];simp,hb0.out⟩
 case false =>
 skip
 go_wp2_with fail
 refine (y0t cl Hs.out _).mono ?_
 unfold z8o
 rw [Hu.out]
 rintro e w2 ⟨rfl,rfl⟩
 cases u
 case false =>
  go_wp2_with fail
  go_ret
  exact ⟨by rw [hfin.out];simp,hb0.out⟩
 case true =>
 skip
 go_wp2_with fail
 refine (z1t vo 0 63 _).mono ?_
 rw [H5.out]
 rintro e w2 ⟨rfl,rfl⟩
 cases t5
 case true =>
  go_wp2_with fail
  go_ret
  exact ⟨by rw [hfin.out];simp,hb0.out⟩
 case false =>
 skip
 go_wp2_with fail
 go_ret
 exact ⟨by rw [hfin.out];simp,hb0.out⟩
end Go.Proofs.YtdblnbnofjggnaaGreatDoor
