/- Parts of the proofs of chapter 49's laws. -/
import Derived.Test.YtdblnbnofjggnaaGreatDoorP14
import Derived.Test.YtdblnbnofjggnaaGreatDoorP06
import Derived.Lib.AppendZeros
set_option maxHeartbeats 1000000
set_option maxRecDepth 100000
open Go.Lib renaming hid → hd_
open Go.Value renaming int → I, slice → Z
open Option renaming none → X, some → J
set_option linter.all false
namespace Go.Proofs.YtdblnbnofjggnaaGreatDoor
open Go.Proofs.Tryz
open Go.RowKit
theorem k2b.ofBts {P:Program} {tx e':TypeId} (hk:P.underlying tx=J (.slice e')) {B:Nat} {w:World} {x:Value} {m:List UInt8} (h:z6c B w m x):k2b P tx w x m:=by
 rcases h with ⟨rfl,oa,cap,rfl,hcm⟩|⟨hne,b,off,cap,rfl,h2,h3,h4,h5⟩
 ·cases oa with
  | none=>exact Src.ofNil (P:=P) w hk cap
  | some a=>exact k2b.ofCells (w:=w) hk (m:=[]) (by simp [z8a])
 ·refine k2b.ofCells (w:=w) hk (fun j u hu=>?_)
  obtain ⟨c,hc,rfl⟩:=z7n m j u hu
  have hpl:(⟨b,off,X⟩:Addr).add j=⟨b,off+j,X⟩:=by unfold Addr.add;split <;> simp_all
  rw [hpl];exact h5 j c hc
theorem j8r (n:Nat) (ni:Int) (hni:ni=(n:Int)) (h0:0<n) (h1:n≤10000000) (w:World) :
 Calls prog 202 #[Z X 0 0,I .i64 ni] w fun e w'=>∃ v,e=.returned v∧z3o 5 w' w.heap.size v []∧Below w.heap.size w w':=by
 subst hni
 obtain ⟨i,hi,hz,hs,hby⟩:=info_parts (P:=prog) (e:=5) (z:=I .u8 0) (size:=1) (bytes:=1) (by kernel_rfl)
 have hrun:=hd_ fun ty (w:World)=>Lib.run_append_nil_zeros (P:=prog) w 50 3 ty 5 i (I .u8 0) .i64 .i64 underlying50 (by kernel_rfl) hi hz n h0 (by rw [hs];decide) (by omega) (by rw [hby];omega)
 have g1:=grownCap_ge w n 0 5
 have g2:=grownCap_le_maxLen w n 0 5 (by unfold maxLen;omega)
 obtain ⟨G,hG⟩:∃ G,grownCap w n 0 5 = G:=⟨_,rfl⟩
 rw [hG] at g1 g2
 have b0:(0:Int)<(n:Int):=by omega
 have b1:(n:Int)≤10000000:=by omega
 have HG:=hd_ hG;have G2:=hd_ g2
 unfold maxLen at g2
 have g3:(G:Int)≤9223372036854775807:=by omega
 clear hi hz hs hby hG g2
 go_enter func202,ntmps202
 go_wp2_with (at_builtin;refine Lib.wpList_append_run _ rfl _ _ _ _ rfl _ _ rfl rfl _ _ (hrun.out _ _) ?_;rw [HG.out])
 go_ret
 refine ⟨_,rfl,?_,((Below.refl _ w).alloc (Nat.le_refl _) _).drew⟩
 have h:=World.ownsRow_made (e:=5) (base:=w.heap.size) (size:=1) w (Builtin.zeroCells #[I .u8 0] n++Builtin.zeroCells #[I .u8 0] (G - n)) G (Nat.le_refl _) G2.out (by rw [Array.size_append,size_zeroCells,size_zeroCells];simp;omega)
 exact h
theorem k6c (a:Nat) (v1 v2:Value) (l1 l2:List UInt8) (w:World) (c1:w.cell? ⟨a,0,X⟩=J v1) (c2:w.cell? ⟨a,1,X⟩=J v2) (h1:z6c w.heap.size w l1 v1) (h2:z6c w.heap.size w l2 v2) (hp:0<l1.length) (hl:l1.length+l2.length≤10000000) :
 Calls prog 181 #[Z (J ⟨a,0,X⟩) 2 2] w fun e w'=>∃ v,e=.returned v∧z3o 5 w' w.heap.size v (l1++l2)∧Below w.heap.size w w':=by
 have H1:=hd_ h1;have H2:=hd_ h2;have C1:=hd_ c1;have C2:=hd_ c2
 obtain ⟨o1,k1,rfl⟩:=h1.shape
 obtain ⟨o2,k2,rfl⟩:=h2.shape
 have e1:wrap64 ((l1.length:Int)+(l2.length:Int))=((l1.length+l2.length:Nat):Int):=by unfold wrap64;omega
 have e2:IntKind.i64.wrap ((l1.length:Int)+(l2.length:Int))=((l1.length+l2.length:Nat):Int):=(IntWalk.i64_left _).trans e1
 obtain ⟨n,hn⟩:∃ n,l1.length+l2.length=n:=⟨_,rfl⟩
 rw [hn] at e1 e2
 have hsum:(l1.length:Int)+(l2.length:Int)=(n:Int):=by omega
 have t1:decide ((l1.length:Int)<0)=false:=by simp
 have t2:decide ((n:Int)<0)=false:=by simp
 have b1:(l1.length:Int)≤10000000:=by omega
 have b2:(l2.length:Int)≤10000000:=by omega
 have Hn:=hd_ hn;have Hs:=hd_ hsum
 clear h1 h2 hn hsum
 go_enter func181,ntmps181
 go_wp2
 refine wp_loop_rounds 3 ?_
 rw [rounds_succ];go_wp2
 rw [rounds_succ];go_wp2
 rw [rounds_succ];go_wp2_with fail
 refine (j8r n _ rfl (by have:=Hn.out;omega) (by have:=Hn.out;omega) _).mono ?_
 rintro e w1 ⟨v,rfl,js,af⟩
 have HO1:=hd_ js;have aG:=hd_ af
 have d1:=z1a af C1.out
 have d2:=z1a af C2.out
 have S1:=hd_ (k2b.ofBts (P:=prog) underlying50 (H1.out.ext af))
 clear js af c1 c2
 go_wp2_with fail
 refine wp_loop_rounds 3 ?_
 rw [rounds_succ]
 go_wp2_with (at_builtin;refine z0e (e:=5) underlying50 (by kernel_rfl) rfl _ _ rfl w.heap.size v [] rfl HO1.out _ l1 rfl S1.out (by simp;omega) aG.out.size ?_;intro v2 w2 da al bv)
 rw [List.nil_append] at da
 have hlt:=fun g hg=>(World.ownsRow.lt HO1.out g hg).1
 have aj:Below w.heap.size w w2:=aG.out.grown al aG.out.size hlt
 have dh:=hd_ da;have au:=hd_ aj
 have f1:=z1a aj C1.out
 have f2:=z1a aj C2.out
 have S2:=hd_ (k2b.ofBts (P:=prog) underlying50 (H2.out.ext aj))
 clear da aj al bv d1 d2 hlt S1
 rw [rounds_succ]
 go_wp2_with (at_builtin;refine z0e (e:=5) underlying50 (by kernel_rfl) rfl _ _ rfl w.heap.size v2 l1 rfl dh.out _ l2 rfl S2.out (by omega) au.out.size ?_;intro v3 w3 dG bj eJ)
 have hlt:=fun g hg=>(World.ownsRow.lt dh.out g hg).1
 have aB:Below w.heap.size w w3:=au.out.grown bj au.out.size hlt
 have ip:=hd_ dG;have aA:=hd_ aB
 clear dG aB bj eJ hlt f1 f2 S2
 rw [rounds_succ]
 go_wp2
 go_ret
 exact ⟨v3,rfl,ip.out,aA.out⟩
def dv (l:List UInt8):Value:=.agg (z8a l).toArray
section
variable {P:Program} {w:World} {ops:Array Oper} {rest:List Oper} {o:Oper} {a:Act} {Q:Exit→Act→World→Prop}
theorem z9n {hgd:o.guard=X} (ty:TypeId) (x y:Operand) (ho:o.op=.store ty x y) (g:Nat) (l:List UInt8) (hl:l.length=32) (hx:a.eval x=.pointer (J ⟨g,0,X⟩)) (hy:a.eval y=dv l)
 (t:TypeId) (old:Array Value) (hg:w.heap[g]? = J (.cells old t (0,0))) (hold:old.size=32) (hi:(P.info? ty).map (·.size)=J 32)
 (h:∀ w',Hid (CB w' g t (z8a l))→Hid (w.grownBy w' (J g))→w'.heap.size=w.heap.size→wpList P ops Q rest (a.put o.dst undef) w'):wpList P ops Q (o::rest) a w:=by
 have hsz:(z8a l).toArray.size=32:=by rw [List.size_toArray,z8b,hl]
 refine wpList_store_row hgd ty x y ho g (z8a l).toArray hx hy t old hg (by rw [hsz];exact hi) (by rw [hsz,hold]) (x9f l) ?_
 refine h _ (setRow_heap _ _ _ _ _ _ hg) ?_ (size_setRow _ _ _)
 exact ⟨rfl,rfl,rfl,by rw [size_setRow];exact Nat.le_refl _,fun k hk hne=>by
  have hkg:k≠g:=fun e=>hne (by rw [e])
  simp [World.setRow,Array.getElem?_modify,Ne.symm hkg]⟩
theorem y1p {hgd:o.guard=X} (ty:TypeId) (x:Operand) (ho:o.op=.load ty x) (g:Nat) (l:List UInt8) (hl:l.length=32) (hx:a.eval x=.pointer (J ⟨g,0,X⟩))
 (t:TypeId) (d:TypeDesc) (hg:CB w g t (z8a l)) (hu:P.underlying ty=J d) (hd:(match d with | .struct _ | .array _ _=>true|_=>false)=true) (hi:(P.info? ty).map (·.size)=J 32)
 (h:wpList P ops Q rest (a.put o.dst (dv l)) w):wpList P ops Q (o::rest) a w :=
 wpList_load_row hgd ty x ho g hx t (z8a l).toArray (0,0) d hg hu hd (by rw [List.size_toArray,z8b,hl];exact hi) h
end
theorem y1w:(prog.info? 165).map (·.size)=J 32:=by kernel_rfl
theorem k7o (v:Value) (l:List UInt8) (w:World) (hl:l.length≤1000000) (hbl:z6c w.heap.size w l v) (gW:Laid w) :
 Calls prog 180 #[v] w fun e w'=>e=.returned (dv (sha l))∧Below w.heap.size w w':=by
 obtain ⟨oa,cap,rfl⟩:=hbl.shape
 exact j7r oa cap l w hl hbl gW
theorem j6b {w:World} {g:Nat} {t:TypeId} {l:List UInt8} (h:CB w g t (z8a l)) (hl:l.length=32):z6c w.heap.size w l (Z (J ⟨g,0,X⟩) 32 32) :=
 z6c.mk' hl.symm (by omega) (by unfold maxLen;omega) h.lt fun j c hj=>by rw [Nat.zero_add,h.cell,z8a];simp [hj]
theorem j7b {w:World} {base:Nat} {v:Value} {l:List UInt8} (h:z3o 5 w base v l):z6c w.heap.size w l v:=h.rd.bts
def y7b (t:List UInt8) (l:List UInt8):List UInt8:=sha (sha t++l)
theorem z4t (t l:List UInt8):(y7b t l).length=32:=y5e _
theorem y1m (s:ByteArray) (v:Value) (l:List UInt8) (w:World) (hs:s.size≤100000) (hl:l.length≤100000) (hb:z6c w.heap.size w l v) (hL:Laid w) :
 Calls prog 133 #[.string s,v] w fun e w'=>e=.returned (dv (y7b s.data.toList l))∧Below w.heap.size w w':=by
 have HB:=hd_ hb;have HL:=hd_ hL
 obtain ⟨oa,cap,rfl⟩:=hb.shape
 clear hb hL
 go_enter func133,ntmps133
 obtain ⟨w0,jt⟩:∃ w0,w.alloc (.cells #[I .u8 0,I .u8 0,I .u8 0,I .u8 0,I .u8 0,I .u8 0,I .u8 0,I .u8 0,I .u8 0,I .u8 0,I .u8 0,I .u8 0,I .u8 0,I .u8 0,I .u8 0,I .u8 0,I .u8 0,I .u8 0,I .u8 0,I .u8 0,I .u8 0,I .u8 0,I .u8 0,I .u8 0,I .u8 0,I .u8 0,I .u8 0,I .u8 0,I .u8 0,I .u8 0,I .u8 0,I .u8 0] 165)=w0:=⟨_,rfl⟩
 obtain ⟨k1,w1,hcv,af,hbt1⟩:=y3u s (by omega) w0
 have H0:Hid (CB w0 w.heap.size 165 (z8a (List.replicate 32 0))∧Below w.heap.size w w0∧w0.heap.size=w.heap.size+1):=by
  show _∧_∧_
  rw [← jt]
  exact ⟨heap_alloc_new w _,(Below.refl _ w).alloc (Nat.le_refl _) _,World.size_alloc _ _⟩
 rw [← jt] at hcv
 rw [H0.out.2.2] at hbt1
 have nD:=hd_ af;have Hbt1:=hd_ hbt1
 rw [jt] at hcv
 subst jt
 clear af hbt1
 obtain ⟨d1,kJ⟩:∃ d,sha s.data.toList=d:=⟨_,rfl⟩
 have Hd1:=hd_ kJ
 have hlen:=hd_ (y5e s.data.toList)
 rw [kJ] at hlen
 clear kJ
 go_wp2_with fail
 clear hcv
 generalize w.alloc (.cells #[I .u8 0,I .u8 0,I .u8 0,I .u8 0,I .u8 0,I .u8 0,I .u8 0,I .u8 0,I .u8 0,I .u8 0,I .u8 0,I .u8 0,I .u8 0,I .u8 0,I .u8 0,I .u8 0,I .u8 0,I .u8 0,I .u8 0,I .u8 0,I .u8 0,I .u8 0,I .u8 0,I .u8 0,I .u8 0,I .u8 0,I .u8 0,I .u8 0,I .u8 0,I .u8 0,I .u8 0,I .u8 0] 165)=w0 at *
 obtain ⟨H00,H01,H02⟩:=H0.out
 have HT:=hd_ H00;have HW:=hd_ H01
 clear H0 H00 H01 H02
 refine (k7o _ s.data.toList w1 (by simp;omega) Hbt1.out (HL.out.ext (z0a HW.out nD.out))).mono ?_
 rw [Hd1.out]
 rintro e w2 ⟨rfl,aj⟩
 have au:=hd_ (z0a nD.out aj)
 clear aj
 go_wp2_with (with_reducible refine z9n (hgd:=rfl) 165 (.tmp 5) (.tmp 8) rfl w2.heap.size d1 hlen.out rfl rfl 165 _ (heap_alloc_new _ _) rfl y1w ?_;intro w3 ev bj mF)
 have hz3':w3.heap.size=w2.heap.size+1:=by rw [mF];exact World.size_alloc _ _
 obtain ⟨ob,hob⟩:∃ ob,Obj.cells #[Z (J ⟨w2.heap.size,0,X⟩) 32 32,Z oa l.length cap] 50 = ob:=⟨_,rfl⟩
 have aB:Below w2.heap.size w2 w3:=(((Below.refl _ w2).alloc (Nat.le_refl _) _).grown bj.out (by simp) (fun k hk=>by injection hk;omega))
 have cO:Below w0.heap.size w0 (w3.alloc ob):=(z0a au.out aB).alloc (z0a au.out aB).size _
 have cH:=hd_ cO
 have hnew:=heap_alloc_new w3 ob
 rw [hz3'] at hnew
 have k0:(w3.alloc ob).cell? ⟨w2.heap.size+1,0,X⟩=J (Z (J ⟨w2.heap.size,0,X⟩) 32 32):=by rw [← hob] at hnew ⊢;simp [World.cell?,hnew]
 have k1':(w3.alloc ob).cell? ⟨w2.heap.size+1,1,X⟩=J (Z oa l.length cap):=by rw [← hob] at hnew ⊢;simp [World.cell?,hnew]
 have hbd:z6c (w3.alloc ob).heap.size (w3.alloc ob) d1 (Z (J ⟨w2.heap.size,0,X⟩) 32 32):=j6b ((ev.out).alloc ob) hlen.out
 rw [hob]
 refine (k6c (w2.heap.size+1) _ _ d1 l (w3.alloc ob) k0 k1' hbd (HB.out.ext (z0a HW.out cO)) (by rw [hlen.out];decide) (by rw [hlen.out];omega)).mono ?_
 rintro e w5 ⟨v5,rfl,eA,bp⟩
 have hb5':=z0a cO bp
 have bZ:=hd_ hb5'
 have iq:=hd_ (j7b eA)
 clear bp hb5' eA cO aB k0 k1' hbd ev bj mF hz3' hnew hob au
 obtain ⟨d2,nE⟩:∃ d,sha (d1++l)=d:=⟨_,rfl⟩
 have Hd2:=hd_ nE
 have hlen2:=hd_ (y5e (d1++l))
 rw [nE] at hlen2
 clear nE
 go_wp2_with fail
 refine (k7o _ (d1++l) w5 (by rw [List.length_append,hlen.out];omega) iq.out (HL.out.ext (z0a HW.out bZ.out))).mono ?_
 rw [Hd2.out]
 rintro e w6 ⟨rfl,dC⟩
 have hb6':=z0a bZ.out dC
 have hT:Hid (w6.heap[w.heap.size]? = J (.cells (z8a (List.replicate 32 0)).toArray 165 (0,0))):=(hb6'.block _ HT.out.lt).trans HT.out
 have kM:=hd_ (z0a HW.out hb6')
 clear dC hb6'
 go_wp2_with (with_reducible refine z9n (hgd:=rfl) 165 (.tmp 4) (.tmp 13) rfl w.heap.size d2 hlen2.out rfl rfl 165 _ hT.out rfl y1w ?_;intro w7 lQ io iS)
 refine bodyPost_ret (v:=dv d2) (results_cell_row rfl _ _ w.heap.size 165 (z8a d2).toArray (0,0) _ rfl lQ.out underlying165 rfl (by rw [List.size_toArray,z8b,hlen2.out];exact y1w)) rfl ?_
 refine ⟨?_,kM.out.grown io.out kM.out.size (fun k hk=>by injection hk;omega)⟩
 rw [← Hd2.out,← Hd1.out];rfl
end Go.Proofs.YtdblnbnofjggnaaGreatDoor
