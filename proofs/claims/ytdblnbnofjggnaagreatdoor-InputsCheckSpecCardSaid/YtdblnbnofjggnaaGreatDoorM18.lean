/- Parts of the proofs of chapter 49's laws: Dcc Erw. -/
import Derived.Test.YtdblnbnofjggnaaGreatDoorM14
import Derived.Test.YtdblnbnofjggnaaGreatDoorM06
import Derived.Lib.AppendZeros
set_option maxHeartbeats 1000000
set_option maxRecDepth 100000
open Go
open Lib renaming hid → hd_
namespace Go.Proofs.YtdblnbnofjggnaaGreatDoor
open Go.RowKit
theorem j7v.ofBts {P:Program} {tx e':TypeId} (hk:P.underlying tx = some (.slice e')) {B:Nat} {w:World} {x:Value} {m:List UInt8} (h:z9c B w m x):j7v P tx w x m:=by
 rcases h with ⟨rfl,oa,cap,rfl,hcm⟩ | ⟨hne,b,off,cap,rfl,h2,h3,h4,h5⟩
 · cases oa with
   | none=>exact Src.ofNil (P:=P) w hk cap
   | some a=>exact j7v.ofCells (w:=w) hk (m:=[]) (by simp [z5a])
 · refine j7v.ofCells (w:=w) hk (fun j u hu=>?_)
   obtain ⟨c,hc,rfl⟩:=z0j m j u hu
   have hpl:(⟨b,off,none⟩:Addr).add j = ⟨b,off + j,none⟩:=by unfold Addr.add;split <;> simp_all
   rw [hpl];exact h5 j c hc
theorem j3m (n:Nat) (ni:Int) (hni:ni = (n:Int)) (h0:0 < n) (h1:n ≤ 10000000) (w:World) :
 Calls Tryz.prog 202 #[.slice none 0 0,.int .i64 ni] w fun e w'=>∃ v,e = .returned v∧z0k 5 w' w.heap.size v []∧Below w.heap.size w w':=by
 subst hni
 obtain ⟨i,hi,hz,hs,hby⟩:=info_parts (P:=Tryz.prog) (e:=5) (z:=.int .u8 0) (size:=1) (bytes:=1) (by kernel_rfl)
 have hrun:=hd_ fun ty (w:World)=>Lib.run_append_nil_zeros (P:=Tryz.prog) w 50 3 ty 5 i (.int .u8 0) .i64 .i64 Tryz.underlying50 (by kernel_rfl) hi hz n h0 (by rw [hs];decide) (by omega) (by rw [hby];omega)
 have g1:=grownCap_ge w n 0 5
 have g2:=grownCap_le_maxLen w n 0 5 (by unfold maxLen;omega)
 obtain ⟨G,hG⟩:∃ G,grownCap w n 0 5 = G:=⟨_,rfl⟩
 rw [hG] at g1 g2
 have b0:(0:Int) < (n:Int):=by omega
 have b1:(n:Int) ≤ 10000000:=by omega
 have HG:=hd_ hG;have G2:=hd_ g2
 unfold maxLen at g2
 have g3:(G:Int) ≤ 9223372036854775807:=by omega
 clear hi hz hs hby hG g2
 go_enter Tryz.func202,Tryz.ntmps202
 go_wp2_with (at_builtin;refine Lib.wpList_append_run _ rfl _ _ _ _ rfl _ _ rfl rfl _ _ (hrun.out _ _) ?_;rw [HG.out])
 go_ret
 refine ⟨_,rfl,?_,((Below.refl _ w).alloc (Nat.le_refl _) _).drew⟩
 have h:=World.ownsRow_made (e:=5) (base:=w.heap.size) (size:=1) w (Builtin.zeroCells #[Value.int .u8 0] n ++ Builtin.zeroCells #[Value.int .u8 0] (G - n)) G (Nat.le_refl _) G2.out (by rw [Array.size_append,size_zeroCells,size_zeroCells];simp;omega)
 exact h
theorem j0x (a:Nat) (v1 v2:Value) (l1 l2:List UInt8) (w:World) (c1:w.cell? ⟨a,0,none⟩ = some v1) (c2:w.cell? ⟨a,1,none⟩ = some v2) (h1:z9c w.heap.size w l1 v1) (h2:z9c w.heap.size w l2 v2) (hp:0 < l1.length) (hl:l1.length + l2.length ≤ 10000000) :
 Calls Tryz.prog 181 #[.slice (some ⟨a,0,none⟩) 2 2] w fun e w'=>∃ v,e = .returned v∧z0k 5 w' w.heap.size v (l1 ++ l2)∧Below w.heap.size w w':=by
 have H1:=hd_ h1;have H2:=hd_ h2;have C1:=hd_ c1;have C2:=hd_ c2
 obtain ⟨o1,k1,rfl⟩:=h1.shape
 obtain ⟨o2,k2,rfl⟩:=h2.shape
 have e1:wrap64 ((l1.length:Int) + (l2.length:Int)) = ((l1.length + l2.length:Nat):Int):=by unfold wrap64;omega
 have e2:IntKind.i64.wrap ((l1.length:Int) + (l2.length:Int)) = ((l1.length + l2.length:Nat):Int):=(IntWalk.i64_left _).trans e1
 obtain ⟨n,hn⟩:∃ n,l1.length + l2.length = n:=⟨_,rfl⟩
 rw [hn] at e1 e2
 have hsum:(l1.length:Int) + (l2.length:Int) = (n:Int):=by omega
 have t1:decide ((l1.length:Int) < 0) = false:=by simp
 have t2:decide ((n:Int) < 0) = false:=by simp
 have b1:(l1.length:Int) ≤ 10000000:=by omega
 have b2:(l2.length:Int) ≤ 10000000:=by omega
 have Hn:=hd_ hn;have Hs:=hd_ hsum
 clear h1 h2 hn hsum
 go_enter Tryz.func181,Tryz.ntmps181
 go_wp2
 refine wp_loop_rounds 3 ?_
 rw [rounds_succ];go_wp2
 rw [rounds_succ];go_wp2
 rw [rounds_succ];go_wp2_with fail
 refine (j3m n _ rfl (by have:=Hn.out;omega) (by have:=Hn.out;omega) _).mono ?_
 rintro e w1 ⟨v,rfl,ho1,hb1⟩
 have HO1:=hd_ ho1;have HB1:=hd_ hb1
 have d1:=z1a hb1 C1.out
 have d2:=z1a hb1 C2.out
 have S1:=hd_ (j7v.ofBts (P:=Tryz.prog) Tryz.underlying50 (H1.out.ext hb1))
 clear ho1 hb1 c1 c2
 go_wp2_with fail
 refine wp_loop_rounds 3 ?_
 rw [rounds_succ]
 go_wp2_with (at_builtin;refine z9b (e:=5) Tryz.underlying50 (by kernel_rfl) rfl _ _ rfl w.heap.size v [] rfl HO1.out _ l1 rfl S1.out (by simp;omega) HB1.out.size ?_;intro v2 w2 ho2 hg2 hn2)
 rw [List.nil_append] at ho2
 have hlt:=fun g hg=>(World.ownsRow.lt HO1.out g hg).1
 have hb2:Below w.heap.size w w2:=HB1.out.grown hg2 HB1.out.size hlt
 have HO2:=hd_ ho2;have HB2:=hd_ hb2
 have f1:=z1a hb2 C1.out
 have f2:=z1a hb2 C2.out
 have S2:=hd_ (j7v.ofBts (P:=Tryz.prog) Tryz.underlying50 (H2.out.ext hb2))
 clear ho2 hb2 hg2 hn2 d1 d2 hlt S1
 rw [rounds_succ]
 go_wp2_with (at_builtin;refine z9b (e:=5) Tryz.underlying50 (by kernel_rfl) rfl _ _ rfl w.heap.size v2 l1 rfl HO2.out _ l2 rfl S2.out (by omega) HB2.out.size ?_;intro v3 w3 ho3 hg3 hn3)
 have hlt:=fun g hg=>(World.ownsRow.lt HO2.out g hg).1
 have hb3:Below w.heap.size w w3:=HB2.out.grown hg3 HB2.out.size hlt
 have HO3:=hd_ ho3;have HB3:=hd_ hb3
 clear ho3 hb3 hg3 hn3 hlt f1 f2 S2
 rw [rounds_succ]
 go_wp2
 go_ret
 exact ⟨v3,rfl,HO3.out,HB3.out⟩
def dv (l:List UInt8):Value:=.agg (z5a l).toArray
section
variable {P:Program} {w:World} {ops:Array Oper} {rest:List Oper} {o:Oper} {a:Act} {Q:Exit→Act→World→Prop}
theorem z8d {hgd:o.guard = none} (ty:TypeId) (x y:Operand) (ho:o.op = .store ty x y) (g:Nat) (l:List UInt8) (hl:l.length = 32) (hx:a.eval x = .pointer (some ⟨g,0,none⟩)) (hy:a.eval y = dv l)
 (t:TypeId) (old:Array Value) (hg:w.heap[g]? = some (.cells old t (0,0))) (hold:old.size = 32) (hi:(P.info? ty).map (·.size) = some 32)
 (h:∀ w',Hid (CB w' g t (z5a l))→Hid (w.grownBy w' (some g))→w'.heap.size = w.heap.size→wpList P ops Q rest (a.put o.dst undef) w'):wpList P ops Q (o :: rest) a w:=by
 have hsz:(z5a l).toArray.size = 32:=by rw [List.size_toArray,z3b,hl]
 refine wpList_store_row hgd ty x y ho g (z5a l).toArray hx hy t old hg (by rw [hsz];exact hi) (by rw [hsz,hold]) (x5c l) ?_
 refine h _ (setRow_heap _ _ _ _ _ _ hg) ?_ (size_setRow _ _ _)
 exact ⟨rfl,rfl,rfl,by rw [size_setRow];exact Nat.le_refl _,fun k hk hne=>by
  have hkg:k ≠ g:=fun e=>hne (by rw [e])
  simp [World.setRow,Array.getElem?_modify,Ne.symm hkg]⟩
theorem z8v {hgd:o.guard = none} (ty:TypeId) (x:Operand) (ho:o.op = .load ty x) (g:Nat) (l:List UInt8) (hl:l.length = 32) (hx:a.eval x = .pointer (some ⟨g,0,none⟩))
 (t:TypeId) (d:TypeDesc) (hg:CB w g t (z5a l)) (hu:P.underlying ty = some d) (hd:(match d with | .struct _ | .array _ _=>true | _=>false) = true) (hi:(P.info? ty).map (·.size) = some 32)
 (h:wpList P ops Q rest (a.put o.dst (dv l)) w):wpList P ops Q (o :: rest) a w :=
 wpList_load_row hgd ty x ho g hx t (z5a l).toArray (0,0) d hg hu hd (by rw [List.size_toArray,z3b,hl];exact hi) h
end
theorem z3n:(Tryz.prog.info? 165).map (·.size) = some 32:=by kernel_rfl
theorem k4h (v:Value) (l:List UInt8) (w:World) (hl:l.length ≤ 1000000) (hbl:z9c w.heap.size w l v) (hLd:Laid w) :
 Calls Tryz.prog 180 #[v] w fun e w'=>e = .returned (dv (sha l))∧Below w.heap.size w w':=by
 obtain ⟨oa,cap,rfl⟩:=hbl.shape
 exact j2m oa cap l w hl hbl hLd
theorem y3m {w:World} {g:Nat} {t:TypeId} {l:List UInt8} (h:CB w g t (z5a l)) (hl:l.length = 32):z9c w.heap.size w l (.slice (some ⟨g,0,none⟩) 32 32) :=
 z9c.mk' hl.symm (by omega) (by unfold maxLen;omega) h.lt fun j c hj=>by rw [Nat.zero_add,h.cell,z5a];simp [hj]
theorem y8c {w:World} {base:Nat} {v:Value} {l:List UInt8} (h:z0k 5 w base v l):z9c w.heap.size w l v:=h.rd.bts
def z0q (t:List UInt8) (l:List UInt8):List UInt8:=sha (sha t ++ l)
theorem z6i (t l:List UInt8):(z0q t l).length = 32:=z7t _
theorem y8i (s:ByteArray) (v:Value) (l:List UInt8) (w:World) (hs:s.size ≤ 100000) (hl:l.length ≤ 100000) (hb:z9c w.heap.size w l v) (hL:Laid w) :
 Calls Tryz.prog 133 #[.string s,v] w fun e w'=>e = .returned (dv (z0q s.data.toList l))∧Below w.heap.size w w':=by
 have HB:=hd_ hb;have HL:=hd_ hL
 obtain ⟨oa,cap,rfl⟩:=hb.shape
 clear hb hL
 go_enter Tryz.func133,Tryz.ntmps133
 obtain ⟨w0,hw0⟩:∃ w0,w.alloc (.cells #[.int .u8 0,.int .u8 0,.int .u8 0,.int .u8 0,.int .u8 0,.int .u8 0,.int .u8 0,.int .u8 0,.int .u8 0,.int .u8 0,.int .u8 0,.int .u8 0,.int .u8 0,.int .u8 0,.int .u8 0,.int .u8 0,.int .u8 0,.int .u8 0,.int .u8 0,.int .u8 0,.int .u8 0,.int .u8 0,.int .u8 0,.int .u8 0,.int .u8 0,.int .u8 0,.int .u8 0,.int .u8 0,.int .u8 0,.int .u8 0,.int .u8 0,.int .u8 0] 165) = w0:=⟨_,rfl⟩
 obtain ⟨k1,w1,hcv,hb1,hbt1⟩:=z2y s (by omega) w0
 have H0:Hid (CB w0 w.heap.size 165 (z5a (List.replicate 32 0))∧Below w.heap.size w w0∧w0.heap.size = w.heap.size + 1):=by
  show _∧_∧_
  rw [← hw0]
  exact ⟨heap_alloc_new w _,(Below.refl _ w).alloc (Nat.le_refl _) _,World.size_alloc _ _⟩
 rw [← hw0] at hcv
 rw [H0.out.2.2] at hbt1
 have Hb1:=hd_ hb1;have Hbt1:=hd_ hbt1
 rw [hw0] at hcv
 subst hw0
 clear hb1 hbt1
 obtain ⟨d1,hd1⟩:∃ d,sha s.data.toList = d:=⟨_,rfl⟩
 have Hd1:=hd_ hd1
 have hlen:=hd_ (z7t s.data.toList)
 rw [hd1] at hlen
 clear hd1
 go_wp2_with fail
 clear hcv
 generalize w.alloc (.cells #[.int .u8 0,.int .u8 0,.int .u8 0,.int .u8 0,.int .u8 0,.int .u8 0,.int .u8 0,.int .u8 0,.int .u8 0,.int .u8 0,.int .u8 0,.int .u8 0,.int .u8 0,.int .u8 0,.int .u8 0,.int .u8 0,.int .u8 0,.int .u8 0,.int .u8 0,.int .u8 0,.int .u8 0,.int .u8 0,.int .u8 0,.int .u8 0,.int .u8 0,.int .u8 0,.int .u8 0,.int .u8 0,.int .u8 0,.int .u8 0,.int .u8 0,.int .u8 0] 165) = w0 at *
 obtain ⟨H00,H01,H02⟩:=H0.out
 have HT:=hd_ H00;have HW:=hd_ H01
 clear H0 H00 H01 H02
 refine (k4h _ s.data.toList w1 (by simp;omega) Hbt1.out (HL.out.ext (z0a HW.out Hb1.out))).mono ?_
 rw [Hd1.out]
 rintro e w2 ⟨rfl,hb2⟩
 have HB2:=hd_ (z0a Hb1.out hb2)
 clear hb2
 go_wp2_with (with_reducible refine z8d (hgd:=rfl) 165 (.tmp 5) (.tmp 8) rfl w2.heap.size d1 hlen.out rfl rfl 165 _ (heap_alloc_new _ _) rfl z3n ?_;intro w3 hc3 hg3 hz3)
 have hz3':w3.heap.size = w2.heap.size + 1:=by rw [hz3];exact World.size_alloc _ _
 obtain ⟨ob,hob⟩:∃ ob,Obj.cells #[.slice (some ⟨w2.heap.size,0,none⟩) 32 32,.slice oa l.length cap] 50 = ob:=⟨_,rfl⟩
 have hb3:Below w2.heap.size w2 w3:=(((Below.refl _ w2).alloc (Nat.le_refl _) _).grown hg3.out (by simp) (fun k hk=>by injection hk;omega))
 have hb4:Below w0.heap.size w0 (w3.alloc ob):=(z0a HB2.out hb3).alloc (z0a HB2.out hb3).size _
 have HB4:=hd_ hb4
 have hnew:=heap_alloc_new w3 ob
 rw [hz3'] at hnew
 have k0:(w3.alloc ob).cell? ⟨w2.heap.size + 1,0,none⟩ = some (.slice (some ⟨w2.heap.size,0,none⟩) 32 32):=by rw [← hob] at hnew ⊢;simp [World.cell?,hnew]
 have k1':(w3.alloc ob).cell? ⟨w2.heap.size + 1,1,none⟩ = some (.slice oa l.length cap):=by rw [← hob] at hnew ⊢;simp [World.cell?,hnew]
 have hbd:z9c (w3.alloc ob).heap.size (w3.alloc ob) d1 (.slice (some ⟨w2.heap.size,0,none⟩) 32 32):=y3m ((hc3.out).alloc ob) hlen.out
 rw [hob]
 refine (j0x (w2.heap.size + 1) _ _ d1 l (w3.alloc ob) k0 k1' hbd (HB.out.ext (z0a HW.out hb4)) (by rw [hlen.out];decide) (by rw [hlen.out];omega)).mono ?_
 rintro e w5 ⟨v5,rfl,ho5,hb5⟩
 have hb5':=z0a hb4 hb5
 have HB5:=hd_ hb5'
 have HO5:=hd_ (y8c ho5)
 clear hb5 hb5' ho5 hb4 hb3 k0 k1' hbd hc3 hg3 hz3 hz3' hnew hob HB2
 obtain ⟨d2,hd2⟩:∃ d,sha (d1 ++ l) = d:=⟨_,rfl⟩
 have Hd2:=hd_ hd2
 have hlen2:=hd_ (z7t (d1 ++ l))
 rw [hd2] at hlen2
 clear hd2
 go_wp2_with fail
 refine (k4h _ (d1 ++ l) w5 (by rw [List.length_append,hlen.out];omega) HO5.out (HL.out.ext (z0a HW.out HB5.out))).mono ?_
 rw [Hd2.out]
 rintro e w6 ⟨rfl,hb6⟩
 have hb6':=z0a HB5.out hb6
 have hT:Hid (w6.heap[w.heap.size]? = some (.cells (z5a (List.replicate 32 0)).toArray 165 (0,0))):=(hb6'.block _ HT.out.lt).trans HT.out
 have HB6:=hd_ (z0a HW.out hb6')
 clear hb6 hb6'
 go_wp2_with (with_reducible refine z8d (hgd:=rfl) 165 (.tmp 4) (.tmp 13) rfl w.heap.size d2 hlen2.out rfl rfl 165 _ hT.out rfl z3n ?_;intro w7 hc7 hg7 hz7)
 refine bodyPost_ret (v:=dv d2) (results_cell_row rfl _ _ w.heap.size 165 (z5a d2).toArray (0,0) _ rfl hc7.out Tryz.underlying165 rfl (by rw [List.size_toArray,z3b,hlen2.out];exact z3n)) rfl ?_
 refine ⟨?_,HB6.out.grown hg7.out HB6.out.size (fun k hk=>by injection hk;omega)⟩
 rw [← Hd2.out,← Hd1.out];rfl
theorem j4m (x:W32) (r:Nat) (ri:Int) (hr:ri = (r:Int)) (h1:1 ≤ r) (h2:r ≤ 31) (w:World):Calls Tryz.prog 214 #[.int .u32 (iw x),.int .i64 ri] w fun e w'=>e = .returned (.int .u32 (iw (ror x r)))∧∃ n,w' = w.drewN n:=by
 subst hr
 have b1:(1:Int) ≤ (r:Int):=by omega
 have b2:(r:Int) ≤ 31:=by omega
 have e1:IntKind.i64.wrap (32 - (r:Int)) = 32 - (r:Int):=IntWalk.i64_in _ (by omega)
 have b3:(0:Int) ≤ 32 - (r:Int):=by omega
 have b4:((32:Int) - (r:Int)).toNat = 32 - r:=by omega
 have bx:=x1o x
 obtain ⟨bx1,bx2⟩:=bx
 have hrr:=hd_ (k3v x r h2)
 clear h1 h2
 go_enter Tryz.func214,Tryz.ntmps214
 go_wp2
 go_quiet (fail)
 rw [k4e,k5e,bor,show x >>> r ||| x <<< (32 - r) = ror x r by rw [BitVec.or_comm];exact hrr.out]
 go_wp2
 go_ret
 exact ⟨rfl,_,rfl⟩
theorem x1y (c0 c1 c2 c3:UInt8) (r:List UInt8):bits BinOp.or .u32 (bits BinOp.or .u32 (bits BinOp.or .u32 ((c0.toNat:Int) % 4294967296 * 16777216 % 4294967296) ((c1.toNat:Int) % 4294967296 * 65536 % 4294967296)) ((c2.toNat:Int) % 4294967296 * 256 % 4294967296)) ((c3.toNat:Int) % 4294967296) = iw (j6k (c0 :: c1 :: c2 :: c3 :: r)):=by
 have hb:∀ c:UInt8,(c.toNat:Int) % 4294967296 = iw (BitVec.ofNat 32 c.toNat):=fun c=>by unfold iw;rw [BitVec.toNat_ofNat];have:=c.toNat_lt;omega
 have s1:∀ x:W32,iw x * (16777216:Int) % (4294967296:Int) = iw (x <<< 24):=fun x=>k5e x 24
 have s2:∀ x:W32,iw x * (65536:Int) % (4294967296:Int) = iw (x <<< 16):=fun x=>k5e x 16
 have s3:∀ x:W32,iw x * (256:Int) % (4294967296:Int) = iw (x <<< 8):=fun x=>k5e x 8
 rw [hb,hb,hb,hb,s1,s2,s3,bor,bor,bor]
 congr 1
 show _ = ((((0:W32) <<< 8 ||| BitVec.ofNat 32 c0.toNat) <<< 8 ||| BitVec.ofNat 32 c1.toNat) <<< 8 ||| BitVec.ofNat 32 c2.toNat) <<< 8 ||| BitVec.ofNat 32 c3.toNat
 generalize BitVec.ofNat 32 c0.toNat = a
 generalize BitVec.ofNat 32 c1.toNat = b
 generalize BitVec.ofNat 32 c2.toNat = c
 generalize BitVec.ofNat 32 c3.toNat = d
 simp [BitVec.shiftLeft_or_distrib,← BitVec.shiftLeft_add]
theorem x2y (b off len cap:Nat) (l:List UInt8) (w:World) (hl:4 ≤ l.length) (hlen:4 ≤ len) (h:BL w b off l) :
 Calls Tryz.prog 213 #[.slice (some ⟨b,off,none⟩) len cap] w fun e w'=>e = .returned (.int .u32 (iw (j6k l)))∧∃ n,w' = w.drewN n:=by
 obtain ⟨c0,c1,c2,c3,r,rfl⟩:∃ c0 c1 c2 c3 r,l = c0 :: c1 :: c2 :: c3 :: r:=by
  match l,hl with
  | c0 :: c1 :: c2 :: c3 :: r,_=>exact ⟨c0,c1,c2,c3,r,rfl⟩
 have h0:w.cell? ⟨b,off,none⟩ = some (.int .u8 (c0.toNat:Int)):=h 0 c0 rfl
 have h1:=h 1 c1 rfl
 have h2:=h 2 c2 rfl
 have h3:=h 3 c3 rfl
 have hv:=hd_ (x1y c0 c1 c2 c3 r)
 have g1:(4:Int) ≤ (len:Int):=by omega
 have g2:(0:Int) < (len:Int):=by omega
 have g3:(1:Int) < (len:Int):=by omega
 have g4:(2:Int) < (len:Int):=by omega
 have g5:(3:Int) < (len:Int):=by omega
 have g6:0 < len:=by omega
 clear h hl
 go_enter Tryz.func213,Tryz.ntmps213
 go_wp2
 go_quiet (fail)
 rw [hv.out]
 go_wp2
 go_ret
 exact ⟨rfl,_,rfl⟩
end Go.Proofs.YtdblnbnofjggnaaGreatDoor
