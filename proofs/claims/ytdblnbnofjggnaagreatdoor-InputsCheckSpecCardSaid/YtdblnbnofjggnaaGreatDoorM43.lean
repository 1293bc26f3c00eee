/- Parts of the proofs of chapter 49's laws: Jrk Jce Jcu Jcw Jcy Jcz Jcs. -/
import Derived.Test.YtdblnbnofjggnaaGreatDoorM34
import Derived.Test.YtdblnbnofjggnaaGreatDoorM12
import Derived.Test.YtdblnbnofjggnaaGreatDoorM38
import Derived.Test.YtdblnbnofjggnaaGreatDoorM37
import Derived.Test.YtdblnbnofjggnaaGreatDoorM24
import Derived.Test.YtdblnbnofjggnaaGreatDoorM39
set_option maxHeartbeats 8000000
set_option maxRecDepth 100000
open Go
open Lib renaming hid → hd_
open Nat renaming lt_of_lt_of_le → lL
open Nat renaming le_trans → lT
namespace Go.Proofs.YtdblnbnofjggnaaGreatDoor
open Go.RowKit
theorem z7q (x:Inp) (s:Slc) (w:World) (hx:InpR w x s) (z1:x.text.size ≤ 9223372036854775807) (z2:x.flt.call.size ≤ 9223372036854775807) (z3:x.rep.cl.size ≤ 9223372036854775807):Calls Tryz.prog 17 #[x.v s] w (j1t x w):=by
 obtain ⟨b1,h1⟩:∃ b,inB x.mi 0 1439 = b:=⟨_,rfl⟩
 obtain ⟨b2,h2⟩:∃ b,inB x.ce 0 3 = b:=⟨_,rfl⟩
 obtain ⟨b3,h3⟩:∃ b,inB x.no 1 1048576 = b:=⟨_,rfl⟩
 obtain ⟨db,hd⟩:∃ b,decide (x = z4i x) = b:=⟨_,rfl⟩
 obtain ⟨fb,hf⟩:∃ b,(inB x.kind 1 10 && z6q x) = b:=⟨_,rfl⟩
 have HOk:Hid (okI x = (b1 && b2 && b3 && db && fb)):=hd_ (by
  unfold okI y9d
  rw [h1,h2,h3,← hf,← hd,show decide (z4i x = x) = decide (x = z4i x) from decide_eq_decide.2 ⟨Eq.symm,Eq.symm⟩]
  cases b1 <;> cases b2 <;> cases b3 <;> cases inB x.kind 1 10 <;> cases decide (x = z4i x) <;> rfl)
 have H1:=hd_ (fun W=>z9d x.mi 0 1439 W);have H2:=hd_ (fun W=>z9d x.ce 0 3 W);have H3':=hd_ (fun W=>z9d x.no 1 1048576 W)
 rw [h1] at H1;rw [h2] at H2;rw [h3] at H3'
 have HDb:=hd_ hd;have HFb:=hd_ hf
 have hcx:=z6a w (bI x s) 41 (x.cells s) rfl
 have HI0:=hd_ hcx;have HB0:=hd_ (z5b (w:=w) (bI x s));have HXR:=hd_ hx
 have HSO:=hd_ (x7f x)
 clear h1 h2 h3 hd hf hcx hx
 change Calls Tryz.prog 17 #[.agg (x.cells s).toArray] w _
 go_enter Tryz.func17,Tryz.ntmps17
 go_upto_region 1 with fail
 change Code.wp _ _ _ _ (w.alloc (bI x s))
 generalize w.alloc (bI x s) = w1 at *
 have HR3:Hid (w1.rangeAt w.heap.size 0 (stC x)):=y0e HI0.out
 have hsz:=HI0.out.lt
 have HSZ:=hd_ hsz
 have HZ3:Hid (CB (w1.alloc (.cells [Value.int .i64 0,.int .i64 0,.int .i64 0].toArray 23)) w1.heap.size 23 [.int .i64 0,.int .i64 0,.int .i64 0]):=z6a w1 _ _ _ rfl
 clear hsz
 go_upto_region 2 with (first
  | (have _g:=HR3.out;refine z7a (by rfl) 23 (.tmp 4) rfl w.heap.size 0 rfl (stC x) _ HR3.out Tryz.underlying23 rfl (by kernel_rfl) ?_;clear HR3)
  | (have _g:=HSO.out;refine z4a rfl 23 (.tmp 3) (.tmp 5) rfl w1.heap.size (stC x) rfl rfl 23 _ HZ3.out (by rfl) (by kernel_rfl) HSO.out (fun w2 H3 HW2 HZ2=>?_);clear HSO))
 have hz:Below w1.heap.size w1 w2:=(z5b (w:=w1) (.cells [Value.int .i64 0,.int .i64 0,.int .i64 0].toArray 23)).grown HW2.out (by simp) (fun q e=>by injection e with e;omega)
 have HI:=hd_ (HI0.out.ext hz);have HB:=hd_ (z0a HB0.out hz)
 clear HI0 HB0 hz HW2 HZ2 HZ3
 generalize w1.heap.size = g3 at *
 refine z9a (S:=fun w'=>CB w' w.heap.size 41 (x.cells s)∧CB w' g3 23 (stC x)) (late:=fun _=>false) (by kernel_rfl) ⟨HI.out.ext (Below.refl w2.heap.size w2).drew,H3.out.ext (Below.refl w2.heap.size w2).drew⟩ (fun hHeld=>?_)
 have hdr:=(Below.refl w2.heap.size w2).drew
 replace HI:=hd_ (HI.out.ext hdr);replace H3:=hd_ (H3.out.ext hdr);replace HB:=hd_ (z0a HB.out hdr);replace HXR:=hd_ (HXR.out)
 clear hdr
 generalize w2.drew = W at *
 refine tkL (some 6) 0 ?_
 refine tkL (some 7) 1 ?_ (hy:=fun wS hSw=>by have e0:wS.cell? ⟨g3,0,none⟩ = some (.int .i64 x.mi):=hSw.2.cell 0;go_simp;first | done | with_reducible rfl)
 refine rdL 2 fun K hK=>?_
 go_simp
 go_at_call 44
 refine (H1.out W).mono ?_
 rintro e w' ⟨rfl,rfl⟩
 refine z8l hK ⟨HI.out,H3.out⟩ fun hHeld=>?_
 clear hK K
 refine tkL (some 9) 3 ?_
 refine tkL (some 10) 4 ?_
 cases b1
 case false =>
  have HNo:Hid (okI x = false):=HOk.out
  refine z6o (some 11) 5 ?_
  refine z6o (some 12) 6 ?_
  refine z6o (some 13) 7 ?_
  refine z6o (some 14) 8 ?_
  refine tkL (some 15) 9 ?_
  refine tkL (some 16) 10 ?_
  refine z6o (some 17) 11 ?_
  refine z6o (some 18) 12 ?_
  refine z6o (some 19) 13 ?_
  refine z6o (some 20) 14 ?_
  refine tkL (some 21) 15 ?_
  refine tkL (some 22) 16 ?_
  refine z6o (some 23) 17 ?_
  refine z6o (some 24) 18 ?_
  refine z6o (some 25) 19 ?_
  refine z6o (some 26) 20 ?_
  refine z6o (some 27) 21 ?_
  refine tkL (some 28) 22 ?_
  refine tkL (some 29) 23 ?_
  refine z6o (some 30) 24 ?_
  refine z6o (some 31) 25 ?_
  refine z6o (some 32) 26 ?_
  refine tkL (some 33) 27 ?_
  refine z6b (by kernel_rfl) ?_ _
  go_wp2_with fail
  go_ret
  exact z4l HNo.out HB.out
 refine tkL (some 11) 5 ?_
 refine tkL (some 12) 6 ?_ (hy:=fun wS hSw=>by have e0:wS.cell? ⟨g3,1,none⟩ = some (.int .i64 x.ce):=hSw.2.cell 1;go_simp;first | done | with_reducible rfl)
 refine rdL 7 fun K hK=>?_
 go_simp
 go_at_call 44
 refine (H2.out W).mono ?_
 rintro e w' ⟨rfl,rfl⟩
 refine z8l hK ⟨HI.out,H3.out⟩ fun hHeld=>?_
 clear hK K
 refine tkL (some 14) 8 ?_
 refine tkL (some 15) 9 ?_
 refine tkL (some 16) 10 ?_
 cases b2
 case false =>
  have HNo:Hid (okI x = false):=HOk.out
  refine z6o (some 17) 11 ?_
  refine z6o (some 18) 12 ?_
  refine z6o (some 19) 13 ?_
  refine z6o (some 20) 14 ?_
  refine tkL (some 21) 15 ?_
  refine tkL (some 22) 16 ?_
  refine z6o (some 23) 17 ?_
  refine z6o (some 24) 18 ?_
  refine z6o (some 25) 19 ?_
  refine z6o (some 26) 20 ?_
  refine z6o (some 27) 21 ?_
  refine tkL (some 28) 22 ?_
  refine tkL (some 29) 23 ?_
  refine z6o (some 30) 24 ?_
  refine z6o (some 31) 25 ?_
  refine z6o (some 32) 26 ?_
  refine tkL (some 33) 27 ?_
  refine z6b (by kernel_rfl) ?_ _
  go_wp2_with fail
  go_ret
  exact z4l HNo.out HB.out
 refine tkL (some 17) 11 ?_
 refine tkL (some 18) 12 ?_ (hy:=fun wS hSw=>by have e0:wS.cell? ⟨g3,2,none⟩ = some (.int .i64 x.no):=hSw.2.cell 2;go_simp;first | done | with_reducible rfl)
 refine rdL 13 fun K hK=>?_
 go_simp
 go_at_call 44
 refine (H3'.out W).mono ?_
 rintro e w' ⟨rfl,rfl⟩
 refine z8l hK ⟨HI.out,H3.out⟩ fun hHeld=>?_
 clear hK K
 refine tkL (some 20) 14 ?_
 refine tkL (some 21) 15 ?_
 refine tkL (some 22) 16 ?_
 cases b3
 case false =>
  have HNo:Hid (okI x = false):=HOk.out
  refine z6o (some 23) 17 ?_
  refine z6o (some 24) 18 ?_
  refine z6o (some 25) 19 ?_
  refine z6o (some 26) 20 ?_
  refine z6o (some 27) 21 ?_
  refine tkL (some 28) 22 ?_
  refine tkL (some 29) 23 ?_
  refine z6o (some 30) 24 ?_
  refine z6o (some 31) 25 ?_
  refine z6o (some 32) 26 ?_
  refine tkL (some 33) 27 ?_
  refine z6b (by kernel_rfl) ?_ _
  go_wp2_with fail
  go_ret
  exact z4l HNo.out HB.out
 refine z9s (some 23) 17 rfl (.agg (x.cells s).toArray) (yieldsIf_load_mid (by rfl) 41 _ rfl w.heap.size 0 rfl (x.cells s) _ (fun wS hSw=>z1d hSw.1) Tryz.underlying41 rfl (by kernel_rfl)) ?_
 refine z9s (some 24) 18 rfl (.agg (x.cells s).toArray) (yieldsIf_load_mid (by rfl) 41 _ rfl w.heap.size 0 rfl (x.cells s) _ (fun wS hSw=>z1d hSw.1) Tryz.underlying41 rfl (by kernel_rfl)) ?_
 refine rdL 19 fun K hK=>?_
 go_simp
 go_at_call 45
 refine (j3n x s W (HXR.out.ext HB.out)).mono ?_
 rintro e w4 ⟨s',rfl,hr4,hb4⟩
 have HR4:=hd_ hr4
 replace HI:=hd_ (HI.out.ext hb4);replace H3:=hd_ (H3.out.ext hb4);replace HB:=hd_ (z0a HB.out hb4)
 clear hr4 hb4
 refine z8l hK ⟨HI.out,H3.out⟩ fun hHeld=>?_
 clear hK K
 refine rdL 20 fun K hK=>?_
 go_simp
 go_at_call 18
 refine (y0w x (z4i x) s s' w4 (HXR.out.ext HB.out) HR4.out).mono ?_
 rintro e w5 ⟨rfl,hb5⟩
 rw [HDb.out]
 replace HI:=hd_ (HI.out.ext hb5);replace H3:=hd_ (H3.out.ext hb5);replace HB:=hd_ (z0a HB.out hb5)
 clear HR4 hb5
 refine z8l hK ⟨HI.out,H3.out⟩ fun hHeld=>?_
 clear hK K
 refine tkL (some 27) 21 ?_
 refine tkL (some 28) 22 ?_
 refine tkL (some 29) 23 ?_
 cases db
 case false =>
  have HNo:Hid (okI x = false):=HOk.out
  refine z6o (some 30) 24 ?_
  refine z6o (some 31) 25 ?_
  refine z6o (some 32) 26 ?_
  refine tkL (some 33) 27 ?_
  refine z6b (by kernel_rfl) ?_ _
  go_wp2_with fail
  go_ret
  exact z4l HNo.out HB.out
 refine z9s (some 30) 24 rfl (.agg (x.cells s).toArray) (yieldsIf_load_mid (by rfl) 41 _ rfl w.heap.size 0 rfl (x.cells s) _ (fun wS hSw=>z1d hSw.1) Tryz.underlying41 rfl (by kernel_rfl)) ?_
 refine rdL 25 fun K hK=>?_
 go_simp
 go_at_call 46
 refine (x5s x s w5 (HXR.out.ext HB.out) z1 z2 z3).mono ?_
 rintro e w6 ⟨rfl,hb6⟩
 rw [HFb.out]
 replace HI:=hd_ (HI.out.ext hb6);replace H3:=hd_ (H3.out.ext hb6);replace HB:=hd_ (z0a HB.out hb6)
 clear hb6
 refine z8l hK ⟨HI.out,H3.out⟩ fun hHeld=>?_
 clear hK K
 refine tkL (some 32) 26 ?_
 refine tkL (some 33) 27 ?_
 refine z6b (by kernel_rfl) ?_ _
 cases fb
 case false =>
  have HNo:Hid (okI x = false):=HOk.out
  go_wp2_with fail
  go_ret
  exact z4l HNo.out HB.out
 case true =>
  have HYes:Hid (okI x = true):=HOk.out
  go_wp2_with fail
  go_ret
  exact j2d HYes.out HB.out
theorem y7x (l:List V):fm (lV l) = fms l:=by unfold lV;simp [fm,ByteArray.toList_eq]
theorem y8x (l:List V):dp (lV l) = dps l + 1:=by unfold lV;simp [dp]
theorem k3t (s:ByteArray):fm (tV s) = true:=by unfold tV;simp [fm]
theorem k4t (s:ByteArray):dp (tV s) = 0:=by unfold tV;simp [dp]
theorem j8d (n:Int):fm (iV n) = true:=by unfold iV;simp [fm,ByteArray.toList_eq]
theorem j9d (n:Int):dp (iV n) = 0:=by unfold iV;simp [dp]
theorem k6l (b:Bool):fm (bV b) = true:=j8d _
theorem k7l (b:Bool):dp (bV b) = 0:=j9d _
theorem j6t (l:List Int):fm (nsV l) = true:=by unfold nsV;rw [y7x];exact (j9x l).1
theorem j7t (l:List Int):dp (nsV l) = 1:=by unfold nsV;rw [y8x,(j9x l).2]
theorem j8t (a b:Int):fm (spV a b) = true:=j6t [a,b]
theorem j9t (a b:Int):dp (spV a b) = 1:=j7t [a,b]
theorem j2z (c:Cut):fm (z2s c) = true:=by unfold z2s;rw [y7x];simp [fms,k6l,j8d,j8t]
theorem j3z (c:Cut):dp (z2s c) = 2:=by unfold z2s;rw [y8x];simp [dps,k7l,j9d,j9t]
theorem j0e:∀ l:List Cut,fms (l.map z2s) = true∧dps (l.map z2s) ≤ 2
 | []=>by simp [fms,dps]
 | c :: r=>by
  obtain ⟨h1,h2⟩:=j0e r
  simp only [List.map_cons,fms,dps,j2z,j3z,h1]
  exact ⟨rfl,by omega⟩
theorem k8l (n:Nod):fm (z8j n) = true∧dp (z8j n) ≤ 4:=by
 obtain ⟨h1,h2⟩:=j0e n.cuts
 unfold z8j
 rw [y7x,y8x]
 simp only [fms,dps,j8d,j9d,y7x,y8x,h1]
 exact ⟨rfl,by omega⟩
theorem j1e:∀ l:List Nod,fms (l.map z8j) = true∧dps (l.map z8j) ≤ 4
 | []=>by simp [fms,dps]
 | n :: r=>by
  obtain ⟨h1,h2⟩:=j1e r
  obtain ⟨h3,h4⟩:=k8l n
  simp only [List.map_cons,fms,dps,h3,h1]
  exact ⟨rfl,by omega⟩
theorem j2e (x:Inp):fms (z5e x) = true∧dps (z5e x) ≤ 5:=by
 obtain ⟨h1,h2⟩:=j1e x.tree
 unfold z5e z7z z9j
 simp only [fms,dps,j8d,j9d,y7x,y8x,k3t,k4t,k6l,k7l,j6t,j7t,j8t,j9t,h1]
 exact ⟨rfl,by omega⟩
theorem j3e (x:Inp):ck (lV (z5e x)) = 0:=by
 obtain ⟨h1,h2⟩:=j2e x
 exact j8x (by rw [y7x];exact h1) (by rw [y8x];omega)
theorem x9g (x:Inp):ck (lV (z6e x)) = 0:=by
 obtain ⟨h1,h2⟩:=j2e x
 refine j8x ?_ ?_
 · rw [y7x];unfold z6e;rw [y2j,h1,y7x];simp [fms,j8d]
 · rw [y8x];unfold z6e;rw [y1j,y8x];simp only [dps,j9d];omega
theorem z8n:∀ (a b:List V),szs (a ++ b) = szs a + szs b
 | [],b=>by simp [szs]
 | x :: r,b=>by simp only [List.cons_append,szs,z8n r b];omega
theorem z7p (l:List V):sz (lV l) = 24 + szs l:=by
 unfold lV
 simp only [sz,show (⟨#[]⟩:ByteArray).size = 0 from rfl]
theorem x0h (x:Inp):sz (lV (z5e x)) ≤ sz (lV (z6e x)):=by
 rw [z7p,z7p];unfold z6e;rw [z8n];omega
def k4p:List UInt8:=(⟨#[105,110,112,117,116]⟩:ByteArray).data.toList
def z1z (x:Inp):List UInt8:=enc (lV (z5e x))
def y6e (x:Inp):List UInt8:=enc (lV (z6e x))
theorem y9j (x:Inp) (h:sz (lV (z6e x)) ≤ 60000):(z1z x).length ≤ 60000:=by
 have h1:=y9h (lV (z5e x))
 have:=x0h x
 unfold z1z
 omega
def y6g:List PanicEntry:=[{ v:=.iface 44 (.int .i64 490),recovered:=false }]
def z3g (B:Nat) (w:World) (c:Nat) (l:List V):Prop:=B ≤ c∧∃ lv,CB w c 144 [lv]∧y0i (fun j=>j < B) w l lv
theorem z3g.keep {B c:Nat} {w w':World} {l:List V} {row:Option Nat} (h:z3g B w c l) (hg:w.grownBy w' row) (hB:B ≤ w.heap.size) (hr:∀ q,row = some q→q ≠ c∧B ≤ q):z3g B w' c l:=by
 obtain ⟨h1,lv,h2,h3⟩:=h
 exact ⟨h1,lv,h2.keep (hg.block _ h2.lt (fun e=>(hr c e.symm).1 rfl)),h3.keep (fun _ h=>h) (fun k hk=>hg.block k (lL hk hB) (fun e=>by have:=(hr k e.symm).2;omega))⟩
def j0u (B:Nat) (x:V) (w:World) (e:Ending) (w':World):Prop :=
 if x.kind = 3 then ∃ g,e = .returned (.pointer (some ⟨g,0,none⟩))∧w.heap.size ≤ g∧z3g B w' g x.l∧Below w.heap.size w w' else e = .panicked y6g∧Below w.heap.size w w'
theorem j0u.bad {B:Nat} {x:V} {w w':World} (h:¬ x.kind = 3) (hb:Below w.heap.size w w'):j0u B x w (.panicked y6g) w':=by unfold j0u;rw [if_neg h];exact ⟨rfl,hb⟩
theorem j0u.good {B g:Nat} {x:V} {w w':World} (h:x.kind = 3) (h1:w.heap.size ≤ g) (h2:z3g B w' g x.l) (hb:Below w.heap.size w w'):j0u B x w (.returned (.pointer (some ⟨g,0,none⟩))) w':=by unfold j0u;rw [if_pos h];exact ⟨g,rfl,h1,h2,hb⟩
def v4o (x:V) (lv:Value):Obj:=.cells [.int .i64 x.kind,.int .i64 x.n,.string x.s,lv].toArray 80
theorem x8m (B:Nat) (x:V) (v:Value) (w:World) (hv:x0x (fun j=>j < B) w x v) (hB:B ≤ w.heap.size):Calls Tryz.prog 57 #[v] w (j0u B x w):=by
 obtain ⟨-,-,-,lv,rfl,hs⟩:=hv
 obtain ⟨oa,cap,rfl⟩:=z6n hs
 obtain ⟨k,n,st,l⟩:=x
 have HS:=hd_ hs;have HBs:=hd_ hB
 have Hb:=hd_ (z5b (w:=w) (v4o (.mk k n st l) (.slice oa l.length cap)))
 have hc:=z6a w (v4o (.mk k n st l) (.slice oa l.length cap)) 80 _ rfl
 have c0:_ = some (Value.int .i64 k):=hc.cell 0
 have c3:_ = some (Value.slice oa l.length cap):=hc.cell 3
 clear hs hB hc
 by_cases hk:k = 3
 · subst hk
   go_enter Tryz.func57,Tryz.ntmps57
   go_upto_region 1 with fail
   change Code.wp _ _ _ _ (w.alloc (v4o (.mk 3 n st l) (.slice oa l.length cap)))
   generalize w.alloc (v4o (.mk 3 n st l) (.slice oa l.length cap)) = w0 at *
   go_wp2_with fail
   go_ret
   have hz:=z5b (w:=w0) (.cells [Value.slice oa l.length cap].toArray 144)
   exact j0u.good (g:=w0.heap.size) rfl Hb.out.size ⟨lT HBs.out Hb.out.size,_,z6a w0 _ _ _ rfl,HS.out.keep (fun _ h=>h) (fun j hj=>(Below.heap_alloc w0 _ j (lL (lL hj HBs.out) Hb.out.size)).trans (Hb.out.block j (lL hj HBs.out)))⟩ (z0a Hb.out hz)
 · have u1:decide (k = 3) = false:=decide_eq_false hk
   have u2:(k == 3) = false:=beq_false_of_ne hk
   have Hk:=hd_ hk
   clear hk
   go_enter Tryz.func57,Tryz.ntmps57
   go_upto_region 1 with fail
   change Code.wp _ _ _ _ (w.alloc (v4o (.mk k n st l) (.slice oa l.length cap)))
   generalize w.alloc (v4o (.mk k n st l) (.slice oa l.length cap)) = w0 at *
   go_wp2_with fail
   have hk3:¬ (V.mk k n st l).kind = 3:=Hk.out
   exact ⟨rfl,j0u.bad hk3 Hb.out⟩
def k0f (B c:Nat) (k:Int) (l:List V) (w:World) (e:Ending) (w':World):Prop :=
 match nxt k l with
 | some (x,r)=>∃ v,e = .returned v∧x0x (fun j=>j < B) w' x v∧z3g B w' c r∧w.grownBy w' (some c)
 | none=>e = .panicked y6g∧w.grownBy w' (some c)
theorem x9m (B c:Nat) (k:Int) (l:List V) (w:World) (hc:z3g B w c l):Calls Tryz.prog 119 #[.pointer (some ⟨c,0,none⟩),.int .i64 k] w (k0f B c k l w):=by
 obtain ⟨hBc,lv,hcb,hs⟩:=hc
 have hcw:=hcb.lt
 have HB:=hd_ hBc;have Hcw:=hd_ hcw
 have Hg:Hid (w.grownBy (w.alloc Z4) (some c)):=World.grownBy_alloc w _ _
 have hc0:=hcb.alloc Z4
 have HC:=hd_ hc0
 have H4:Hid (CB (w.alloc Z4) w.heap.size 80 Z4c):=z6a w Z4 _ _ rfl
 rcases hs with ⟨rfl,oa,cap,rfl⟩ | ⟨hne,b,o,cap,rfl,⟨hl1,hl2⟩,hat⟩
 · have c0:_ = some (Value.slice oa 0 cap):=hc0.cell 0
   clear hBc hcb hcw hc0
   go_enter Tryz.func119,Tryz.ntmps119
   go_upto_region 1 with fail
   change Code.wp _ _ _ _ (w.alloc Z4)
   generalize w.alloc Z4 = w0 at *
   go_wp2_with fail
   exact ⟨rfl,rfl,Hg.out⟩
 · cases l with
   | nil=>exact absurd rfl hne
   | cons x r =>
   obtain ⟨hx,hr⟩:=(show V.atD (fun j=>j < B) w x b o∧V.atsD (fun j=>j < B) w r b (o + 4) from hat)
   obtain ⟨lx,hd0,hd1,hd2,hd3,hbB,hi1,hi2,hi3,hsx⟩:∃ lx,w.cell? ⟨b,o,none⟩ = some (.int .i64 x.kind)∧w.cell? ⟨b,o + 1,none⟩ = some (.int .i64 x.n)∧w.cell? ⟨b,o + 2,none⟩ = some (.string x.s)∧w.cell? ⟨b,o + 3,none⟩ = some lx∧b < B∧I64 x.kind∧I64 x.n∧x.s.size ≤ maxLen∧y0i (fun j=>j < B) w x.l lx:=by
    obtain ⟨k',n',s',l'⟩:=x
    obtain ⟨h0,h1,h2,h3,h4,h5,h6,lx,h7,h8⟩:=hx
    exact ⟨lx,h4,h5,h6,h7,h0,h1,h2,h3,h8⟩
   obtain ⟨ox,cx,rfl⟩:=z6n hsx
   have hbw:b < w.heap.size:=by omega
   have Hx:Hid (∀ W:World,(∀ j,j < B→W.heap[j]? = w.heap[j]?)→x0x (fun j=>j < B) W x (.agg #[.int .i64 x.kind,.int .i64 x.n,.string x.s,.slice ox x.l.length cx])):=fun W hW=>⟨hi1,hi2,hi3,_,rfl,y0i.keep hsx (fun _ h=>h) (fun j hj=>hW j hj)⟩
   have Hr:Hid (∀ W:World,(∀ j,j < B→W.heap[j]? = w.heap[j]?)→y0i (fun j=>j < B) W r (.slice (if cap = 1 then some ⟨b,o,none⟩ else some ⟨b,o + 4,none⟩) r.length (cap - 1))):=fun W hW=>by
    by_cases hrn:r = []
    · subst hrn;exact .inl ⟨rfl,_,_,rfl⟩
    · have hcap:¬ cap = 1:=by
       have:r.length ≠ 0:=fun e=>hrn (List.length_eq_zero_iff.1 e)
       simp at hl2;omega
      rw [if_neg hcap]
      simp at hl1 hl2
      exact .inr ⟨hrn,b,o + 4,cap - 1,rfl,⟨by omega,by omega⟩,V.atsD_keep (fun _ h=>h) (fun j hj=>hW j hj) r b (o + 4) hr⟩
   have hs0:∀ p:Nat,(w.alloc Z4).cell? ⟨b,p,none⟩ = w.cell? ⟨b,p,none⟩:=fun p=>World.cell?_of_block (w:=w) (Below.heap_alloc w Z4 b hbw)
   have d0:=(hs0 _).trans hd0
   obtain ⟨nn,hnn⟩:∃ nn,r.length + 1 = nn:=⟨_,rfl⟩
   have Hnn:=hd_ hnn
   have c0:(w.alloc Z4).cell? ⟨c,0,none⟩ = some (Value.slice (some ⟨b,o,none⟩) nn cap):=by rw [← hnn];exact hc0.cell 0
   have l1:(nn:Int) ≤ 9223372036854775807:=by simp at hl1;unfold maxLen at hl1;omega
   have z0:((nn:Int) == 0) = false:=beq_false_of_ne (by omega)
   have z0':(nn == 0) = false:=beq_false_of_ne (by omega)
   have z1:decide ((nn:Int) = 0) = false:=decide_eq_false (by omega)
   have z1':decide (nn = 0) = false:=decide_eq_false (by omega)
   have z3:¬ nn = 0:=by omega
   have z4:0 < nn:=by omega
   have z2:(0:Int) < (nn:Int):=by omega
   have HC':Hid (CB (w.alloc Z4) c 144 [.slice (some ⟨b,o,none⟩) nn cap]):=hd_ (by rw [← hnn];exact hc0)
   clear HC hnn
   have hBcap:Hid (r.length + 1 ≤ cap):=hd_ (by simpa using hl2)
   have HD:Hid ((w.alloc Z4).rangeAt b o [.int .i64 x.kind,.int .i64 x.n,.string x.s,.slice ox x.l.length cx]):=fun j u hu=>by
    match j,hu with
    | 0,hu=>simp at hu;subst hu;rw [Nat.add_zero];exact d0
    | 1,hu=>simp at hu;subst hu;exact (hs0 _).trans hd1
    | 2,hu=>simp at hu;subst hu;exact (hs0 _).trans hd2
    | 3,hu=>simp at hu;subst hu;exact (hs0 _).trans hd3
   by_cases hk:x.kind = k
   case neg =>
    have u1:decide (x.kind = k) = false:=decide_eq_false hk
    have u2:(x.kind == k) = false:=beq_false_of_ne hk
    have Hk:=hd_ hk
    clear hk hd0 hd1 hd2 hd3 hat hx hr hs0 hcb hc0 hl1 hl2 hne
    go_enter Tryz.func119,Tryz.ntmps119
    go_upto_region 1 with fail
    change Code.wp _ _ _ _ (w.alloc Z4)
    generalize w.alloc Z4 = w0 at *
    go_wp2_with fail
    have hn:nxt k (x :: r) = none:=by show (if x.kind = k then some (x,r) else none) = none;rw [if_neg Hk.out]
    exact ⟨rfl,by unfold k0f;rw [hn];exact ⟨rfl,Hg.out⟩⟩
   case pos =>
    have u1:decide (x.kind = k) = true:=decide_eq_true hk
    have u2:(x.kind == k) = true:=by rw [hk];exact beq_self_eq_true k
    have Hk:=hd_ hk
    have hcapP:1 ≤ cap:=by simp at hl2;omega
    clear hd0 hd1 hd2 hd3 hat hx hr hs0 hcb hc0 hl1 hl2 hne
    go_enter Tryz.func119,Tryz.ntmps119
    go_upto_region 1 with fail
    change Code.wp _ _ _ _ (w.alloc Z4)
    have HZ:Hid ((w.alloc Z4).heap.size = w.heap.size + 1):=World.size_alloc _ _
    have HW0:Hid (∀ j,j < w.heap.size→(w.alloc Z4).heap[j]? = w.heap[j]?):=fun j hj=>Below.heap_alloc w Z4 j hj
    generalize w.alloc Z4 = w0 at *
    go_upto_region 3 with fail
    have H5z:Hid (CB (w0.alloc Z4) w0.heap.size 80 Z4c):=z6a w0 Z4 _ _ rfl
    have HDo:=hd_ (z8y x.kind x.n x.s (.slice ox x.l.length cx) rfl)
    clear d0 u1 u2 z0 z1 z0' z1' hk
    go_upto_region 4 with (first
     | (have _g:=HD.out;refine z7a (by rfl) 80 (.tmp 28) rfl b o rfl [.int .i64 x.kind,.int .i64 x.n,.string x.s,.slice ox x.l.length cx] _ HD.out Tryz.underlying80 rfl (by kernel_rfl) ?_;clear HD)
     | (have _g:=HDo.out;refine z4a rfl 80 (.tmp 5) (.tmp 29) rfl w0.heap.size [.int .i64 x.kind,.int .i64 x.n,.string x.s,.slice ox x.l.length cx] rfl rfl 80 Z4c H5z.out rfl (by kernel_rfl) HDo.out (fun w3 H5 HW3 HZ3=>?_);clear _g))
    have HC3:=hd_ ((HC'.out.alloc Z4).keep (HW3.out.block _ (HC'.out.alloc Z4).lt (fun e=>by injection e with e;have:=HZ.out;have:=Hcw.out;omega)))
    have H43:=hd_ ((H4.out.alloc Z4).keep (HW3.out.block _ (H4.out.alloc Z4).lt (fun e=>by injection e with e;have:=HZ.out;omega)))
    have Hg3:=hd_ (z2a (z2a Hg.out (World.grownBy_alloc w0 Z4 (some c)) (.inl rfl)) HW3.out (.inr fun q e=>by injection e with e;have:=HZ.out;omega))
    have HW3':Hid (∀ j,j < w.heap.size→w3.heap[j]? = w.heap[j]?):=fun j hj=>(HW3.out.block j (by rw [World.size_alloc];have:=HZ.out;omega) (fun e=>by injection e with e;have:=HZ.out;omega)).trans ((Below.heap_alloc w0 Z4 j (by have:=HZ.out;omega)).trans (HW0.out j hj))
    clear HW3 HZ3 H5z H4 HC' Hg c0
    have c1:w3.cell? ⟨c,0,none⟩ = some (Value.slice (some ⟨b,o,none⟩) nn cap):=HC3.out.cell 0
    have cf:w3.frozen? ⟨c,0,none⟩ = false:=HC3.out.frozen 0
    by_cases hcap:cap = 1
    · subst hcap
      go_upto_region 5 with fail
      have H54:=hd_ (H5.out.far (p:=⟨c,0,none⟩) (by show w0.heap.size ≠ c;have:=HZ.out;have:=Hcw.out;omega) (.slice (some ⟨b,o,none⟩) (nn - 1) 0))
      have H44:=hd_ (H43.out.far (p:=⟨c,0,none⟩) (by show w.heap.size ≠ c;have:=Hcw.out;omega) (.slice (some ⟨b,o,none⟩) (nn - 1) 0))
      have HC4:Hid (CB (w3.setCell ⟨c,0,none⟩ (.slice (some ⟨b,o,none⟩) (nn - 1) 0)) c 144 [.slice (some ⟨b,o,none⟩) (nn - 1) 0]):=HC3.out.set 0 _
      have Hg4:=hd_ (z2a Hg3.out (z8b w3 c 0 (.slice (some ⟨b,o,none⟩) (nn - 1) 0)) (.inl rfl))
      have HW4:Hid (∀ j,j < B→(w3.setCell ⟨c,0,none⟩ (.slice (some ⟨b,o,none⟩) (nn - 1) 0)).heap[j]? = w.heap[j]?):=fun j hj=>(Below.heap_setCell w3 ⟨c,0,none⟩ _ j (by show j ≠ c;have:=HB.out;omega)).trans (HW3'.out j (by have:=HB.out;have:=Hcw.out;omega))
      have hv:(.slice (some ⟨b,o,none⟩) (nn - 1) 0:Value) = .slice (if 1 = 1 then some ⟨b,o,none⟩ else some ⟨b,o + 4,none⟩) r.length 0:=by rw [if_pos rfl,show nn - 1 = r.length from by have:=Hnn.out;omega]
      have Hv:=hd_ hv
      clear H5 H43 HC3 Hg3 HW3' c1 cf hv
      generalize w3.setCell ⟨c,0,none⟩ (.slice (some ⟨b,o,none⟩) (nn - 1) 0) = w4 at *
      have HSo:=hd_ (z8y x.kind x.n x.s (.slice ox x.l.length cx) rfl)
      go_wp2_with (first
       | (have _g:=H54.out;refine z3a (by rfl) 80 (.tmp 5) rfl w0.heap.size [.int .i64 x.kind,.int .i64 x.n,.string x.s,.slice ox x.l.length cx] rfl 80 _ H54.out Tryz.underlying80 rfl (by kernel_rfl) ?_;clear _g)
       | (have _g:=HSo.out;refine z4a rfl 80 (.tmp 4) (.tmp 38) rfl w.heap.size [.int .i64 x.kind,.int .i64 x.n,.string x.s,.slice ox x.l.length cx] rfl rfl 80 Z4c H44.out rfl (by kernel_rfl) HSo.out (fun w6 HC6 HW6 HZ6=>?_);clear _g))
      refine bodyPost_ret (v:=.agg ([.int .i64 x.kind,.int .i64 x.n,.string x.s,.slice ox x.l.length cx]:List Value).toArray) (results_cell_row rfl _ _ w.heap.size 80 _ (0,0) _ rfl HC6.out Tryz.underlying80 rfl (by kernel_rfl)) rfl ?_
      have hn:nxt k (x :: r) = some (x,r):=by show (if x.kind = k then some (x,r) else none) = some (x,r);rw [if_pos Hk.out]
      have hW6:∀ j,j < B→w6.heap[j]? = w.heap[j]?:=fun j hj=>(HW6.out.block j (by have:=Hg4.out.size;have:=HB.out;have:=Hcw.out;omega) (fun e=>by injection e with e;have:=HB.out;have:=Hcw.out;omega)).trans (HW4.out j hj)
      unfold k0f
      rw [hn]
      exact ⟨_,rfl,Hx.out w6 hW6,⟨HB.out,_,HC4.out.keep (HW6.out.block _ HC4.out.lt (fun e=>by injection e with e;have:=Hcw.out;omega)),by rw [Hv.out];exact Hr.out w6 hW6⟩,z2a Hg4.out HW6.out (.inr fun q e=>by injection e with e;omega)⟩
    · go_upto_region 5 with fail
      have H54:=hd_ (H5.out.far (p:=⟨c,0,none⟩) (by show w0.heap.size ≠ c;have:=HZ.out;have:=Hcw.out;omega) (.slice (some ⟨b,o + 4,none⟩) (nn - 1) (cap - 1)))
      have H44:=hd_ (H43.out.far (p:=⟨c,0,none⟩) (by show w.heap.size ≠ c;have:=Hcw.out;omega) (.slice (some ⟨b,o + 4,none⟩) (nn - 1) (cap - 1)))
      have HC4:Hid (CB (w3.setCell ⟨c,0,none⟩ (.slice (some ⟨b,o + 4,none⟩) (nn - 1) (cap - 1))) c 144 [.slice (some ⟨b,o + 4,none⟩) (nn - 1) (cap - 1)]):=HC3.out.set 0 _
      have Hg4:=hd_ (z2a Hg3.out (z8b w3 c 0 (.slice (some ⟨b,o + 4,none⟩) (nn - 1) (cap - 1))) (.inl rfl))
      have HW4:Hid (∀ j,j < B→(w3.setCell ⟨c,0,none⟩ (.slice (some ⟨b,o + 4,none⟩) (nn - 1) (cap - 1))).heap[j]? = w.heap[j]?):=fun j hj=>(Below.heap_setCell w3 ⟨c,0,none⟩ _ j (by show j ≠ c;have:=HB.out;omega)).trans (HW3'.out j (by have:=HB.out;have:=Hcw.out;omega))
      have hv:(.slice (some ⟨b,o + 4,none⟩) (nn - 1) (cap - 1):Value) = .slice (if cap = 1 then some ⟨b,o,none⟩ else some ⟨b,o + 4,none⟩) r.length (cap - 1):=by rw [if_neg hcap,show nn - 1 = r.length from by have:=Hnn.out;omega]
      have Hv:=hd_ hv
      clear H5 H43 HC3 Hg3 HW3' c1 cf hv
      generalize w3.setCell ⟨c,0,none⟩ (.slice (some ⟨b,o + 4,none⟩) (nn - 1) (cap - 1)) = w4 at *
      have HSo:=hd_ (z8y x.kind x.n x.s (.slice ox x.l.length cx) rfl)
      go_wp2_with (first
       | (have _g:=H54.out;refine z3a (by rfl) 80 (.tmp 5) rfl w0.heap.size [.int .i64 x.kind,.int .i64 x.n,.string x.s,.slice ox x.l.length cx] rfl 80 _ H54.out Tryz.underlying80 rfl (by kernel_rfl) ?_;clear _g)
       | (have _g:=HSo.out;refine z4a rfl 80 (.tmp 4) (.tmp 38) rfl w.heap.size [.int .i64 x.kind,.int .i64 x.n,.string x.s,.slice ox x.l.length cx] rfl rfl 80 Z4c H44.out rfl (by kernel_rfl) HSo.out (fun w6 HC6 HW6 HZ6=>?_);clear _g))
      refine bodyPost_ret (v:=.agg ([.int .i64 x.kind,.int .i64 x.n,.string x.s,.slice ox x.l.length cx]:List Value).toArray) (results_cell_row rfl _ _ w.heap.size 80 _ (0,0) _ rfl HC6.out Tryz.underlying80 rfl (by kernel_rfl)) rfl ?_
      have hn:nxt k (x :: r) = some (x,r):=by show (if x.kind = k then some (x,r) else none) = some (x,r);rw [if_pos Hk.out]
      have hW6:∀ j,j < B→w6.heap[j]? = w.heap[j]?:=fun j hj=>(HW6.out.block j (by have:=Hg4.out.size;have:=HB.out;have:=Hcw.out;omega) (fun e=>by injection e with e;have:=HB.out;have:=Hcw.out;omega)).trans (HW4.out j hj)
      unfold k0f
      rw [hn]
      exact ⟨_,rfl,Hx.out w6 hW6,⟨HB.out,_,HC4.out.keep (HW6.out.block _ HC4.out.lt (fun e=>by injection e with e;have:=Hcw.out;omega)),by rw [Hv.out];exact Hr.out w6 hW6⟩,z2a Hg4.out HW6.out (.inr fun q e=>by injection e with e;omega)⟩
def RdP {α:Type} (B c:Nat) (w:World) (o:Option (α × List V)) (f:α→Value) (e:Ending) (w':World):Prop :=
 match o with
 | some (a,r)=>e = .returned (f a)∧z3g B w' c r∧w.grownBy w' (some c)
 | none=>e = .panicked y6g∧w.grownBy w' (some c)
theorem j5n {k:Int} {l:List V} {x:V} {r:List V} (h:nxt k l = some (x,r)):x.kind = k:=by
 cases l with
 | nil=>cases h
 | cons y s =>
  have h:(if y.kind = k then some (y,s) else none) = some (x,r):=h
  by_cases hk:y.kind = k
  · rw [if_pos hk] at h;injection h with h;injection h with h1 h2;rw [← h1];exact hk
  · rw [if_neg hk] at h;cases h
theorem y7e {B c:Nat} {k:Int} {l:List V} {x:V} {r:List V} {w:World} (hc:z3g B w c l) (h:nxt k l = some (x,r)):Calls Tryz.prog 119 #[.pointer (some ⟨c,0,none⟩),.int .i64 k] w fun e w'=>∃ oa cap,e = .returned (.agg #[.int .i64 x.kind,.int .i64 x.n,.string x.s,.slice oa x.l.length cap])∧x0x (fun j=>j < B) w' x (.agg #[.int .i64 x.kind,.int .i64 x.n,.string x.s,.slice oa x.l.length cap])∧z3g B w' c r∧w.grownBy w' (some c):=by
 refine (x9m B c k l w hc).mono ?_
 unfold k0f
 rw [h]
 rintro e w' ⟨v,rfl,hv,h1,h2⟩
 obtain ⟨a1,a2,a3,lv,rfl,hs⟩:=hv
 obtain ⟨oa,cap,rfl⟩:=z6n hs
 exact ⟨oa,cap,rfl,⟨a1,a2,a3,_,rfl,hs⟩,h1,h2⟩
theorem y8e {B c:Nat} {k:Int} {l:List V} {w:World} (hc:z3g B w c l) (h:nxt k l = none):Calls Tryz.prog 119 #[.pointer (some ⟨c,0,none⟩),.int .i64 k] w fun e w'=>e = .panicked y6g∧w.grownBy w' (some c):=by
 refine (x9m B c k l w hc).mono ?_
 unfold k0f
 rw [h]
 exact fun e w' h=>h
theorem z2m (B c:Nat) (l:List V) (w:World) (hc:z3g B w c l):Calls Tryz.prog 59 #[.pointer (some ⟨c,0,none⟩)] w (RdP B c w (z2f l) (fun n=>.int .i64 n)):=by
 have HC:=hd_ hc
 clear hc
 cases hN:nxt 1 l with
 | none =>
  have hs:z2f l = none:=by unfold z2f;rw [hN];rfl
  rw [hs]
  have HN:=hd_ hN
  clear hN hs
  go_enter Tryz.func59,Tryz.ntmps59
  go_wp2_with (go_at_call 119;refine (y8e HC.out HN.out).mono ?_;go_loud (rintro e w3 ⟨rfl,hg⟩))
  exact ⟨rfl,rfl,hg⟩
 | some p =>
  obtain ⟨x,r⟩:=p
  have hs:z2f l = some (x.n,r):=by unfold z2f;rw [hN];rfl
  rw [hs]
  have HN:=hd_ hN
  clear hN hs
  go_enter Tryz.func59,Tryz.ntmps59
  have hf:∀ (a b:Int) (t:ByteArray) (u:Value) (W:World),(Instr.field 80 (.agg #[.int .i64 a,.int .i64 b,.string t,u]) 1).run Tryz.prog W = .ok (.int .i64 b) W:=fun a b t u W=>by kernel_rfl
  go_wp2_with (go_at_call 119;refine (y7e HC.out HN.out).mono ?_;go_loud (rintro e w3 ⟨oa,cap,rfl,hv,h1,hg⟩;have H1:=hd_ h1;have Hg:=hd_ hg;clear hv h1 hg))
  go_ret
  exact ⟨rfl,H1.out,Hg.out⟩
theorem x3t (B c:Nat) (l:List V) (w:World) (hc:z3g B w c l):Calls Tryz.prog 60 #[.pointer (some ⟨c,0,none⟩)] w (RdP B c w (x4m l) (fun s=>.string s)):=by
 have HC:=hd_ hc
 clear hc
 cases hN:nxt 2 l with
 | none =>
  have hs:x4m l = none:=by unfold x4m;rw [hN];rfl
  rw [hs]
  have HN:=hd_ hN
  clear hN hs
  go_enter Tryz.func60,Tryz.ntmps60
  go_wp2_with (go_at_call 119;refine (y8e HC.out HN.out).mono ?_;go_loud (rintro e w3 ⟨rfl,hg⟩))
  exact ⟨rfl,rfl,hg⟩
 | some p =>
  obtain ⟨x,r⟩:=p
  have hs:x4m l = some (x.s,r):=by unfold x4m;rw [hN];rfl
  rw [hs]
  have HN:=hd_ hN
  clear hN hs
  go_enter Tryz.func60,Tryz.ntmps60
  have hf:∀ (a b:Int) (t:ByteArray) (u:Value) (W:World),(Instr.field 80 (.agg #[.int .i64 a,.int .i64 b,.string t,u]) 2).run Tryz.prog W = .ok (.string t) W:=fun a b t u W=>by kernel_rfl
  go_wp2_with (go_at_call 119;refine (y7e HC.out HN.out).mono ?_;go_loud (rintro e w3 ⟨oa,cap,rfl,hv,h1,hg⟩;have H1:=hd_ h1;have Hg:=hd_ hg;clear hv h1 hg))
  go_ret
  exact ⟨rfl,H1.out,Hg.out⟩
theorem x4t (B c:Nat) (l:List V) (w:World) (hc:z3g B w c l):Calls Tryz.prog 63 #[.pointer (some ⟨c,0,none⟩)] w (RdP B c w (y5o l) (fun b=>.bool b)):=by
 have HN:=hd_ (z2m B c l w hc)
 clear hc
 cases hN:z2f l with
 | none =>
  have hs:y5o l = none:=by unfold y5o;rw [hN];rfl
  rw [hs]
  rw [hN] at HN
  clear hN hs
  go_enter Tryz.func63,Tryz.ntmps63
  go_wp2_with (go_at_call 59;refine HN.out.mono ?_;go_loud (rintro e w3 ⟨rfl,hg⟩))
  exact ⟨rfl,rfl,hg⟩
 | some p =>
  obtain ⟨n,r⟩:=p
  have hs:y5o l = some (decide (n = 1),r):=by unfold y5o;rw [hN];rfl
  rw [hs]
  rw [hN] at HN
  clear hN hs
  by_cases h1:n = 1
  · subst h1
    go_enter Tryz.func63,Tryz.ntmps63
    go_wp2_with (go_at_call 59;refine HN.out.mono ?_;go_loud (rintro e w3 ⟨rfl,h1,hg⟩;have H1:=hd_ h1;have Hg:=hd_ hg;clear h1 hg))
    go_ret
    exact ⟨rfl,H1.out,Hg.out⟩
  · have u1:decide (n = 1) = false:=decide_eq_false h1
    have u2:(n == 1) = false:=beq_false_of_ne h1
    rw [u1]
    go_enter Tryz.func63,Tryz.ntmps63
    go_wp2_with (go_at_call 59;refine HN.out.mono ?_;go_loud (rintro e w3 ⟨rfl,h1,hg⟩;have H1:=hd_ h1;have Hg:=hd_ hg;clear h1 hg))
    go_ret
    exact ⟨by first | rfl | simp [u2],H1.out,Hg.out⟩
def k4x (B c:Nat) (w:World) (o:Option (List V × List V)) (e:Ending) (w':World):Prop :=
 match o with
 | some (l,r)=>∃ g,e = .returned (.pointer (some ⟨g,0,none⟩))∧w.heap.size ≤ g∧z3g B w' g l∧z3g B w' c r∧w.grownBy w' (some c)
 | none=>e = .panicked y6g∧w.grownBy w' (some c)
theorem y0k (B c:Nat) (l:List V) (w:World) (hc:z3g B w c l) (hB:B ≤ w.heap.size):Calls Tryz.prog 58 #[.pointer (some ⟨c,0,none⟩)] w (k4x B c w (z5k l)):=by
 have HC:=hd_ hc;have HB:=hd_ hB
 clear hc hB
 cases hN:nxt 3 l with
 | none =>
  have hs:z5k l = none:=by unfold z5k;rw [hN];rfl
  rw [hs]
  have HN:=hd_ hN
  clear hN hs
  go_enter Tryz.func58,Tryz.ntmps58
  go_wp2_with (go_at_call 119;refine (y8e HC.out HN.out).mono ?_;go_loud (rintro e w3 ⟨rfl,hg⟩))
  exact ⟨rfl,rfl,hg⟩
 | some p =>
  obtain ⟨x,r⟩:=p
  have hs:z5k l = some (x.l,r):=by unfold z5k;rw [hN];rfl
  rw [hs]
  have HN:=hd_ hN;have HK:=hd_ (j5n hN)
  clear hN hs
  go_enter Tryz.func58,Tryz.ntmps58
  go_wp2_with (first
   | (go_at_call 119;refine (y7e HC.out HN.out).mono ?_;go_loud (rintro e w3 ⟨oa,cap,rfl,hv,h1,hg⟩;have H1:=hd_ h1;have Hg:=hd_ hg;have Hv:=hd_ hv;clear hv h1 hg))
   | (go_at_call 57;refine (x8m B x _ _ Hv.out (lT HB.out Hg.out.size)).mono ?_;go_loud (intro e w4 ho;unfold j0u at ho;rw [if_pos HK.out] at ho;obtain ⟨g,rfl,hg1,hg2,hg3⟩:=ho;have HG1:=hd_ (lT Hg.out.size hg1);have HG2:=hd_ hg2;have HG3:=hd_ hg3;clear hg1 hg2 hg3)))
  go_ret
  exact ⟨g,rfl,HG1.out,HG2.out,H1.out.keep (z0d HG3.out) (lT HB.out Hg.out.size) (fun q e=>by cases e),z2a Hg.out (z0d HG3.out) (.inr fun q e=>by cases e)⟩
theorem y8o {B c:Nat} {l r:List V} {n:Int} {w:World} (hc:z3g B w c l) (h:z2f l = some (n,r)):Calls Tryz.prog 59 #[.pointer (some ⟨c,0,none⟩)] w fun e w'=>e = .returned (.int .i64 n)∧z3g B w' c r∧w.grownBy w' (some c):=by
 have:=z2m B c l w hc
 rw [h] at this
 exact this
theorem x0n {B c:Nat} {l:List V} {w:World} (hc:z3g B w c l) (h:z2f l = none):Calls Tryz.prog 59 #[.pointer (some ⟨c,0,none⟩)] w fun e w'=>e = .panicked y6g∧w.grownBy w' (some c):=by
 have:=z2m B c l w hc
 rw [h] at this
 exact this
theorem x5t (B c:Nat) (l:List V) (w:World) (hc:z3g B w c l) (hB:B ≤ w.heap.size):Calls Tryz.prog 62 #[.pointer (some ⟨c,0,none⟩)] w (RdP B c w (y1e l) (fun p=>.agg #[.int .i64 p.1,.int .i64 p.2])):=by
 have hcl:c < w.heap.size:=hc.2.elim fun _ h=>h.1.lt
 have H0:Hid (w.grownBy (w.alloc (.cells [Value.int .i64 0,.int .i64 0].toArray 26)) (some c)):=World.grownBy_alloc w _ _
 have hz:(w.alloc (.cells [Value.int .i64 0,.int .i64 0].toArray 26)).heap.size = w.heap.size + 1:=World.size_alloc _ _
 have H2:Hid (CB (w.alloc (.cells [Value.int .i64 0,.int .i64 0].toArray 26)) w.heap.size 26 [.int .i64 0,.int .i64 0]):=z6a w _ _ _ rfl
 have hc0:z3g B (w.alloc (.cells [Value.int .i64 0,.int .i64 0].toArray 26)) c l:=hc.keep (row:=none) (World.grownBy_alloc w _ _) hB (fun q e=>by cases e)
 have HL:=hd_ (y0k B c l (w.alloc (.cells [Value.int .i64 0,.int .i64 0].toArray 26)) hc0 (by omega))
 have Hc:Hid (c < (w.alloc (.cells [Value.int .i64 0,.int .i64 0].toArray 26)).heap.size∧w.heap.size < (w.alloc (.cells [Value.int .i64 0,.int .i64 0].toArray 26)).heap.size):=⟨by omega,by omega⟩
 have HZ:Hid (w.heap.size < (w.alloc (.cells [Value.int .i64 0,.int .i64 0].toArray 26)).heap.size):=Hc.out.2
 have HB:Hid (B ≤ (w.alloc (.cells [Value.int .i64 0,.int .i64 0].toArray 26)).heap.size):=hd_ (by omega)
 have Hcl:=hd_ hcl;have HBw:=hd_ hB
 clear hc hB hcl hz hc0
 cases hL:z5k l with
 | none =>
  have hs:y1e l = none:=by unfold y1e;rw [hL];rfl
  rw [hs];rw [hL] at HL
  clear hL hs
  go_enter Tryz.func62,Tryz.ntmps62
  go_upto_region 1 with fail
  change Code.wp _ _ _ _ (w.alloc (.cells [Value.int .i64 0,.int .i64 0].toArray 26))
  generalize w.alloc (.cells [Value.int .i64 0,.int .i64 0].toArray 26) = w0 at *
  go_wp2_with (go_at_call 58;refine HL.out.mono ?_;go_loud (rintro e w1 ⟨rfl,hgr⟩))
  exact ⟨rfl,rfl,z2a H0.out hgr (.inl rfl)⟩
 | some p =>
  obtain ⟨pl,pr⟩:=p
  rw [hL] at HL
  cases hA:z2f pl with
  | none =>
   have hs:y1e l = none:=by unfold y1e;rw [hL];show (z2f pl).bind _ = none;rw [hA];rfl
   rw [hs]
   have HA:=hd_ hA
   clear hL hs hA
   go_enter Tryz.func62,Tryz.ntmps62
   go_upto_region 1 with fail
   change Code.wp _ _ _ _ (w.alloc (.cells [Value.int .i64 0,.int .i64 0].toArray 26))
   generalize w.alloc (.cells [Value.int .i64 0,.int .i64 0].toArray 26) = w0 at *
   go_wp2_with (first | (go_at_call 58;refine HL.out.mono ?_;go_loud (rintro e w1 ⟨g,rfl,hg1,hg2,hc1,hgr⟩;have HgB:Hid (g ≠ c∧B ≤ g):=⟨Nat.ne_of_gt (lL Hc.out.1 hg1),lT HB.out hg1⟩;have HG:=hd_ hg2;have HC1:=hd_ hc1;have Hg:=hd_ (z2a H0.out hgr (.inl rfl));have HgW:Hid (w.heap.size < g):=lL HZ.out hg1;have HB1:Hid (B ≤ w1.heap.size):=lT HB.out hgr.size;have H21:=hd_ (H2.out.keep (hgr.block _ H2.out.lt (fun e=>Nat.ne_of_gt Hcl.out (Option.some.inj e))));clear hg1 hg2 hc1 hgr HL)) | (go_at_call 59;refine (x0n HG.out HA.out).mono ?_;go_loud (rintro e w2 ⟨rfl,hgr⟩;have Hg2:=hd_ (z2a Hg.out hgr (.inr fun q e=>by injection e with e;have:=HgW.out;omega));clear hgr)))
   exact ⟨rfl,rfl,Hg2.out⟩
  | some a =>
   obtain ⟨an,ar⟩:=a
   cases hA2:z2f ar with
   | none =>
    have hs:y1e l = none:=by unfold y1e;rw [hL];show (z2f pl).bind _ = none;rw [hA];show (z2f ar).bind _ = none;rw [hA2];rfl
    rw [hs]
    have HA:=hd_ hA;have HA2:=hd_ hA2
    clear hL hs hA hA2
    go_enter Tryz.func62,Tryz.ntmps62
    go_upto_region 1 with fail
    change Code.wp _ _ _ _ (w.alloc (.cells [Value.int .i64 0,.int .i64 0].toArray 26))
    generalize w.alloc (.cells [Value.int .i64 0,.int .i64 0].toArray 26) = w0 at *
    go_wp2_with (first | (go_at_call 58;refine HL.out.mono ?_;go_loud (rintro e w1 ⟨g,rfl,hg1,hg2,hc1,hgr⟩;have HgB:Hid (g ≠ c∧B ≤ g):=⟨Nat.ne_of_gt (lL Hc.out.1 hg1),lT HB.out hg1⟩;have HG:=hd_ hg2;have HC1:=hd_ hc1;have Hg:=hd_ (z2a H0.out hgr (.inl rfl));have HgW:Hid (w.heap.size < g):=lL HZ.out hg1;have HB1:Hid (B ≤ w1.heap.size):=lT HB.out hgr.size;have H21:=hd_ (H2.out.keep (hgr.block _ H2.out.lt (fun e=>Nat.ne_of_gt Hcl.out (Option.some.inj e))));clear hg1 hg2 hc1 hgr HL)) | (go_at_call 59;refine (y8o HG.out HA.out).mono ?_;go_loud (rintro e w2 ⟨rfl,hg2,hgr⟩;have HG2:=hd_ hg2;have HC2:=hd_ (HC1.out.keep hgr HB1.out (fun q e=>by injection e with e;subst e;exact HgB.out));have Hg2:=hd_ (z2a Hg.out hgr (.inr fun q e=>by injection e with e;have:=HgW.out;omega));have HB2:Hid (B ≤ w2.heap.size):=lT HB1.out hgr.size;have H22:=hd_ (H21.out.keep (hgr.block _ H21.out.lt (fun e=>Nat.ne_of_lt HgW.out (Option.some.inj e))));clear hg2 hgr HA HG)) | (go_at_call 59;refine (x0n HG2.out HA2.out).mono ?_;go_loud (rintro e w3 ⟨rfl,hgr⟩;have Hg3:=hd_ (z2a Hg2.out hgr (.inr fun q e=>by injection e with e;have:=HgW.out;omega));clear hgr)))
    exact ⟨rfl,rfl,Hg3.out⟩
   | some b =>
    obtain ⟨bn,br⟩:=b
    have hs:y1e l = some ((an,bn),pr):=by unfold y1e;rw [hL];show (z2f pl).bind _ = _;rw [hA];show (z2f ar).bind _ = _;rw [hA2];rfl
    rw [hs]
    have HA:=hd_ hA;have HA2:=hd_ hA2
    have HSo:Hid (∀ u ∈ ([.int .i64 an,.int .i64 bn]:List Value),u.oneCell' = true):=hd_ (by intro u hu;simp only [List.mem_cons,List.not_mem_nil,or_false] at hu;rcases hu with rfl | rfl <;> rfl)
    clear hL hs hA hA2
    go_enter Tryz.func62,Tryz.ntmps62
    go_upto_region 1 with fail
    change Code.wp _ _ _ _ (w.alloc (.cells [Value.int .i64 0,.int .i64 0].toArray 26))
    generalize w.alloc (.cells [Value.int .i64 0,.int .i64 0].toArray 26) = w0 at *
    go_wp2_with (first | (go_at_call 58;refine HL.out.mono ?_;go_loud (rintro e w1 ⟨g,rfl,hg1,hg2,hc1,hgr⟩;have HgB:Hid (g ≠ c∧B ≤ g):=⟨Nat.ne_of_gt (lL Hc.out.1 hg1),lT HB.out hg1⟩;have HG:=hd_ hg2;have HC1:=hd_ hc1;have Hg:=hd_ (z2a H0.out hgr (.inl rfl));have HgW:Hid (w.heap.size < g):=lL HZ.out hg1;have HB1:Hid (B ≤ w1.heap.size):=lT HB.out hgr.size;have H21:=hd_ (H2.out.keep (hgr.block _ H2.out.lt (fun e=>Nat.ne_of_gt Hcl.out (Option.some.inj e))));clear hg1 hg2 hc1 hgr HL)) | (go_at_call 59;refine (y8o HG.out HA.out).mono ?_;go_loud (rintro e w2 ⟨rfl,hg2,hgr⟩;have HG2:=hd_ hg2;have HC2:=hd_ (HC1.out.keep hgr HB1.out (fun q e=>by injection e with e;subst e;exact HgB.out));have Hg2:=hd_ (z2a Hg.out hgr (.inr fun q e=>by injection e with e;have:=HgW.out;omega));have HB2:Hid (B ≤ w2.heap.size):=lT HB1.out hgr.size;have H22:=hd_ (H21.out.keep (hgr.block _ H21.out.lt (fun e=>Nat.ne_of_lt HgW.out (Option.some.inj e))));clear hg2 hgr HA HG)) | (go_at_call 59;refine (y8o HG2.out HA2.out).mono ?_;go_loud (rintro e w3 ⟨rfl,hg3,hgr⟩;have HC3:=hd_ (HC2.out.keep hgr HB2.out (fun q e=>by injection e with e;subst e;exact HgB.out));have Hg3:=hd_ (z2a Hg2.out hgr (.inr fun q e=>by injection e with e;have:=HgW.out;omega));have HB3:Hid (w2.heap.size ≤ w3.heap.size):=hgr.size;have H23:=hd_ (H22.out.keep (hgr.block _ H22.out.lt (fun e=>Nat.ne_of_lt HgW.out (Option.some.inj e))));clear hg3 hgr HA2 HG2)) | (have _g:=HSo.out;refine z4a rfl 26 (.tmp 2) (.tmp 10) rfl w.heap.size [.int .i64 an,.int .i64 bn] rfl rfl 26 _ H23.out rfl (by kernel_rfl) HSo.out (fun w6 HC6 HW6 HZ6=>?_);clear HSo))
    refine bodyPost_ret (v:=.agg ([.int .i64 an,.int .i64 bn]:List Value).toArray) (results_cell_row rfl _ _ w.heap.size 26 _ (0,0) _ rfl HC6.out Tryz.underlying26 rfl (by kernel_rfl)) rfl ?_
    exact ⟨rfl,HC3.out.keep HW6.out (lT HB2.out HB3.out) (fun q e=>by injection e with e;subst e;exact ⟨Nat.ne_of_gt Hcl.out,HBw.out⟩),z2a Hg3.out HW6.out (.inr fun q e=>by injection e with e;omega)⟩
end Go.Proofs.YtdblnbnofjggnaaGreatDoor
