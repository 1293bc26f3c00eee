/- Parts of the proofs of chapter 49's laws: Jvf Jsg Jdk Jdf Jde. -/
import Derived.Test.YtdblnbnofjggnaaGreatDoorK38
import Derived.Test.YtdblnbnofjggnaaGreatDoorK39
import Derived.Test.YtdblnbnofjggnaaGreatDoorK32
import Derived.Test.YtdblnbnofjggnaaGreatDoorK18
import Derived.Deep.QuietTactic
import Derived.BigQuiet
import Derived.Test.YtdblnbnofjggnaaGreatDoorK13
import Derived.Test.YtdblnbnofjggnaaGreatDoorK36
import Derived.Test.YtdblnbnofjggnaaGreatDoorK43
import Derived.Test.YtdblnbnofjggnaaGreatDoorK12
import Derived.Test.YtdblnbnofjggnaaGreatDoorK20
import Derived.Test.YtdblnbnofjggnaaGreatDoorK10
import Derived.Test.YtdblnbnofjggnaaGreatDoorK21
import Derived.Test.YtdblnbnofjggnaaGreatDoorK19
import Derived.Deep.DeepCutAuto
import Derived.Deep.RegionHeld3
import Derived.Test.YtdblnbnofjggnaaGreatDoorK23
import Derived.StillTailTactics
import Derived.Test.YtdblnbnofjggnaaGreatDoorK47
import Derived.Test.YtdblnbnofjggnaaGreatDoorK24
import Derived.Test.YtdblnbnofjggnaaGreatDoorK41
import Derived.Test.YtdblnbnofjggnaaGreatDoorK42
namespace Go.Proofs.YtdblnbnofjggnaaGreatDoor
open Go.RowKit
def msgI (x : Inp) : List UInt8 := tagged tagI (bytesI x)
theorem msgI_len (x : Inp) : (msgI x).length ≤ 50000 := by unfold msgI; rw [tagged_len]; decide
def verI (x : Inp) (t : Bool) : Int := if okI x then (if t then 0 else 491) else 490
def VerP (x : Inp) (t : Bool) (w : World) (e : Ending) (w' : World) : Prop := e = .returned (.int .i64 (verI x t)) ∧ Below w.heap.size w w'
set_option maxRecDepth 100000 in
set_option maxHeartbeats 8000000 in
theorem verify49_any (p : Int) (e1 e2 e3 : Int) (t : Bool) (x : Inp) (s : Slc) (w : World) (hx : InpR w x s) (hi : InpI x) (hl : InpL x) (hz : sz (lV (fullL x)) ≤ 60000) (hL : Laid w) (h1 : Hid (ElE p e1)) (h2 : Hid (ElE x.sr e2)) (h3 : Hid (ScE x.ss e3)) (hv : Hid (VerCase p x.sr x.ss e1 e2 e3 (msgI x) t)) :
 Calls Tryz.prog 26 #[.int .i64 p, x.v s] w (VerP x t w) := by
 obtain ⟨b, hok⟩ : ∃ b, okI x = b := ⟨_, rfl⟩
 have Hok := Lib.hid hok
 have HI : Hid (CB (w.alloc (bI x s)) w.heap.size 41 (x.cells s)) := cb_one w (bI x s) _ _ rfl
 have HB := Lib.hid (b_al (w := w) (bI x s)); have HXR := Lib.hid hx; have Hi := Lib.hid hi; have Hl := Lib.hid hl; have Hz := Lib.hid hz
 have HL := Lib.hid hL
 have H1 := Lib.hid h1; have H2 := Lib.hid h2; have H3 := Lib.hid h3; have HV := Lib.hid hv
 clear hok hx hi hl hz hL h1 h2 h3 hv
 change Calls Tryz.prog 26 #[_, .agg (x.cells s).toArray] w _
 go_enter Tryz.func26, Tryz.ntmps26
 go_upto_region 1 with fail
 change Code.wp _ _ _ _ (w.alloc (bI x s))
 generalize w.alloc (bI x s) = w0 at *
 have HCk : Hid (∀ w1, Below w.heap.size w w1 → Calls Tryz.prog 13 #[.agg (x.cells s).toArray] w1 fun e w2 => e = .returned (.int .i64 (if b then 0 else 490)) ∧ Below w1.heap.size w1 w2) := fun w1 hb => (check_any49 x s w1 (HXR.out.ext hb) Hi.out.text Hi.out.flt.call Hi.out.rcl).mono fun e w2 h => ⟨by rw [← Hok.out]; exact h.1, h.2⟩
 cases b
 case false =>
  have HC0 : Hid (∀ w1, Below w.heap.size w w1 → Calls Tryz.prog 13 #[.agg (x.cells s).toArray] w1 fun e w2 => e = .returned (.int .i64 490) ∧ Below w1.heap.size w1 w2) := HCk.out
  clear HCk
  go_wp2_with (first
   | (have _g := HI.out; refine wpList_load_cs (by rfl) 41 (.tmp 3) rfl w.heap.size (x.cells s) rfl 41 _ HI.out Tryz.underlying41 rfl (by kernel_rfl) ?_; clear _g)
   | (go_at_call 13; refine (HC0.out _ HB.out).mono ?_; go_loud (rintro e w1 ⟨rfl, hb1⟩; have HB1 := Lib.hid (below_ext HB.out hb1); clear hb1)))
  go_ret
  exact ⟨by unfold verI; rw [Hok.out]; rfl, HB1.out⟩
 case true =>
  have HC0 : Hid (∀ w1, Below w.heap.size w w1 → Calls Tryz.prog 13 #[.agg (x.cells s).toArray] w1 fun e w2 => e = .returned (.int .i64 0) ∧ Below w1.heap.size w1 w2) := HCk.out
  clear HCk
  go_upto_region 4 with (first
   | (have _g := HI.out; refine wpList_load_cs (by rfl) 41 (.tmp 3) rfl w.heap.size (x.cells s) rfl 41 _ HI.out Tryz.underlying41 rfl (by kernel_rfl) ?_; clear _g)
   | (go_at_call 13; refine (HC0.out _ HB.out).mono ?_; go_loud (rintro e w1 ⟨rfl, hb1⟩; have HB1 := Lib.hid (below_ext HB.out hb1); have HI1 := Lib.hid (HI.out.ext hb1); clear hb1)))
  clear HB HI
  have HB := HB1; have HI := HI1
  clear HB1 HI1
  refine wp_region_late_drew (S := fun w' => CB w' w.heap.size 41 (x.cells s)) (late := fun _ => false) (by kernel_rfl) (HI.out.ext (Below.refl w1.heap.size w1).drew) (fun hHeld => ?_)
  have hdr := (Below.refl w1.heap.size w1).drew
  replace HI := Lib.hid (HI.out.ext hdr); replace HB := Lib.hid (below_ext HB.out hdr)
  clear hdr
  generalize w1.drew = W1 at *
  refine tkL (some 11) 0 ?_
  refine tkLy (some 12) 1 rfl (.agg (x.cells s).toArray) (yieldsIf_load_mid (by rfl) 41 _ rfl w.heap.size 0 rfl (x.cells s) _ (fun wS hSw => cb_rng0 hSw) Tryz.underlying41 rfl (by kernel_rfl)) ?_
  refine tkL (some 14) 3 ?_
  refine tkLy (some 15) 4 rfl (.agg ([.int .i64 x.sr, .int .i64 x.ss]).toArray) (yieldsIf_load_mid (by rfl) 39 _ rfl w.heap.size 30 rfl ([.int .i64 x.sr, .int .i64 x.ss]) _ (fun wS hSw => sg_rng hSw) Tryz.underlying39 rfl (by kernel_rfl)) ?_
  refine rdL 2 fun K hK => ?_
  go_simp
  go_at_call 68
  refine (message_any x s W1 (HXR.out.ext HB.out) Hi.out Hl.out Hz.out (HL.out.ext HB.out)).mono ?_
  rintro e W2 ⟨m, rfl, hm, hb2⟩
  obtain ⟨om, cm, rfl⟩ := hm.shape
  have HM := Lib.hid hm
  replace HI := Lib.hid (HI.out.ext hb2); replace HB := Lib.hid (below_ext HB.out hb2)
  clear hm hb2
  refine goLc hK HI.out fun hHeld => ?_
  clear hK K
  refine rdL 5 fun K hK => ?_
  go_simp
  go_at_call 73
  refine (verify_any p x.sr x.ss e1 e2 e3 _ (msgI x) t W2 (msgI_len x) HM.out (HL.out.ext HB.out) H1.out H2.out H3.out HV.out).mono ?_
  rintro e W3 ⟨rfl, hb3⟩
  replace HI := Lib.hid (HI.out.ext hb3); replace HB := Lib.hid (below_ext HB.out hb3)
  clear hb3 HM
  refine goLc hK HI.out fun hHeld => ?_
  clear hK K
  cases t
  case false =>
   refine tkL (some 17) 6 ?_
   refine wpAnyL_done (by kernel_rfl) ?_ _
   go_wp2_with fail
   go_ret
   exact ⟨by unfold verI; rw [Hok.out]; rfl, HB.out⟩
  case true =>
   refine tkL (some 17) 6 ?_
   refine wpAnyL_done (by kernel_rfl) ?_ _
   go_wp2_with fail
   go_ret
   exact ⟨by unfold verI; rw [Hok.out]; rfl, HB.out⟩
end Go.Proofs.YtdblnbnofjggnaaGreatDoor
namespace Go.Proofs.YtdblnbnofjggnaaGreatDoor
open Go.RowKit
section
variable {P : Program}
theorem results_cell_tmp {fn : Func} {p t2 : Tmp} {ty : TypeId} (h : fn.results = #[.cell p ty, .tmp t2]) (tmps : Array Value) (w : World) (g : Nat) (t : TypeId) (cs : Array Value) (fr : Nat × Nat) (d : TypeDesc)
 (hp : tmps.getD p undef = .pointer (some ⟨g, 0, none⟩)) (hg : w.heap[g]? = some (.cells cs t fr))
 (hu : P.underlying ty = some d) (hd : (match d with | .struct _ | .array _ _ => true | _ => false) = true) (hi : (P.info? ty).map (·.size) = some cs.size) :
 (results fn tmps).run P w = .ok (.tuple #[.agg cs, tmps.getD t2 undef]) w := by
 have hp' : tmps[p]?.getD undef = .pointer (some ⟨g, 0, none⟩) := by simpa using hp
 simp [results, h, hp', asAddr, run_loadVar_row w g t ty cs fr d hg hu hd hi]
end
def zI : Inp := ⟨0, 0, 0, 0, ByteArray.empty, fltZ, [], ⟨0, 0, []⟩, rpZ, ⟨0, 0, false⟩, 0, ⟨[], 0, 0⟩, 0, 0⟩
theorem zI_rd (w : World) : InpR w zI nilS := ⟨LsAt.nil _ _ _ _, TreeAt.nil _ _ _, LsAt.nil _ _ _ _, LsAt.nil _ _ _ _⟩
theorem zIc_one : ∀ u ∈ ZIc, u.oneCell' = true := by
 have h := inp_one zI nilS none none none none 0 0 0 0 0 0 0 0 rfl rfl rfl rfl
 exact fun u hu => Array.all_eq_true_iff_forall_mem.1 h u (List.mem_toArray.2 hu)
def sgnI (x : Inp) (r s e : Int) : Inp := if okI x then (if e = 0 then { x with sr := r, ss := s } else zI) else zI
def sgnE (x : Inp) (e : Int) : Int := if okI x then e else 490
def SgnP (x : Inp) (r s e : Int) (w : World) (q : Ending) (w' : World) : Prop := ∃ sl, q = .returned (.tuple #[.agg ((sgnI x r s e).cells sl).toArray, .int .i64 (sgnE x e)]) ∧ InpR w' (sgnI x r s e) sl ∧ Below w.heap.size w w'
set_option maxRecDepth 100000 in
set_option maxHeartbeats 8000000 in
theorem sign49_any (k Rr Ss ee : Int) (x : Inp) (s : Slc) (w : World) (hx : InpR w x s) (hi : InpI x) (hl : InpL x) (hz : sz (lV (fullL x)) ≤ 60000) (hL : Laid w) (hs : Hid (SigE k (msgI x) Rr Ss ee)) :
 Calls Tryz.prog 23 #[x.v s, .int .i64 k] w (SgnP x Rr Ss ee w) := by
 obtain ⟨b, hok⟩ : ∃ b, okI x = b := ⟨_, rfl⟩
 have Hok := Lib.hid hok
 have hb0 : Below w.heap.size w ((w.alloc (bI x s)).alloc ZI) := (b_al (w := w) (bI x s)).alloc (b_al (w := w) (bI x s)).size _
 have HI : Hid (CB ((w.alloc (bI x s)).alloc ZI) w.heap.size 41 (x.cells s)) := (cb_one w (bI x s) _ _ rfl).alloc _
 have H4 : Hid (CB ((w.alloc (bI x s)).alloc ZI) (w.heap.size + 1) 41 ZIc) := Lib.hid (by
  have := cb_one (w.alloc (bI x s)) ZI 41 ZIc rfl
  rwa [World.size_alloc] at this)
 have HB := Lib.hid hb0; have HXR := Lib.hid hx; have Hi := Lib.hid hi; have Hl := Lib.hid hl; have Hz := Lib.hid hz; have HS := hs
 have HL := Lib.hid hL
 have HZo := Lib.hid zIc_one
 have HBz : Hid (Tryz.prog.built 41 [] = some ZIc.toArray) := Lib.hid (by kernel_rfl)
 have HRS : Hid (∀ u ∈ ([.int .i64 Rr, .int .i64 Ss] : List Value), u.oneCell' = true) := Lib.hid (by intro u hu; simp only [List.mem_cons, List.not_mem_nil, or_false] at hu; rcases hu with rfl | rfl <;> rfl)
 have hee : ee = 0 ∨ ee = 40 := by
  rcases hs.out with ⟨_, _, _, _, _, _, _, _, _, _, _, _, _, _, _, _, _, h⟩ | ⟨_, _, _, h⟩
  · exact .inl h
  · exact .inr h
 clear hok hb0 hx hi hl hz hs hL
 change Calls Tryz.prog 23 #[.agg (x.cells s).toArray, _] w _
 go_enter Tryz.func23, Tryz.ntmps23
 go_upto_region 1 with fail
 change Code.wp _ _ _ _ ((w.alloc (bI x s)).alloc ZI)
 generalize (w.alloc (bI x s)).alloc ZI = w0 at *
 have HCk : Hid (∀ w1, Below w.heap.size w w1 → Calls Tryz.prog 13 #[.agg (x.cells s).toArray] w1 fun e w2 => e = .returned (.int .i64 (if b then 0 else 490)) ∧ Below w1.heap.size w1 w2) := fun w1 hb => (check_any49 x s w1 (HXR.out.ext hb) Hi.out.text Hi.out.flt.call Hi.out.rcl).mono fun e w2 h => ⟨by rw [← Hok.out]; exact h.1, h.2⟩
 cases b
 case false =>
  have HC0 : Hid (∀ w1, Below w.heap.size w w1 → Calls Tryz.prog 13 #[.agg (x.cells s).toArray] w1 fun e w2 => e = .returned (.int .i64 490) ∧ Below w1.heap.size w1 w2) := HCk.out
  clear HCk
  go_upto_region 2 with (first
   | (have _g := HI.out; refine wpList_load_cs (by rfl) 41 (.tmp 2) rfl w.heap.size (x.cells s) rfl 41 _ HI.out Tryz.underlying41 rfl (by kernel_rfl) ?_; clear _g)
   | (go_at_call 13; refine (HC0.out _ HB.out).mono ?_; go_loud (rintro e w1 ⟨rfl, hb1⟩; have HB1 := Lib.hid (below_ext HB.out hb1); have H41 := Lib.hid (H4.out.ext hb1); clear hb1)))
  clear HB H4 HI
  have HB := HB1; have H4 := H41
  clear HB1 H41
  go_wp2_with (first | (have _g := H4.out; refine wpList_load_cs (by rfl) 41 (.tmp 4) rfl (w.heap.size + 1) ZIc rfl 41 _ H4.out Tryz.underlying41 rfl (by kernel_rfl) ?_; clear _g) | (have _g := HZo.out; refine wpList_store_cs rfl 41 (.tmp 4) (.tmp 12) rfl (w.heap.size + 1) ZIc rfl rfl 41 ZIc H4.out (by rfl) (by kernel_rfl) HZo.out (fun w8 HC8 HW8 HZ8 => ?_); clear HZo))
  refine bodyPost_ret (v := .tuple #[.agg ((zI : Inp).cells (nilS : Slc)).toArray, _]) (results_cell_tmp rfl _ _ (w.heap.size + 1) 41 _ (0, 0) _ rfl HC8.out Tryz.underlying41 rfl (by kernel_rfl)) rfl ?_
  exact ⟨nilS, by unfold sgnI sgnE; rw [Hok.out]; rfl, by unfold sgnI; rw [Hok.out]; exact zI_rd _, HB.out.grown HW8.out HB.out.size (fun q e => by injection e with e; omega)⟩
 case true =>
  have HC0 : Hid (∀ w1, Below w.heap.size w w1 → Calls Tryz.prog 13 #[.agg (x.cells s).toArray] w1 fun e w2 => e = .returned (.int .i64 0) ∧ Below w1.heap.size w1 w2) := HCk.out
  clear HCk
  go_upto_region 4 with (first
   | (have _g := HI.out; refine wpList_load_cs (by rfl) 41 (.tmp 2) rfl w.heap.size (x.cells s) rfl 41 _ HI.out Tryz.underlying41 rfl (by kernel_rfl) ?_; clear _g)
   | (go_at_call 13; refine (HC0.out _ HB.out).mono ?_; go_loud (rintro e w1 ⟨rfl, hb1⟩; have HB1 := Lib.hid (below_ext HB.out hb1); have HI1 := Lib.hid (HI.out.ext hb1); have H41 := Lib.hid (H4.out.ext hb1); clear hb1)))
  clear HB HI H4
  have HB := HB1; have HI := HI1; have H4 := H41
  clear HB1 HI1 H41
  rcases hee with rfl | rfl
  · go_upto_region 7 with (first
     | (have _g := HI.out; refine wpList_load_cs (by rfl) 41 (.tmp 2) rfl w.heap.size (x.cells s) rfl 41 _ HI.out Tryz.underlying41 rfl (by kernel_rfl) ?_; clear _g)
     | (go_at_call 68; refine (message_any x s _ (HXR.out.ext HB.out) Hi.out Hl.out Hz.out (HL.out.ext HB.out)).mono ?_; go_loud (rintro e9 w2 ⟨m, rfl, hm, hb2⟩; obtain ⟨om, cm, rfl⟩ := hm.shape; have HM := Lib.hid hm; have HB2 := Lib.hid (below_ext HB.out hb2); have HI2 := Lib.hid (HI.out.ext hb2); have H42 := Lib.hid (H4.out.ext hb2); clear hm hb2))
     | (go_at_call 67; refine (sign_val k Rr Ss _ _ (msgI x) _ HS (msgI_len x) HM.out (HL.out.ext HB2.out)).mono ?_; go_loud (rintro e9 w3 ⟨rfl, hb3⟩; have HB3 := Lib.hid (below_ext HB2.out hb3); have HI3 := Lib.hid (HI2.out.ext hb3); have H43 := Lib.hid (H42.out.ext hb3); have H7z : Hid (CB (w3.alloc (.cells [Value.int .i64 0, .int .i64 0].toArray 39)) w3.heap.size 39 [.int .i64 0, .int .i64 0]) := cb_one w3 _ _ _ rfl; clear hb3 HM))
     | (have _g := HRS.out; refine wpList_store_cs rfl 39 (.tmp 7) (.tmp 19) rfl w3.heap.size [.int .i64 Rr, .int .i64 Ss] rfl rfl 39 _ H7z.out rfl (by kernel_rfl) HRS.out (fun w4 H7 HW4 HZ4 => ?_); clear _g))
    have hz4 : Below w3.heap.size w3 w4 := (b_al (w := w3) (.cells [Value.int .i64 0, .int .i64 0].toArray 39)).grown HW4.out (by simp) (fun q e => by injection e with e; omega)
    clear HB HI H4
    have HB := Lib.hid (below_ext HB3.out hz4); have HI := Lib.hid (HI3.out.ext hz4); have H4 := Lib.hid (H43.out.ext hz4)
    have HG7 : Hid (w.heap.size + 1 < w3.heap.size) := H43.out.lt
    clear HB2 HB3 HI2 HI3 H42 H43 hz4 HW4 HZ4 H7z
    go_upto_region 8 with (first
     | (have _g := H7.out; refine wpList_load_cs (by rfl) 39 (.tmp 7) rfl w3.heap.size [.int .i64 Rr, .int .i64 Ss] rfl 39 _ H7.out Tryz.underlying39 rfl (by kernel_rfl) ?_; clear _g)
     | (have _g := HRS.out; refine wpList_store_part rfl 39 (.tmp 26) (.tmp 25) rfl w.heap.size 30 [.int .i64 Rr, .int .i64 Ss] rfl rfl _ _ HI.out (show 30 + 2 ≤ 32 by decide) (by kernel_rfl) HRS.out (fun w5 HC5 HW5 => ?_); clear _g))
    have HC5' : Hid (CB w5 w.heap.size 41 (({ x with sr := Rr, ss := Ss } : Inp).cells s)) := HC5.out
    have H45 := Lib.hid (H4.out.keep (HW5.out.block _ H4.out.lt (fun e => by injection e with e; omega)))
    have HB5 := Lib.hid (HB.out.grown HW5.out HB.out.size (fun q e => by injection e with e; omega))
    have HSO : Hid (∀ u ∈ ({ x with sr := Rr, ss := Ss } : Inp).cells s, u.oneCell' = true) := by
     obtain ⟨⟨oa, na, ca, ea⟩, ⟨ob, nb, cb, eb⟩, ⟨oc, nc, cc, ec⟩, ⟨od, nd, cd, ed⟩⟩ := slcS_of HXR.out
     have h := inp_one ({ x with sr := Rr, ss := Ss } : Inp) s _ _ _ _ _ _ _ _ _ _ _ _ ea eb ec ed
     exact fun u hu => Array.all_eq_true_iff_forall_mem.1 h u (by simpa using hu)
    clear HI H4 HB HC5 HW5 H7
    go_wp2_with (first
     | (have _g := HC5'.out; refine wpList_load_cs (by rfl) 41 (.tmp 2) rfl w.heap.size _ rfl 41 _ HC5'.out Tryz.underlying41 rfl (by kernel_rfl) ?_; clear _g)
     | (have _g := HSO.out; refine wpList_store_cs rfl 41 (.tmp 4) (.tmp 27) rfl (w.heap.size + 1) _ rfl rfl 41 ZIc H45.out (by rfl) (by kernel_rfl) HSO.out (fun w8 HC8 HW8 HZ8 => ?_); clear HSO))
    refine bodyPost_ret (v := .tuple #[.agg (({ x with sr := Rr, ss := Ss } : Inp).cells (s : Slc)).toArray, _]) (results_cell_tmp rfl _ _ (w.heap.size + 1) 41 _ (0, 0) _ rfl HC8.out Tryz.underlying41 rfl (by kernel_rfl)) rfl ?_
    have hbe : Below w.heap.size w w8 := HB5.out.grown HW8.out HB5.out.size (fun q e => by injection e with e; omega)
    exact ⟨s, by unfold sgnI sgnE; rw [Hok.out]; rfl, by unfold sgnI; rw [Hok.out]; exact ⟨(HXR.out.ext hbe).ways, (HXR.out.ext hbe).tree, (HXR.out.ext hbe).modes, (HXR.out.ext hbe).vols⟩, hbe⟩
  · go_upto_region 6 with (first
     | (have _g := HI.out; refine wpList_load_cs (by rfl) 41 (.tmp 2) rfl w.heap.size (x.cells s) rfl 41 _ HI.out Tryz.underlying41 rfl (by kernel_rfl) ?_; clear _g)
     | (go_at_call 68; refine (message_any x s _ (HXR.out.ext HB.out) Hi.out Hl.out Hz.out (HL.out.ext HB.out)).mono ?_; go_loud (rintro e9 w2 ⟨m, rfl, hm, hb2⟩; obtain ⟨om, cm, rfl⟩ := hm.shape; have HM := Lib.hid hm; have HB2 := Lib.hid (below_ext HB.out hb2); have HI2 := Lib.hid (HI.out.ext hb2); have H42 := Lib.hid (H4.out.ext hb2); clear hm hb2))
     | (go_at_call 67; refine (sign_val k Rr Ss _ _ (msgI x) _ HS (msgI_len x) HM.out (HL.out.ext HB2.out)).mono ?_; go_loud (rintro e9 w3 ⟨rfl, hb3⟩; have HB3 := Lib.hid (below_ext HB2.out hb3); have HI3 := Lib.hid (HI2.out.ext hb3); have H43 := Lib.hid (H42.out.ext hb3); have H7z : Hid (CB (w3.alloc (.cells [Value.int .i64 0, .int .i64 0].toArray 39)) w3.heap.size 39 [.int .i64 0, .int .i64 0]) := cb_one w3 _ _ _ rfl; clear hb3 HM))
     | (have _g := HRS.out; refine wpList_store_cs rfl 39 (.tmp 7) (.tmp 19) rfl w3.heap.size [.int .i64 Rr, .int .i64 Ss] rfl rfl 39 _ H7z.out rfl (by kernel_rfl) HRS.out (fun w4 H7 HW4 HZ4 => ?_); clear _g))
    have hz4 : Below w3.heap.size w3 w4 := (b_al (w := w3) (.cells [Value.int .i64 0, .int .i64 0].toArray 39)).grown HW4.out (by simp) (fun q e => by injection e with e; omega)
    clear HB HI H4
    have HB := Lib.hid (below_ext HB3.out hz4); have H4 := Lib.hid (H43.out.ext hz4)
    clear HB2 HB3 HI2 HI3 H42 H43 hz4 HW4 HZ4 H7z H7
    go_wp2_with (first | (have _g := H4.out; refine wpList_load_cs (by rfl) 41 (.tmp 4) rfl (w.heap.size + 1) ZIc rfl 41 _ H4.out Tryz.underlying41 rfl (by kernel_rfl) ?_; clear _g) | (have _g := HZo.out; refine wpList_store_cs rfl 41 (.tmp 4) (.tmp 23) rfl (w.heap.size + 1) ZIc rfl rfl 41 ZIc H4.out (by rfl) (by kernel_rfl) HZo.out (fun w8 HC8 HW8 HZ8 => ?_); clear HZo))
    refine bodyPost_ret (v := .tuple #[.agg ((zI : Inp).cells (nilS : Slc)).toArray, _]) (results_cell_tmp rfl _ _ (w.heap.size + 1) 41 _ (0, 0) _ rfl HC8.out Tryz.underlying41 rfl (by kernel_rfl)) rfl ?_
    exact ⟨nilS, by unfold sgnI sgnE; rw [Hok.out]; rfl, by unfold sgnI; rw [Hok.out]; exact zI_rd _, HB.out.grown HW8.out HB.out.size (fun q e => by injection e with e; omega)⟩
end Go.Proofs.YtdblnbnofjggnaaGreatDoor
namespace Go.Proofs.YtdblnbnofjggnaaGreatDoor
open Go.RowKit
set_option maxHeartbeats 1000000 in
theorem catch49_idle (V E : Nat) (w : World) :
 CallsD Tryz.prog 56 #[.pointer (some ⟨V, 0, none⟩), .pointer (some ⟨E, 0, none⟩)] .returning w fun e u' w' => e = .returned (.tuple #[]) ∧ u' = .returning ∧ w' = w := by
 refine callsD_of_wpS Tryz.func56 rfl fun c₀ cs hu => ?_
 apply wpS_seq
 apply wpS_region
 simp [wpOpsS, go_sem, recoverD, hu, Tryz.ntmps56, Exit.thenS]
 apply wpS_seq
 apply wpS_region
 simp [wpOpsS, go_sem, Exit.thenS]
 refine wpS_cond (t := false) (by simp [Act.eval, Array.replicate]) ?_
 simp only [Bool.false_eq_true, if_false]
 refine wpS_of_wp (wp_skip ?_)
 cases c₀
 simp_all [bodyPostS, results, Tryz.results56]
structure Catch49 (N E : Nat) (w w' : World) : Prop where
 n : CB w' N 41 ZIc
 e : CB w' E 44 [.int .i64 490]
 gr : ∀ (base : World) (G : Option Nat), base.grownBy w G → base.heap.size ≤ N → base.heap.size ≤ E → base.grownBy w' G
theorem grown_at {base w w' : World} {G : Option Nat} {N : Nat} (h : base.grownBy w G) (hg : w.grownBy w' (some N)) (hN : base.heap.size ≤ N) : base.grownBy w' G := grown_trans h hg (.inr fun q e => by injection e with e; omega)
set_option maxRecDepth 100000 in
set_option maxHeartbeats 4000000 in
theorem catch49_panicking (N E : Nat) (v : Value) (w : World) (hN : CB w N 41 ZIc) (hE : CB w E 44 [v]) (hne : N ≠ E) :
 CallsD Tryz.prog 56 #[.pointer (some ⟨N, 0, none⟩), .pointer (some ⟨E, 0, none⟩)] (.panicking badI) w fun e u' w' =>
  e = .returned (.tuple #[]) ∧ u' = .panicking [{ v := .iface 44 (.int .i64 490), recovered := true }] ∧ Catch49 N E w w' := by
 have HN := Lib.hid hN; have HE := Lib.hid hE; have Hne := Lib.hid hne
 have HBz : Hid (Tryz.prog.built 41 [] = some ZIc.toArray) := Lib.hid (by kernel_rfl)
 have HZo := Lib.hid zIc_one
 clear hN hE hne
 unfold badI
 have hta := assert_errno
 refine callsD_of_wpS Tryz.func56 rfl fun c₀ cs hu => ?_
 apply wpS_seq
 apply wpS_region
 simp [wpOpsS, go_sem, recoverD, hu, Tryz.ntmps56, Exit.thenS]
 apply wpS_seq
 apply wpS_region
 simp [wpOpsS, go_sem, Exit.thenS]
 refine wpS_cond (t := true) (by simp [Act.eval, Array.replicate]) ?_
 simp only [if_true]
 refine wpS_of_wp ?_
 go_wp2
 change Code.wp _ _ _ ⟨#[.pointer (some ⟨N, 0, none⟩), .pointer (some ⟨E, 0, none⟩), .iface 44 (.int .i64 490), .iface 44 (.int .i64 490), .iface 44 (.int .i64 490), .bool true, undef, undef, undef], _⟩ w
 refine wp_region_held_drew (S := fun w' => True) (by kernel_rfl) trivial (fun hHeld => ?_)
 have HN1 : Hid (CB w.drew N 41 ZIc) := HN.out
 have HE1 : Hid (CB w.drew E 44 [v]) := HE.out
 have Hg1 := Lib.hid (fun (base : World) (G : Option Nat) (h : base.grownBy w G) => grown_drew' h)
 clear HN HE
 generalize w.drew = w1 at *
 refine tkHy (some 6) 0 rfl (.agg ZIc.toArray) (yields_built (by rfl) 41 #[] rfl ZIc [] rfl HBz.out) ?_
 refine tkH (some 7) 1 ?_ (hy := fun wS hSw => by (obtain s1 := hSw); go_simp; first | done | with_reducible rfl)
 refine tkH (some 8) 2 ?_ (hy := fun wS hSw => by (obtain s1 := hSw); go_simp; first | done | with_reducible rfl)
 refine rdH 3 fun K hK => ?_
 refine wpIf_store_cs (by rfl) 41 (.tmp 0) (.tmp 6) rfl N ZIc rfl rfl 41 ZIc HN1.out rfl (by kernel_rfl) HZo.out (fun w2 HC2 HG2 HS2 => ?_)
 have HE2 := Lib.hid (HE1.out.keep (HG2.out.block _ HE1.out.lt (fun e => Hne.out (by injection e with e; exact e.symm))))
 refine goK hK trivial fun hHeld => ?_
 clear hK K
 refine rdH 4 fun K hK => ?_
 have x0 : w2.cell? ⟨E, 0, none⟩ = some v := HE2.out.cell 0
 have xf := HE2.out.frozen 0
 go_simp
 refine goK hK trivial fun hHeld => ?_
 clear hK K
 refine wpAnyH_done (by kernel_rfl) ?_ _
 show bodyPostS _ _ _ _ _ _ _ _ _
 cases c₀
 simp only at hu
 subst hu
 simp [bodyPostS, results, Tryz.results56]
 exact ⟨HC2.out.keep (Below.heap_setCell w2 ⟨E, 0, none⟩ _ N Hne.out), HE2.out.set 0 _, fun base G h h1 h2 => grown_at (grown_at (Hg1.out base G h) HG2.out h1) (grown_setT w2 E 0 _) h2⟩
end Go.Proofs.YtdblnbnofjggnaaGreatDoor
namespace Go.Proofs.YtdblnbnofjggnaaGreatDoor
open Go.RowKit
def DecA (p : Inp × Int) (w : World) (e : Ending) (w' : World) : Prop := ∃ sl, e = .returned (.tuple #[.agg ((p.1).cells sl).toArray, .int .i64 p.2]) ∧ InpR w' p.1 sl ∧ Below w.heap.size w w'
theorem zP_rd (w : World) : InpR w zP nilS := zI_rd w
theorem results_two {P : Program} {fn : Func} {p p2 : Tmp} {ty ty2 : TypeId} (h : fn.results = #[.cell p ty, .cell p2 ty2]) (tmps : Array Value) (w : World) (g g2 : Nat) (t _t2 : TypeId) (cs : Array Value) (fr : Nat × Nat) (d : TypeDesc) (v : Value)
 (hp : tmps.getD p undef = .pointer (some ⟨g, 0, none⟩)) (hg : w.heap[g]? = some (.cells cs t fr))
 (hu : P.underlying ty = some d) (hd : (match d with | .struct _ | .array _ _ => true | _ => false) = true) (hi : (P.info? ty).map (·.size) = some cs.size)
 (hp2 : tmps.getD p2 undef = .pointer (some ⟨g2, 0, none⟩)) (h2 : (loadVar ty2 ⟨g2, 0, none⟩).run P w = .ok v w) :
 (results fn tmps).run P w = .ok (.tuple #[.agg cs, v]) w := by
 have hp' : tmps[p]?.getD undef = .pointer (some ⟨g, 0, none⟩) := by simpa using hp
 have hp2' : tmps[p2]?.getD undef = .pointer (some ⟨g2, 0, none⟩) := by simpa using hp2
 simp [results, h, hp', hp2', asAddr, run_loadVar_row w g t ty cs fr d hg hu hd hi, h2]
theorem load_errno (w : World) (g : Nat) (v : Value) (h : w.cell? ⟨g, 0, none⟩ = some v) : (loadVar 44 ⟨g, 0, none⟩).run Tryz.prog w = .ok v w := by
 simp [loadVar, isAgg, underlying, Tryz.underlying44, h, Result.andThen, go_sem]
theorem leave49 {tmps : Array Value} {R : Ending → World → Prop} {N E : Nat} {w' : World} {cs : List Value} {v : Value} (h0 : tmps.getD 2 undef = .pointer (some ⟨N, 0, none⟩)) (h1 : tmps.getD 3 undef = .pointer (some ⟨E, 0, none⟩))
 (hN : CB w' N 41 cs) (hl : cs.length = 32) (hE : CB w' E 44 [v]) (hR : R (.returned (.tuple #[.agg cs.toArray, v])) w') : Leaves Tryz.prog Tryz.f21 tmps R [] .returning w' :=
 ⟨_, results_two (fn := Tryz.f21) rfl tmps w' N E 41 44 cs.toArray (0, 0) _ v h0 hN Tryz.underlying41 rfl (by rw [List.size_toArray, hl]; kernel_rfl) h1 (load_errno w' E v (hE.cell 0)), hR⟩
def dfr (N E : Nat) : Deferred := { target := .fn (.func 56) #[.pointer (some ⟨N, 0, none⟩), .pointer (some ⟨E, 0, none⟩)], args := #[] }
theorem panic49 {tmps : Array Value} {R : Ending → World → Prop} {N E : Nat} {w' : World} {v : Value} (h0 : tmps.getD 2 undef = .pointer (some ⟨N, 0, none⟩)) (h1 : tmps.getD 3 undef = .pointer (some ⟨E, 0, none⟩))
 (hN : CB w' N 41 ZIc) (hE : CB w' E 44 [v]) (hne : N ≠ E) (hR : ∀ w'', Catch49 N E w' w'' → R (.returned (.tuple #[.agg ZIc.toArray, .int .i64 490])) w'') : Leaves Tryz.prog Tryz.f21 tmps R [dfr N E] (.panicking badI) w' := by
 refine leaves_cons (f := 56) (args := #[.pointer (some ⟨N, 0, none⟩), .pointer (some ⟨E, 0, none⟩)]) (by simp) (by simp [go_sem]) ?_
 refine (catch49_panicking N E v w' hN hE hne).mono ?_
 rintro e u' w'' ⟨rfl, rfl, hc⟩
 show Leaves _ _ _ _ _ (settle _) _
 exact leave49 h0 h1 hc.n rfl hc.e (hR w'' hc)
theorem ret49 {tmps : Array Value} {R : Ending → World → Prop} {N E : Nat} {w' : World} {cs : List Value} {v : Value} (h0 : tmps.getD 2 undef = .pointer (some ⟨N, 0, none⟩)) (h1 : tmps.getD 3 undef = .pointer (some ⟨E, 0, none⟩))
 (hN : CB w' N 41 cs) (hl : cs.length = 32) (hE : CB w' E 44 [v]) (hR : R (.returned (.tuple #[.agg cs.toArray, v])) w') : Leaves Tryz.prog Tryz.f21 tmps R [dfr N E] .returning w' := by
 refine leaves_cons (f := 56) (args := #[.pointer (some ⟨N, 0, none⟩), .pointer (some ⟨E, 0, none⟩)]) (by simp) (by simp [go_sem]) ?_
 refine (catch49_idle N E w').mono ?_
 rintro e u' w'' ⟨rfl, rfl, rfl⟩
 exact leave49 h0 h1 hN hl hE hR
theorem decO_none {l : List UInt8} {v : V} (hd : decF l = some v) (hi : decI v = none) : decO decI l = (zP, 490) := by
 unfold decO; rw [hd]; show (match decI v with | none => (zP, (490 : Int)) | some x => if okI x && decide (encI x = l) then (x, 0) else (zP, 490)) = _; rw [hi]
theorem decO_some {l : List UInt8} {v : V} {x : Inp} (hd : decF l = some v) (hi : decI v = some x) : decO decI l = if okI x && decide (encI x = l) then (x, 0) else (zP, 490) := by
 unfold decO; rw [hd]; show (match decI v with | none => (zP, (490 : Int)) | some x => if okI x && decide (encI x = l) then (x, 0) else (zP, 490)) = _; rw [hi]
theorem decI_of {v : V} {o : Option Inp} (hk : v.kind = 3) (h : decC v.l = o) : decI v = o := by unfold decI; rw [if_pos hk, h]
theorem fin_bad {l : List UInt8} {w w9 w' : World} {N E : Nat} (hp : decO decI l = (zP, 490)) (hg : w.grownBy w9 none) (hN : w.heap.size ≤ N) (hE : w.heap.size ≤ E) (hc : Catch49 N E w9 w') : DecA (decO decI l) w (.returned (.tuple #[.agg ZIc.toArray, .int .i64 490])) w' := by
 rw [hp]
 exact ⟨nilS, rfl, zP_rd _, grown_below (hc.gr w none hg hN hE)⟩
theorem nssR_sz {l r : List V} {q : List Int} (h : nssR l = some (q, r)) : szs r ≤ szs l := by
 unfold nssR at h
 obtain ⟨⟨p, t⟩, h1, h2⟩ := Option.bind_eq_some_iff.1 h
 obtain ⟨u, h3, h4⟩ := Option.bind_eq_some_iff.1 h2
 injection h4 with h4; injection h4 with _ h4; subst h4
 have := lstR_sz h1; show szs t ≤ _; omega
theorem treR_sz {l r : List V} {q : List Nod} (h : treR l = some (q, r)) : szs r ≤ szs l := by
 unfold treR at h
 obtain ⟨⟨p, t⟩, h1, h2⟩ := Option.bind_eq_some_iff.1 h
 obtain ⟨u, h3, h4⟩ := Option.bind_eq_some_iff.1 h2
 injection h4 with h4; injection h4 with _ h4; subst h4
 have := lstR_sz h1; show szs t ≤ _; omega
section
variable {w0 W W' : World} {G : Option Nat} {B g X : Nat} {l : List V} {cs cs' : List (Nat × List V)} {ts : List Thing} {xc : List Value}
theorem DSt.nss (h : DSt w0 G B ((g, l) :: cs) ts W) : Calls Tryz.prog 61 #[.pointer (some ⟨g, 0, none⟩)] W fun e w' =>
 (∃ q r oa cap, nssR l = some (q, r) ∧ e = .returned (.slice oa q.length cap) ∧ DSt w0 G B ((g, r) :: cs) (ownT nuK 3 W.heap.size (.slice oa q.length cap) q :: ts) w' ∧ ∀ k, (Value.slice oa q.length cap).ownBlock = some k → W.heap.size ≤ k) ∨ (nssR l = none ∧ e = .panicked badI ∧ DFin w0 G ts w') := by
 refine (nss49_any B g l W h.top h.hB (h.sm (g, l) List.mem_cons_self)).mono fun e w' hp => ?_
 rcases hp with ⟨q, r, v, h1, h2, h3, h4, h5⟩ | ⟨h1, h2, h3⟩
 · obtain ⟨oa, cap, rfl, -⟩ := h3.rd.shape
   refine .inl ⟨q, r, oa, cap, h1, h2, (h.step h5 h4 (nssR_sz h1)).add _ h3 (fun p hp hk => ?_), fun k hk => (h3.lt k hk).1⟩
   have hlow := (h3.lt _ hk).1
   have : ∃ p' ∈ ((g, l) :: cs), p'.1 = p.1 := by
    rcases List.mem_cons.1 hp with rfl | hp
    · exact ⟨_, List.mem_cons_self, rfl⟩
    · exact ⟨p, List.mem_cons_of_mem _ hp, rfl⟩
   obtain ⟨p', hp', e'⟩ := this
   have := (h.cur p' hp').lt'
   omega
 · exact .inr ⟨h1, h2, h.stop h3⟩
theorem DSt.tre (h : DSt w0 G B ((g, l) :: cs) ts W) : Calls Tryz.prog 64 #[.pointer (some ⟨g, 0, none⟩)] W fun e w' =>
 (∃ q r oa cap rl, treR l = some (q, r) ∧ e = .returned (.slice oa q.length cap) ∧ DSt w0 G B ((g, r) :: cs) (treT W.heap.size (.slice oa q.length cap) rl q :: ts) w' ∧ ∀ k, TreB (.slice oa q.length cap) rl k → W.heap.size ≤ k) ∨ (treR l = none ∧ e = .panicked badI ∧ DFin w0 G ts w') := by
 refine (tree49_any B g l W h.top h.hB (h.sm (g, l) List.mem_cons_self)).mono fun e w' hp => ?_
 rcases hp with ⟨q, r, v, rl, h1, h2, h3, h4, h5⟩ | ⟨h1, h2, h3⟩
 · obtain ⟨oa, cap, hv, -⟩ := h3.at.shape
   subst hv
   refine .inl ⟨q, r, oa, cap, rl, h1, h2, (h.step h5 h4 (treR_sz h1)).add (treT W.heap.size (.slice oa q.length cap) rl q) h3 (fun p hp hk => ?_), fun k hk => (h3.low hk).1⟩
   have hlow := (h3.low hk).1
   have : ∃ p' ∈ ((g, l) :: cs), p'.1 = p.1 := by
    rcases List.mem_cons.1 hp with rfl | hp
    · exact ⟨_, List.mem_cons_self, rfl⟩
    · exact ⟨p, List.mem_cons_of_mem _ hp, rfl⟩
   obtain ⟨p', hp', e'⟩ := this
   have := (h.cur p' hp').lt'
   omega
 · exact .inr ⟨h1, h2, h.stop h3⟩
structure DX (w0 : World) (G : Option Nat) (B X : Nat) (xc : List Value) (cs : List (Nat × List V)) (ts : List Thing) (W : World) : Prop where
 d : DSt w0 G B cs (boxT X 41 xc :: ts) W
 far : ∀ t ∈ ts, ¬ t.blk X
 lo : w0.heap.size ≤ X
 lB : B ≤ X
theorem DX.box (h : DX w0 G B X xc cs ts W) : CB W X 41 xc := h.d.thg (boxT X 41 xc) List.mem_cons_self
theorem DX.re (h : DX w0 G B X xc cs ts W) (hs : DSt w0 G B cs' (boxT X 41 xc :: ts) W') : DX w0 G B X xc cs' ts W' := ⟨hs, h.far, h.lo, h.lB⟩
theorem DX.own {t : Thing} (h : DX w0 G B X xc cs ts W) (hs : DSt w0 G B cs' (t :: boxT X 41 xc :: ts) W') (ht : ∀ k, t.blk k → W.heap.size ≤ k) : DX w0 G B X xc cs' (t :: ts) W' :=
 ⟨hs.sub (fun u hu => by
  rcases List.mem_cons.1 hu with rfl | hu
  · exact List.mem_cons_of_mem _ List.mem_cons_self
  · rcases List.mem_cons.1 hu with rfl | hu
    · exact List.mem_cons_self
    · exact List.mem_cons_of_mem _ (List.mem_cons_of_mem _ hu)),
  fun u hu hx => by
   rcases List.mem_cons.1 hu with rfl | hu
   · have := ht X hx; have := h.box.lt; omega
   · exact h.far u hu hx, h.lo, h.lB⟩
theorem DX.set {yc : List Value} (h : DX w0 G B X xc cs ts W) (hg : W.grownBy W' (some X)) (hc : CB W' X 41 yc) : DX w0 G B X yc cs ts W' :=
 ⟨h.d.put [boxT X 41 xc] (boxT X 41 yc) (some X) hg (fun k hk => by injection hk with hk; subst hk; exact ⟨⟨_, List.mem_singleton.2 rfl, rfl⟩, h.lo, h.lB⟩) hc (fun k hk => .inl ⟨_, List.mem_singleton.2 rfl, hk⟩) (fun u hu k hk => by injection hk with hk; subst hk; exact h.far u hu), h.far, h.lo, h.lB⟩
end
theorem own_ne {α : Type} {K : EK α} {e t : TypeId} {w : World} {b g : Nat} {v : Value} {l : List α} {cs : List Value} (h : OwnK K e w b v l) (hc : CB w g t cs) (hne : e ≠ t) : ∀ k, v.ownBlock = some k → (some g : Option Nat) ≠ some k := by
 intro k hk he
 injection he with he
 subst he
 rcases h.2 with ⟨h0, _⟩ | ⟨g', cap, cur, hv, hb, hg, _⟩
 · rw [h0] at hk; cases hk
 · subst hv
   injection hk with hk
   have hk : g' = g := hk
   subst hk
   unfold CB at hc
   rw [hc] at hg
   injection hg with hg
   injection hg with _ hg _
   exact hne hg.symm
def Own4 (y : Inp) (s : Slc) (w : World) : Prop := ∃ b1 b2 b3 b4 rl, OwnK nuK 3 w b1 s.ways y.flt.ways ∧ TreO b2 s.tree rl y.tree w ∧ OwnK nuK 3 w b3 s.modes y.chg.modes ∧ OwnK nuK 3 w b4 s.vols y.stn.vols
theorem Own4.rd {y : Inp} {s : Slc} {w : World} (h : Own4 y s w) : InpR w y s := by
 obtain ⟨_, _, _, _, _, h1, h2, h3, h4⟩ := h
 exact ⟨h1.rd, h2.at, h3.rd, h4.rd⟩
theorem Own4.keep {y : Inp} {s : Slc} {w w' : World} {row : Option Nat} (h : Own4 y s w) (hg : w.grownBy w' row) (hr : ∀ k, row = some k → ∃ t cs, CB w k t cs ∧ t ≠ 3 ∧ t ≠ 48 ∧ t ≠ 88) : Own4 y s w' := by
 obtain ⟨b1, b2, b3, b4, rl, h1, h2, h3, h4⟩ := h
 have hi : ∀ (b : Nat) (v : Value) (l : List Int), OwnK nuK 3 w b v l → OwnK nuK 3 w' b v l := fun b v l h => own_keep h hg (fun k hk e => by
  obtain ⟨t, cs, hc, ht, _⟩ := hr k e
  exact own_ne h hc ht.symm k hk rfl)
 refine ⟨b1, b2, b3, b4, rl, hi _ _ _ h1, (treT b2 s.tree rl y.tree).keep h2 hg (fun k hk e => ?_), hi _ _ _ h3, hi _ _ _ h4⟩
 obtain ⟨t, cs, hc, _, ht, ht2⟩ := hr k e
 rcases hk with hk | ⟨r, hm, hk⟩
 · exact own_ne h2.1 hc ht.symm k hk rfl
 · obtain ⟨t', h5, _⟩ := h2.mem hm
   exact own_ne h5 hc ht2.symm k hk rfl
theorem Own4.ext {y : Inp} {s : Slc} {w w' : World} (h : Own4 y s w) (hb : Below w.heap.size w w') : Own4 y s w' := h.keep (below_none hb) (fun k e => by cases e)
theorem Own4.row {y : Inp} {s : Slc} {w w' : World} {g : Nat} {t : TypeId} {cs : List Value} (h : Own4 y s w) (hc : CB w g t cs) (ht : t ≠ 3 ∧ t ≠ 48 ∧ t ≠ 88) (hg : w.grownBy w' (some g)) : Own4 y s w' :=
 h.keep hg (fun k e => by injection e with e; subst e; exact ⟨t, cs, hc, ht⟩)
end Go.Proofs.YtdblnbnofjggnaaGreatDoor
namespace Go.Proofs.YtdblnbnofjggnaaGreatDoor
open Go.RowKit
set_option maxRecDepth 100000 in
set_option maxHeartbeats 16000000 in
theorem decode49_none (l : List UInt8) (hl : l.length ≤ 1000000) (v : Value) (w : World) (hb : BtsAt w.heap.size w l v) (hd : decF l = none) : Calls Tryz.prog 21 #[v] w (DecA (zP, 10) w) := by
 have HZo := Lib.hid zIc_one
 obtain ⟨ob, capb, rfl⟩ := hb.shape
 have hmf : ∀ (fn : Fn) (first cap : Array Value) (w : World), (Instr.makeFunc fn first cap).run Tryz.prog w = .ok (.func fn first cap) w := fun _ _ _ _ => rfl
 have hb0 : Below w.heap.size w ((w.alloc ZI).alloc (.cells [Value.int .i64 0].toArray 44)) := (b_al (w := w) ZI).alloc (b_al (w := w) ZI).size _
 have hN0 : CB ((w.alloc ZI).alloc (.cells [Value.int .i64 0].toArray 44)) w.heap.size 41 ZIc := (cb_one w ZI _ _ rfl).alloc _
 have hE0 : CB ((w.alloc ZI).alloc (.cells [Value.int .i64 0].toArray 44)) (w.heap.size + 1) 44 [.int .i64 0] := by
  have := cb_one (w.alloc ZI) (.cells [Value.int .i64 0].toArray 44) 44 _ rfl
  rwa [World.size_alloc] at this
 have HW := Lib.hid (hb.ext hb0); have HB0 := Lib.hid hb0; have HN0 := Lib.hid hN0; have HE0 := Lib.hid hE0; have Hl := Lib.hid hl; have HD := Lib.hid hd
 obtain ⟨E, hE⟩ : ∃ E, w.heap.size + 1 = E := ⟨_, rfl⟩
 have Hne : Hid (w.heap.size ≠ E ∧ w.heap.size ≤ E) := Lib.hid (by omega)
 rw [hE] at HE0
 clear hb hb0 hN0 hE0 hl hd
 go_enter_defers Tryz.func21, Tryz.ntmps21
 go_upto_region 1 with fail
 change Code.wp _ _ _ _ ((w.alloc ZI).alloc (.cells [Value.int .i64 0].toArray 44))
 try rw [hE]
 generalize (w.alloc ZI).alloc (.cells [Value.int .i64 0].toArray 44) = w0 at *
 go_upto_region 2 with (go_at_call 55; refine (decode_any w0.heap.size l Hl.out _ w0 HW.out (Nat.le_refl _)).mono ?_; rw [HD.out]; go_loud (rintro e w1 ⟨rfl, hg⟩; have hbz := below_ext HB0.out (grown_below hg); have HB1 := Lib.hid (below_ext hbz (b_al (w := w1) (.cells [.int .i64 0, .int .i64 0, .string ⟨#[]⟩, .slice none 0 0].toArray 80))); have HN1 := Lib.hid ((HN0.out.ext (grown_below hg)).alloc (.cells [.int .i64 0, .int .i64 0, .string ⟨#[]⟩, .slice none 0 0].toArray 80)); have HE1 := Lib.hid ((HE0.out.ext (grown_below hg)).alloc (.cells [.int .i64 0, .int .i64 0, .string ⟨#[]⟩, .slice none 0 0].toArray 80)); have x0 : (w1.alloc (.cells [.int .i64 0, .int .i64 0, .string ⟨#[]⟩, .slice none 0 0].toArray 80)).cell? ⟨E, 0, none⟩ = some (.int .i64 0) := HE1.out.cell 0; have xf : (w1.alloc (.cells [.int .i64 0, .int .i64 0, .string ⟨#[]⟩, .slice none 0 0].toArray 80)).frozen? ⟨E, 0, none⟩ = false := HE1.out.frozen 0; clear hg hbz))
 change Code.wp _ _ _ _ ((w1.alloc (.cells [.int .i64 0, .int .i64 0, .string ⟨#[]⟩, .slice none 0 0].toArray 80)).setCell ⟨E, 0, none⟩ (.int .i64 10))
 have HN2 := Lib.hid (HN1.out.far (p := ⟨E, 0, none⟩) Hne.out.1 (.int .i64 10))
 have HE2 : Hid (CB ((w1.alloc (.cells [.int .i64 0, .int .i64 0, .string ⟨#[]⟩, .slice none 0 0].toArray 80)).setCell ⟨E, 0, none⟩ (.int .i64 10)) E 44 [.int .i64 10]) := Lib.hid (HE1.out.set 0 (.int .i64 10))
 have HB2 := Lib.hid (HB1.out.setCell (p := ⟨E, 0, none⟩) Hne.out.2 (.int .i64 10))
 have y2 : ((w1.alloc (.cells [.int .i64 0, .int .i64 0, .string ⟨#[]⟩, .slice none 0 0].toArray 80)).setCell ⟨E, 0, none⟩ (.int .i64 10)).cell? ⟨E, 0, none⟩ = some (.int .i64 10) := HE2.out.cell 0
 clear HN1 HE1 HB1 HN0 HE0 HB0 HW x0 xf hE
 generalize (w1.alloc (.cells [.int .i64 0, .int .i64 0, .string ⟨#[]⟩, .slice none 0 0].toArray 80)).setCell ⟨E, 0, none⟩ (.int .i64 10) = w2 at *
 go_upto_region 3 with fail
 clear y2
 refine wp_region_noPanic ?_
 refine wp_region_late_drew (S := fun w' => CB w' w.heap.size 41 ZIc ∧ w'.cell? ⟨E, 0, none⟩ = some (.int .i64 10)) (late := fun _ => false) (by kernel_rfl) ⟨HN2.out.keep rfl, HE2.out.cell 0⟩ (fun hHeld => ?_)
 have HN3 : Hid (CB w2.drew w.heap.size 41 ZIc) := HN2.out.keep rfl
 have HE3 : Hid (CB w2.drew E 44 [.int .i64 10]) := HE2.out.keep rfl
 have HB3 : Hid (Below w.heap.size w w2.drew) := HB2.out.drew
 clear HN2 HE2 HB2
 generalize w2.drew = w3 at *
 refine tkLy (some 17) 0 rfl (.agg (ZIc).toArray) (yieldsIf_load_mid (by rfl) 41 _ rfl w.heap.size 0 rfl (ZIc) _ (fun wS hSw => cb_rng0 hSw.1) Tryz.underlying41 rfl (by kernel_rfl)) ?_
 refine tkL (some 18) 1 ?_ (hy := fun wS hSw => by (obtain ⟨s1, s2⟩ := hSw); go_simp; first | done | with_reducible rfl)
 refine rdL 2 fun K hK => ?_
 refine wpIf_store_cs (by rfl) 41 (.tmp 2) (.tmp 17) rfl w.heap.size ZIc rfl rfl 41 ZIc HN3.out rfl (by kernel_rfl) HZo.out (fun w4 HC4 HG4 HS4 => ?_)
 have HE4 := Lib.hid (HE3.out.keep (HG4.out.block _ HE3.out.lt (fun e => Hne.out.1 (by injection e with e; exact e.symm))))
 have HB4 := Lib.hid (HB3.out.grown HG4.out HB3.out.size (fun k hk => by injection hk with hk; omega))
 refine goLc hK ⟨HC4.out, HE4.out.cell 0⟩ fun hHeld => ?_
 clear hK K
 refine rdL 3 fun K hK => ?_
 have y0 : w4.cell? ⟨E, 0, none⟩ = some (.int .i64 10) := HE4.out.cell 0
 have yf := HE4.out.frozen 0
 go_simp
 refine goLc hK ⟨HC4.out.keep (Below.heap_setCell w4 ⟨E, 0, none⟩ _ _ Hne.out.1), (HE4.out.set 0 _).cell 0⟩ fun hHeld => ?_
 clear hK K
 refine wpAnyL_done (by kernel_rfl) ?_ _
 refine NoPanic.normal ?_
 go_wp2_with fail
 exact leave49 rfl rfl (HC4.out.keep (Below.heap_setCell w4 ⟨E, 0, none⟩ _ _ Hne.out.1)) rfl (HE4.out.set 0 _) ⟨nilS, rfl, zP_rd _, HB4.out.setCell (p := ⟨E, 0, none⟩) Hne.out.2 _⟩
end Go.Proofs.YtdblnbnofjggnaaGreatDoor
