/- Sign: the signed input's lists lie where the input's lie (printed by gen49ap.py). -/
import Derived.Test.YtdblnbnofjggnaaGreatDoorK48
namespace Go.Proofs.YtdblnbnofjggnaaGreatDoor
open Go.RowKit
def SgnQ (x : Inp) (s : Slc) (r t e : Int) (w : World) (q : Ending) (w' : World) : Prop := ∃ sl, (sl = s ∨ sl = nilS) ∧ q = .returned (.tuple #[.agg ((sgnI x r t e).cells sl).toArray, .int .i64 (sgnE x e)]) ∧ InpR w' (sgnI x r t e) sl ∧ Below w.heap.size w w'
set_option maxRecDepth 100000 in
set_option maxHeartbeats 8000000 in
theorem sign49_str (k Rr Ss ee : Int) (x : Inp) (s : Slc) (w : World) (hx : InpR w x s) (hi : InpI x) (hl : InpL x) (hz : sz (lV (fullL x)) ≤ 60000) (hL : Laid w) (hs : Hid (SigE k (msgI x) Rr Ss ee)) :
 Calls Tryz.prog 23 #[x.v s, .int .i64 k] w (SgnQ x s Rr Ss ee w) := by
 obtain ⟨b, hok⟩ : ∃ b, okI x = b := ⟨_, rfl⟩
 have Hok := Lib.hid hok
 have hb0 : Below w.heap.size w ((w.alloc (bI x s)).alloc ZI) := (b_al (w := w) (bI x s)).alloc (b_al (w := w) (bI x s)).size _
 have HI : Hid (CB ((w.alloc (bI x s)).alloc ZI) w.heap.size 41 (x.cells s)) := (cb_one w (bI x s) _ _ rfl).alloc _
 have H4 : Hid (CB ((w.alloc (bI x s)).alloc ZI) (w.heap.size + 1) 41 ZIc) := Lib.hid (by
  have := cb_one (w.alloc (bI x s)) ZI 41 ZIc rfl
  rwa [World.size_alloc] at this)
 have HB := Lib.hid hb0; have HXR := Lib.hid hx; have Hi := Lib.hid hi; have Hl := Lib.hid hl; have Hz := Lib.hid hz; have HS := hs
 have HL := Lib.hid hL
 have HZo := Lib.hid zIc_one
 have HBz : Hid (Tryz.prog.built 41 [] = some ZIc.toArray) := Lib.hid (by kernel_rfl)
 have HRS : Hid (∀ u ∈ ([.int .i64 Rr, .int .i64 Ss] : List Value), u.oneCell' = true) := Lib.hid (by intro u hu; simp only [List.mem_cons, List.not_mem_nil, or_false] at hu; rcases hu with rfl | rfl <;> rfl)
 have hee : ee = 0 ∨ ee = 40 := by
  rcases hs.out with ⟨_, _, _, _, _, _, _, _, _, _, _, _, _, _, _, _, _, h⟩ | ⟨_, _, _, h⟩
  · exact .inl h
  · exact .inr h
 clear hok hb0 hx hi hl hz hs hL
 change Calls Tryz.prog 23 #[.agg (x.cells s).toArray, _] w _
 go_enter Tryz.func23, Tryz.ntmps23
 go_upto_region 1 with fail
 change Code.wp _ _ _ _ ((w.alloc (bI x s)).alloc ZI)
 generalize (w.alloc (bI x s)).alloc ZI = w0 at *
 have HCk : Hid (∀ w1, Below w.heap.size w w1 → Calls Tryz.prog 13 #[.agg (x.cells s).toArray] w1 fun e w2 => e = .returned (.int .i64 (if b then 0 else 490)) ∧ Below w1.heap.size w1 w2) := fun w1 hb => (check_any49 x s w1 (HXR.out.ext hb) Hi.out.text Hi.out.flt.call Hi.out.rcl).mono fun e w2 h => ⟨by rw [← Hok.out]; exact h.1, h.2⟩
 cases b
 case false =>
  have HC0 : Hid (∀ w1, Below w.heap.size w w1 → Calls Tryz.prog 13 #[.agg (x.cells s).toArray] w1 fun e w2 => e = .returned (.int .i64 490) ∧ Below w1.heap.size w1 w2) := HCk.out
  clear HCk
  go_upto_region 2 with (first
   | (have _g := HI.out; refine wpList_load_cs (by rfl) 41 (.tmp 2) rfl w.heap.size (x.cells s) rfl 41 _ HI.out Tryz.underlying41 rfl (by kernel_rfl) ?_; clear _g)
   | (go_at_call 13; refine (HC0.out _ HB.out).mono ?_; go_loud (rintro e w1 ⟨rfl, hb1⟩; have HB1 := Lib.hid (below_ext HB.out hb1); have H41 := Lib.hid (H4.out.ext hb1); clear hb1)))
  clear HB H4 HI
  have HB := HB1; have H4 := H41
  clear HB1 H41
  go_wp2_with (first | (have _g := H4.out; refine wpList_load_cs (by rfl) 41 (.tmp 4) rfl (w.heap.size + 1) ZIc rfl 41 _ H4.out Tryz.underlying41 rfl (by kernel_rfl) ?_; clear _g) | (have _g := HZo.out; refine wpList_store_cs rfl 41 (.tmp 4) (.tmp 12) rfl (w.heap.size + 1) ZIc rfl rfl 41 ZIc H4.out (by rfl) (by kernel_rfl) HZo.out (fun w8 HC8 HW8 HZ8 => ?_); clear HZo))
  refine bodyPost_ret (v := .tuple #[.agg ((zI : Inp).cells (nilS : Slc)).toArray, _]) (results_cell_tmp rfl _ _ (w.heap.size + 1) 41 _ (0, 0) _ rfl HC8.out Tryz.underlying41 rfl (by kernel_rfl)) rfl ?_
  exact ⟨nilS, .inr rfl, by unfold sgnI sgnE; rw [Hok.out]; rfl, by unfold sgnI; rw [Hok.out]; exact zI_rd _, HB.out.grown HW8.out HB.out.size (fun q e => by injection e with e; omega)⟩
 case true =>
  have HC0 : Hid (∀ w1, Below w.heap.size w w1 → Calls Tryz.prog 13 #[.agg (x.cells s).toArray] w1 fun e w2 => e = .returned (.int .i64 0) ∧ Below w1.heap.size w1 w2) := HCk.out
  clear HCk
  go_upto_region 4 with (first
   | (have _g := HI.out; refine wpList_load_cs (by rfl) 41 (.tmp 2) rfl w.heap.size (x.cells s) rfl 41 _ HI.out Tryz.underlying41 rfl (by kernel_rfl) ?_; clear _g)
   | (go_at_call 13; refine (HC0.out _ HB.out).mono ?_; go_loud (rintro e w1 ⟨rfl, hb1⟩; have HB1 := Lib.hid (below_ext HB.out hb1); have HI1 := Lib.hid (HI.out.ext hb1); have H41 := Lib.hid (H4.out.ext hb1); clear hb1)))
  clear HB HI H4
  have HB := HB1; have HI := HI1; have H4 := H41
  clear HB1 HI1 H41
  rcases hee with rfl | rfl
  · go_upto_region 7 with (first
     | (have _g := HI.out; refine wpList_load_cs (by rfl) 41 (.tmp 2) rfl w.heap.size (x.cells s) rfl 41 _ HI.out Tryz.underlying41 rfl (by kernel_rfl) ?_; clear _g)
     | (go_at_call 68; refine (message_any x s _ (HXR.out.ext HB.out) Hi.out Hl.out Hz.out (HL.out.ext HB.out)).mono ?_; go_loud (rintro e9 w2 ⟨m, rfl, hm, hb2⟩; obtain ⟨om, cm, rfl⟩ := hm.shape; have HM := Lib.hid hm; have HB2 := Lib.hid (below_ext HB.out hb2); have HI2 := Lib.hid (HI.out.ext hb2); have H42 := Lib.hid (H4.out.ext hb2); clear hm hb2))
     | (go_at_call 67; refine (sign_val k Rr Ss _ _ (msgI x) _ HS (msgI_len x) HM.out (HL.out.ext HB2.out)).mono ?_; go_loud (rintro e9 w3 ⟨rfl, hb3⟩; have HB3 := Lib.hid (below_ext HB2.out hb3); have HI3 := Lib.hid (HI2.out.ext hb3); have H43 := Lib.hid (H42.out.ext hb3); have H7z : Hid (CB (w3.alloc (.cells [Value.int .i64 0, .int .i64 0].toArray 39)) w3.heap.size 39 [.int .i64 0, .int .i64 0]) := cb_one w3 _ _ _ rfl; clear hb3 HM))
     | (have _g := HRS.out; refine wpList_store_cs rfl 39 (.tmp 7) (.tmp 19) rfl w3.heap.size [.int .i64 Rr, .int .i64 Ss] rfl rfl 39 _ H7z.out rfl (by kernel_rfl) HRS.out (fun w4 H7 HW4 HZ4 => ?_); clear _g))
    have hz4 : Below w3.heap.size w3 w4 := (b_al (w := w3) (.cells [Value.int .i64 0, .int .i64 0].toArray 39)).grown HW4.out (by simp) (fun q e => by injection e with e; omega)
    clear HB HI H4
    have HB := Lib.hid (below_ext HB3.out hz4); have HI := Lib.hid (HI3.out.ext hz4); have H4 := Lib.hid (H43.out.ext hz4)
    have HG7 : Hid (w.heap.size + 1 < w3.heap.size) := H43.out.lt
    clear HB2 HB3 HI2 HI3 H42 H43 hz4 HW4 HZ4 H7z
    go_upto_region 8 with (first
     | (have _g := H7.out; refine wpList_load_cs (by rfl) 39 (.tmp 7) rfl w3.heap.size [.int .i64 Rr, .int .i64 Ss] rfl 39 _ H7.out Tryz.underlying39 rfl (by kernel_rfl) ?_; clear _g)
     | (have _g := HRS.out; refine wpList_store_part rfl 39 (.tmp 26) (.tmp 25) rfl w.heap.size 30 [.int .i64 Rr, .int .i64 Ss] rfl rfl _ _ HI.out (show 30 + 2 ≤ 32 by decide) (by kernel_rfl) HRS.out (fun w5 HC5 HW5 => ?_); clear _g))
    have HC5' : Hid (CB w5 w.heap.size 41 (({ x with sr := Rr, ss := Ss } : Inp).cells s)) := HC5.out
    have H45 := Lib.hid (H4.out.keep (HW5.out.block _ H4.out.lt (fun e => by injection e with e; omega)))
    have HB5 := Lib.hid (HB.out.grown HW5.out HB.out.size (fun q e => by injection e with e; omega))
    have HSO : Hid (∀ u ∈ ({ x with sr := Rr, ss := Ss } : Inp).cells s, u.oneCell' = true) := by
     obtain ⟨⟨oa, na, ca, ea⟩, ⟨ob, nb, cb, eb⟩, ⟨oc, nc, cc, ec⟩, ⟨od, nd, cd, ed⟩⟩ := slcS_of HXR.out
     have h := inp_one ({ x with sr := Rr, ss := Ss } : Inp) s _ _ _ _ _ _ _ _ _ _ _ _ ea eb ec ed
     exact fun u hu => Array.all_eq_true_iff_forall_mem.1 h u (by simpa using hu)
    clear HI H4 HB HC5 HW5 H7
    go_wp2_with (first
     | (have _g := HC5'.out; refine wpList_load_cs (by rfl) 41 (.tmp 2) rfl w.heap.size _ rfl 41 _ HC5'.out Tryz.underlying41 rfl (by kernel_rfl) ?_; clear _g)
     | (have _g := HSO.out; refine wpList_store_cs rfl 41 (.tmp 4) (.tmp 27) rfl (w.heap.size + 1) _ rfl rfl 41 ZIc H45.out (by rfl) (by kernel_rfl) HSO.out (fun w8 HC8 HW8 HZ8 => ?_); clear HSO))
    refine bodyPost_ret (v := .tuple #[.agg (({ x with sr := Rr, ss := Ss } : Inp).cells (s : Slc)).toArray, _]) (results_cell_tmp rfl _ _ (w.heap.size + 1) 41 _ (0, 0) _ rfl HC8.out Tryz.underlying41 rfl (by kernel_rfl)) rfl ?_
    have hbe : Below w.heap.size w w8 := HB5.out.grown HW8.out HB5.out.size (fun q e => by injection e with e; omega)
    exact ⟨s, .inl rfl, by unfold sgnI sgnE; rw [Hok.out]; rfl, by unfold sgnI; rw [Hok.out]; exact ⟨(HXR.out.ext hbe).ways, (HXR.out.ext hbe).tree, (HXR.out.ext hbe).modes, (HXR.out.ext hbe).vols⟩, hbe⟩
  · go_upto_region 6 with (first
     | (have _g := HI.out; refine wpList_load_cs (by rfl) 41 (.tmp 2) rfl w.heap.size (x.cells s) rfl 41 _ HI.out Tryz.underlying41 rfl (by kernel_rfl) ?_; clear _g)
     | (go_at_call 68; refine (message_any x s _ (HXR.out.ext HB.out) Hi.out Hl.out Hz.out (HL.out.ext HB.out)).mono ?_; go_loud (rintro e9 w2 ⟨m, rfl, hm, hb2⟩; obtain ⟨om, cm, rfl⟩ := hm.shape; have HM := Lib.hid hm; have HB2 := Lib.hid (below_ext HB.out hb2); have HI2 := Lib.hid (HI.out.ext hb2); have H42 := Lib.hid (H4.out.ext hb2); clear hm hb2))
     | (go_at_call 67; refine (sign_val k Rr Ss _ _ (msgI x) _ HS (msgI_len x) HM.out (HL.out.ext HB2.out)).mono ?_; go_loud (rintro e9 w3 ⟨rfl, hb3⟩; have HB3 := Lib.hid (below_ext HB2.out hb3); have HI3 := Lib.hid (HI2.out.ext hb3); have H43 := Lib.hid (H42.out.ext hb3); have H7z : Hid (CB (w3.alloc (.cells [Value.int .i64 0, .int .i64 0].toArray 39)) w3.heap.size 39 [.int .i64 0, .int .i64 0]) := cb_one w3 _ _ _ rfl; clear hb3 HM))
     | (have _g := HRS.out; refine wpList_store_cs rfl 39 (.tmp 7) (.tmp 19) rfl w3.heap.size [.int .i64 Rr, .int .i64 Ss] rfl rfl 39 _ H7z.out rfl (by kernel_rfl) HRS.out (fun w4 H7 HW4 HZ4 => ?_); clear _g))
    have hz4 : Below w3.heap.size w3 w4 := (b_al (w := w3) (.cells [Value.int .i64 0, .int .i64 0].toArray 39)).grown HW4.out (by simp) (fun q e => by injection e with e; omega)
    clear HB HI H4
    have HB := Lib.hid (below_ext HB3.out hz4); have H4 := Lib.hid (H43.out.ext hz4)
    clear HB2 HB3 HI2 HI3 H42 H43 hz4 HW4 HZ4 H7z H7
    go_wp2_with (first | (have _g := H4.out; refine wpList_load_cs (by rfl) 41 (.tmp 4) rfl (w.heap.size + 1) ZIc rfl 41 _ H4.out Tryz.underlying41 rfl (by kernel_rfl) ?_; clear _g) | (have _g := HZo.out; refine wpList_store_cs rfl 41 (.tmp 4) (.tmp 23) rfl (w.heap.size + 1) ZIc rfl rfl 41 ZIc H4.out (by rfl) (by kernel_rfl) HZo.out (fun w8 HC8 HW8 HZ8 => ?_); clear HZo))
    refine bodyPost_ret (v := .tuple #[.agg ((zI : Inp).cells (nilS : Slc)).toArray, _]) (results_cell_tmp rfl _ _ (w.heap.size + 1) 41 _ (0, 0) _ rfl HC8.out Tryz.underlying41 rfl (by kernel_rfl)) rfl ?_
    exact ⟨nilS, .inr rfl, by unfold sgnI sgnE; rw [Hok.out]; rfl, by unfold sgnI; rw [Hok.out]; exact zI_rd _, HB.out.grown HW8.out HB.out.size (fun q e => by injection e with e; omega)⟩
end Go.Proofs.YtdblnbnofjggnaaGreatDoor
