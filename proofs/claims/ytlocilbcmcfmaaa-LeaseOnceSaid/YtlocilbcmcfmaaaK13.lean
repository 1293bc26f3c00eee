/- Merged: Llb. -/
import Derived.Test.YtlocilbcmcfmaaaK02
import Derived.Test.YtlocilbcmcfmaaaK11
import Derived.Test.YtlocilbcmcfmaaaK12
import Derived.Deep.DeepCutAuto
import Derived.Deep.RegionHeld3
/- LeaseTokens: the walk (printed by gen35t.py). -/
namespace Go.Proofs.Ytlocilbcmcfmaaa
open Go.RowKit
def DidOwn (tk : Int) (l : List Le) (w : World) (e : Ending) (w' : World) : Prop :=
  ∃ oa cap, e = .returned (.tuple #[.agg #[.int .i64 tk, .slice oa l.length cap], .int .i64 0]) ∧ OwnLe w' w.heap.size (.slice oa l.length cap) l ∧ Below w.heap.size w w'
theorem do_own {tk tk2 : Int} {l l2 : List Le} {v : Value} {c : Cm} {w : World} (hl : LesAt w.heap.size w l v) (hlen : l.length ≤ 2000) (hwf : (Lit.int .i64 c.kd).wf = true) (h : doR tk l c = .inr (tk2, l2)) :
    Calls Try.prog 12 #[.agg #[.int .i64 tk, v], .agg #[.int .i64 c.kd, .int .i64 c.sl, .int .i64 c.ai, .int .i64 c.fl, .int .i64 c.tk]] w (DidOwn tk2 l2 w) := by
  have := do_any tk l v c w hl hlen hwf
  rw [h] at this
  refine this.mono ?_
  rintro e w' ⟨hb, v', rfl, hO⟩
  obtain ⟨oa, cap, rfl, _⟩ := hO.rd.shape
  exact ⟨oa, cap, rfl, hO, hb⟩
theorem doR_good {tk : Int} {l : List Le} {c : Cm} {p : Int × List Le} (h : doR tk l c = .inr p) : Good tk l := by
  unfold doR at h
  by_cases hc : (chkL tk l && cmB c) = true
  · exact good_iff.1 (Bool.and_eq_true_iff.1 hc).1
  · rw [if_neg hc] at h; cases h
/-- behind a call of Do: the box of the leases, and the error -/
def CutD (tk : Int) (l : List Le) (k : Int) (wr : World) (v5 v6 : Value) (wx : World) : Prop :=
  ∃ E oa cap, v5 = .pointer (some ⟨E, 0, none⟩) ∧ v6 = .int .i64 k ∧ Below wr.heap.size wr wx ∧ wr.heap.size ≤ E ∧ CB wx E 26 [.int .i64 tk, .slice oa l.length cap] ∧ OwnLe wx wr.heap.size (.slice oa l.length cap) l
/-- behind a call of Holds: the box of the lease -/
def CutH (y : Le) (b : Bool) (wr : World) (v8 v9 : Value) (wx : World) : Prop :=
  ∃ E, v8 = .pointer (some ⟨E, 0, none⟩) ∧ v9 = .bool b ∧ Below wr.heap.size wr wx ∧ CB wx E 36 y.cells
def TokRel0 (cs : List Cm) (w : World) (X : Nat) (i : Value) (wr : World) : Prop :=
  ∃ (k : Nat) (v : Value), k ≤ cs.length ∧ i = .int .i64 k ∧ Below w.heap.size w wr ∧ w.heap.size ≤ X ∧ CB wr X 26 [.int .i64 (runS (cs.take k)).1, v] ∧ LesAt wr.heap.size wr (runS (cs.take k)).2 v
structure TokRel (cs : List Cm) (w : World) (X : Nat) (i : Value) (wr : World) : Prop where
  h : TokRel0 cs w X i wr
set_option maxRecDepth 100000 in
set_option maxHeartbeats 8000000 in
theorem tokens35_walk (cs : List Cm) (v0 : Value) (w : World) (hl : LsAt cmK w.heap.size w cs v0) (hc : ∀ x ∈ cs, CmW x) :
    Calls Try.prog 5 #[v0] w fun e w' => e = .returned (.bool true) ∧ Below w.heap.size w w' := by
  obtain ⟨oc, cc, rfl, hlm⟩ := hl.shape
  have HL := Lib.hid hl; have HW := Lib.hid hc
  have bl : (cs.length : Int) ≤ 9223372036854775807 := by omega
  clear hl hc hlm
  go_enter Try.func5, Try.ntmps5
  go_wp2_with fail
  refine (sane35_any _).mono ?_
  rintro e w1 ⟨rfl, hb1⟩
  have HB1 := Lib.hid hb1
  clear hb1
  by_cases h40 : cs.length ≤ 40
  case neg =>
    have t40 : decide (40 < (cs.length : Int)) = true := by simp; omega
    clear h40
    go_wp2
    go_ret
    exact ⟨rfl, HB1.out⟩
  case pos =>
  have t40 : decide (40 < (cs.length : Int)) = false := by simp; omega
  have H40 := Lib.hid h40
  clear h40
  have HB2 := Lib.hid (below_ext HB1.out (b_al (.cells #[.int .i64 0, .slice none 0 0] 26)))
  have HX2 : Hid (CB (w1.alloc (.cells #[.int .i64 0, .slice none 0 0] 26)) w1.heap.size 26 [.int .i64 0, .slice none 0 0]) := CB.new w1 _ _
  have hX := Lib.hid HB1.out.size
  go_wp2_with fail
  clear HB1 t40
  generalize w1.alloc (.cells #[.int .i64 0, .slice none 0 0] 26) = w2 at *
  generalize w1.heap.size = X at *
  have bl4 : (cs.length : Int) ≤ 40 := by have := H40.out; omega
  go_loopw [4] (fun i wr => TokRel cs w X i wr) (fun i _ => cs.length - (intOf i).toNat)
  case atStart => exact ⟨⟨0, _, by omega, rfl, HB2.out, hX.out, HX2.out, LsAt.nil _ _ _ _⟩⟩
  case round =>
    obtain ⟨k, v, hk, rfl, hb, hXw, hcb, hls⟩ := hrel.h
    have HB := Lib.hid hb; have HX := Lib.hid hcb; have HS := Lib.hid hls
    clear hb hcb hls HB2 HX2 hXw
    obtain ⟨ov, cv, rfl, _⟩ := HS.out.shape
    by_cases hlt : k < cs.length
    case neg =>
      obtain rfl : k = cs.length := by omega
      have tj : decide ((cs.length : Int) < (cs.length : Int)) = false := by simp
      have hte : Hid (cs.take cs.length = cs) := List.take_of_length_le (Nat.le_refl _)
      rw [hte.out] at HX HS
      obtain ⟨st, hst⟩ : ∃ st, runS cs = st := ⟨_, rfl⟩
      have Hst := Lib.hid hst
      rw [hst] at HX HS
      obtain ⟨tk, l⟩ := st
      have hel := errsF_len (0, []) cs
      have hrun := Lib.hid (run_is (w := wr) l.length cs.length (HL.out.ext HB.out) (by have := H40.out; omega) HW.out hst rfl rfl hel)
      clear hst hel hlt
      go_upto_region 21 with (go_at_call 8; refine hrun.out.mono ?_; rintro e w7 ⟨oz, cz, oe, ce, rfl, hlz, hez, hb7⟩)
      have HZ := Lib.hid hlz; have HB7 := Lib.hid (below_ext HB.out hb7); have HX7 := Lib.hid (HX.out.ext hb7); have HS7 := Lib.hid (HS.out.ext hb7)
      clear hlz hez hb7
      have HB8 := Lib.hid (below_ext HB7.out (b_al (.cells #[.int .i64 tk, .slice oz l.length cz] 26)))
      have HZ8 := Lib.hid (HZ.out.ext (b_al (.cells #[.int .i64 tk, .slice oz l.length cz] 26)))
      have HX8 := Lib.hid (HX7.out.ext (b_al (.cells #[.int .i64 tk, .slice oz l.length cz] 26)))
      have HS8 := Lib.hid (HS7.out.ext (b_al (.cells #[.int .i64 tk, .slice oz l.length cz] 26)))
      have HY8 : Hid (CB (w7.alloc (.cells #[.int .i64 tk, .slice oz l.length cz] 26)) w7.heap.size 26 [.int .i64 tk, .slice oz l.length cz]) := CB.new w7 _ _
      generalize w7.alloc (.cells #[.int .i64 tk, .slice oz l.length cz] 26) = w8 at *
      generalize w7.heap.size = Y at *
      have x0 : w8.cell? ⟨X, 0, none⟩ = some (.int .i64 tk) := HX8.out.cell 0
      have x1 : w8.cell? ⟨X, 1, none⟩ = some (.slice ov l.length cv) := HX8.out.cell 1
      have y0 : w8.cell? ⟨Y, 0, none⟩ = some (.int .i64 tk) := HY8.out.cell 0
      have y1 : w8.cell? ⟨Y, 1, none⟩ = some (.slice oz l.length cz) := HY8.out.cell 1
      have hcall : Hid (Calls Try.prog 13 #[.agg #[.int .i64 tk, .slice ov l.length cv], .agg #[.int .i64 tk, .slice oz l.length cz]] w8 fun e w' => e = .returned (.bool true) ∧ Below w8.heap.size w8 w') := by
        have h := same35_any tk l (.slice ov l.length cv) tk l (.slice oz l.length cz) w8 HS8.out HZ8.out
        have hs : sameL tk l tk l = true := by unfold sameL; simp
        rw [hs] at h; exact h
      go_wp2_with (go_at_call 13; refine hcall.out.mono ?_; rintro e w9 ⟨rfl, hb9⟩)
      go_ret
      exact ⟨by simp, below_ext HB8.out hb9⟩
    case pos =>
    have tj : decide ((k : Int) < (cs.length : Int)) = true := by simp; omega
    have tj' : decide (k < cs.length) = true := by simp; omega
    have kb : (k : Int) < (cs.length : Int) := by omega
    obtain ⟨c, hc⟩ : ∃ c, cs[k]? = some c := ⟨_, List.getElem?_eq_getElem hlt⟩
    obtain ⟨b, off, rfl, _, hat⟩ := (HL.out.ext HB.out).at hlt
    have HAT := Lib.hid (hat k c hc)
    have hrl := Lib.hid (runS_len cs k)
    have hR := Lib.hid (runS_take hc)
    have hcw := Lib.hid (HW.out c (List.mem_of_getElem? hc))
    clear hat hc
    generalize runS (cs.take k) = st at *
    obtain ⟨tk, l⟩ := st
    have HF : Hid (FiveC wr b (off + k * 5) c) := fiveC_of HAT.out
    clear HAT
    go_upto_region 9 with fail
    cases hd : doR tk l c with
    | inl e0 =>
      obtain ⟨st1, _⟩ := stepS_inl (s := (tk, l)) hd
      have hst := Lib.hid st1
      have he0 : (e0 != 0) = true := by rw [bne_iff_ne]; have := doR_inl hd; omega
      have Hd := Lib.hid hd
      clear hd st1
      go_cut [5, 6] (fun v5 v6 wx => CutD 0 [] e0 wr v5 v6 wx)
      case first =>
        refine wp_region_noPanic ?_
        have hbw := Lib.hid (Below.refl wr.heap.size wr)
        refine wp_region_held_drew (S := fun w' => w'.cell? ⟨X, 0, none⟩ = some (.int .i64 tk) ∧ w'.cell? ⟨X, 1, none⟩ = some (.slice ov l.length cv) ∧ w'.cell? ⟨b, off + k * 5, none⟩ = some (.int .i64 c.kd) ∧ w'.cell? ⟨b, off + k * 5 + 1, none⟩ = some (.int .i64 c.sl) ∧ w'.cell? ⟨b, off + k * 5 + 2, none⟩ = some (.int .i64 c.ai) ∧ w'.cell? ⟨b, off + k * 5 + 3, none⟩ = some (.int .i64 c.fl) ∧ w'.cell? ⟨b, off + k * 5 + 4, none⟩ = some (.int .i64 c.tk)) (by kernel_rfl) ⟨cell_ext hbw.out (HX.out.cell 0), cell_ext hbw.out (HX.out.cell 1), cell_ext hbw.out HF.out.1, cell_ext hbw.out HF.out.2.1, cell_ext hbw.out HF.out.2.2.1, cell_ext hbw.out HF.out.2.2.2.1, cell_ext hbw.out HF.out.2.2.2.2⟩ (fun hHeld => ?_)
        have hbd := Lib.hid hbw.out.drew
        generalize wr.drew = wd at *
        refine take_dst (some 25) (i := 0) (v := ?vIp0) rfl rfl (by kernel_rfl) (by kernel_rfl) (by kernel_rfl) (fun _ _ _ h => h) (Or.inl ⟨by rfl, fun wS hSw => ?hyIp0⟩) (by assumption) ?restIp0
        case hyIp0 => (obtain ⟨s0, s1, s2, s3, s4, s5, s6⟩ := hSw; go_simp; first | done | with_reducible rfl)
        try simp only [Act.put, List.setIfInBounds_toArray, List.set_cons_zero, List.set_cons_succ]
        refine take_dst (some 26) (i := 1) (v := ?vIp1) rfl rfl (by kernel_rfl) (by kernel_rfl) (by kernel_rfl) (fun _ _ _ h => h) (Or.inl ⟨by rfl, fun wS hSw => ?hyIp1⟩) (by assumption) ?restIp1
        case hyIp1 => (obtain ⟨s0, s1, s2, s3, s4, s5, s6⟩ := hSw; go_simp; first | done | with_reducible rfl)
        try simp only [Act.put, List.setIfInBounds_toArray, List.set_cons_zero, List.set_cons_succ]
        refine take_dst (some 27) (i := 2) (v := ?vIp2) rfl rfl (by kernel_rfl) (by kernel_rfl) (by kernel_rfl) (fun _ _ _ h => h) (Or.inl ⟨by rfl, fun wS hSw => ?hyIp2⟩) (by assumption) ?restIp2
        case hyIp2 => (obtain ⟨s0, s1, s2, s3, s4, s5, s6⟩ := hSw; go_simp; first | done | with_reducible rfl)
        try simp only [Act.put, List.setIfInBounds_toArray, List.set_cons_zero, List.set_cons_succ]
        refine take_dst (some 28) (i := 3) (v := ?vIp3) rfl rfl (by kernel_rfl) (by kernel_rfl) (by kernel_rfl) (fun _ _ _ h => h) (Or.inl ⟨by rfl, fun wS hSw => ?hyIp3⟩) (by assumption) ?restIp3
        case hyIp3 => (obtain ⟨s0, s1, s2, s3, s4, s5, s6⟩ := hSw; go_simp; first | done | with_reducible rfl)
        try simp only [Act.put, List.setIfInBounds_toArray, List.set_cons_zero, List.set_cons_succ]
        refine take_dst (some 29) (i := 4) (v := ?vIp4) rfl rfl (by kernel_rfl) (by kernel_rfl) (by kernel_rfl) (fun _ _ _ h => h) (Or.inl ⟨by rfl, fun wS hSw => ?hyIp4⟩) (by assumption) ?restIp4
        case hyIp4 => (obtain ⟨s0, s1, s2, s3, s4, s5, s6⟩ := hSw; go_simp; first | done | with_reducible rfl)
        try simp only [Act.put, List.setIfInBounds_toArray, List.set_cons_zero, List.set_cons_succ]
        refine wpAnyH_ready (rs := [5, 9]) (by kernel_rfl) (by simp) ?_
        refine AllReadyH.cons rfl (fun K hK => ?_) (AllReadyH.cons rfl (fun K hK => ?_) AllReadyH.nil)
        · go_simp
          refine (do_inl (HS.out.ext hbd.out) (by have := hrl.out; have := H40.out; simp only at *; omega) hcw.out Hd.out).mono ?_
          rintro e w7 ⟨rfl, hb7⟩
          have hb7x := Lib.hid (below_ext hbd.out hb7)
          clear hb7
          refine hK.out _ _ ⟨cell_ext hb7x.out (HX.out.cell 0), cell_ext hb7x.out (HX.out.cell 1), cell_ext hb7x.out HF.out.1, cell_ext hb7x.out HF.out.2.1, cell_ext hb7x.out HF.out.2.2.1, cell_ext hb7x.out HF.out.2.2.2.1, cell_ext hb7x.out HF.out.2.2.2.2⟩ (fun hHeldA => ?_)
          clear hK K
          try simp only [Act.put, List.setIfInBounds_toArray, List.set_cons_zero, List.set_cons_succ]
          refine take_dst (some 24) (i := 6) (v := ?vIx6) rfl rfl (by kernel_rfl) (by kernel_rfl) (by kernel_rfl) (fun _ _ _ h => h) (Or.inl ⟨by rfl, fun wS hSw => ?hyIx6⟩) (by assumption) ?restIx6
          case hyIx6 => (obtain ⟨s0, s1, s2, s3, s4, s5, s6⟩ := hSw; go_simp; first | done | with_reducible rfl)
          try simp only [Act.put, List.setIfInBounds_toArray, List.set_cons_zero, List.set_cons_succ]
          refine take_dst (some 31) (i := 7) (v := ?vIx7) rfl rfl (by kernel_rfl) (by kernel_rfl) (by kernel_rfl) (fun _ _ _ h => h) (Or.inl ⟨by rfl, fun wS hSw => ?hyIx7⟩) (by assumption) ?restIx7
          case hyIx7 => (obtain ⟨s0, s1, s2, s3, s4, s5, s6⟩ := hSw; go_simp; first | done | with_reducible rfl)
          try simp only [Act.put, List.setIfInBounds_toArray, List.set_cons_zero, List.set_cons_succ]
          refine take_dst (some 32) (i := 8) (v := ?vIx8) rfl rfl (by kernel_rfl) (by kernel_rfl) (by kernel_rfl) (fun _ _ _ h => h) (Or.inl ⟨by rfl, fun wS hSw => ?hyIx8⟩) (by assumption) ?restIx8
          case hyIx8 => (obtain ⟨s0, s1, s2, s3, s4, s5, s6⟩ := hSw; go_simp; first | done | with_reducible rfl)
          try simp only [Act.put, List.setIfInBounds_toArray, List.set_cons_zero, List.set_cons_succ]
          refine wpAnyH_ready (rs := [9]) (by kernel_rfl) (by simp) ?_
          refine AllReadyH.cons rfl (fun K hK => ?_) AllReadyH.nil
          go_simp
          have HE8 : Hid (CB (w7.alloc (.cells #[.int .i64 0, .slice none 0 0] 26)) w7.heap.size 26 [.int .i64 0, .slice none 0 0]) := CB.new w7 _ _
          have hb8 := Lib.hid (below_ext hb7x.out (b_al (.cells #[.int .i64 0, .slice none 0 0] 26)))
          have hEw := Lib.hid hb7x.out.size
          generalize hw8 : w7.alloc (.cells #[.int .i64 0, .slice none 0 0] 26) = w8 at *
          clear hw8
          skip
          clear hb7x
          generalize w7.heap.size = E at *
          refine hK.out _ _ ⟨cell_ext hb8.out (HX.out.cell 0), cell_ext hb8.out (HX.out.cell 1), cell_ext hb8.out HF.out.1, cell_ext hb8.out HF.out.2.1, cell_ext hb8.out HF.out.2.2.1, cell_ext hb8.out HF.out.2.2.2.1, cell_ext hb8.out HF.out.2.2.2.2⟩ (fun hHeldB => ?_)
          clear hK K
          try simp only [Act.put, List.setIfInBounds_toArray, List.set_cons_zero, List.set_cons_succ]
          refine wpAnyH_ready (rs := [10]) (by kernel_rfl) (by simp) ?_
          refine AllReadyH.cons rfl (fun K hK => ?_) AllReadyH.nil
          have y0 : w8.cell? ⟨E, 0, none⟩ = some (.int .i64 0) := HE8.out.cell 0
          have z0 : w8.frozen? ⟨E, 0, none⟩ = false := HE8.out.frozen _
          have y1 : w8.cell? ⟨E, 1, none⟩ = some (.slice none 0 0) := HE8.out.cell 1
          have z1 : w8.frozen? ⟨E, 1, none⟩ = false := HE8.out.frozen _
          go_simp
          have HE9 : Hid (CB ((w8.setCell ⟨E, 0, none⟩ (.int .i64 0)).setCell ⟨E, 1, none⟩ (.slice none 0 0)) E 26 [.int .i64 0, .slice none 0 0]) := ((HE8.out.set 0 (.int .i64 0)).set 1 (.slice none 0 0))
          have hb9 : Hid (Below wr.heap.size wr ((w8.setCell ⟨E, 0, none⟩ (.int .i64 0)).setCell ⟨E, 1, none⟩ (.slice none 0 0))) := ((hb8.out.setCell (p := ⟨E, 0, none⟩) hEw.out (.int .i64 0)).setCell (p := ⟨E, 1, none⟩) hEw.out (.slice none 0 0))
          generalize hw9 : ((w8.setCell ⟨E, 0, none⟩ (.int .i64 0)).setCell ⟨E, 1, none⟩ (.slice none 0 0)) = w9 at *
          clear hw9 y0 z0 y1 z1
          refine hK.out _ _ ⟨cell_ext hb9.out (HX.out.cell 0), cell_ext hb9.out (HX.out.cell 1), cell_ext hb9.out HF.out.1, cell_ext hb9.out HF.out.2.1, cell_ext hb9.out HF.out.2.2.1, cell_ext hb9.out HF.out.2.2.2.1, cell_ext hb9.out HF.out.2.2.2.2⟩ (fun hHeldZ => ?_)
          clear hK K
          try simp only [Act.put, List.setIfInBounds_toArray, List.set_cons_zero, List.set_cons_succ]
          refine take_dst (some 6) (i := 11) (v := ?vIAa11) rfl rfl (by kernel_rfl) (by kernel_rfl) (by kernel_rfl) (fun _ _ _ h => h) (Or.inl ⟨by rfl, fun wS hSw => ?hyIAa11⟩) (by assumption) ?restIAa11
          case hyIAa11 => (obtain ⟨s0, s1, s2, s3, s4, s5, s6⟩ := hSw; go_simp; first | done | with_reducible rfl)
          try simp only [Act.put, List.setIfInBounds_toArray, List.set_cons_zero, List.set_cons_succ]
          refine wpAnyH_done (by kernel_rfl) ?_ _
          refine NoPanic.normal ?_
          go_wp2_with fail
          go_meet
          exact ⟨E, none, 0, rfl, rfl, hb9.out, hEw.out, HE9.out, OwnK.nil _ _ _⟩
        · go_simp
          have HE6 : Hid (CB (wd.alloc (.cells #[.int .i64 0, .slice none 0 0] 26)) wd.heap.size 26 [.int .i64 0, .slice none 0 0]) := CB.new wd _ _
          have hba := Lib.hid (below_ext hbd.out (b_al (.cells #[.int .i64 0, .slice none 0 0] 26)))
          have hEw := Lib.hid hbd.out.size
          generalize hwa : wd.alloc (.cells #[.int .i64 0, .slice none 0 0] 26) = wa at *
          clear hwa
          clear hbd
          generalize wd.heap.size = E at *
          have HEl := Lib.hid HE6.out.lt
          refine hK.out _ _ ⟨cell_ext hba.out (HX.out.cell 0), cell_ext hba.out (HX.out.cell 1), cell_ext hba.out HF.out.1, cell_ext hba.out HF.out.2.1, cell_ext hba.out HF.out.2.2.1, cell_ext hba.out HF.out.2.2.2.1, cell_ext hba.out HF.out.2.2.2.2⟩ (fun hHeldA => ?_)
          clear hK K
          try simp only [Act.put, List.setIfInBounds_toArray, List.set_cons_zero, List.set_cons_succ]
          refine wpAnyH_ready (rs := [5]) (by kernel_rfl) (by simp) ?_
          refine AllReadyH.cons rfl (fun K hK => ?_) AllReadyH.nil
          go_simp
          refine (do_inl (HS.out.ext hba.out) (by have := hrl.out; have := H40.out; simp only at *; omega) hcw.out Hd.out).mono ?_
          rintro e w8 ⟨rfl, hb7⟩
          have hb8 := Lib.hid (below_ext hba.out hb7)
          have HE8 := Lib.hid (HE6.out.ext hb7)
          clear hb7
          refine hK.out _ _ ⟨cell_ext hb8.out (HX.out.cell 0), cell_ext hb8.out (HX.out.cell 1), cell_ext hb8.out HF.out.1, cell_ext hb8.out HF.out.2.1, cell_ext hb8.out HF.out.2.2.1, cell_ext hb8.out HF.out.2.2.2.1, cell_ext hb8.out HF.out.2.2.2.2⟩ (fun hHeldB => ?_)
          clear hK K
          try simp only [Act.put, List.setIfInBounds_toArray, List.set_cons_zero, List.set_cons_succ]
          refine take_dst (some 24) (i := 6) (v := ?vIy6) rfl rfl (by kernel_rfl) (by kernel_rfl) (by kernel_rfl) (fun _ _ _ h => h) (Or.inl ⟨by rfl, fun wS hSw => ?hyIy6⟩) (by assumption) ?restIy6
          case hyIy6 => (obtain ⟨s0, s1, s2, s3, s4, s5, s6⟩ := hSw; go_simp; first | done | with_reducible rfl)
          try simp only [Act.put, List.setIfInBounds_toArray, List.set_cons_zero, List.set_cons_succ]
          refine take_dst (some 31) (i := 7) (v := ?vIy7) rfl rfl (by kernel_rfl) (by kernel_rfl) (by kernel_rfl) (fun _ _ _ h => h) (Or.inl ⟨by rfl, fun wS hSw => ?hyIy7⟩) (by assumption) ?restIy7
          case hyIy7 => (obtain ⟨s0, s1, s2, s3, s4, s5, s6⟩ := hSw; go_simp; first | done | with_reducible rfl)
          try simp only [Act.put, List.setIfInBounds_toArray, List.set_cons_zero, List.set_cons_succ]
          refine take_dst (some 32) (i := 8) (v := ?vIy8) rfl rfl (by kernel_rfl) (by kernel_rfl) (by kernel_rfl) (fun _ _ _ h => h) (Or.inl ⟨by rfl, fun wS hSw => ?hyIy8⟩) (by assumption) ?restIy8
          case hyIy8 => (obtain ⟨s0, s1, s2, s3, s4, s5, s6⟩ := hSw; go_simp; first | done | with_reducible rfl)
          try simp only [Act.put, List.setIfInBounds_toArray, List.set_cons_zero, List.set_cons_succ]
          refine wpAnyH_ready (rs := [10]) (by kernel_rfl) (by simp) ?_
          refine AllReadyH.cons rfl (fun K hK => ?_) AllReadyH.nil
          have y0 : w8.cell? ⟨E, 0, none⟩ = some (.int .i64 0) := HE8.out.cell 0
          have z0 : w8.frozen? ⟨E, 0, none⟩ = false := HE8.out.frozen _
          have y1 : w8.cell? ⟨E, 1, none⟩ = some (.slice none 0 0) := HE8.out.cell 1
          have z1 : w8.frozen? ⟨E, 1, none⟩ = false := HE8.out.frozen _
          go_simp
          have HE9 : Hid (CB ((w8.setCell ⟨E, 0, none⟩ (.int .i64 0)).setCell ⟨E, 1, none⟩ (.slice none 0 0)) E 26 [.int .i64 0, .slice none 0 0]) := ((HE8.out.set 0 (.int .i64 0)).set 1 (.slice none 0 0))
          have hb9 : Hid (Below wr.heap.size wr ((w8.setCell ⟨E, 0, none⟩ (.int .i64 0)).setCell ⟨E, 1, none⟩ (.slice none 0 0))) := ((hb8.out.setCell (p := ⟨E, 0, none⟩) hEw.out (.int .i64 0)).setCell (p := ⟨E, 1, none⟩) hEw.out (.slice none 0 0))
          generalize hw9 : ((w8.setCell ⟨E, 0, none⟩ (.int .i64 0)).setCell ⟨E, 1, none⟩ (.slice none 0 0)) = w9 at *
          clear hw9 y0 z0 y1 z1
          refine hK.out _ _ ⟨cell_ext hb9.out (HX.out.cell 0), cell_ext hb9.out (HX.out.cell 1), cell_ext hb9.out HF.out.1, cell_ext hb9.out HF.out.2.1, cell_ext hb9.out HF.out.2.2.1, cell_ext hb9.out HF.out.2.2.2.1, cell_ext hb9.out HF.out.2.2.2.2⟩ (fun hHeldZ => ?_)
          clear hK K
          try simp only [Act.put, List.setIfInBounds_toArray, List.set_cons_zero, List.set_cons_succ]
          refine take_dst (some 6) (i := 11) (v := ?vIBa11) rfl rfl (by kernel_rfl) (by kernel_rfl) (by kernel_rfl) (fun _ _ _ h => h) (Or.inl ⟨by rfl, fun wS hSw => ?hyIBa11⟩) (by assumption) ?restIBa11
          case hyIBa11 => (obtain ⟨s0, s1, s2, s3, s4, s5, s6⟩ := hSw; go_simp; first | done | with_reducible rfl)
          try simp only [Act.put, List.setIfInBounds_toArray, List.set_cons_zero, List.set_cons_succ]
          refine wpAnyH_done (by kernel_rfl) ?_ _
          refine NoPanic.normal ?_
          go_wp2_with fail
          go_meet
          exact ⟨E, none, 0, rfl, rfl, hb9.out, hEw.out, HE9.out, OwnK.nil _ _ _⟩
      case rest =>
        obtain ⟨E1, o2, c2, rfl, rfl, hbc, hE, hcb, hO⟩ := hcut
        have HBc := Lib.hid hbc; have HEc := Lib.hid hcb; have HOc := Lib.hid hO
        have HXc := Lib.hid (HX.out.ext hbc)
        have HBw := Lib.hid (below_ext HB.out hbc)
        have HSc := Lib.hid (HS.out.ext hbc)
        clear hbc hcb hO hE HF HX HB HS
        have g0 : wc.cell? ⟨E1, 0, none⟩ = some (.int .i64 0) := HEc.out.cell 0
        have g1 : wc.cell? ⟨E1, 1, none⟩ = some (.slice o2 0 c2) := HEc.out.cell 1
        have hcall : Hid (Calls Try.prog 13 #[.agg #[.int .i64 0, .slice o2 0 c2], .agg #[.int .i64 0, .slice none 0 0]] wc fun e w' => e = .returned (.bool true) ∧ Below wc.heap.size wc w') := same35_any 0 [] (.slice o2 0 c2) 0 [] (.slice none 0 0) wc HOc.out.rd (LsAt.nil _ _ _ _)
        go_wp2_with (go_at_call 13; refine hcall.out.mono ?_; rintro e w7 ⟨rfl, hb7⟩)
        have HB8 := Lib.hid (below_ext HBw.out hb7)
        have HX8 := Lib.hid (HXc.out.ext hb7)
        have HS8 := Lib.hid (HSc.out.ext hb7)
        go_roundw
        case rel => exact ⟨⟨k + 1, _, by omega, by go_num, HB8.out, hX.out, by rw [hR.out, hst.out]; exact HX8.out, by rw [hR.out, hst.out]; exact HS8.out⟩⟩
        case measure => simp [intOf]; omega
    | inr pr =>
      obtain ⟨tk2, l2⟩ := pr
      obtain ⟨st1, _⟩ := stepS_inr (s := (tk, l)) hd
      have hst := Lib.hid st1
      have Hd := Lib.hid hd
      obtain ⟨x, hx⟩ := doR_did hd
      have Hdid := Lib.hid hx
      have Hg := Lib.hid (doR_good hd)
      clear hd st1 hx
      go_cut [5, 6] (fun v5 v6 wx => CutD tk2 l2 0 wr v5 v6 wx)
      case first =>
        refine wp_region_noPanic ?_
        have hbw := Lib.hid (Below.refl wr.heap.size wr)
        refine wp_region_held_drew (S := fun w' => w'.cell? ⟨X, 0, none⟩ = some (.int .i64 tk) ∧ w'.cell? ⟨X, 1, none⟩ = some (.slice ov l.length cv) ∧ w'.cell? ⟨b, off + k * 5, none⟩ = some (.int .i64 c.kd) ∧ w'.cell? ⟨b, off + k * 5 + 1, none⟩ = some (.int .i64 c.sl) ∧ w'.cell? ⟨b, off + k * 5 + 2, none⟩ = some (.int .i64 c.ai) ∧ w'.cell? ⟨b, off + k * 5 + 3, none⟩ = some (.int .i64 c.fl) ∧ w'.cell? ⟨b, off + k * 5 + 4, none⟩ = some (.int .i64 c.tk)) (by kernel_rfl) ⟨cell_ext hbw.out (HX.out.cell 0), cell_ext hbw.out (HX.out.cell 1), cell_ext hbw.out HF.out.1, cell_ext hbw.out HF.out.2.1, cell_ext hbw.out HF.out.2.2.1, cell_ext hbw.out HF.out.2.2.2.1, cell_ext hbw.out HF.out.2.2.2.2⟩ (fun hHeld => ?_)
        have hbd := Lib.hid hbw.out.drew
        generalize wr.drew = wd at *
        refine take_dst (some 25) (i := 0) (v := ?vAp0) rfl rfl (by kernel_rfl) (by kernel_rfl) (by kernel_rfl) (fun _ _ _ h => h) (Or.inl ⟨by rfl, fun wS hSw => ?hyAp0⟩) (by assumption) ?restAp0
        case hyAp0 => (obtain ⟨s0, s1, s2, s3, s4, s5, s6⟩ := hSw; go_simp; first | done | with_reducible rfl)
        try simp only [Act.put, List.setIfInBounds_toArray, List.set_cons_zero, List.set_cons_succ]
        refine take_dst (some 26) (i := 1) (v := ?vAp1) rfl rfl (by kernel_rfl) (by kernel_rfl) (by kernel_rfl) (fun _ _ _ h => h) (Or.inl ⟨by rfl, fun wS hSw => ?hyAp1⟩) (by assumption) ?restAp1
        case hyAp1 => (obtain ⟨s0, s1, s2, s3, s4, s5, s6⟩ := hSw; go_simp; first | done | with_reducible rfl)
        try simp only [Act.put, List.setIfInBounds_toArray, List.set_cons_zero, List.set_cons_succ]
        refine take_dst (some 27) (i := 2) (v := ?vAp2) rfl rfl (by kernel_rfl) (by kernel_rfl) (by kernel_rfl) (fun _ _ _ h => h) (Or.inl ⟨by rfl, fun wS hSw => ?hyAp2⟩) (by assumption) ?restAp2
        case hyAp2 => (obtain ⟨s0, s1, s2, s3, s4, s5, s6⟩ := hSw; go_simp; first | done | with_reducible rfl)
        try simp only [Act.put, List.setIfInBounds_toArray, List.set_cons_zero, List.set_cons_succ]
        refine take_dst (some 28) (i := 3) (v := ?vAp3) rfl rfl (by kernel_rfl) (by kernel_rfl) (by kernel_rfl) (fun _ _ _ h => h) (Or.inl ⟨by rfl, fun wS hSw => ?hyAp3⟩) (by assumption) ?restAp3
        case hyAp3 => (obtain ⟨s0, s1, s2, s3, s4, s5, s6⟩ := hSw; go_simp; first | done | with_reducible rfl)
        try simp only [Act.put, List.setIfInBounds_toArray, List.set_cons_zero, List.set_cons_succ]
        refine take_dst (some 29) (i := 4) (v := ?vAp4) rfl rfl (by kernel_rfl) (by kernel_rfl) (by kernel_rfl) (fun _ _ _ h => h) (Or.inl ⟨by rfl, fun wS hSw => ?hyAp4⟩) (by assumption) ?restAp4
        case hyAp4 => (obtain ⟨s0, s1, s2, s3, s4, s5, s6⟩ := hSw; go_simp; first | done | with_reducible rfl)
        try simp only [Act.put, List.setIfInBounds_toArray, List.set_cons_zero, List.set_cons_succ]
        refine wpAnyH_ready (rs := [5, 9]) (by kernel_rfl) (by simp) ?_
        refine AllReadyH.cons rfl (fun K hK => ?_) (AllReadyH.cons rfl (fun K hK => ?_) AllReadyH.nil)
        · go_simp
          refine (do_own (HS.out.ext hbd.out) (by have := hrl.out; have := H40.out; simp only at *; omega) hcw.out Hd.out).mono ?_
          rintro e w7 ⟨o2, c2, rfl, hO7, hb7⟩
          have HO7 := Lib.hid hO7
          clear hO7
          have hb7x := Lib.hid (below_ext hbd.out hb7)
          have hbs := Lib.hid hbd.out.size
          clear hb7
          refine hK.out _ _ ⟨cell_ext hb7x.out (HX.out.cell 0), cell_ext hb7x.out (HX.out.cell 1), cell_ext hb7x.out HF.out.1, cell_ext hb7x.out HF.out.2.1, cell_ext hb7x.out HF.out.2.2.1, cell_ext hb7x.out HF.out.2.2.2.1, cell_ext hb7x.out HF.out.2.2.2.2⟩ (fun hHeldA => ?_)
          clear hK K
          try simp only [Act.put, List.setIfInBounds_toArray, List.set_cons_zero, List.set_cons_succ]
          refine take_dst (some 24) (i := 6) (v := ?vAx6) rfl rfl (by kernel_rfl) (by kernel_rfl) (by kernel_rfl) (fun _ _ _ h => h) (Or.inl ⟨by rfl, fun wS hSw => ?hyAx6⟩) (by assumption) ?restAx6
          case hyAx6 => (obtain ⟨s0, s1, s2, s3, s4, s5, s6⟩ := hSw; go_simp; first | done | with_reducible rfl)
          try simp only [Act.put, List.setIfInBounds_toArray, List.set_cons_zero, List.set_cons_succ]
          refine take_dst (some 31) (i := 7) (v := ?vAx7) rfl rfl (by kernel_rfl) (by kernel_rfl) (by kernel_rfl) (fun _ _ _ h => h) (Or.inl ⟨by rfl, fun wS hSw => ?hyAx7⟩) (by assumption) ?restAx7
          case hyAx7 => (obtain ⟨s0, s1, s2, s3, s4, s5, s6⟩ := hSw; go_simp; first | done | with_reducible rfl)
          try simp only [Act.put, List.setIfInBounds_toArray, List.set_cons_zero, List.set_cons_succ]
          refine take_dst (some 32) (i := 8) (v := ?vAx8) rfl rfl (by kernel_rfl) (by kernel_rfl) (by kernel_rfl) (fun _ _ _ h => h) (Or.inl ⟨by rfl, fun wS hSw => ?hyAx8⟩) (by assumption) ?restAx8
          case hyAx8 => (obtain ⟨s0, s1, s2, s3, s4, s5, s6⟩ := hSw; go_simp; first | done | with_reducible rfl)
          try simp only [Act.put, List.setIfInBounds_toArray, List.set_cons_zero, List.set_cons_succ]
          refine wpAnyH_ready (rs := [9]) (by kernel_rfl) (by simp) ?_
          refine AllReadyH.cons rfl (fun K hK => ?_) AllReadyH.nil
          go_simp
          have HE8 : Hid (CB (w7.alloc (.cells #[.int .i64 0, .slice none 0 0] 26)) w7.heap.size 26 [.int .i64 0, .slice none 0 0]) := CB.new w7 _ _
          have hb8 := Lib.hid (below_ext hb7x.out (b_al (.cells #[.int .i64 0, .slice none 0 0] 26)))
          have hEw := Lib.hid hb7x.out.size
          have HO8 := Lib.hid (HO7.out.alloc (.cells #[.int .i64 0, .slice none 0 0] 26))
          have hne : Hid ((.slice o2 l2.length c2 : Value).ownBlock ≠ some w7.heap.size) := fun e => by have := (HO7.out.lt _ e).2; omega
          generalize hw8 : w7.alloc (.cells #[.int .i64 0, .slice none 0 0] 26) = w8 at *
          clear hw8
          clear HO7
          clear hb7x
          generalize w7.heap.size = E at *
          refine hK.out _ _ ⟨cell_ext hb8.out (HX.out.cell 0), cell_ext hb8.out (HX.out.cell 1), cell_ext hb8.out HF.out.1, cell_ext hb8.out HF.out.2.1, cell_ext hb8.out HF.out.2.2.1, cell_ext hb8.out HF.out.2.2.2.1, cell_ext hb8.out HF.out.2.2.2.2⟩ (fun hHeldB => ?_)
          clear hK K
          try simp only [Act.put, List.setIfInBounds_toArray, List.set_cons_zero, List.set_cons_succ]
          refine wpAnyH_ready (rs := [10]) (by kernel_rfl) (by simp) ?_
          refine AllReadyH.cons rfl (fun K hK => ?_) AllReadyH.nil
          have y0 : w8.cell? ⟨E, 0, none⟩ = some (.int .i64 0) := HE8.out.cell 0
          have z0 : w8.frozen? ⟨E, 0, none⟩ = false := HE8.out.frozen _
          have y1 : w8.cell? ⟨E, 1, none⟩ = some (.slice none 0 0) := HE8.out.cell 1
          have z1 : w8.frozen? ⟨E, 1, none⟩ = false := HE8.out.frozen _
          go_simp
          have HE9 : Hid (CB ((w8.setCell ⟨E, 0, none⟩ (.int .i64 tk2)).setCell ⟨E, 1, none⟩ (.slice o2 l2.length c2)) E 26 [.int .i64 tk2, .slice o2 l2.length c2]) := ((HE8.out.set 0 (.int .i64 tk2)).set 1 (.slice o2 l2.length c2))
          have hb9 : Hid (Below wr.heap.size wr ((w8.setCell ⟨E, 0, none⟩ (.int .i64 tk2)).setCell ⟨E, 1, none⟩ (.slice o2 l2.length c2))) := ((hb8.out.setCell (p := ⟨E, 0, none⟩) hEw.out (.int .i64 tk2)).setCell (p := ⟨E, 1, none⟩) hEw.out (.slice o2 l2.length c2))
          have HO9 := Lib.hid ((HO8.out.far2 (i := 0) hne.out (.int .i64 tk2)).far2 (i := 1) hne.out (.slice o2 l2.length c2))
          generalize hw9 : ((w8.setCell ⟨E, 0, none⟩ (.int .i64 tk2)).setCell ⟨E, 1, none⟩ (.slice o2 l2.length c2)) = w9 at *
          clear hw9 y0 z0 y1 z1
          refine hK.out _ _ ⟨cell_ext hb9.out (HX.out.cell 0), cell_ext hb9.out (HX.out.cell 1), cell_ext hb9.out HF.out.1, cell_ext hb9.out HF.out.2.1, cell_ext hb9.out HF.out.2.2.1, cell_ext hb9.out HF.out.2.2.2.1, cell_ext hb9.out HF.out.2.2.2.2⟩ (fun hHeldZ => ?_)
          clear hK K
          try simp only [Act.put, List.setIfInBounds_toArray, List.set_cons_zero, List.set_cons_succ]
          refine take_dst (some 6) (i := 11) (v := ?vAAa11) rfl rfl (by kernel_rfl) (by kernel_rfl) (by kernel_rfl) (fun _ _ _ h => h) (Or.inl ⟨by rfl, fun wS hSw => ?hyAAa11⟩) (by assumption) ?restAAa11
          case hyAAa11 => (obtain ⟨s0, s1, s2, s3, s4, s5, s6⟩ := hSw; go_simp; first | done | with_reducible rfl)
          try simp only [Act.put, List.setIfInBounds_toArray, List.set_cons_zero, List.set_cons_succ]
          refine wpAnyH_done (by kernel_rfl) ?_ _
          refine NoPanic.normal ?_
          go_wp2_with fail
          go_meet
          exact ⟨E, o2, c2, rfl, rfl, hb9.out, hEw.out, HE9.out, own_base HO9.out hbs.out⟩
        · go_simp
          have HE6 : Hid (CB (wd.alloc (.cells #[.int .i64 0, .slice none 0 0] 26)) wd.heap.size 26 [.int .i64 0, .slice none 0 0]) := CB.new wd _ _
          have hba := Lib.hid (below_ext hbd.out (b_al (.cells #[.int .i64 0, .slice none 0 0] 26)))
          have hEw := Lib.hid hbd.out.size
          generalize hwa : wd.alloc (.cells #[.int .i64 0, .slice none 0 0] 26) = wa at *
          clear hwa
          clear hbd
          generalize wd.heap.size = E at *
          have HEl := Lib.hid HE6.out.lt
          refine hK.out _ _ ⟨cell_ext hba.out (HX.out.cell 0), cell_ext hba.out (HX.out.cell 1), cell_ext hba.out HF.out.1, cell_ext hba.out HF.out.2.1, cell_ext hba.out HF.out.2.2.1, cell_ext hba.out HF.out.2.2.2.1, cell_ext hba.out HF.out.2.2.2.2⟩ (fun hHeldA => ?_)
          clear hK K
          try simp only [Act.put, List.setIfInBounds_toArray, List.set_cons_zero, List.set_cons_succ]
          refine wpAnyH_ready (rs := [5]) (by kernel_rfl) (by simp) ?_
          refine AllReadyH.cons rfl (fun K hK => ?_) AllReadyH.nil
          go_simp
          refine (do_own (HS.out.ext hba.out) (by have := hrl.out; have := H40.out; simp only at *; omega) hcw.out Hd.out).mono ?_
          rintro e w8 ⟨o2, c2, rfl, hO7, hb7⟩
          have HO7 := Lib.hid hO7
          clear hO7
          have hb8 := Lib.hid (below_ext hba.out hb7)
          have hbs := Lib.hid hba.out.size
          have HE8 := Lib.hid (HE6.out.ext hb7)
          clear hb7
          have HO8 := Lib.hid HO7.out
          have hne : Hid ((.slice o2 l2.length c2 : Value).ownBlock ≠ some E) := fun e => by have := (HO7.out.lt _ e).1; have := HEl.out; omega
          refine hK.out _ _ ⟨cell_ext hb8.out (HX.out.cell 0), cell_ext hb8.out (HX.out.cell 1), cell_ext hb8.out HF.out.1, cell_ext hb8.out HF.out.2.1, cell_ext hb8.out HF.out.2.2.1, cell_ext hb8.out HF.out.2.2.2.1, cell_ext hb8.out HF.out.2.2.2.2⟩ (fun hHeldB => ?_)
          clear hK K
          try simp only [Act.put, List.setIfInBounds_toArray, List.set_cons_zero, List.set_cons_succ]
          refine take_dst (some 24) (i := 6) (v := ?vAy6) rfl rfl (by kernel_rfl) (by kernel_rfl) (by kernel_rfl) (fun _ _ _ h => h) (Or.inl ⟨by rfl, fun wS hSw => ?hyAy6⟩) (by assumption) ?restAy6
          case hyAy6 => (obtain ⟨s0, s1, s2, s3, s4, s5, s6⟩ := hSw; go_simp; first | done | with_reducible rfl)
          try simp only [Act.put, List.setIfInBounds_toArray, List.set_cons_zero, List.set_cons_succ]
          refine take_dst (some 31) (i := 7) (v := ?vAy7) rfl rfl (by kernel_rfl) (by kernel_rfl) (by kernel_rfl) (fun _ _ _ h => h) (Or.inl ⟨by rfl, fun wS hSw => ?hyAy7⟩) (by assumption) ?restAy7
          case hyAy7 => (obtain ⟨s0, s1, s2, s3, s4, s5, s6⟩ := hSw; go_simp; first | done | with_reducible rfl)
          try simp only [Act.put, List.setIfInBounds_toArray, List.set_cons_zero, List.set_cons_succ]
          refine take_dst (some 32) (i := 8) (v := ?vAy8) rfl rfl (by kernel_rfl) (by kernel_rfl) (by kernel_rfl) (fun _ _ _ h => h) (Or.inl ⟨by rfl, fun wS hSw => ?hyAy8⟩) (by assumption) ?restAy8
          case hyAy8 => (obtain ⟨s0, s1, s2, s3, s4, s5, s6⟩ := hSw; go_simp; first | done | with_reducible rfl)
          try simp only [Act.put, List.setIfInBounds_toArray, List.set_cons_zero, List.set_cons_succ]
          refine wpAnyH_ready (rs := [10]) (by kernel_rfl) (by simp) ?_
          refine AllReadyH.cons rfl (fun K hK => ?_) AllReadyH.nil
          have y0 : w8.cell? ⟨E, 0, none⟩ = some (.int .i64 0) := HE8.out.cell 0
          have z0 : w8.frozen? ⟨E, 0, none⟩ = false := HE8.out.frozen _
          have y1 : w8.cell? ⟨E, 1, none⟩ = some (.slice none 0 0) := HE8.out.cell 1
          have z1 : w8.frozen? ⟨E, 1, none⟩ = false := HE8.out.frozen _
          go_simp
          have HE9 : Hid (CB ((w8.setCell ⟨E, 0, none⟩ (.int .i64 tk2)).setCell ⟨E, 1, none⟩ (.slice o2 l2.length c2)) E 26 [.int .i64 tk2, .slice o2 l2.length c2]) := ((HE8.out.set 0 (.int .i64 tk2)).set 1 (.slice o2 l2.length c2))
          have hb9 : Hid (Below wr.heap.size wr ((w8.setCell ⟨E, 0, none⟩ (.int .i64 tk2)).setCell ⟨E, 1, none⟩ (.slice o2 l2.length c2))) := ((hb8.out.setCell (p := ⟨E, 0, none⟩) hEw.out (.int .i64 tk2)).setCell (p := ⟨E, 1, none⟩) hEw.out (.slice o2 l2.length c2))
          have HO9 := Lib.hid ((HO8.out.far2 (i := 0) hne.out (.int .i64 tk2)).far2 (i := 1) hne.out (.slice o2 l2.length c2))
          generalize hw9 : ((w8.setCell ⟨E, 0, none⟩ (.int .i64 tk2)).setCell ⟨E, 1, none⟩ (.slice o2 l2.length c2)) = w9 at *
          clear hw9 y0 z0 y1 z1
          refine hK.out _ _ ⟨cell_ext hb9.out (HX.out.cell 0), cell_ext hb9.out (HX.out.cell 1), cell_ext hb9.out HF.out.1, cell_ext hb9.out HF.out.2.1, cell_ext hb9.out HF.out.2.2.1, cell_ext hb9.out HF.out.2.2.2.1, cell_ext hb9.out HF.out.2.2.2.2⟩ (fun hHeldZ => ?_)
          clear hK K
          try simp only [Act.put, List.setIfInBounds_toArray, List.set_cons_zero, List.set_cons_succ]
          refine take_dst (some 6) (i := 11) (v := ?vABa11) rfl rfl (by kernel_rfl) (by kernel_rfl) (by kernel_rfl) (fun _ _ _ h => h) (Or.inl ⟨by rfl, fun wS hSw => ?hyABa11⟩) (by assumption) ?restABa11
          case hyABa11 => (obtain ⟨s0, s1, s2, s3, s4, s5, s6⟩ := hSw; go_simp; first | done | with_reducible rfl)
          try simp only [Act.put, List.setIfInBounds_toArray, List.set_cons_zero, List.set_cons_succ]
          refine wpAnyH_done (by kernel_rfl) ?_ _
          refine NoPanic.normal ?_
          go_wp2_with fail
          go_meet
          exact ⟨E, o2, c2, rfl, rfl, hb9.out, hEw.out, HE9.out, own_base HO9.out hbs.out⟩
      case rest =>
        obtain ⟨E1, o2, c2, rfl, rfl, hbc, hE, hcb, hO⟩ := hcut
        have HBc := Lib.hid hbc; have HEc := Lib.hid hcb; have HOc := Lib.hid hO; have HEx := Lib.hid hE
        have HFc : Hid (FiveC wc b (off + k * 5) c) := ⟨cell_ext hbc HF.out.1, cell_ext hbc HF.out.2.1, cell_ext hbc HF.out.2.2.1, cell_ext hbc HF.out.2.2.2.1, cell_ext hbc HF.out.2.2.2.2⟩
        have HXc := Lib.hid (HX.out.ext hbc)
        have HXl := Lib.hid HX.out.lt
        have HBw := Lib.hid (below_ext HB.out hbc)
        clear hbc hcb hO hE HF HX HB HS
        have b0 : 0 ≤ tk := Hg.out.lo
        have b1 : tk ≤ 1048576 := Hg.out.hi
        have x0 : wc.cell? ⟨X, 0, none⟩ = some (.int .i64 tk) := HXc.out.cell 0
        have f0 : wc.cell? ⟨b, off + k * 5, none⟩ = some (.int .i64 c.kd) := HFc.out.1
        obtain ⟨q, hq⟩ : ∃ q, (c.kd != 3) = q := ⟨_, rfl⟩
        have Hq := Lib.hid hq
        have Hx2 : Hid (getL l2 c.sl = some x) := by show _ = _; rw [Hdid.out.oth]; exact if_pos rfl
        have Hl2 : Hid (l2.length ≤ 2000) := by show _ ≤ _; have := Hdid.out.hi; have := hrl.out; have := H40.out; simp only at *; omega
        have Hg2 := Lib.hid Hdid.out.good
        have hfl := Lib.hid Hdid.out.fl
        cases q
        · have hk3 : c.kd = 3 := by simpa using Hq.out
          obtain ⟨y, hy1, hy2, hy3, hy4⟩ := Hdid.out.held (by omega)
          obtain ⟨ht2, hxx⟩ := hy4 hk3
          have hyf : y.fl = c.fl := by have := hfl.out; rw [hxx] at this; exact this
          have hxe : x = (⟨y.sl, y.ai, c.fl, y.tk, true⟩ : Le) := by rw [hxx, ← hyf]
          subst ht2
          subst hxe
          clear hy1 hy2 hy3 hy4 hxx hyf hk3
          have hq2 : (c.kd == 3) = true := by simpa using Hq.out
          clear Hdid hfl
          have g0 : wc.cell? ⟨E1, 0, none⟩ = some (.int .i64 tk2) := HEc.out.cell 0
          have g1 : wc.cell? ⟨E1, 1, none⟩ = some (.slice o2 l2.length c2) := HEc.out.cell 1
          go_upto_region 16 with fail
          clear x0 f0 g0 g1
          go_cut [8, 9] (fun v8 v9 wx => CutH ⟨y.sl, y.ai, c.fl, y.tk, true⟩ true wc v8 v9 wx)
          case first =>
            refine wp_region_noPanic ?_
            have hbw := Lib.hid (Below.refl wc.heap.size wc)
            refine wp_region_held_drew (S := fun w' => w'.cell? ⟨E1, 0, none⟩ = some (.int .i64 tk2) ∧ w'.cell? ⟨E1, 1, none⟩ = some (.slice o2 l2.length c2) ∧ w'.cell? ⟨b, off + k * 5 + 1, none⟩ = some (.int .i64 c.sl)) (by kernel_rfl) ⟨cell_ext hbw.out (HEc.out.cell 0), cell_ext hbw.out (HEc.out.cell 1), cell_ext hbw.out HFc.out.2.1⟩ (fun hHeld => ?_)
            have hbd := Lib.hid hbw.out.drew
            generalize wc.drew = wd at *
            refine take_dst (some 50) (i := 0) (v := ?vB3p0) rfl rfl (by kernel_rfl) (by kernel_rfl) (by kernel_rfl) (fun _ _ _ h => h) (Or.inl ⟨by rfl, fun wS hSw => ?hyB3p0⟩) (by assumption) ?restB3p0
            case hyB3p0 => (obtain ⟨s0, s1, s2⟩ := hSw; go_simp; first | done | with_reducible rfl)
            try simp only [Act.put, List.setIfInBounds_toArray, List.set_cons_zero, List.set_cons_succ]
            refine take_dst (some 51) (i := 1) (v := ?vB3p1) rfl rfl (by kernel_rfl) (by kernel_rfl) (by kernel_rfl) (fun _ _ _ h => h) (Or.inl ⟨by rfl, fun wS hSw => ?hyB3p1⟩) (by assumption) ?restB3p1
            case hyB3p1 => (obtain ⟨s0, s1, s2⟩ := hSw; go_simp; first | done | with_reducible rfl)
            try simp only [Act.put, List.setIfInBounds_toArray, List.set_cons_zero, List.set_cons_succ]
            refine take_dst (some 52) (i := 2) (v := ?vB3p2) rfl rfl (by kernel_rfl) (by kernel_rfl) (by kernel_rfl) (fun _ _ _ h => h) (Or.inl ⟨by rfl, fun wS hSw => ?hyB3p2⟩) (by assumption) ?restB3p2
            case hyB3p2 => (obtain ⟨s0, s1, s2⟩ := hSw; go_simp; first | done | with_reducible rfl)
            try simp only [Act.put, List.setIfInBounds_toArray, List.set_cons_zero, List.set_cons_succ]
            refine take_dst (some 53) (i := 3) (v := ?vB3p3) rfl rfl (by kernel_rfl) (by kernel_rfl) (by kernel_rfl) (fun _ _ _ h => h) (Or.inl ⟨by rfl, fun wS hSw => ?hyB3p3⟩) (by assumption) ?restB3p3
            case hyB3p3 => (obtain ⟨s0, s1, s2⟩ := hSw; go_simp; first | done | with_reducible rfl)
            try simp only [Act.put, List.setIfInBounds_toArray, List.set_cons_zero, List.set_cons_succ]
            refine take_dst (some 54) (i := 4) (v := ?vB3p4) rfl rfl (by kernel_rfl) (by kernel_rfl) (by kernel_rfl) (fun _ _ _ h => h) (Or.inl ⟨by rfl, fun wS hSw => ?hyB3p4⟩) (by assumption) ?restB3p4
            case hyB3p4 => (obtain ⟨s0, s1, s2⟩ := hSw; go_simp; first | done | with_reducible rfl)
            try simp only [Act.put, List.setIfInBounds_toArray, List.set_cons_zero, List.set_cons_succ]
            refine take_dst (some 55) (i := 5) (v := ?vB3p5) rfl rfl (by kernel_rfl) (by kernel_rfl) (by kernel_rfl) (fun _ _ _ h => h) (Or.inl ⟨by rfl, fun wS hSw => ?hyB3p5⟩) (by assumption) ?restB3p5
            case hyB3p5 => (obtain ⟨s0, s1, s2⟩ := hSw; go_simp; first | done | with_reducible rfl)
            try simp only [Act.put, List.setIfInBounds_toArray, List.set_cons_zero, List.set_cons_succ]
            refine wpAnyH_ready (rs := [6, 10]) (by kernel_rfl) (by simp) ?_
            refine AllReadyH.cons rfl (fun K hK => ?_) (AllReadyH.cons rfl (fun K hK => ?_) AllReadyH.nil)
            · go_simp
              refine (holds_is (tk := tk2) (x := ⟨y.sl, y.ai, c.fl, y.tk, true⟩) (b := true) (HOc.out.rd.ext hbd.out) (by rw [Hx2.out]; rfl) (by rw [Hx2.out]; rfl)).mono ?_
              rintro e w7 ⟨rfl, hb7⟩
              have hb7x := Lib.hid (below_ext hbd.out hb7)
              clear hb7
              refine hK.out _ _ ⟨cell_ext hb7x.out (HEc.out.cell 0), cell_ext hb7x.out (HEc.out.cell 1), cell_ext hb7x.out HFc.out.2.1⟩ (fun hHeldA => ?_)
              clear hK K
              try simp only [Act.put, List.setIfInBounds_toArray, List.set_cons_zero, List.set_cons_succ]
              refine take_dst (some 49) (i := 7) (v := ?vB3x7) rfl rfl (by kernel_rfl) (by kernel_rfl) (by kernel_rfl) (fun _ _ _ h => h) (Or.inl ⟨by rfl, fun wS hSw => ?hyB3x7⟩) (by assumption) ?restB3x7
              case hyB3x7 => (obtain ⟨s0, s1, s2⟩ := hSw; go_simp; first | done | with_reducible rfl)
              try simp only [Act.put, List.setIfInBounds_toArray, List.set_cons_zero, List.set_cons_succ]
              refine take_dst (some 57) (i := 8) (v := ?vB3x8) rfl rfl (by kernel_rfl) (by kernel_rfl) (by kernel_rfl) (fun _ _ _ h => h) (Or.inl ⟨by rfl, fun wS hSw => ?hyB3x8⟩) (by assumption) ?restB3x8
              case hyB3x8 => (obtain ⟨s0, s1, s2⟩ := hSw; go_simp; first | done | with_reducible rfl)
              try simp only [Act.put, List.setIfInBounds_toArray, List.set_cons_zero, List.set_cons_succ]
              refine take_dst (some 58) (i := 9) (v := ?vB3x9) rfl rfl (by kernel_rfl) (by kernel_rfl) (by kernel_rfl) (fun _ _ _ h => h) (Or.inl ⟨by rfl, fun wS hSw => ?hyB3x9⟩) (by assumption) ?restB3x9
              case hyB3x9 => (obtain ⟨s0, s1, s2⟩ := hSw; go_simp; first | done | with_reducible rfl)
              try simp only [Act.put, List.setIfInBounds_toArray, List.set_cons_zero, List.set_cons_succ]
              refine wpAnyH_ready (rs := [10]) (by kernel_rfl) (by simp) ?_
              refine AllReadyH.cons rfl (fun K hK => ?_) AllReadyH.nil
              go_simp
              have HE8 : Hid (CB (w7.alloc (.cells #[.int .i64 0, .int .i64 0, .int .i64 0, .int .i64 0, .bool false] 36)) w7.heap.size 36 [.int .i64 0, .int .i64 0, .int .i64 0, .int .i64 0, .bool false]) := CB.new w7 _ _
              have hb8 := Lib.hid (below_ext hb7x.out (b_al (.cells #[.int .i64 0, .int .i64 0, .int .i64 0, .int .i64 0, .bool false] 36)))
              have hEw := Lib.hid hb7x.out.size
              generalize hw8 : w7.alloc (.cells #[.int .i64 0, .int .i64 0, .int .i64 0, .int .i64 0, .bool false] 36) = w8 at *
              clear hw8
              skip
              clear hb7x
              generalize w7.heap.size = E at *
              refine hK.out _ _ ⟨cell_ext hb8.out (HEc.out.cell 0), cell_ext hb8.out (HEc.out.cell 1), cell_ext hb8.out HFc.out.2.1⟩ (fun hHeldB => ?_)
              clear hK K
              try simp only [Act.put, List.setIfInBounds_toArray, List.set_cons_zero, List.set_cons_succ]
              refine wpAnyH_ready (rs := [11]) (by kernel_rfl) (by simp) ?_
              refine AllReadyH.cons rfl (fun K hK => ?_) AllReadyH.nil
              have y0 : w8.cell? ⟨E, 0, none⟩ = some (.int .i64 0) := HE8.out.cell 0
              have z0 : w8.frozen? ⟨E, 0, none⟩ = false := HE8.out.frozen _
              have y1 : w8.cell? ⟨E, 1, none⟩ = some (.int .i64 0) := HE8.out.cell 1
              have z1 : w8.frozen? ⟨E, 1, none⟩ = false := HE8.out.frozen _
              have y2 : w8.cell? ⟨E, 2, none⟩ = some (.int .i64 0) := HE8.out.cell 2
              have z2 : w8.frozen? ⟨E, 2, none⟩ = false := HE8.out.frozen _
              have y3 : w8.cell? ⟨E, 3, none⟩ = some (.int .i64 0) := HE8.out.cell 3
              have z3 : w8.frozen? ⟨E, 3, none⟩ = false := HE8.out.frozen _
              have y4 : w8.cell? ⟨E, 4, none⟩ = some (.bool false) := HE8.out.cell 4
              have z4 : w8.frozen? ⟨E, 4, none⟩ = false := HE8.out.frozen _
              go_simp
              have HE9 : Hid (CB (((((w8.setCell ⟨E, 0, none⟩ (.int .i64 y.sl)).setCell ⟨E, 1, none⟩ (.int .i64 y.ai)).setCell ⟨E, 2, none⟩ (.int .i64 c.fl)).setCell ⟨E, 3, none⟩ (.int .i64 y.tk)).setCell ⟨E, 4, none⟩ (.bool true)) E 36 [.int .i64 y.sl, .int .i64 y.ai, .int .i64 c.fl, .int .i64 y.tk, .bool true]) := (((((HE8.out.set 0 (.int .i64 y.sl)).set 1 (.int .i64 y.ai)).set 2 (.int .i64 c.fl)).set 3 (.int .i64 y.tk)).set 4 (.bool true))
              have hb9 : Hid (Below wc.heap.size wc (((((w8.setCell ⟨E, 0, none⟩ (.int .i64 y.sl)).setCell ⟨E, 1, none⟩ (.int .i64 y.ai)).setCell ⟨E, 2, none⟩ (.int .i64 c.fl)).setCell ⟨E, 3, none⟩ (.int .i64 y.tk)).setCell ⟨E, 4, none⟩ (.bool true))) := (((((hb8.out.setCell (p := ⟨E, 0, none⟩) hEw.out (.int .i64 y.sl)).setCell (p := ⟨E, 1, none⟩) hEw.out (.int .i64 y.ai)).setCell (p := ⟨E, 2, none⟩) hEw.out (.int .i64 c.fl)).setCell (p := ⟨E, 3, none⟩) hEw.out (.int .i64 y.tk)).setCell (p := ⟨E, 4, none⟩) hEw.out (.bool true))
              generalize hw9 : (((((w8.setCell ⟨E, 0, none⟩ (.int .i64 y.sl)).setCell ⟨E, 1, none⟩ (.int .i64 y.ai)).setCell ⟨E, 2, none⟩ (.int .i64 c.fl)).setCell ⟨E, 3, none⟩ (.int .i64 y.tk)).setCell ⟨E, 4, none⟩ (.bool true)) = w9 at *
              clear hw9 y0 z0 y1 z1 y2 z2 y3 z3 y4 z4
              refine hK.out _ _ ⟨cell_ext hb9.out (HEc.out.cell 0), cell_ext hb9.out (HEc.out.cell 1), cell_ext hb9.out HFc.out.2.1⟩ (fun hHeldZ => ?_)
              clear hK K
              try simp only [Act.put, List.setIfInBounds_toArray, List.set_cons_zero, List.set_cons_succ]
              refine take_dst (some 9) (i := 12) (v := ?vB3Aa12) rfl rfl (by kernel_rfl) (by kernel_rfl) (by kernel_rfl) (fun _ _ _ h => h) (Or.inl ⟨by rfl, fun wS hSw => ?hyB3Aa12⟩) (by assumption) ?restB3Aa12
              case hyB3Aa12 => (obtain ⟨s0, s1, s2⟩ := hSw; go_simp; first | done | with_reducible rfl)
              try simp only [Act.put, List.setIfInBounds_toArray, List.set_cons_zero, List.set_cons_succ]
              refine wpAnyH_done (by kernel_rfl) ?_ _
              refine NoPanic.normal ?_
              go_wp2_with fail
              go_meet
              exact ⟨E, rfl, rfl, hb9.out, HE9.out⟩
            · go_simp
              have HE6 : Hid (CB (wd.alloc (.cells #[.int .i64 0, .int .i64 0, .int .i64 0, .int .i64 0, .bool false] 36)) wd.heap.size 36 [.int .i64 0, .int .i64 0, .int .i64 0, .int .i64 0, .bool false]) := CB.new wd _ _
              have hba := Lib.hid (below_ext hbd.out (b_al (.cells #[.int .i64 0, .int .i64 0, .int .i64 0, .int .i64 0, .bool false] 36)))
              have hEw := Lib.hid hbd.out.size
              generalize hwa : wd.alloc (.cells #[.int .i64 0, .int .i64 0, .int .i64 0, .int .i64 0, .bool false] 36) = wa at *
              clear hwa
              clear hbd
              generalize wd.heap.size = E at *
              have HEl := Lib.hid HE6.out.lt
              refine hK.out _ _ ⟨cell_ext hba.out (HEc.out.cell 0), cell_ext hba.out (HEc.out.cell 1), cell_ext hba.out HFc.out.2.1⟩ (fun hHeldA => ?_)
              clear hK K
              try simp only [Act.put, List.setIfInBounds_toArray, List.set_cons_zero, List.set_cons_succ]
              refine wpAnyH_ready (rs := [6]) (by kernel_rfl) (by simp) ?_
              refine AllReadyH.cons rfl (fun K hK => ?_) AllReadyH.nil
              go_simp
              refine (holds_is (tk := tk2) (x := ⟨y.sl, y.ai, c.fl, y.tk, true⟩) (b := true) (HOc.out.rd.ext hba.out) (by rw [Hx2.out]; rfl) (by rw [Hx2.out]; rfl)).mono ?_
              rintro e w8 ⟨rfl, hb7⟩
              have hb8 := Lib.hid (below_ext hba.out hb7)
              have HE8 := Lib.hid (HE6.out.ext hb7)
              clear hb7
              refine hK.out _ _ ⟨cell_ext hb8.out (HEc.out.cell 0), cell_ext hb8.out (HEc.out.cell 1), cell_ext hb8.out HFc.out.2.1⟩ (fun hHeldB => ?_)
              clear hK K
              try simp only [Act.put, List.setIfInBounds_toArray, List.set_cons_zero, List.set_cons_succ]
              refine take_dst (some 49) (i := 7) (v := ?vB3y7) rfl rfl (by kernel_rfl) (by kernel_rfl) (by kernel_rfl) (fun _ _ _ h => h) (Or.inl ⟨by rfl, fun wS hSw => ?hyB3y7⟩) (by assumption) ?restB3y7
              case hyB3y7 => (obtain ⟨s0, s1, s2⟩ := hSw; go_simp; first | done | with_reducible rfl)
              try simp only [Act.put, List.setIfInBounds_toArray, List.set_cons_zero, List.set_cons_succ]
              refine take_dst (some 57) (i := 8) (v := ?vB3y8) rfl rfl (by kernel_rfl) (by kernel_rfl) (by kernel_rfl) (fun _ _ _ h => h) (Or.inl ⟨by rfl, fun wS hSw => ?hyB3y8⟩) (by assumption) ?restB3y8
              case hyB3y8 => (obtain ⟨s0, s1, s2⟩ := hSw; go_simp; first | done | with_reducible rfl)
              try simp only [Act.put, List.setIfInBounds_toArray, List.set_cons_zero, List.set_cons_succ]
              refine take_dst (some 58) (i := 9) (v := ?vB3y9) rfl rfl (by kernel_rfl) (by kernel_rfl) (by kernel_rfl) (fun _ _ _ h => h) (Or.inl ⟨by rfl, fun wS hSw => ?hyB3y9⟩) (by assumption) ?restB3y9
              case hyB3y9 => (obtain ⟨s0, s1, s2⟩ := hSw; go_simp; first | done | with_reducible rfl)
              try simp only [Act.put, List.setIfInBounds_toArray, List.set_cons_zero, List.set_cons_succ]
              refine wpAnyH_ready (rs := [11]) (by kernel_rfl) (by simp) ?_
              refine AllReadyH.cons rfl (fun K hK => ?_) AllReadyH.nil
              have y0 : w8.cell? ⟨E, 0, none⟩ = some (.int .i64 0) := HE8.out.cell 0
              have z0 : w8.frozen? ⟨E, 0, none⟩ = false := HE8.out.frozen _
              have y1 : w8.cell? ⟨E, 1, none⟩ = some (.int .i64 0) := HE8.out.cell 1
              have z1 : w8.frozen? ⟨E, 1, none⟩ = false := HE8.out.frozen _
              have y2 : w8.cell? ⟨E, 2, none⟩ = some (.int .i64 0) := HE8.out.cell 2
              have z2 : w8.frozen? ⟨E, 2, none⟩ = false := HE8.out.frozen _
              have y3 : w8.cell? ⟨E, 3, none⟩ = some (.int .i64 0) := HE8.out.cell 3
              have z3 : w8.frozen? ⟨E, 3, none⟩ = false := HE8.out.frozen _
              have y4 : w8.cell? ⟨E, 4, none⟩ = some (.bool false) := HE8.out.cell 4
              have z4 : w8.frozen? ⟨E, 4, none⟩ = false := HE8.out.frozen _
              go_simp
              have HE9 : Hid (CB (((((w8.setCell ⟨E, 0, none⟩ (.int .i64 y.sl)).setCell ⟨E, 1, none⟩ (.int .i64 y.ai)).setCell ⟨E, 2, none⟩ (.int .i64 c.fl)).setCell ⟨E, 3, none⟩ (.int .i64 y.tk)).setCell ⟨E, 4, none⟩ (.bool true)) E 36 [.int .i64 y.sl, .int .i64 y.ai, .int .i64 c.fl, .int .i64 y.tk, .bool true]) := (((((HE8.out.set 0 (.int .i64 y.sl)).set 1 (.int .i64 y.ai)).set 2 (.int .i64 c.fl)).set 3 (.int .i64 y.tk)).set 4 (.bool true))
              have hb9 : Hid (Below wc.heap.size wc (((((w8.setCell ⟨E, 0, none⟩ (.int .i64 y.sl)).setCell ⟨E, 1, none⟩ (.int .i64 y.ai)).setCell ⟨E, 2, none⟩ (.int .i64 c.fl)).setCell ⟨E, 3, none⟩ (.int .i64 y.tk)).setCell ⟨E, 4, none⟩ (.bool true))) := (((((hb8.out.setCell (p := ⟨E, 0, none⟩) hEw.out (.int .i64 y.sl)).setCell (p := ⟨E, 1, none⟩) hEw.out (.int .i64 y.ai)).setCell (p := ⟨E, 2, none⟩) hEw.out (.int .i64 c.fl)).setCell (p := ⟨E, 3, none⟩) hEw.out (.int .i64 y.tk)).setCell (p := ⟨E, 4, none⟩) hEw.out (.bool true))
              generalize hw9 : (((((w8.setCell ⟨E, 0, none⟩ (.int .i64 y.sl)).setCell ⟨E, 1, none⟩ (.int .i64 y.ai)).setCell ⟨E, 2, none⟩ (.int .i64 c.fl)).setCell ⟨E, 3, none⟩ (.int .i64 y.tk)).setCell ⟨E, 4, none⟩ (.bool true)) = w9 at *
              clear hw9 y0 z0 y1 z1 y2 z2 y3 z3 y4 z4
              refine hK.out _ _ ⟨cell_ext hb9.out (HEc.out.cell 0), cell_ext hb9.out (HEc.out.cell 1), cell_ext hb9.out HFc.out.2.1⟩ (fun hHeldZ => ?_)
              clear hK K
              try simp only [Act.put, List.setIfInBounds_toArray, List.set_cons_zero, List.set_cons_succ]
              refine take_dst (some 9) (i := 12) (v := ?vB3Ba12) rfl rfl (by kernel_rfl) (by kernel_rfl) (by kernel_rfl) (fun _ _ _ h => h) (Or.inl ⟨by rfl, fun wS hSw => ?hyB3Ba12⟩) (by assumption) ?restB3Ba12
              case hyB3Ba12 => (obtain ⟨s0, s1, s2⟩ := hSw; go_simp; first | done | with_reducible rfl)
              try simp only [Act.put, List.setIfInBounds_toArray, List.set_cons_zero, List.set_cons_succ]
              refine wpAnyH_done (by kernel_rfl) ?_ _
              refine NoPanic.normal ?_
              go_wp2_with fail
              go_meet
              exact ⟨E, rfl, rfl, hb9.out, HE9.out⟩
          case rest =>
            obtain ⟨H, rfl, rfl, hbh, hch⟩ := hcut
            skip
            have HBh := Lib.hid hbh; have HCh := Lib.hid hch
            clear hbh hch
            skip
            have HEh := Lib.hid (HEc.out.ext HBh.out); have HOh := Lib.hid (HOc.out.ext HBh.out); have HXh := Lib.hid (HXc.out.ext HBh.out); have HBwh := Lib.hid (below_ext HBw.out HBh.out)
            have HFh : Hid (FiveC _ b (off + k * 5) c) := ⟨cell_ext HBh.out HFc.out.1, cell_ext HBh.out HFc.out.2.1, cell_ext HBh.out HFc.out.2.2.1, cell_ext HBh.out HFc.out.2.2.2.1, cell_ext HBh.out HFc.out.2.2.2.2⟩
            clear HEc HOc HXc HFc HBw HBh
            skip
            have hdr := Lib.hid ((Below.refl wc.heap.size wc).drew)
            have hrf := Lib.hid (Below.refl wc.heap.size wc)
            go_upto_region 17 with fail
            refine wp_region_noPanic ?_
            refine wp_region_held_drew (S := fun w' => w'.cell? ⟨E1, 0, none⟩ = some (.int .i64 tk2) ∧ w'.cell? ⟨E1, 1, none⟩ = some (.slice o2 l2.length c2) ∧ w'.cell? ⟨H, 0, none⟩ = some (.int .i64 y.sl) ∧ w'.cell? ⟨H, 1, none⟩ = some (.int .i64 y.ai) ∧ w'.cell? ⟨H, 2, none⟩ = some (.int .i64 c.fl) ∧ w'.cell? ⟨H, 3, none⟩ = some (.int .i64 y.tk) ∧ w'.cell? ⟨H, 4, none⟩ = some (.bool true) ∧ w'.cell? ⟨b, off + k * 5, none⟩ = some (.int .i64 c.kd) ∧ w'.cell? ⟨b, off + k * 5 + 2, none⟩ = some (.int .i64 c.ai) ∧ w'.cell? ⟨b, off + k * 5 + 3, none⟩ = some (.int .i64 c.fl)) (by kernel_rfl) ⟨cell_ext hrf.out (HEh.out.cell 0), cell_ext hrf.out (HEh.out.cell 1), cell_ext hrf.out (HCh.out.cell 0), cell_ext hrf.out (HCh.out.cell 1), cell_ext hrf.out (HCh.out.cell 2), cell_ext hrf.out (HCh.out.cell 3), cell_ext hrf.out (HCh.out.cell 4), cell_ext hrf.out HFh.out.1, cell_ext hrf.out HFh.out.2.2.1, cell_ext hrf.out HFh.out.2.2.2.1⟩ (fun hHeld => ?_)
            generalize wc.drew = wd at *
            refine take_dst (some 59) (i := 0) (v := ?vD30) rfl rfl (by kernel_rfl) (by kernel_rfl) (by kernel_rfl) (fun _ _ _ h => h) (Or.inl ⟨by rfl, fun wS hSw => ?hyD30⟩) (by assumption) ?restD30
            case hyD30 => (obtain ⟨s0, s1, s2, s3, s4, s5, s6, s7, s8, s9⟩ := hSw; go_simp; first | done | with_reducible rfl)
            try simp only [Act.put, List.setIfInBounds_toArray, List.set_cons_zero, List.set_cons_succ]
            refine take_dst (some 60) (i := 1) (v := ?vD31) rfl rfl (by kernel_rfl) (by kernel_rfl) (by kernel_rfl) (fun _ _ _ h => h) (Or.inl ⟨by rfl, fun wS hSw => ?hyD31⟩) (by assumption) ?restD31
            case hyD31 => (obtain ⟨s0, s1, s2, s3, s4, s5, s6, s7, s8, s9⟩ := hSw; go_simp; first | done | with_reducible rfl)
            try simp only [Act.put, List.setIfInBounds_toArray, List.set_cons_zero, List.set_cons_succ]
            refine take_dst (some 61) (i := 2) (v := ?vD32) rfl rfl (by kernel_rfl) (by kernel_rfl) (by kernel_rfl) (fun _ _ _ h => h) (Or.inl ⟨by rfl, fun wS hSw => ?hyD32⟩) (by assumption) ?restD32
            case hyD32 => (obtain ⟨s0, s1, s2, s3, s4, s5, s6, s7, s8, s9⟩ := hSw; go_simp; first | done | with_reducible rfl)
            try simp only [Act.put, List.setIfInBounds_toArray, List.set_cons_zero, List.set_cons_succ]
            refine take_dst (some 62) (i := 3) (v := ?vD33) rfl rfl (by kernel_rfl) (by kernel_rfl) (by kernel_rfl) (fun _ _ _ h => h) (Or.inl ⟨by rfl, fun wS hSw => ?hyD33⟩) (by assumption) ?restD33
            case hyD33 => (obtain ⟨s0, s1, s2, s3, s4, s5, s6, s7, s8, s9⟩ := hSw; go_simp; first | done | with_reducible rfl)
            try simp only [Act.put, List.setIfInBounds_toArray, List.set_cons_zero, List.set_cons_succ]
            refine take_dst (some 63) (i := 4) (v := ?vD34) rfl rfl (by kernel_rfl) (by kernel_rfl) (by kernel_rfl) (fun _ _ _ h => h) (Or.inl ⟨by rfl, fun wS hSw => ?hyD34⟩) (by assumption) ?restD34
            case hyD34 => (obtain ⟨s0, s1, s2, s3, s4, s5, s6, s7, s8, s9⟩ := hSw; go_simp; first | done | with_reducible rfl)
            try simp only [Act.put, List.setIfInBounds_toArray, List.set_cons_zero, List.set_cons_succ]
            refine take_dst (some 64) (i := 5) (v := ?vD35) rfl rfl (by kernel_rfl) (by kernel_rfl) (by kernel_rfl) (fun _ _ _ h => h) (Or.inl ⟨by rfl, fun wS hSw => ?hyD35⟩) (by assumption) ?restD35
            case hyD35 => (obtain ⟨s0, s1, s2, s3, s4, s5, s6, s7, s8, s9⟩ := hSw; go_simp; first | done | with_reducible rfl)
            try simp only [Act.put, List.setIfInBounds_toArray, List.set_cons_zero, List.set_cons_succ]
            refine take_dst (some 65) (i := 6) (v := ?vD36) rfl rfl (by kernel_rfl) (by kernel_rfl) (by kernel_rfl) (fun _ _ _ h => h) (Or.inl ⟨by rfl, fun wS hSw => ?hyD36⟩) (by assumption) ?restD36
            case hyD36 => (obtain ⟨s0, s1, s2, s3, s4, s5, s6, s7, s8, s9⟩ := hSw; go_simp; first | done | with_reducible rfl)
            try simp only [Act.put, List.setIfInBounds_toArray, List.set_cons_zero, List.set_cons_succ]
            refine take_dst (some 66) (i := 7) (v := ?vD37) rfl rfl (by kernel_rfl) (by kernel_rfl) (by kernel_rfl) (fun _ _ _ h => h) (Or.inl ⟨by rfl, fun wS hSw => ?hyD37⟩) (by assumption) ?restD37
            case hyD37 => (obtain ⟨s0, s1, s2, s3, s4, s5, s6, s7, s8, s9⟩ := hSw; go_simp; first | done | with_reducible rfl)
            try simp only [Act.put, List.setIfInBounds_toArray, List.set_cons_zero, List.set_cons_succ]
            refine take_dst (some 67) (i := 8) (v := ?vD38) rfl rfl (by kernel_rfl) (by kernel_rfl) (by kernel_rfl) (fun _ _ _ h => h) (Or.inl ⟨by rfl, fun wS hSw => ?hyD38⟩) (by assumption) ?restD38
            case hyD38 => (obtain ⟨s0, s1, s2, s3, s4, s5, s6, s7, s8, s9⟩ := hSw; go_simp; first | done | with_reducible rfl)
            try simp only [Act.put, List.setIfInBounds_toArray, List.set_cons_zero, List.set_cons_succ]
            refine take_dst (some 68) (i := 9) (v := ?vD39) rfl rfl (by kernel_rfl) (by kernel_rfl) (by kernel_rfl) (fun _ _ _ h => h) (Or.inl ⟨by rfl, fun wS hSw => ?hyD39⟩) (by assumption) ?restD39
            case hyD39 => (obtain ⟨s0, s1, s2, s3, s4, s5, s6, s7, s8, s9⟩ := hSw; go_simp; first | done | with_reducible rfl)
            try simp only [Act.put, List.setIfInBounds_toArray, List.set_cons_zero, List.set_cons_succ]
            refine wpAnyH_ready (rs := [10]) (by kernel_rfl) (by simp) ?_
            refine AllReadyH.cons rfl (fun K hK => ?_) AllReadyH.nil
            go_simp
            refine (check_is (tk := tk2) (k := 0) (HOh.out.rd.ext hdr.out) Hl2.out (by rw [good_iff.2 Hg2.out]; rfl)).mono ?_
            rintro e w7 ⟨rfl, hb7⟩
            have hd7 := Lib.hid (below_ext hdr.out hb7)
            clear hb7
            refine hK.out _ _ ⟨cell_ext hd7.out (HEh.out.cell 0), cell_ext hd7.out (HEh.out.cell 1), cell_ext hd7.out (HCh.out.cell 0), cell_ext hd7.out (HCh.out.cell 1), cell_ext hd7.out (HCh.out.cell 2), cell_ext hd7.out (HCh.out.cell 3), cell_ext hd7.out (HCh.out.cell 4), cell_ext hd7.out HFh.out.1, cell_ext hd7.out HFh.out.2.2.1, cell_ext hd7.out HFh.out.2.2.2.1⟩ (fun hHeld2 => ?_)
            clear hK K
            try simp only [Act.put, List.setIfInBounds_toArray, List.set_cons_zero, List.set_cons_succ]
            refine take_dst (some 70) (i := 11) (v := ?vD311) rfl rfl (by kernel_rfl) (by kernel_rfl) (by kernel_rfl) (fun _ _ _ h => h) (Or.inl ⟨by rfl, fun wS hSw => ?hyD311⟩) (by assumption) ?restD311
            case hyD311 => (obtain ⟨s0, s1, s2, s3, s4, s5, s6, s7, s8, s9⟩ := hSw; go_simp; first | done | with_reducible rfl)
            try simp only [Act.put, List.setIfInBounds_toArray, List.set_cons_zero, List.set_cons_succ]
            refine take_dst (some 71) (i := 12) (v := ?vD312) rfl rfl (by kernel_rfl) (by kernel_rfl) (by kernel_rfl) (fun _ _ _ h => h) (Or.inl ⟨by rfl, fun wS hSw => ?hyD312⟩) (by assumption) ?restD312
            case hyD312 => (obtain ⟨s0, s1, s2, s3, s4, s5, s6, s7, s8, s9⟩ := hSw; go_simp; first | done | with_reducible rfl)
            try simp only [Act.put, List.setIfInBounds_toArray, List.set_cons_zero, List.set_cons_succ]
            refine take_dst (some 72) (i := 13) (v := ?vD313) rfl rfl (by kernel_rfl) (by kernel_rfl) (by kernel_rfl) (fun _ _ _ h => h) (Or.inl ⟨by rfl, fun wS hSw => ?hyD313⟩) (by assumption) ?restD313
            case hyD313 => (obtain ⟨s0, s1, s2, s3, s4, s5, s6, s7, s8, s9⟩ := hSw; go_simp; first | done | with_reducible rfl)
            try simp only [Act.put, List.setIfInBounds_toArray, List.set_cons_zero, List.set_cons_succ]
            refine take_dst (some 73) (i := 14) (v := ?vD314) rfl rfl (by kernel_rfl) (by kernel_rfl) (by kernel_rfl) (fun _ _ _ h => h) (Or.inl ⟨by rfl, fun wS hSw => ?hyD314⟩) (by assumption) ?restD314
            case hyD314 => (obtain ⟨s0, s1, s2, s3, s4, s5, s6, s7, s8, s9⟩ := hSw; go_simp; first | done | with_reducible rfl)
            try simp only [Act.put, List.setIfInBounds_toArray, List.set_cons_zero, List.set_cons_succ]
            refine take_dst (some 74) (i := 15) (v := ?vD315) rfl rfl (by kernel_rfl) (by kernel_rfl) (by kernel_rfl) (fun _ _ _ h => h) (Or.inl ⟨by rfl, fun wS hSw => ?hyD315⟩) (by assumption) ?restD315
            case hyD315 => (obtain ⟨s0, s1, s2, s3, s4, s5, s6, s7, s8, s9⟩ := hSw; go_simp; first | done | with_reducible rfl)
            try simp only [Act.put, List.setIfInBounds_toArray, List.set_cons_zero, List.set_cons_succ]
            refine take_dst (some 75) (i := 16) (v := ?vD316) rfl rfl (by kernel_rfl) (by kernel_rfl) (by kernel_rfl) (fun _ _ _ h => h) (Or.inl ⟨by rfl, fun wS hSw => ?hyD316⟩) (by assumption) ?restD316
            case hyD316 => (obtain ⟨s0, s1, s2, s3, s4, s5, s6, s7, s8, s9⟩ := hSw; go_simp; first | done | with_reducible rfl)
            try simp only [Act.put, List.setIfInBounds_toArray, List.set_cons_zero, List.set_cons_succ]
            refine take_dst (some 76) (i := 17) (v := ?vD317) rfl rfl (by kernel_rfl) (by kernel_rfl) (by kernel_rfl) (fun _ _ _ h => h) (Or.inl ⟨by rfl, fun wS hSw => ?hyD317⟩) (by assumption) ?restD317
            case hyD317 => (obtain ⟨s0, s1, s2, s3, s4, s5, s6, s7, s8, s9⟩ := hSw; go_simp; first | done | with_reducible rfl)
            try simp only [Act.put, List.setIfInBounds_toArray, List.set_cons_zero, List.set_cons_succ]
            refine take_dst (some 77) (i := 18) (v := ?vD318) rfl rfl (by kernel_rfl) (by kernel_rfl) (by kernel_rfl) (fun _ _ _ h => h) (Or.inl ⟨by rfl, fun wS hSw => ?hyD318⟩) (by assumption) ?restD318
            case hyD318 => (obtain ⟨s0, s1, s2, s3, s4, s5, s6, s7, s8, s9⟩ := hSw; go_simp; first | done | with_reducible rfl)
            try simp only [Act.put, List.setIfInBounds_toArray, List.set_cons_zero, List.set_cons_succ]
            refine take_dst (some 78) (i := 19) (v := ?vD319) rfl rfl (by kernel_rfl) (by kernel_rfl) (by kernel_rfl) (fun _ _ _ h => h) (Or.inl ⟨by rfl, fun wS hSw => ?hyD319⟩) (by assumption) ?restD319
            case hyD319 => (obtain ⟨s0, s1, s2, s3, s4, s5, s6, s7, s8, s9⟩ := hSw; go_simp; first | done | with_reducible rfl)
            try simp only [Act.put, List.setIfInBounds_toArray, List.set_cons_zero, List.set_cons_succ]
            refine take_dst (some 79) (i := 20) (v := ?vD320) rfl rfl (by kernel_rfl) (by kernel_rfl) (by kernel_rfl) (fun _ _ _ h => h) (Or.inl ⟨by rfl, fun wS hSw => ?hyD320⟩) (by assumption) ?restD320
            case hyD320 => (obtain ⟨s0, s1, s2, s3, s4, s5, s6, s7, s8, s9⟩ := hSw; go_simp; first | done | with_reducible rfl)
            try simp only [Act.put, List.setIfInBounds_toArray, List.set_cons_zero, List.set_cons_succ]
            refine take_dst (some 80) (i := 21) (v := ?vD321) rfl rfl (by kernel_rfl) (by kernel_rfl) (by kernel_rfl) (fun _ _ _ h => h) (Or.inl ⟨by rfl, fun wS hSw => ?hyD321⟩) (by assumption) ?restD321
            case hyD321 => (obtain ⟨s0, s1, s2, s3, s4, s5, s6, s7, s8, s9⟩ := hSw; go_simp; first | done | with_reducible rfl)
            try simp only [Act.put, List.setIfInBounds_toArray, List.set_cons_zero, List.set_cons_succ]
            refine take_dst (some 81) (i := 22) (v := ?vD322) rfl rfl (by kernel_rfl) (by kernel_rfl) (by kernel_rfl) (fun _ _ _ h => h) (Or.inl ⟨by rfl, fun wS hSw => ?hyD322⟩) (by assumption) ?restD322
            case hyD322 => (obtain ⟨s0, s1, s2, s3, s4, s5, s6, s7, s8, s9⟩ := hSw; go_simp; first | done | with_reducible rfl)
            try simp only [Act.put, List.setIfInBounds_toArray, List.set_cons_zero, List.set_cons_succ]
            refine take_dst (some 82) (i := 23) (v := ?vD323) rfl rfl (by kernel_rfl) (by kernel_rfl) (by kernel_rfl) (fun _ _ _ h => h) (Or.inl ⟨by rfl, fun wS hSw => ?hyD323⟩) (by assumption) ?restD323
            case hyD323 => (obtain ⟨s0, s1, s2, s3, s4, s5, s6, s7, s8, s9⟩ := hSw; go_simp; first | done | with_reducible rfl)
            try simp only [Act.put, List.setIfInBounds_toArray, List.set_cons_zero, List.set_cons_succ]
            refine take_dst (some 83) (i := 24) (v := ?vD324) rfl rfl (by kernel_rfl) (by kernel_rfl) (by kernel_rfl) (fun _ _ _ h => h) (Or.inl ⟨by rfl, fun wS hSw => ?hyD324⟩) (by assumption) ?restD324
            case hyD324 => (obtain ⟨s0, s1, s2, s3, s4, s5, s6, s7, s8, s9⟩ := hSw; go_simp; first | done | with_reducible rfl)
            try simp only [Act.put, List.setIfInBounds_toArray, List.set_cons_zero, List.set_cons_succ]
            refine take_dst (some 84) (i := 25) (v := ?vD325) rfl rfl (by kernel_rfl) (by kernel_rfl) (by kernel_rfl) (fun _ _ _ h => h) (Or.inl ⟨by rfl, fun wS hSw => ?hyD325⟩) (by assumption) ?restD325
            case hyD325 => (obtain ⟨s0, s1, s2, s3, s4, s5, s6, s7, s8, s9⟩ := hSw; go_simp; first | done | with_reducible rfl)
            try simp only [Act.put, List.setIfInBounds_toArray, List.set_cons_zero, List.set_cons_succ]
            refine take_dst (some 85) (i := 26) (v := ?vD326) rfl rfl (by kernel_rfl) (by kernel_rfl) (by kernel_rfl) (fun _ _ _ h => h) (Or.inl ⟨by rfl, fun wS hSw => ?hyD326⟩) (by assumption) ?restD326
            case hyD326 => (obtain ⟨s0, s1, s2, s3, s4, s5, s6, s7, s8, s9⟩ := hSw; go_simp; first | done | with_reducible rfl)
            try simp only [Act.put, List.setIfInBounds_toArray, List.set_cons_zero, List.set_cons_succ]
            refine take_dst (some 86) (i := 27) (v := ?vD327) rfl rfl (by kernel_rfl) (by kernel_rfl) (by kernel_rfl) (fun _ _ _ h => h) (Or.inl ⟨by rfl, fun wS hSw => ?hyD327⟩) (by assumption) ?restD327
            case hyD327 => (obtain ⟨s0, s1, s2, s3, s4, s5, s6, s7, s8, s9⟩ := hSw; go_simp; first | done | with_reducible rfl)
            try simp only [Act.put, List.setIfInBounds_toArray, List.set_cons_zero, List.set_cons_succ]
            refine take_dst (some 87) (i := 28) (v := ?vD328) rfl rfl (by kernel_rfl) (by kernel_rfl) (by kernel_rfl) (fun _ _ _ h => h) (Or.inl ⟨by rfl, fun wS hSw => ?hyD328⟩) (by assumption) ?restD328
            case hyD328 => (obtain ⟨s0, s1, s2, s3, s4, s5, s6, s7, s8, s9⟩ := hSw; go_simp; first | done | with_reducible rfl)
            try simp only [Act.put, List.setIfInBounds_toArray, List.set_cons_zero, List.set_cons_succ]
            refine take_dst (some 88) (i := 29) (v := ?vD329) rfl rfl (by kernel_rfl) (by kernel_rfl) (by kernel_rfl) (fun _ _ _ h => h) (Or.inl ⟨by rfl, fun wS hSw => ?hyD329⟩) (by assumption) ?restD329
            case hyD329 => (obtain ⟨s0, s1, s2, s3, s4, s5, s6, s7, s8, s9⟩ := hSw; go_simp; first | done | with_reducible rfl)
            try simp only [Act.put, List.setIfInBounds_toArray, List.set_cons_zero, List.set_cons_succ]
            refine take_dst (some 89) (i := 30) (v := ?vD330) rfl rfl (by kernel_rfl) (by kernel_rfl) (by kernel_rfl) (fun _ _ _ h => h) (Or.inl ⟨by rfl, fun wS hSw => ?hyD330⟩) (by assumption) ?restD330
            case hyD330 => (obtain ⟨s0, s1, s2, s3, s4, s5, s6, s7, s8, s9⟩ := hSw; go_simp; first | done | with_reducible rfl)
            try simp only [Act.put, List.setIfInBounds_toArray, List.set_cons_zero, List.set_cons_succ]
            refine take_dst (some 90) (i := 31) (v := undef) rfl rfl (by kernel_rfl) (by kernel_rfl) (by kernel_rfl) (fun _ _ _ h => h) (Or.inr ⟨by rfl, rfl⟩) (by assumption) ?restD331
            try simp only [Act.put, List.setIfInBounds_toArray, List.set_cons_zero, List.set_cons_succ]
            refine take_dst (some 91) (i := 32) (v := undef) rfl rfl (by kernel_rfl) (by kernel_rfl) (by kernel_rfl) (fun _ _ _ h => h) (Or.inr ⟨by rfl, rfl⟩) (by assumption) ?restD332
            try simp only [Act.put, List.setIfInBounds_toArray, List.set_cons_zero, List.set_cons_succ]
            refine take_dst (some 92) (i := 33) (v := undef) rfl rfl (by kernel_rfl) (by kernel_rfl) (by kernel_rfl) (fun _ _ _ h => h) (Or.inr ⟨by rfl, rfl⟩) (by assumption) ?restD333
            try simp only [Act.put, List.setIfInBounds_toArray, List.set_cons_zero, List.set_cons_succ]
            refine take_dst (some 93) (i := 34) (v := undef) rfl rfl (by kernel_rfl) (by kernel_rfl) (by kernel_rfl) (fun _ _ _ h => h) (Or.inr ⟨by rfl, rfl⟩) (by assumption) ?restD334
            try simp only [Act.put, List.setIfInBounds_toArray, List.set_cons_zero, List.set_cons_succ]
            refine take_dst (some 94) (i := 35) (v := undef) rfl rfl (by kernel_rfl) (by kernel_rfl) (by kernel_rfl) (fun _ _ _ h => h) (Or.inr ⟨by rfl, rfl⟩) (by assumption) ?restD335
            try simp only [Act.put, List.setIfInBounds_toArray, List.set_cons_zero, List.set_cons_succ]
            refine take_dst (some 95) (i := 36) (v := undef) rfl rfl (by kernel_rfl) (by kernel_rfl) (by kernel_rfl) (fun _ _ _ h => h) (Or.inr ⟨by rfl, rfl⟩) (by assumption) ?restD336
            try simp only [Act.put, List.setIfInBounds_toArray, List.set_cons_zero, List.set_cons_succ]
            refine take_dst (some 96) (i := 37) (v := undef) rfl rfl (by kernel_rfl) (by kernel_rfl) (by kernel_rfl) (fun _ _ _ h => h) (Or.inr ⟨by rfl, rfl⟩) (by assumption) ?restD337
            try simp only [Act.put, List.setIfInBounds_toArray, List.set_cons_zero, List.set_cons_succ]
            refine take_dst (some 97) (i := 38) (v := undef) rfl rfl (by kernel_rfl) (by kernel_rfl) (by kernel_rfl) (fun _ _ _ h => h) (Or.inr ⟨by rfl, rfl⟩) (by assumption) ?restD338
            try simp only [Act.put, List.setIfInBounds_toArray, List.set_cons_zero, List.set_cons_succ]
            refine take_dst (some 98) (i := 39) (v := undef) rfl rfl (by kernel_rfl) (by kernel_rfl) (by kernel_rfl) (fun _ _ _ h => h) (Or.inr ⟨by rfl, rfl⟩) (by assumption) ?restD339
            try simp only [Act.put, List.setIfInBounds_toArray, List.set_cons_zero, List.set_cons_succ]
            refine take_dst (some 99) (i := 40) (v := undef) rfl rfl (by kernel_rfl) (by kernel_rfl) (by kernel_rfl) (fun _ _ _ h => h) (Or.inr ⟨by rfl, rfl⟩) (by assumption) ?restD340
            try simp only [Act.put, List.setIfInBounds_toArray, List.set_cons_zero, List.set_cons_succ]
            refine take_dst (some 100) (i := 41) (v := undef) rfl rfl (by kernel_rfl) (by kernel_rfl) (by kernel_rfl) (fun _ _ _ h => h) (Or.inr ⟨by rfl, rfl⟩) (by assumption) ?restD341
            try simp only [Act.put, List.setIfInBounds_toArray, List.set_cons_zero, List.set_cons_succ]
            refine take_dst (some 101) (i := 42) (v := undef) rfl rfl (by kernel_rfl) (by kernel_rfl) (by kernel_rfl) (fun _ _ _ h => h) (Or.inr ⟨by rfl, rfl⟩) (by assumption) ?restD342
            try simp only [Act.put, List.setIfInBounds_toArray, List.set_cons_zero, List.set_cons_succ]
            refine take_dst (some 102) (i := 43) (v := undef) rfl rfl (by kernel_rfl) (by kernel_rfl) (by kernel_rfl) (fun _ _ _ h => h) (Or.inr ⟨by rfl, rfl⟩) (by assumption) ?restD343
            try simp only [Act.put, List.setIfInBounds_toArray, List.set_cons_zero, List.set_cons_succ]
            refine take_dst (some 103) (i := 44) (v := undef) rfl rfl (by kernel_rfl) (by kernel_rfl) (by kernel_rfl) (fun _ _ _ h => h) (Or.inr ⟨by rfl, rfl⟩) (by assumption) ?restD344
            try simp only [Act.put, List.setIfInBounds_toArray, List.set_cons_zero, List.set_cons_succ]
            refine take_dst (some 104) (i := 45) (v := undef) rfl rfl (by kernel_rfl) (by kernel_rfl) (by kernel_rfl) (fun _ _ _ h => h) (Or.inr ⟨by rfl, rfl⟩) (by assumption) ?restD345
            try simp only [Act.put, List.setIfInBounds_toArray, List.set_cons_zero, List.set_cons_succ]
            refine take_dst (some 105) (i := 46) (v := undef) rfl rfl (by kernel_rfl) (by kernel_rfl) (by kernel_rfl) (fun _ _ _ h => h) (Or.inr ⟨by rfl, rfl⟩) (by assumption) ?restD346
            try simp only [Act.put, List.setIfInBounds_toArray, List.set_cons_zero, List.set_cons_succ]
            refine take_dst (some 106) (i := 47) (v := undef) rfl rfl (by kernel_rfl) (by kernel_rfl) (by kernel_rfl) (fun _ _ _ h => h) (Or.inr ⟨by rfl, rfl⟩) (by assumption) ?restD347
            try simp only [Act.put, List.setIfInBounds_toArray, List.set_cons_zero, List.set_cons_succ]
            refine take_dst (some 107) (i := 48) (v := undef) rfl rfl (by kernel_rfl) (by kernel_rfl) (by kernel_rfl) (fun _ _ _ h => h) (Or.inr ⟨by rfl, rfl⟩) (by assumption) ?restD348
            try simp only [Act.put, List.setIfInBounds_toArray, List.set_cons_zero, List.set_cons_succ]
            refine take_dst (some 108) (i := 49) (v := ?vD349) rfl rfl (by kernel_rfl) (by kernel_rfl) (by kernel_rfl) (fun _ _ _ h => h) (Or.inl ⟨by rfl, fun wS hSw => ?hyD349⟩) (by assumption) ?restD349
            case hyD349 => (obtain ⟨s0, s1, s2, s3, s4, s5, s6, s7, s8, s9⟩ := hSw; go_simp; first | done | with_reducible rfl)
            try simp only [Act.put, List.setIfInBounds_toArray, List.set_cons_zero, List.set_cons_succ]
            refine take_dst (some 109) (i := 50) (v := ?vD350) rfl rfl (by kernel_rfl) (by kernel_rfl) (by kernel_rfl) (fun _ _ _ h => h) (Or.inl ⟨by rfl, fun wS hSw => ?hyD350⟩) (by assumption) ?restD350
            case hyD350 => (obtain ⟨s0, s1, s2, s3, s4, s5, s6, s7, s8, s9⟩ := hSw; go_simp; first | done | with_reducible rfl)
            try simp only [Act.put, List.setIfInBounds_toArray, List.set_cons_zero, List.set_cons_succ]
            refine take_dst (some 110) (i := 51) (v := ?vD351) rfl rfl (by kernel_rfl) (by kernel_rfl) (by kernel_rfl) (fun _ _ _ h => h) (Or.inl ⟨by rfl, fun wS hSw => ?hyD351⟩) (by assumption) ?restD351
            case hyD351 => (obtain ⟨s0, s1, s2, s3, s4, s5, s6, s7, s8, s9⟩ := hSw; go_simp; first | done | with_reducible rfl)
            try simp only [Act.put, List.setIfInBounds_toArray, List.set_cons_zero, List.set_cons_succ]
            refine take_dst (some 111) (i := 52) (v := ?vD352) rfl rfl (by kernel_rfl) (by kernel_rfl) (by kernel_rfl) (fun _ _ _ h => h) (Or.inl ⟨by rfl, fun wS hSw => ?hyD352⟩) (by assumption) ?restD352
            case hyD352 => (obtain ⟨s0, s1, s2, s3, s4, s5, s6, s7, s8, s9⟩ := hSw; go_simp; first | done | with_reducible rfl)
            try simp only [Act.put, List.setIfInBounds_toArray, List.set_cons_zero, List.set_cons_succ]
            refine take_dst (some 112) (i := 53) (v := ?vD353) rfl rfl (by kernel_rfl) (by kernel_rfl) (by kernel_rfl) (fun _ _ _ h => h) (Or.inl ⟨by rfl, fun wS hSw => ?hyD353⟩) (by assumption) ?restD353
            case hyD353 => (obtain ⟨s0, s1, s2, s3, s4, s5, s6, s7, s8, s9⟩ := hSw; go_simp; first | done | with_reducible rfl)
            try simp only [Act.put, List.setIfInBounds_toArray, List.set_cons_zero, List.set_cons_succ]
            refine take_dst (some 113) (i := 54) (v := ?vD354) rfl rfl (by kernel_rfl) (by kernel_rfl) (by kernel_rfl) (fun _ _ _ h => h) (Or.inl ⟨by rfl, fun wS hSw => ?hyD354⟩) (by assumption) ?restD354
            case hyD354 => (obtain ⟨s0, s1, s2, s3, s4, s5, s6, s7, s8, s9⟩ := hSw; go_simp; first | done | with_reducible rfl)
            try simp only [Act.put, List.setIfInBounds_toArray, List.set_cons_zero, List.set_cons_succ]
            refine take_dst (some 114) (i := 55) (v := ?vD355) rfl rfl (by kernel_rfl) (by kernel_rfl) (by kernel_rfl) (fun _ _ _ h => h) (Or.inl ⟨by rfl, fun wS hSw => ?hyD355⟩) (by assumption) ?restD355
            case hyD355 => (obtain ⟨s0, s1, s2, s3, s4, s5, s6, s7, s8, s9⟩ := hSw; go_simp; first | done | with_reducible rfl)
            try simp only [Act.put, List.setIfInBounds_toArray, List.set_cons_zero, List.set_cons_succ]
            refine take_dst (some 115) (i := 56) (v := ?vD356) rfl rfl (by kernel_rfl) (by kernel_rfl) (by kernel_rfl) (fun _ _ _ h => h) (Or.inl ⟨by rfl, fun wS hSw => ?hyD356⟩) (by assumption) ?restD356
            case hyD356 => (obtain ⟨s0, s1, s2, s3, s4, s5, s6, s7, s8, s9⟩ := hSw; go_simp; first | done | with_reducible rfl)
            try simp only [Act.put, List.setIfInBounds_toArray, List.set_cons_zero, List.set_cons_succ]
            refine take_dst (some 116) (i := 57) (v := ?vD357) rfl rfl (by kernel_rfl) (by kernel_rfl) (by kernel_rfl) (fun _ _ _ h => h) (Or.inl ⟨by rfl, fun wS hSw => ?hyD357⟩) (by assumption) ?restD357
            case hyD357 => (obtain ⟨s0, s1, s2, s3, s4, s5, s6, s7, s8, s9⟩ := hSw; go_simp; first | done | with_reducible rfl)
            try simp only [Act.put, List.setIfInBounds_toArray, List.set_cons_zero, List.set_cons_succ]
            refine take_dst (some 117) (i := 58) (v := ?vD358) rfl rfl (by kernel_rfl) (by kernel_rfl) (by kernel_rfl) (fun _ _ _ h => h) (Or.inl ⟨by rfl, fun wS hSw => ?hyD358⟩) (by assumption) ?restD358
            case hyD358 => (obtain ⟨s0, s1, s2, s3, s4, s5, s6, s7, s8, s9⟩ := hSw; go_simp; first | done | with_reducible rfl)
            try simp only [Act.put, List.setIfInBounds_toArray, List.set_cons_zero, List.set_cons_succ]
            refine take_dst (some 118) (i := 59) (v := ?vD359) rfl rfl (by kernel_rfl) (by kernel_rfl) (by kernel_rfl) (fun _ _ _ h => h) (Or.inl ⟨by rfl, fun wS hSw => ?hyD359⟩) (by assumption) ?restD359
            case hyD359 => (obtain ⟨s0, s1, s2, s3, s4, s5, s6, s7, s8, s9⟩ := hSw; go_simp; first | done | with_reducible rfl)
            try simp only [Act.put, List.setIfInBounds_toArray, List.set_cons_zero, List.set_cons_succ]
            refine take_dst (some 119) (i := 60) (v := ?vD360) rfl rfl (by kernel_rfl) (by kernel_rfl) (by kernel_rfl) (fun _ _ _ h => h) (Or.inl ⟨by rfl, fun wS hSw => ?hyD360⟩) (by assumption) ?restD360
            case hyD360 => (obtain ⟨s0, s1, s2, s3, s4, s5, s6, s7, s8, s9⟩ := hSw; go_simp; first | done | with_reducible rfl)
            try simp only [Act.put, List.setIfInBounds_toArray, List.set_cons_zero, List.set_cons_succ]
            refine take_dst (some 120) (i := 61) (v := ?vD361) rfl rfl (by kernel_rfl) (by kernel_rfl) (by kernel_rfl) (fun _ _ _ h => h) (Or.inl ⟨by rfl, fun wS hSw => ?hyD361⟩) (by assumption) ?restD361
            case hyD361 => (obtain ⟨s0, s1, s2, s3, s4, s5, s6, s7, s8, s9⟩ := hSw; go_simp; first | done | with_reducible rfl)
            try simp only [Act.put, List.setIfInBounds_toArray, List.set_cons_zero, List.set_cons_succ]
            refine take_dst (some 121) (i := 62) (v := ?vD362) rfl rfl (by kernel_rfl) (by kernel_rfl) (by kernel_rfl) (fun _ _ _ h => h) (Or.inl ⟨by rfl, fun wS hSw => ?hyD362⟩) (by assumption) ?restD362
            case hyD362 => (obtain ⟨s0, s1, s2, s3, s4, s5, s6, s7, s8, s9⟩ := hSw; go_simp; first | done | with_reducible rfl)
            try simp only [Act.put, List.setIfInBounds_toArray, List.set_cons_zero, List.set_cons_succ]
            refine take_dst (some 122) (i := 63) (v := ?vD363) rfl rfl (by kernel_rfl) (by kernel_rfl) (by kernel_rfl) (fun _ _ _ h => h) (Or.inl ⟨by rfl, fun wS hSw => ?hyD363⟩) (by assumption) ?restD363
            case hyD363 => (obtain ⟨s0, s1, s2, s3, s4, s5, s6, s7, s8, s9⟩ := hSw; go_simp; first | done | with_reducible rfl)
            try simp only [Act.put, List.setIfInBounds_toArray, List.set_cons_zero, List.set_cons_succ]
            refine wpAnyH_done (by kernel_rfl) ?_ _
            refine NoPanic.normal ?_
            have HE7 := Lib.hid (HEh.out.ext hd7.out); have HX7 := Lib.hid (HXh.out.ext hd7.out); have HO7 := Lib.hid (HOh.out.ext hd7.out); have HB7 := Lib.hid (below_ext HBwh.out hd7.out)
            have g0 : w7.cell? ⟨E1, 0, none⟩ = some (.int .i64 tk2) := HE7.out.cell 0
            have g1 : w7.cell? ⟨E1, 1, none⟩ = some (.slice o2 l2.length c2) := HE7.out.cell 1
            have x0 : w7.cell? ⟨X, 0, none⟩ = some (.int .i64 tk2) := HX7.out.cell 0
            have x1 : w7.cell? ⟨X, 1, none⟩ = some (.slice ov l.length cv) := HX7.out.cell 1
            have z0 : w7.frozen? ⟨X, 0, none⟩ = false := HX7.out.frozen _
            have z1 : w7.frozen? ⟨X, 1, none⟩ = false := HX7.out.frozen _
            have hne := Lib.hid (own_far HO7.out HXl.out)
            have HO8 := Lib.hid ((HO7.out.far2 (i := 0) hne.out (.int .i64 tk2)).far2 (i := 1) hne.out (.slice o2 l2.length c2))
            have HX8 := Lib.hid ((HX7.out.set 0 (.int .i64 tk2)).set 1 (.slice o2 l2.length c2))
            have HB8 := Lib.hid ((HB7.out.setCell (p := ⟨X, 0, none⟩) hX.out (.int .i64 tk2)).setCell (p := ⟨X, 1, none⟩) hX.out (.slice o2 l2.length c2))
            clear HEh HOh HXh HFh HBwh HCh hd7 hdr
            go_wp2_with fail
            go_roundw
            case rel => exact ⟨⟨k + 1, _, by omega, by go_num, HB8.out, hX.out, by rw [hR.out, hst.out]; exact HX8.out, by rw [hR.out, hst.out]; exact HO8.out.rd⟩⟩
            case measure => simp [intOf]; omega
        · obtain ⟨ht2, hxe⟩ := Hdid.out.new (by simpa using Hq.out)
          subst ht2
          subst hxe
          have hq2 : (c.kd == 3) = false := by simpa using Hq.out
          clear Hdid hfl
          have g0 : wc.cell? ⟨E1, 0, none⟩ = some (.int .i64 (tk + 1)) := HEc.out.cell 0
          have g1 : wc.cell? ⟨E1, 1, none⟩ = some (.slice o2 l2.length c2) := HEc.out.cell 1
          go_upto_region 16 with fail
          clear x0 f0 g0 g1
          go_cut [8, 9] (fun v8 v9 wx => CutH ⟨c.sl, c.ai, c.fl, tk + 1, false⟩ true wc v8 v9 wx)
          case first =>
            refine wp_region_noPanic ?_
            have hbw := Lib.hid (Below.refl wc.heap.size wc)
            refine wp_region_held_drew (S := fun w' => w'.cell? ⟨E1, 0, none⟩ = some (.int .i64 (tk + 1)) ∧ w'.cell? ⟨E1, 1, none⟩ = some (.slice o2 l2.length c2) ∧ w'.cell? ⟨b, off + k * 5 + 1, none⟩ = some (.int .i64 c.sl)) (by kernel_rfl) ⟨cell_ext hbw.out (HEc.out.cell 0), cell_ext hbw.out (HEc.out.cell 1), cell_ext hbw.out HFc.out.2.1⟩ (fun hHeld => ?_)
            have hbd := Lib.hid hbw.out.drew
            generalize wc.drew = wd at *
            refine take_dst (some 50) (i := 0) (v := ?vB1p0) rfl rfl (by kernel_rfl) (by kernel_rfl) (by kernel_rfl) (fun _ _ _ h => h) (Or.inl ⟨by rfl, fun wS hSw => ?hyB1p0⟩) (by assumption) ?restB1p0
            case hyB1p0 => (obtain ⟨s0, s1, s2⟩ := hSw; go_simp; first | done | with_reducible rfl)
            try simp only [Act.put, List.setIfInBounds_toArray, List.set_cons_zero, List.set_cons_succ]
            refine take_dst (some 51) (i := 1) (v := ?vB1p1) rfl rfl (by kernel_rfl) (by kernel_rfl) (by kernel_rfl) (fun _ _ _ h => h) (Or.inl ⟨by rfl, fun wS hSw => ?hyB1p1⟩) (by assumption) ?restB1p1
            case hyB1p1 => (obtain ⟨s0, s1, s2⟩ := hSw; go_simp; first | done | with_reducible rfl)
            try simp only [Act.put, List.setIfInBounds_toArray, List.set_cons_zero, List.set_cons_succ]
            refine take_dst (some 52) (i := 2) (v := ?vB1p2) rfl rfl (by kernel_rfl) (by kernel_rfl) (by kernel_rfl) (fun _ _ _ h => h) (Or.inl ⟨by rfl, fun wS hSw => ?hyB1p2⟩) (by assumption) ?restB1p2
            case hyB1p2 => (obtain ⟨s0, s1, s2⟩ := hSw; go_simp; first | done | with_reducible rfl)
            try simp only [Act.put, List.setIfInBounds_toArray, List.set_cons_zero, List.set_cons_succ]
            refine take_dst (some 53) (i := 3) (v := ?vB1p3) rfl rfl (by kernel_rfl) (by kernel_rfl) (by kernel_rfl) (fun _ _ _ h => h) (Or.inl ⟨by rfl, fun wS hSw => ?hyB1p3⟩) (by assumption) ?restB1p3
            case hyB1p3 => (obtain ⟨s0, s1, s2⟩ := hSw; go_simp; first | done | with_reducible rfl)
            try simp only [Act.put, List.setIfInBounds_toArray, List.set_cons_zero, List.set_cons_succ]
            refine take_dst (some 54) (i := 4) (v := ?vB1p4) rfl rfl (by kernel_rfl) (by kernel_rfl) (by kernel_rfl) (fun _ _ _ h => h) (Or.inl ⟨by rfl, fun wS hSw => ?hyB1p4⟩) (by assumption) ?restB1p4
            case hyB1p4 => (obtain ⟨s0, s1, s2⟩ := hSw; go_simp; first | done | with_reducible rfl)
            try simp only [Act.put, List.setIfInBounds_toArray, List.set_cons_zero, List.set_cons_succ]
            refine take_dst (some 55) (i := 5) (v := ?vB1p5) rfl rfl (by kernel_rfl) (by kernel_rfl) (by kernel_rfl) (fun _ _ _ h => h) (Or.inl ⟨by rfl, fun wS hSw => ?hyB1p5⟩) (by assumption) ?restB1p5
            case hyB1p5 => (obtain ⟨s0, s1, s2⟩ := hSw; go_simp; first | done | with_reducible rfl)
            try simp only [Act.put, List.setIfInBounds_toArray, List.set_cons_zero, List.set_cons_succ]
            refine wpAnyH_ready (rs := [6, 10]) (by kernel_rfl) (by simp) ?_
            refine AllReadyH.cons rfl (fun K hK => ?_) (AllReadyH.cons rfl (fun K hK => ?_) AllReadyH.nil)
            · go_simp
              refine (holds_is (tk := (tk + 1)) (x := ⟨c.sl, c.ai, c.fl, tk + 1, false⟩) (b := true) (HOc.out.rd.ext hbd.out) (by rw [Hx2.out]; rfl) (by rw [Hx2.out]; rfl)).mono ?_
              rintro e w7 ⟨rfl, hb7⟩
              have hb7x := Lib.hid (below_ext hbd.out hb7)
              clear hb7
              refine hK.out _ _ ⟨cell_ext hb7x.out (HEc.out.cell 0), cell_ext hb7x.out (HEc.out.cell 1), cell_ext hb7x.out HFc.out.2.1⟩ (fun hHeldA => ?_)
              clear hK K
              try simp only [Act.put, List.setIfInBounds_toArray, List.set_cons_zero, List.set_cons_succ]
              refine take_dst (some 49) (i := 7) (v := ?vB1x7) rfl rfl (by kernel_rfl) (by kernel_rfl) (by kernel_rfl) (fun _ _ _ h => h) (Or.inl ⟨by rfl, fun wS hSw => ?hyB1x7⟩) (by assumption) ?restB1x7
              case hyB1x7 => (obtain ⟨s0, s1, s2⟩ := hSw; go_simp; first | done | with_reducible rfl)
              try simp only [Act.put, List.setIfInBounds_toArray, List.set_cons_zero, List.set_cons_succ]
              refine take_dst (some 57) (i := 8) (v := ?vB1x8) rfl rfl (by kernel_rfl) (by kernel_rfl) (by kernel_rfl) (fun _ _ _ h => h) (Or.inl ⟨by rfl, fun wS hSw => ?hyB1x8⟩) (by assumption) ?restB1x8
              case hyB1x8 => (obtain ⟨s0, s1, s2⟩ := hSw; go_simp; first | done | with_reducible rfl)
              try simp only [Act.put, List.setIfInBounds_toArray, List.set_cons_zero, List.set_cons_succ]
              refine take_dst (some 58) (i := 9) (v := ?vB1x9) rfl rfl (by kernel_rfl) (by kernel_rfl) (by kernel_rfl) (fun _ _ _ h => h) (Or.inl ⟨by rfl, fun wS hSw => ?hyB1x9⟩) (by assumption) ?restB1x9
              case hyB1x9 => (obtain ⟨s0, s1, s2⟩ := hSw; go_simp; first | done | with_reducible rfl)
              try simp only [Act.put, List.setIfInBounds_toArray, List.set_cons_zero, List.set_cons_succ]
              refine wpAnyH_ready (rs := [10]) (by kernel_rfl) (by simp) ?_
              refine AllReadyH.cons rfl (fun K hK => ?_) AllReadyH.nil
              go_simp
              have HE8 : Hid (CB (w7.alloc (.cells #[.int .i64 0, .int .i64 0, .int .i64 0, .int .i64 0, .bool false] 36)) w7.heap.size 36 [.int .i64 0, .int .i64 0, .int .i64 0, .int .i64 0, .bool false]) := CB.new w7 _ _
              have hb8 := Lib.hid (below_ext hb7x.out (b_al (.cells #[.int .i64 0, .int .i64 0, .int .i64 0, .int .i64 0, .bool false] 36)))
              have hEw := Lib.hid hb7x.out.size
              generalize hw8 : w7.alloc (.cells #[.int .i64 0, .int .i64 0, .int .i64 0, .int .i64 0, .bool false] 36) = w8 at *
              clear hw8
              skip
              clear hb7x
              generalize w7.heap.size = E at *
              refine hK.out _ _ ⟨cell_ext hb8.out (HEc.out.cell 0), cell_ext hb8.out (HEc.out.cell 1), cell_ext hb8.out HFc.out.2.1⟩ (fun hHeldB => ?_)
              clear hK K
              try simp only [Act.put, List.setIfInBounds_toArray, List.set_cons_zero, List.set_cons_succ]
              refine wpAnyH_ready (rs := [11]) (by kernel_rfl) (by simp) ?_
              refine AllReadyH.cons rfl (fun K hK => ?_) AllReadyH.nil
              have y0 : w8.cell? ⟨E, 0, none⟩ = some (.int .i64 0) := HE8.out.cell 0
              have z0 : w8.frozen? ⟨E, 0, none⟩ = false := HE8.out.frozen _
              have y1 : w8.cell? ⟨E, 1, none⟩ = some (.int .i64 0) := HE8.out.cell 1
              have z1 : w8.frozen? ⟨E, 1, none⟩ = false := HE8.out.frozen _
              have y2 : w8.cell? ⟨E, 2, none⟩ = some (.int .i64 0) := HE8.out.cell 2
              have z2 : w8.frozen? ⟨E, 2, none⟩ = false := HE8.out.frozen _
              have y3 : w8.cell? ⟨E, 3, none⟩ = some (.int .i64 0) := HE8.out.cell 3
              have z3 : w8.frozen? ⟨E, 3, none⟩ = false := HE8.out.frozen _
              have y4 : w8.cell? ⟨E, 4, none⟩ = some (.bool false) := HE8.out.cell 4
              have z4 : w8.frozen? ⟨E, 4, none⟩ = false := HE8.out.frozen _
              go_simp
              have HE9 : Hid (CB (((((w8.setCell ⟨E, 0, none⟩ (.int .i64 c.sl)).setCell ⟨E, 1, none⟩ (.int .i64 c.ai)).setCell ⟨E, 2, none⟩ (.int .i64 c.fl)).setCell ⟨E, 3, none⟩ (.int .i64 (tk + 1))).setCell ⟨E, 4, none⟩ (.bool false)) E 36 [.int .i64 c.sl, .int .i64 c.ai, .int .i64 c.fl, .int .i64 (tk + 1), .bool false]) := (((((HE8.out.set 0 (.int .i64 c.sl)).set 1 (.int .i64 c.ai)).set 2 (.int .i64 c.fl)).set 3 (.int .i64 (tk + 1))).set 4 (.bool false))
              have hb9 : Hid (Below wc.heap.size wc (((((w8.setCell ⟨E, 0, none⟩ (.int .i64 c.sl)).setCell ⟨E, 1, none⟩ (.int .i64 c.ai)).setCell ⟨E, 2, none⟩ (.int .i64 c.fl)).setCell ⟨E, 3, none⟩ (.int .i64 (tk + 1))).setCell ⟨E, 4, none⟩ (.bool false))) := (((((hb8.out.setCell (p := ⟨E, 0, none⟩) hEw.out (.int .i64 c.sl)).setCell (p := ⟨E, 1, none⟩) hEw.out (.int .i64 c.ai)).setCell (p := ⟨E, 2, none⟩) hEw.out (.int .i64 c.fl)).setCell (p := ⟨E, 3, none⟩) hEw.out (.int .i64 (tk + 1))).setCell (p := ⟨E, 4, none⟩) hEw.out (.bool false))
              generalize hw9 : (((((w8.setCell ⟨E, 0, none⟩ (.int .i64 c.sl)).setCell ⟨E, 1, none⟩ (.int .i64 c.ai)).setCell ⟨E, 2, none⟩ (.int .i64 c.fl)).setCell ⟨E, 3, none⟩ (.int .i64 (tk + 1))).setCell ⟨E, 4, none⟩ (.bool false)) = w9 at *
              clear hw9 y0 z0 y1 z1 y2 z2 y3 z3 y4 z4
              refine hK.out _ _ ⟨cell_ext hb9.out (HEc.out.cell 0), cell_ext hb9.out (HEc.out.cell 1), cell_ext hb9.out HFc.out.2.1⟩ (fun hHeldZ => ?_)
              clear hK K
              try simp only [Act.put, List.setIfInBounds_toArray, List.set_cons_zero, List.set_cons_succ]
              refine take_dst (some 9) (i := 12) (v := ?vB1Aa12) rfl rfl (by kernel_rfl) (by kernel_rfl) (by kernel_rfl) (fun _ _ _ h => h) (Or.inl ⟨by rfl, fun wS hSw => ?hyB1Aa12⟩) (by assumption) ?restB1Aa12
              case hyB1Aa12 => (obtain ⟨s0, s1, s2⟩ := hSw; go_simp; first | done | with_reducible rfl)
              try simp only [Act.put, List.setIfInBounds_toArray, List.set_cons_zero, List.set_cons_succ]
              refine wpAnyH_done (by kernel_rfl) ?_ _
              refine NoPanic.normal ?_
              go_wp2_with fail
              go_meet
              exact ⟨E, rfl, rfl, hb9.out, HE9.out⟩
            · go_simp
              have HE6 : Hid (CB (wd.alloc (.cells #[.int .i64 0, .int .i64 0, .int .i64 0, .int .i64 0, .bool false] 36)) wd.heap.size 36 [.int .i64 0, .int .i64 0, .int .i64 0, .int .i64 0, .bool false]) := CB.new wd _ _
              have hba := Lib.hid (below_ext hbd.out (b_al (.cells #[.int .i64 0, .int .i64 0, .int .i64 0, .int .i64 0, .bool false] 36)))
              have hEw := Lib.hid hbd.out.size
              generalize hwa : wd.alloc (.cells #[.int .i64 0, .int .i64 0, .int .i64 0, .int .i64 0, .bool false] 36) = wa at *
              clear hwa
              clear hbd
              generalize wd.heap.size = E at *
              have HEl := Lib.hid HE6.out.lt
              refine hK.out _ _ ⟨cell_ext hba.out (HEc.out.cell 0), cell_ext hba.out (HEc.out.cell 1), cell_ext hba.out HFc.out.2.1⟩ (fun hHeldA => ?_)
              clear hK K
              try simp only [Act.put, List.setIfInBounds_toArray, List.set_cons_zero, List.set_cons_succ]
              refine wpAnyH_ready (rs := [6]) (by kernel_rfl) (by simp) ?_
              refine AllReadyH.cons rfl (fun K hK => ?_) AllReadyH.nil
              go_simp
              refine (holds_is (tk := (tk + 1)) (x := ⟨c.sl, c.ai, c.fl, tk + 1, false⟩) (b := true) (HOc.out.rd.ext hba.out) (by rw [Hx2.out]; rfl) (by rw [Hx2.out]; rfl)).mono ?_
              rintro e w8 ⟨rfl, hb7⟩
              have hb8 := Lib.hid (below_ext hba.out hb7)
              have HE8 := Lib.hid (HE6.out.ext hb7)
              clear hb7
              refine hK.out _ _ ⟨cell_ext hb8.out (HEc.out.cell 0), cell_ext hb8.out (HEc.out.cell 1), cell_ext hb8.out HFc.out.2.1⟩ (fun hHeldB => ?_)
              clear hK K
              try simp only [Act.put, List.setIfInBounds_toArray, List.set_cons_zero, List.set_cons_succ]
              refine take_dst (some 49) (i := 7) (v := ?vB1y7) rfl rfl (by kernel_rfl) (by kernel_rfl) (by kernel_rfl) (fun _ _ _ h => h) (Or.inl ⟨by rfl, fun wS hSw => ?hyB1y7⟩) (by assumption) ?restB1y7
              case hyB1y7 => (obtain ⟨s0, s1, s2⟩ := hSw; go_simp; first | done | with_reducible rfl)
              try simp only [Act.put, List.setIfInBounds_toArray, List.set_cons_zero, List.set_cons_succ]
              refine take_dst (some 57) (i := 8) (v := ?vB1y8) rfl rfl (by kernel_rfl) (by kernel_rfl) (by kernel_rfl) (fun _ _ _ h => h) (Or.inl ⟨by rfl, fun wS hSw => ?hyB1y8⟩) (by assumption) ?restB1y8
              case hyB1y8 => (obtain ⟨s0, s1, s2⟩ := hSw; go_simp; first | done | with_reducible rfl)
              try simp only [Act.put, List.setIfInBounds_toArray, List.set_cons_zero, List.set_cons_succ]
              refine take_dst (some 58) (i := 9) (v := ?vB1y9) rfl rfl (by kernel_rfl) (by kernel_rfl) (by kernel_rfl) (fun _ _ _ h => h) (Or.inl ⟨by rfl, fun wS hSw => ?hyB1y9⟩) (by assumption) ?restB1y9
              case hyB1y9 => (obtain ⟨s0, s1, s2⟩ := hSw; go_simp; first | done | with_reducible rfl)
              try simp only [Act.put, List.setIfInBounds_toArray, List.set_cons_zero, List.set_cons_succ]
              refine wpAnyH_ready (rs := [11]) (by kernel_rfl) (by simp) ?_
              refine AllReadyH.cons rfl (fun K hK => ?_) AllReadyH.nil
              have y0 : w8.cell? ⟨E, 0, none⟩ = some (.int .i64 0) := HE8.out.cell 0
              have z0 : w8.frozen? ⟨E, 0, none⟩ = false := HE8.out.frozen _
              have y1 : w8.cell? ⟨E, 1, none⟩ = some (.int .i64 0) := HE8.out.cell 1
              have z1 : w8.frozen? ⟨E, 1, none⟩ = false := HE8.out.frozen _
              have y2 : w8.cell? ⟨E, 2, none⟩ = some (.int .i64 0) := HE8.out.cell 2
              have z2 : w8.frozen? ⟨E, 2, none⟩ = false := HE8.out.frozen _
              have y3 : w8.cell? ⟨E, 3, none⟩ = some (.int .i64 0) := HE8.out.cell 3
              have z3 : w8.frozen? ⟨E, 3, none⟩ = false := HE8.out.frozen _
              have y4 : w8.cell? ⟨E, 4, none⟩ = some (.bool false) := HE8.out.cell 4
              have z4 : w8.frozen? ⟨E, 4, none⟩ = false := HE8.out.frozen _
              go_simp
              have HE9 : Hid (CB (((((w8.setCell ⟨E, 0, none⟩ (.int .i64 c.sl)).setCell ⟨E, 1, none⟩ (.int .i64 c.ai)).setCell ⟨E, 2, none⟩ (.int .i64 c.fl)).setCell ⟨E, 3, none⟩ (.int .i64 (tk + 1))).setCell ⟨E, 4, none⟩ (.bool false)) E 36 [.int .i64 c.sl, .int .i64 c.ai, .int .i64 c.fl, .int .i64 (tk + 1), .bool false]) := (((((HE8.out.set 0 (.int .i64 c.sl)).set 1 (.int .i64 c.ai)).set 2 (.int .i64 c.fl)).set 3 (.int .i64 (tk + 1))).set 4 (.bool false))
              have hb9 : Hid (Below wc.heap.size wc (((((w8.setCell ⟨E, 0, none⟩ (.int .i64 c.sl)).setCell ⟨E, 1, none⟩ (.int .i64 c.ai)).setCell ⟨E, 2, none⟩ (.int .i64 c.fl)).setCell ⟨E, 3, none⟩ (.int .i64 (tk + 1))).setCell ⟨E, 4, none⟩ (.bool false))) := (((((hb8.out.setCell (p := ⟨E, 0, none⟩) hEw.out (.int .i64 c.sl)).setCell (p := ⟨E, 1, none⟩) hEw.out (.int .i64 c.ai)).setCell (p := ⟨E, 2, none⟩) hEw.out (.int .i64 c.fl)).setCell (p := ⟨E, 3, none⟩) hEw.out (.int .i64 (tk + 1))).setCell (p := ⟨E, 4, none⟩) hEw.out (.bool false))
              generalize hw9 : (((((w8.setCell ⟨E, 0, none⟩ (.int .i64 c.sl)).setCell ⟨E, 1, none⟩ (.int .i64 c.ai)).setCell ⟨E, 2, none⟩ (.int .i64 c.fl)).setCell ⟨E, 3, none⟩ (.int .i64 (tk + 1))).setCell ⟨E, 4, none⟩ (.bool false)) = w9 at *
              clear hw9 y0 z0 y1 z1 y2 z2 y3 z3 y4 z4
              refine hK.out _ _ ⟨cell_ext hb9.out (HEc.out.cell 0), cell_ext hb9.out (HEc.out.cell 1), cell_ext hb9.out HFc.out.2.1⟩ (fun hHeldZ => ?_)
              clear hK K
              try simp only [Act.put, List.setIfInBounds_toArray, List.set_cons_zero, List.set_cons_succ]
              refine take_dst (some 9) (i := 12) (v := ?vB1Ba12) rfl rfl (by kernel_rfl) (by kernel_rfl) (by kernel_rfl) (fun _ _ _ h => h) (Or.inl ⟨by rfl, fun wS hSw => ?hyB1Ba12⟩) (by assumption) ?restB1Ba12
              case hyB1Ba12 => (obtain ⟨s0, s1, s2⟩ := hSw; go_simp; first | done | with_reducible rfl)
              try simp only [Act.put, List.setIfInBounds_toArray, List.set_cons_zero, List.set_cons_succ]
              refine wpAnyH_done (by kernel_rfl) ?_ _
              refine NoPanic.normal ?_
              go_wp2_with fail
              go_meet
              exact ⟨E, rfl, rfl, hb9.out, HE9.out⟩
          case rest =>
            obtain ⟨H, rfl, rfl, hbh, hch⟩ := hcut
            skip
            have HBh := Lib.hid hbh; have HCh := Lib.hid hch
            clear hbh hch
            skip
            have HEh := Lib.hid (HEc.out.ext HBh.out); have HOh := Lib.hid (HOc.out.ext HBh.out); have HXh := Lib.hid (HXc.out.ext HBh.out); have HBwh := Lib.hid (below_ext HBw.out HBh.out)
            have HFh : Hid (FiveC _ b (off + k * 5) c) := ⟨cell_ext HBh.out HFc.out.1, cell_ext HBh.out HFc.out.2.1, cell_ext HBh.out HFc.out.2.2.1, cell_ext HBh.out HFc.out.2.2.2.1, cell_ext HBh.out HFc.out.2.2.2.2⟩
            clear HEc HOc HXc HFc HBw HBh
            skip
            have hdr := Lib.hid ((Below.refl wc.heap.size wc).drew)
            have hrf := Lib.hid (Below.refl wc.heap.size wc)
            go_upto_region 17 with fail
            refine wp_region_noPanic ?_
            refine wp_region_held_drew (S := fun w' => w'.cell? ⟨E1, 0, none⟩ = some (.int .i64 (tk + 1)) ∧ w'.cell? ⟨E1, 1, none⟩ = some (.slice o2 l2.length c2) ∧ w'.cell? ⟨H, 0, none⟩ = some (.int .i64 c.sl) ∧ w'.cell? ⟨H, 1, none⟩ = some (.int .i64 c.ai) ∧ w'.cell? ⟨H, 2, none⟩ = some (.int .i64 c.fl) ∧ w'.cell? ⟨H, 3, none⟩ = some (.int .i64 (tk + 1)) ∧ w'.cell? ⟨H, 4, none⟩ = some (.bool false) ∧ w'.cell? ⟨b, off + k * 5, none⟩ = some (.int .i64 c.kd) ∧ w'.cell? ⟨b, off + k * 5 + 2, none⟩ = some (.int .i64 c.ai) ∧ w'.cell? ⟨b, off + k * 5 + 3, none⟩ = some (.int .i64 c.fl)) (by kernel_rfl) ⟨cell_ext hrf.out (HEh.out.cell 0), cell_ext hrf.out (HEh.out.cell 1), cell_ext hrf.out (HCh.out.cell 0), cell_ext hrf.out (HCh.out.cell 1), cell_ext hrf.out (HCh.out.cell 2), cell_ext hrf.out (HCh.out.cell 3), cell_ext hrf.out (HCh.out.cell 4), cell_ext hrf.out HFh.out.1, cell_ext hrf.out HFh.out.2.2.1, cell_ext hrf.out HFh.out.2.2.2.1⟩ (fun hHeld => ?_)
            generalize wc.drew = wd at *
            refine take_dst (some 59) (i := 0) (v := ?vD10) rfl rfl (by kernel_rfl) (by kernel_rfl) (by kernel_rfl) (fun _ _ _ h => h) (Or.inl ⟨by rfl, fun wS hSw => ?hyD10⟩) (by assumption) ?restD10
            case hyD10 => (obtain ⟨s0, s1, s2, s3, s4, s5, s6, s7, s8, s9⟩ := hSw; go_simp; first | done | with_reducible rfl)
            try simp only [Act.put, List.setIfInBounds_toArray, List.set_cons_zero, List.set_cons_succ]
            refine take_dst (some 60) (i := 1) (v := ?vD11) rfl rfl (by kernel_rfl) (by kernel_rfl) (by kernel_rfl) (fun _ _ _ h => h) (Or.inl ⟨by rfl, fun wS hSw => ?hyD11⟩) (by assumption) ?restD11
            case hyD11 => (obtain ⟨s0, s1, s2, s3, s4, s5, s6, s7, s8, s9⟩ := hSw; go_simp; first | done | with_reducible rfl)
            try simp only [Act.put, List.setIfInBounds_toArray, List.set_cons_zero, List.set_cons_succ]
            refine take_dst (some 61) (i := 2) (v := ?vD12) rfl rfl (by kernel_rfl) (by kernel_rfl) (by kernel_rfl) (fun _ _ _ h => h) (Or.inl ⟨by rfl, fun wS hSw => ?hyD12⟩) (by assumption) ?restD12
            case hyD12 => (obtain ⟨s0, s1, s2, s3, s4, s5, s6, s7, s8, s9⟩ := hSw; go_simp; first | done | with_reducible rfl)
            try simp only [Act.put, List.setIfInBounds_toArray, List.set_cons_zero, List.set_cons_succ]
            refine take_dst (some 62) (i := 3) (v := ?vD13) rfl rfl (by kernel_rfl) (by kernel_rfl) (by kernel_rfl) (fun _ _ _ h => h) (Or.inl ⟨by rfl, fun wS hSw => ?hyD13⟩) (by assumption) ?restD13
            case hyD13 => (obtain ⟨s0, s1, s2, s3, s4, s5, s6, s7, s8, s9⟩ := hSw; go_simp; first | done | with_reducible rfl)
            try simp only [Act.put, List.setIfInBounds_toArray, List.set_cons_zero, List.set_cons_succ]
            refine take_dst (some 63) (i := 4) (v := ?vD14) rfl rfl (by kernel_rfl) (by kernel_rfl) (by kernel_rfl) (fun _ _ _ h => h) (Or.inl ⟨by rfl, fun wS hSw => ?hyD14⟩) (by assumption) ?restD14
            case hyD14 => (obtain ⟨s0, s1, s2, s3, s4, s5, s6, s7, s8, s9⟩ := hSw; go_simp; first | done | with_reducible rfl)
            try simp only [Act.put, List.setIfInBounds_toArray, List.set_cons_zero, List.set_cons_succ]
            refine take_dst (some 64) (i := 5) (v := ?vD15) rfl rfl (by kernel_rfl) (by kernel_rfl) (by kernel_rfl) (fun _ _ _ h => h) (Or.inl ⟨by rfl, fun wS hSw => ?hyD15⟩) (by assumption) ?restD15
            case hyD15 => (obtain ⟨s0, s1, s2, s3, s4, s5, s6, s7, s8, s9⟩ := hSw; go_simp; first | done | with_reducible rfl)
            try simp only [Act.put, List.setIfInBounds_toArray, List.set_cons_zero, List.set_cons_succ]
            refine take_dst (some 65) (i := 6) (v := ?vD16) rfl rfl (by kernel_rfl) (by kernel_rfl) (by kernel_rfl) (fun _ _ _ h => h) (Or.inl ⟨by rfl, fun wS hSw => ?hyD16⟩) (by assumption) ?restD16
            case hyD16 => (obtain ⟨s0, s1, s2, s3, s4, s5, s6, s7, s8, s9⟩ := hSw; go_simp; first | done | with_reducible rfl)
            try simp only [Act.put, List.setIfInBounds_toArray, List.set_cons_zero, List.set_cons_succ]
            refine take_dst (some 66) (i := 7) (v := ?vD17) rfl rfl (by kernel_rfl) (by kernel_rfl) (by kernel_rfl) (fun _ _ _ h => h) (Or.inl ⟨by rfl, fun wS hSw => ?hyD17⟩) (by assumption) ?restD17
            case hyD17 => (obtain ⟨s0, s1, s2, s3, s4, s5, s6, s7, s8, s9⟩ := hSw; go_simp; first | done | with_reducible rfl)
            try simp only [Act.put, List.setIfInBounds_toArray, List.set_cons_zero, List.set_cons_succ]
            refine take_dst (some 67) (i := 8) (v := ?vD18) rfl rfl (by kernel_rfl) (by kernel_rfl) (by kernel_rfl) (fun _ _ _ h => h) (Or.inl ⟨by rfl, fun wS hSw => ?hyD18⟩) (by assumption) ?restD18
            case hyD18 => (obtain ⟨s0, s1, s2, s3, s4, s5, s6, s7, s8, s9⟩ := hSw; go_simp; first | done | with_reducible rfl)
            try simp only [Act.put, List.setIfInBounds_toArray, List.set_cons_zero, List.set_cons_succ]
            refine take_dst (some 68) (i := 9) (v := ?vD19) rfl rfl (by kernel_rfl) (by kernel_rfl) (by kernel_rfl) (fun _ _ _ h => h) (Or.inl ⟨by rfl, fun wS hSw => ?hyD19⟩) (by assumption) ?restD19
            case hyD19 => (obtain ⟨s0, s1, s2, s3, s4, s5, s6, s7, s8, s9⟩ := hSw; go_simp; first | done | with_reducible rfl)
            try simp only [Act.put, List.setIfInBounds_toArray, List.set_cons_zero, List.set_cons_succ]
            refine wpAnyH_ready (rs := [10]) (by kernel_rfl) (by simp) ?_
            refine AllReadyH.cons rfl (fun K hK => ?_) AllReadyH.nil
            go_simp
            refine (check_is (tk := (tk + 1)) (k := 0) (HOh.out.rd.ext hdr.out) Hl2.out (by rw [good_iff.2 Hg2.out]; rfl)).mono ?_
            rintro e w7 ⟨rfl, hb7⟩
            have hd7 := Lib.hid (below_ext hdr.out hb7)
            clear hb7
            refine hK.out _ _ ⟨cell_ext hd7.out (HEh.out.cell 0), cell_ext hd7.out (HEh.out.cell 1), cell_ext hd7.out (HCh.out.cell 0), cell_ext hd7.out (HCh.out.cell 1), cell_ext hd7.out (HCh.out.cell 2), cell_ext hd7.out (HCh.out.cell 3), cell_ext hd7.out (HCh.out.cell 4), cell_ext hd7.out HFh.out.1, cell_ext hd7.out HFh.out.2.2.1, cell_ext hd7.out HFh.out.2.2.2.1⟩ (fun hHeld2 => ?_)
            clear hK K
            try simp only [Act.put, List.setIfInBounds_toArray, List.set_cons_zero, List.set_cons_succ]
            refine take_dst (some 70) (i := 11) (v := ?vD111) rfl rfl (by kernel_rfl) (by kernel_rfl) (by kernel_rfl) (fun _ _ _ h => h) (Or.inl ⟨by rfl, fun wS hSw => ?hyD111⟩) (by assumption) ?restD111
            case hyD111 => (obtain ⟨s0, s1, s2, s3, s4, s5, s6, s7, s8, s9⟩ := hSw; go_simp; first | done | with_reducible rfl)
            try simp only [Act.put, List.setIfInBounds_toArray, List.set_cons_zero, List.set_cons_succ]
            refine take_dst (some 71) (i := 12) (v := ?vD112) rfl rfl (by kernel_rfl) (by kernel_rfl) (by kernel_rfl) (fun _ _ _ h => h) (Or.inl ⟨by rfl, fun wS hSw => ?hyD112⟩) (by assumption) ?restD112
            case hyD112 => (obtain ⟨s0, s1, s2, s3, s4, s5, s6, s7, s8, s9⟩ := hSw; go_simp; first | done | with_reducible rfl)
            try simp only [Act.put, List.setIfInBounds_toArray, List.set_cons_zero, List.set_cons_succ]
            refine take_dst (some 72) (i := 13) (v := ?vD113) rfl rfl (by kernel_rfl) (by kernel_rfl) (by kernel_rfl) (fun _ _ _ h => h) (Or.inl ⟨by rfl, fun wS hSw => ?hyD113⟩) (by assumption) ?restD113
            case hyD113 => (obtain ⟨s0, s1, s2, s3, s4, s5, s6, s7, s8, s9⟩ := hSw; go_simp; first | done | with_reducible rfl)
            try simp only [Act.put, List.setIfInBounds_toArray, List.set_cons_zero, List.set_cons_succ]
            refine take_dst (some 73) (i := 14) (v := ?vD114) rfl rfl (by kernel_rfl) (by kernel_rfl) (by kernel_rfl) (fun _ _ _ h => h) (Or.inl ⟨by rfl, fun wS hSw => ?hyD114⟩) (by assumption) ?restD114
            case hyD114 => (obtain ⟨s0, s1, s2, s3, s4, s5, s6, s7, s8, s9⟩ := hSw; go_simp; first | done | with_reducible rfl)
            try simp only [Act.put, List.setIfInBounds_toArray, List.set_cons_zero, List.set_cons_succ]
            refine take_dst (some 74) (i := 15) (v := ?vD115) rfl rfl (by kernel_rfl) (by kernel_rfl) (by kernel_rfl) (fun _ _ _ h => h) (Or.inl ⟨by rfl, fun wS hSw => ?hyD115⟩) (by assumption) ?restD115
            case hyD115 => (obtain ⟨s0, s1, s2, s3, s4, s5, s6, s7, s8, s9⟩ := hSw; go_simp; first | done | with_reducible rfl)
            try simp only [Act.put, List.setIfInBounds_toArray, List.set_cons_zero, List.set_cons_succ]
            refine take_dst (some 75) (i := 16) (v := ?vD116) rfl rfl (by kernel_rfl) (by kernel_rfl) (by kernel_rfl) (fun _ _ _ h => h) (Or.inl ⟨by rfl, fun wS hSw => ?hyD116⟩) (by assumption) ?restD116
            case hyD116 => (obtain ⟨s0, s1, s2, s3, s4, s5, s6, s7, s8, s9⟩ := hSw; go_simp; first | done | with_reducible rfl)
            try simp only [Act.put, List.setIfInBounds_toArray, List.set_cons_zero, List.set_cons_succ]
            refine take_dst (some 76) (i := 17) (v := ?vD117) rfl rfl (by kernel_rfl) (by kernel_rfl) (by kernel_rfl) (fun _ _ _ h => h) (Or.inl ⟨by rfl, fun wS hSw => ?hyD117⟩) (by assumption) ?restD117
            case hyD117 => (obtain ⟨s0, s1, s2, s3, s4, s5, s6, s7, s8, s9⟩ := hSw; go_simp; first | done | with_reducible rfl)
            try simp only [Act.put, List.setIfInBounds_toArray, List.set_cons_zero, List.set_cons_succ]
            refine take_dst (some 77) (i := 18) (v := ?vD118) rfl rfl (by kernel_rfl) (by kernel_rfl) (by kernel_rfl) (fun _ _ _ h => h) (Or.inl ⟨by rfl, fun wS hSw => ?hyD118⟩) (by assumption) ?restD118
            case hyD118 => (obtain ⟨s0, s1, s2, s3, s4, s5, s6, s7, s8, s9⟩ := hSw; go_simp; first | done | with_reducible rfl)
            try simp only [Act.put, List.setIfInBounds_toArray, List.set_cons_zero, List.set_cons_succ]
            refine take_dst (some 78) (i := 19) (v := ?vD119) rfl rfl (by kernel_rfl) (by kernel_rfl) (by kernel_rfl) (fun _ _ _ h => h) (Or.inl ⟨by rfl, fun wS hSw => ?hyD119⟩) (by assumption) ?restD119
            case hyD119 => (obtain ⟨s0, s1, s2, s3, s4, s5, s6, s7, s8, s9⟩ := hSw; go_simp; first | done | with_reducible rfl)
            try simp only [Act.put, List.setIfInBounds_toArray, List.set_cons_zero, List.set_cons_succ]
            refine take_dst (some 79) (i := 20) (v := ?vD120) rfl rfl (by kernel_rfl) (by kernel_rfl) (by kernel_rfl) (fun _ _ _ h => h) (Or.inl ⟨by rfl, fun wS hSw => ?hyD120⟩) (by assumption) ?restD120
            case hyD120 => (obtain ⟨s0, s1, s2, s3, s4, s5, s6, s7, s8, s9⟩ := hSw; go_simp; first | done | with_reducible rfl)
            try simp only [Act.put, List.setIfInBounds_toArray, List.set_cons_zero, List.set_cons_succ]
            refine take_dst (some 80) (i := 21) (v := ?vD121) rfl rfl (by kernel_rfl) (by kernel_rfl) (by kernel_rfl) (fun _ _ _ h => h) (Or.inl ⟨by rfl, fun wS hSw => ?hyD121⟩) (by assumption) ?restD121
            case hyD121 => (obtain ⟨s0, s1, s2, s3, s4, s5, s6, s7, s8, s9⟩ := hSw; go_simp; first | done | with_reducible rfl)
            try simp only [Act.put, List.setIfInBounds_toArray, List.set_cons_zero, List.set_cons_succ]
            refine take_dst (some 81) (i := 22) (v := ?vD122) rfl rfl (by kernel_rfl) (by kernel_rfl) (by kernel_rfl) (fun _ _ _ h => h) (Or.inl ⟨by rfl, fun wS hSw => ?hyD122⟩) (by assumption) ?restD122
            case hyD122 => (obtain ⟨s0, s1, s2, s3, s4, s5, s6, s7, s8, s9⟩ := hSw; go_simp; first | done | with_reducible rfl)
            try simp only [Act.put, List.setIfInBounds_toArray, List.set_cons_zero, List.set_cons_succ]
            refine take_dst (some 82) (i := 23) (v := ?vD123) rfl rfl (by kernel_rfl) (by kernel_rfl) (by kernel_rfl) (fun _ _ _ h => h) (Or.inl ⟨by rfl, fun wS hSw => ?hyD123⟩) (by assumption) ?restD123
            case hyD123 => (obtain ⟨s0, s1, s2, s3, s4, s5, s6, s7, s8, s9⟩ := hSw; go_simp; first | done | with_reducible rfl)
            try simp only [Act.put, List.setIfInBounds_toArray, List.set_cons_zero, List.set_cons_succ]
            refine take_dst (some 83) (i := 24) (v := ?vD124) rfl rfl (by kernel_rfl) (by kernel_rfl) (by kernel_rfl) (fun _ _ _ h => h) (Or.inl ⟨by rfl, fun wS hSw => ?hyD124⟩) (by assumption) ?restD124
            case hyD124 => (obtain ⟨s0, s1, s2, s3, s4, s5, s6, s7, s8, s9⟩ := hSw; go_simp; first | done | with_reducible rfl)
            try simp only [Act.put, List.setIfInBounds_toArray, List.set_cons_zero, List.set_cons_succ]
            refine take_dst (some 84) (i := 25) (v := ?vD125) rfl rfl (by kernel_rfl) (by kernel_rfl) (by kernel_rfl) (fun _ _ _ h => h) (Or.inl ⟨by rfl, fun wS hSw => ?hyD125⟩) (by assumption) ?restD125
            case hyD125 => (obtain ⟨s0, s1, s2, s3, s4, s5, s6, s7, s8, s9⟩ := hSw; go_simp; first | done | with_reducible rfl)
            try simp only [Act.put, List.setIfInBounds_toArray, List.set_cons_zero, List.set_cons_succ]
            refine take_dst (some 85) (i := 26) (v := ?vD126) rfl rfl (by kernel_rfl) (by kernel_rfl) (by kernel_rfl) (fun _ _ _ h => h) (Or.inl ⟨by rfl, fun wS hSw => ?hyD126⟩) (by assumption) ?restD126
            case hyD126 => (obtain ⟨s0, s1, s2, s3, s4, s5, s6, s7, s8, s9⟩ := hSw; go_simp; first | done | with_reducible rfl)
            try simp only [Act.put, List.setIfInBounds_toArray, List.set_cons_zero, List.set_cons_succ]
            refine take_dst (some 86) (i := 27) (v := ?vD127) rfl rfl (by kernel_rfl) (by kernel_rfl) (by kernel_rfl) (fun _ _ _ h => h) (Or.inl ⟨by rfl, fun wS hSw => ?hyD127⟩) (by assumption) ?restD127
            case hyD127 => (obtain ⟨s0, s1, s2, s3, s4, s5, s6, s7, s8, s9⟩ := hSw; go_simp; first | done | with_reducible rfl)
            try simp only [Act.put, List.setIfInBounds_toArray, List.set_cons_zero, List.set_cons_succ]
            refine take_dst (some 87) (i := 28) (v := ?vD128) rfl rfl (by kernel_rfl) (by kernel_rfl) (by kernel_rfl) (fun _ _ _ h => h) (Or.inl ⟨by rfl, fun wS hSw => ?hyD128⟩) (by assumption) ?restD128
            case hyD128 => (obtain ⟨s0, s1, s2, s3, s4, s5, s6, s7, s8, s9⟩ := hSw; go_simp; first | done | with_reducible rfl)
            try simp only [Act.put, List.setIfInBounds_toArray, List.set_cons_zero, List.set_cons_succ]
            refine take_dst (some 88) (i := 29) (v := ?vD129) rfl rfl (by kernel_rfl) (by kernel_rfl) (by kernel_rfl) (fun _ _ _ h => h) (Or.inl ⟨by rfl, fun wS hSw => ?hyD129⟩) (by assumption) ?restD129
            case hyD129 => (obtain ⟨s0, s1, s2, s3, s4, s5, s6, s7, s8, s9⟩ := hSw; go_simp; first | done | with_reducible rfl)
            try simp only [Act.put, List.setIfInBounds_toArray, List.set_cons_zero, List.set_cons_succ]
            refine take_dst (some 89) (i := 30) (v := ?vD130) rfl rfl (by kernel_rfl) (by kernel_rfl) (by kernel_rfl) (fun _ _ _ h => h) (Or.inl ⟨by rfl, fun wS hSw => ?hyD130⟩) (by assumption) ?restD130
            case hyD130 => (obtain ⟨s0, s1, s2, s3, s4, s5, s6, s7, s8, s9⟩ := hSw; go_simp; first | done | with_reducible rfl)
            try simp only [Act.put, List.setIfInBounds_toArray, List.set_cons_zero, List.set_cons_succ]
            refine take_dst (some 90) (i := 31) (v := ?vD131) rfl rfl (by kernel_rfl) (by kernel_rfl) (by kernel_rfl) (fun _ _ _ h => h) (Or.inl ⟨by rfl, fun wS hSw => ?hyD131⟩) (by assumption) ?restD131
            case hyD131 => (obtain ⟨s0, s1, s2, s3, s4, s5, s6, s7, s8, s9⟩ := hSw; go_simp; first | done | with_reducible rfl)
            try simp only [Act.put, List.setIfInBounds_toArray, List.set_cons_zero, List.set_cons_succ]
            refine take_dst (some 91) (i := 32) (v := ?vD132) rfl rfl (by kernel_rfl) (by kernel_rfl) (by kernel_rfl) (fun _ _ _ h => h) (Or.inl ⟨by rfl, fun wS hSw => ?hyD132⟩) (by assumption) ?restD132
            case hyD132 => (obtain ⟨s0, s1, s2, s3, s4, s5, s6, s7, s8, s9⟩ := hSw; go_simp; first | done | with_reducible rfl)
            try simp only [Act.put, List.setIfInBounds_toArray, List.set_cons_zero, List.set_cons_succ]
            refine take_dst (some 92) (i := 33) (v := ?vD133) rfl rfl (by kernel_rfl) (by kernel_rfl) (by kernel_rfl) (fun _ _ _ h => h) (Or.inl ⟨by rfl, fun wS hSw => ?hyD133⟩) (by assumption) ?restD133
            case hyD133 => (obtain ⟨s0, s1, s2, s3, s4, s5, s6, s7, s8, s9⟩ := hSw; go_simp; first | done | with_reducible rfl)
            try simp only [Act.put, List.setIfInBounds_toArray, List.set_cons_zero, List.set_cons_succ]
            refine take_dst (some 93) (i := 34) (v := ?vD134) rfl rfl (by kernel_rfl) (by kernel_rfl) (by kernel_rfl) (fun _ _ _ h => h) (Or.inl ⟨by rfl, fun wS hSw => ?hyD134⟩) (by assumption) ?restD134
            case hyD134 => (obtain ⟨s0, s1, s2, s3, s4, s5, s6, s7, s8, s9⟩ := hSw; go_simp; first | done | with_reducible rfl)
            try simp only [Act.put, List.setIfInBounds_toArray, List.set_cons_zero, List.set_cons_succ]
            refine take_dst (some 94) (i := 35) (v := ?vD135) rfl rfl (by kernel_rfl) (by kernel_rfl) (by kernel_rfl) (fun _ _ _ h => h) (Or.inl ⟨by rfl, fun wS hSw => ?hyD135⟩) (by assumption) ?restD135
            case hyD135 => (obtain ⟨s0, s1, s2, s3, s4, s5, s6, s7, s8, s9⟩ := hSw; go_simp; first | done | with_reducible rfl)
            try simp only [Act.put, List.setIfInBounds_toArray, List.set_cons_zero, List.set_cons_succ]
            refine take_dst (some 95) (i := 36) (v := ?vD136) rfl rfl (by kernel_rfl) (by kernel_rfl) (by kernel_rfl) (fun _ _ _ h => h) (Or.inl ⟨by rfl, fun wS hSw => ?hyD136⟩) (by assumption) ?restD136
            case hyD136 => (obtain ⟨s0, s1, s2, s3, s4, s5, s6, s7, s8, s9⟩ := hSw; go_simp; first | done | with_reducible rfl)
            try simp only [Act.put, List.setIfInBounds_toArray, List.set_cons_zero, List.set_cons_succ]
            refine take_dst (some 96) (i := 37) (v := ?vD137) rfl rfl (by kernel_rfl) (by kernel_rfl) (by kernel_rfl) (fun _ _ _ h => h) (Or.inl ⟨by rfl, fun wS hSw => ?hyD137⟩) (by assumption) ?restD137
            case hyD137 => (obtain ⟨s0, s1, s2, s3, s4, s5, s6, s7, s8, s9⟩ := hSw; go_simp; first | done | with_reducible rfl)
            try simp only [Act.put, List.setIfInBounds_toArray, List.set_cons_zero, List.set_cons_succ]
            refine take_dst (some 97) (i := 38) (v := ?vD138) rfl rfl (by kernel_rfl) (by kernel_rfl) (by kernel_rfl) (fun _ _ _ h => h) (Or.inl ⟨by rfl, fun wS hSw => ?hyD138⟩) (by assumption) ?restD138
            case hyD138 => (obtain ⟨s0, s1, s2, s3, s4, s5, s6, s7, s8, s9⟩ := hSw; go_simp; first | done | with_reducible rfl)
            try simp only [Act.put, List.setIfInBounds_toArray, List.set_cons_zero, List.set_cons_succ]
            refine take_dst (some 98) (i := 39) (v := ?vD139) rfl rfl (by kernel_rfl) (by kernel_rfl) (by kernel_rfl) (fun _ _ _ h => h) (Or.inl ⟨by rfl, fun wS hSw => ?hyD139⟩) (by assumption) ?restD139
            case hyD139 => (obtain ⟨s0, s1, s2, s3, s4, s5, s6, s7, s8, s9⟩ := hSw; go_simp; first | done | with_reducible rfl)
            try simp only [Act.put, List.setIfInBounds_toArray, List.set_cons_zero, List.set_cons_succ]
            refine take_dst (some 99) (i := 40) (v := ?vD140) rfl rfl (by kernel_rfl) (by kernel_rfl) (by kernel_rfl) (fun _ _ _ h => h) (Or.inl ⟨by rfl, fun wS hSw => ?hyD140⟩) (by assumption) ?restD140
            case hyD140 => (obtain ⟨s0, s1, s2, s3, s4, s5, s6, s7, s8, s9⟩ := hSw; go_simp; first | done | with_reducible rfl)
            try simp only [Act.put, List.setIfInBounds_toArray, List.set_cons_zero, List.set_cons_succ]
            refine take_dst (some 100) (i := 41) (v := ?vD141) rfl rfl (by kernel_rfl) (by kernel_rfl) (by kernel_rfl) (fun _ _ _ h => h) (Or.inl ⟨by rfl, fun wS hSw => ?hyD141⟩) (by assumption) ?restD141
            case hyD141 => (obtain ⟨s0, s1, s2, s3, s4, s5, s6, s7, s8, s9⟩ := hSw; go_simp; first | done | with_reducible rfl)
            try simp only [Act.put, List.setIfInBounds_toArray, List.set_cons_zero, List.set_cons_succ]
            refine take_dst (some 101) (i := 42) (v := ?vD142) rfl rfl (by kernel_rfl) (by kernel_rfl) (by kernel_rfl) (fun _ _ _ h => h) (Or.inl ⟨by rfl, fun wS hSw => ?hyD142⟩) (by assumption) ?restD142
            case hyD142 => (obtain ⟨s0, s1, s2, s3, s4, s5, s6, s7, s8, s9⟩ := hSw; go_simp; first | done | with_reducible rfl)
            try simp only [Act.put, List.setIfInBounds_toArray, List.set_cons_zero, List.set_cons_succ]
            refine take_dst (some 102) (i := 43) (v := ?vD143) rfl rfl (by kernel_rfl) (by kernel_rfl) (by kernel_rfl) (fun _ _ _ h => h) (Or.inl ⟨by rfl, fun wS hSw => ?hyD143⟩) (by assumption) ?restD143
            case hyD143 => (obtain ⟨s0, s1, s2, s3, s4, s5, s6, s7, s8, s9⟩ := hSw; go_simp; first | done | with_reducible rfl)
            try simp only [Act.put, List.setIfInBounds_toArray, List.set_cons_zero, List.set_cons_succ]
            refine take_dst (some 103) (i := 44) (v := ?vD144) rfl rfl (by kernel_rfl) (by kernel_rfl) (by kernel_rfl) (fun _ _ _ h => h) (Or.inl ⟨by rfl, fun wS hSw => ?hyD144⟩) (by assumption) ?restD144
            case hyD144 => (obtain ⟨s0, s1, s2, s3, s4, s5, s6, s7, s8, s9⟩ := hSw; go_simp; first | done | with_reducible rfl)
            try simp only [Act.put, List.setIfInBounds_toArray, List.set_cons_zero, List.set_cons_succ]
            refine take_dst (some 104) (i := 45) (v := ?vD145) rfl rfl (by kernel_rfl) (by kernel_rfl) (by kernel_rfl) (fun _ _ _ h => h) (Or.inl ⟨by rfl, fun wS hSw => ?hyD145⟩) (by assumption) ?restD145
            case hyD145 => (obtain ⟨s0, s1, s2, s3, s4, s5, s6, s7, s8, s9⟩ := hSw; go_simp; first | done | with_reducible rfl)
            try simp only [Act.put, List.setIfInBounds_toArray, List.set_cons_zero, List.set_cons_succ]
            refine take_dst (some 105) (i := 46) (v := ?vD146) rfl rfl (by kernel_rfl) (by kernel_rfl) (by kernel_rfl) (fun _ _ _ h => h) (Or.inl ⟨by rfl, fun wS hSw => ?hyD146⟩) (by assumption) ?restD146
            case hyD146 => (obtain ⟨s0, s1, s2, s3, s4, s5, s6, s7, s8, s9⟩ := hSw; go_simp; first | done | with_reducible rfl)
            try simp only [Act.put, List.setIfInBounds_toArray, List.set_cons_zero, List.set_cons_succ]
            refine take_dst (some 106) (i := 47) (v := ?vD147) rfl rfl (by kernel_rfl) (by kernel_rfl) (by kernel_rfl) (fun _ _ _ h => h) (Or.inl ⟨by rfl, fun wS hSw => ?hyD147⟩) (by assumption) ?restD147
            case hyD147 => (obtain ⟨s0, s1, s2, s3, s4, s5, s6, s7, s8, s9⟩ := hSw; go_simp; first | done | with_reducible rfl)
            try simp only [Act.put, List.setIfInBounds_toArray, List.set_cons_zero, List.set_cons_succ]
            refine take_dst (some 107) (i := 48) (v := ?vD148) rfl rfl (by kernel_rfl) (by kernel_rfl) (by kernel_rfl) (fun _ _ _ h => h) (Or.inl ⟨by rfl, fun wS hSw => ?hyD148⟩) (by assumption) ?restD148
            case hyD148 => (obtain ⟨s0, s1, s2, s3, s4, s5, s6, s7, s8, s9⟩ := hSw; go_simp; first | done | with_reducible rfl)
            try simp only [Act.put, List.setIfInBounds_toArray, List.set_cons_zero, List.set_cons_succ]
            refine take_dst (some 108) (i := 49) (v := ?vD149) rfl rfl (by kernel_rfl) (by kernel_rfl) (by kernel_rfl) (fun _ _ _ h => h) (Or.inl ⟨by rfl, fun wS hSw => ?hyD149⟩) (by assumption) ?restD149
            case hyD149 => (obtain ⟨s0, s1, s2, s3, s4, s5, s6, s7, s8, s9⟩ := hSw; go_simp; first | done | with_reducible rfl)
            try simp only [Act.put, List.setIfInBounds_toArray, List.set_cons_zero, List.set_cons_succ]
            refine take_dst (some 109) (i := 50) (v := ?vD150) rfl rfl (by kernel_rfl) (by kernel_rfl) (by kernel_rfl) (fun _ _ _ h => h) (Or.inl ⟨by rfl, fun wS hSw => ?hyD150⟩) (by assumption) ?restD150
            case hyD150 => (obtain ⟨s0, s1, s2, s3, s4, s5, s6, s7, s8, s9⟩ := hSw; go_simp; first | done | with_reducible rfl)
            try simp only [Act.put, List.setIfInBounds_toArray, List.set_cons_zero, List.set_cons_succ]
            refine take_dst (some 110) (i := 51) (v := ?vD151) rfl rfl (by kernel_rfl) (by kernel_rfl) (by kernel_rfl) (fun _ _ _ h => h) (Or.inl ⟨by rfl, fun wS hSw => ?hyD151⟩) (by assumption) ?restD151
            case hyD151 => (obtain ⟨s0, s1, s2, s3, s4, s5, s6, s7, s8, s9⟩ := hSw; go_simp; first | done | with_reducible rfl)
            try simp only [Act.put, List.setIfInBounds_toArray, List.set_cons_zero, List.set_cons_succ]
            refine take_dst (some 111) (i := 52) (v := ?vD152) rfl rfl (by kernel_rfl) (by kernel_rfl) (by kernel_rfl) (fun _ _ _ h => h) (Or.inl ⟨by rfl, fun wS hSw => ?hyD152⟩) (by assumption) ?restD152
            case hyD152 => (obtain ⟨s0, s1, s2, s3, s4, s5, s6, s7, s8, s9⟩ := hSw; go_simp; first | done | with_reducible rfl)
            try simp only [Act.put, List.setIfInBounds_toArray, List.set_cons_zero, List.set_cons_succ]
            refine take_dst (some 112) (i := 53) (v := ?vD153) rfl rfl (by kernel_rfl) (by kernel_rfl) (by kernel_rfl) (fun _ _ _ h => h) (Or.inl ⟨by rfl, fun wS hSw => ?hyD153⟩) (by assumption) ?restD153
            case hyD153 => (obtain ⟨s0, s1, s2, s3, s4, s5, s6, s7, s8, s9⟩ := hSw; go_simp; first | done | with_reducible rfl)
            try simp only [Act.put, List.setIfInBounds_toArray, List.set_cons_zero, List.set_cons_succ]
            refine take_dst (some 113) (i := 54) (v := ?vD154) rfl rfl (by kernel_rfl) (by kernel_rfl) (by kernel_rfl) (fun _ _ _ h => h) (Or.inl ⟨by rfl, fun wS hSw => ?hyD154⟩) (by assumption) ?restD154
            case hyD154 => (obtain ⟨s0, s1, s2, s3, s4, s5, s6, s7, s8, s9⟩ := hSw; go_simp; first | done | with_reducible rfl)
            try simp only [Act.put, List.setIfInBounds_toArray, List.set_cons_zero, List.set_cons_succ]
            refine take_dst (some 114) (i := 55) (v := ?vD155) rfl rfl (by kernel_rfl) (by kernel_rfl) (by kernel_rfl) (fun _ _ _ h => h) (Or.inl ⟨by rfl, fun wS hSw => ?hyD155⟩) (by assumption) ?restD155
            case hyD155 => (obtain ⟨s0, s1, s2, s3, s4, s5, s6, s7, s8, s9⟩ := hSw; go_simp; first | done | with_reducible rfl)
            try simp only [Act.put, List.setIfInBounds_toArray, List.set_cons_zero, List.set_cons_succ]
            refine take_dst (some 115) (i := 56) (v := ?vD156) rfl rfl (by kernel_rfl) (by kernel_rfl) (by kernel_rfl) (fun _ _ _ h => h) (Or.inl ⟨by rfl, fun wS hSw => ?hyD156⟩) (by assumption) ?restD156
            case hyD156 => (obtain ⟨s0, s1, s2, s3, s4, s5, s6, s7, s8, s9⟩ := hSw; go_simp; first | done | with_reducible rfl)
            try simp only [Act.put, List.setIfInBounds_toArray, List.set_cons_zero, List.set_cons_succ]
            refine take_dst (some 116) (i := 57) (v := ?vD157) rfl rfl (by kernel_rfl) (by kernel_rfl) (by kernel_rfl) (fun _ _ _ h => h) (Or.inl ⟨by rfl, fun wS hSw => ?hyD157⟩) (by assumption) ?restD157
            case hyD157 => (obtain ⟨s0, s1, s2, s3, s4, s5, s6, s7, s8, s9⟩ := hSw; go_simp; first | done | with_reducible rfl)
            try simp only [Act.put, List.setIfInBounds_toArray, List.set_cons_zero, List.set_cons_succ]
            refine take_dst (some 117) (i := 58) (v := ?vD158) rfl rfl (by kernel_rfl) (by kernel_rfl) (by kernel_rfl) (fun _ _ _ h => h) (Or.inl ⟨by rfl, fun wS hSw => ?hyD158⟩) (by assumption) ?restD158
            case hyD158 => (obtain ⟨s0, s1, s2, s3, s4, s5, s6, s7, s8, s9⟩ := hSw; go_simp; first | done | with_reducible rfl)
            try simp only [Act.put, List.setIfInBounds_toArray, List.set_cons_zero, List.set_cons_succ]
            refine take_dst (some 118) (i := 59) (v := undef) rfl rfl (by kernel_rfl) (by kernel_rfl) (by kernel_rfl) (fun _ _ _ h => h) (Or.inr ⟨by rfl, rfl⟩) (by assumption) ?restD159
            try simp only [Act.put, List.setIfInBounds_toArray, List.set_cons_zero, List.set_cons_succ]
            refine take_dst (some 119) (i := 60) (v := undef) rfl rfl (by kernel_rfl) (by kernel_rfl) (by kernel_rfl) (fun _ _ _ h => h) (Or.inr ⟨by rfl, rfl⟩) (by assumption) ?restD160
            try simp only [Act.put, List.setIfInBounds_toArray, List.set_cons_zero, List.set_cons_succ]
            refine take_dst (some 120) (i := 61) (v := undef) rfl rfl (by kernel_rfl) (by kernel_rfl) (by kernel_rfl) (fun _ _ _ h => h) (Or.inr ⟨by rfl, rfl⟩) (by assumption) ?restD161
            try simp only [Act.put, List.setIfInBounds_toArray, List.set_cons_zero, List.set_cons_succ]
            refine take_dst (some 121) (i := 62) (v := ?vD162) rfl rfl (by kernel_rfl) (by kernel_rfl) (by kernel_rfl) (fun _ _ _ h => h) (Or.inl ⟨by rfl, fun wS hSw => ?hyD162⟩) (by assumption) ?restD162
            case hyD162 => (obtain ⟨s0, s1, s2, s3, s4, s5, s6, s7, s8, s9⟩ := hSw; go_simp; first | done | with_reducible rfl)
            try simp only [Act.put, List.setIfInBounds_toArray, List.set_cons_zero, List.set_cons_succ]
            refine take_dst (some 122) (i := 63) (v := ?vD163) rfl rfl (by kernel_rfl) (by kernel_rfl) (by kernel_rfl) (fun _ _ _ h => h) (Or.inl ⟨by rfl, fun wS hSw => ?hyD163⟩) (by assumption) ?restD163
            case hyD163 => (obtain ⟨s0, s1, s2, s3, s4, s5, s6, s7, s8, s9⟩ := hSw; go_simp; first | done | with_reducible rfl)
            try simp only [Act.put, List.setIfInBounds_toArray, List.set_cons_zero, List.set_cons_succ]
            refine wpAnyH_done (by kernel_rfl) ?_ _
            refine NoPanic.normal ?_
            have HE7 := Lib.hid (HEh.out.ext hd7.out); have HX7 := Lib.hid (HXh.out.ext hd7.out); have HO7 := Lib.hid (HOh.out.ext hd7.out); have HB7 := Lib.hid (below_ext HBwh.out hd7.out)
            have g0 : w7.cell? ⟨E1, 0, none⟩ = some (.int .i64 (tk + 1)) := HE7.out.cell 0
            have g1 : w7.cell? ⟨E1, 1, none⟩ = some (.slice o2 l2.length c2) := HE7.out.cell 1
            have x0 : w7.cell? ⟨X, 0, none⟩ = some (.int .i64 tk) := HX7.out.cell 0
            have x1 : w7.cell? ⟨X, 1, none⟩ = some (.slice ov l.length cv) := HX7.out.cell 1
            have z0 : w7.frozen? ⟨X, 0, none⟩ = false := HX7.out.frozen _
            have z1 : w7.frozen? ⟨X, 1, none⟩ = false := HX7.out.frozen _
            have hne := Lib.hid (own_far HO7.out HXl.out)
            have HO8 := Lib.hid ((HO7.out.far2 (i := 0) hne.out (.int .i64 (tk + 1))).far2 (i := 1) hne.out (.slice o2 l2.length c2))
            have HX8 := Lib.hid ((HX7.out.set 0 (.int .i64 (tk + 1))).set 1 (.slice o2 l2.length c2))
            have HB8 := Lib.hid ((HB7.out.setCell (p := ⟨X, 0, none⟩) hX.out (.int .i64 (tk + 1))).setCell (p := ⟨X, 1, none⟩) hX.out (.slice o2 l2.length c2))
            clear HEh HOh HXh HFh HBwh HCh hd7 hdr
            go_wp2_with fail
            go_roundw
            case rel => exact ⟨⟨k + 1, _, by omega, by go_num, HB8.out, hX.out, by rw [hR.out, hst.out]; exact HX8.out, by rw [hR.out, hst.out]; exact HO8.out.rd⟩⟩
            case measure => simp [intOf]; omega
end Go.Proofs.Ytlocilbcmcfmaaa
