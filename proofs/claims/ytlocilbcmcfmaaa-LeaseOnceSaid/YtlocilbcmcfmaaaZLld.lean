/- LeaseOnce: the walk (printed by gen35o.py). -/
import Derived.Test.YtlocilbcmcfmaaaK14
namespace Go.Proofs.Ytlocilbcmcfmaaa
open Go.RowKit
structure OnRel (cs : List Cm) (w : World) (i : Value) (wr : World) : Prop where
  h : ∃ k : Nat, k ≤ cs.length ∧ i = .int .i64 k ∧ Below w.heap.size w wr
structure OnIn (cs : List Cm) (w : World) (i : Value) (wr : World) : Prop where
  h : ∃ k n : Nat, k ≤ cs.length ∧ i = .int .i64 k ∧ wr = w.drewN n
def CutHZ (z : Le) (wr : World) (v8 v9 : Value) (wx : World) : Prop := CutH z true wr v8 v9 wx
set_option maxRecDepth 100000 in
set_option maxHeartbeats 8000000 in
theorem once35_walk (cs : List Cm) (v0 : Value) (w : World) (hl : LsAt cmK w.heap.size w cs v0) (hc : ∀ x ∈ cs, CmW x) :
    Calls Try.prog 3 #[v0] w fun e w' => e = .returned (.bool true) ∧ Below w.heap.size w w' := by
  obtain ⟨oc, cc, rfl, hlm⟩ := hl.shape
  have HL := Lib.hid hl; have HW := Lib.hid hc
  have bl : (cs.length : Int) ≤ 9223372036854775807 := by omega
  clear hl hc hlm
  go_enter Try.func3, Try.ntmps3
  go_wp2_with fail
  refine (sane35_any _).mono ?_
  rintro e w1 ⟨rfl, hb1⟩
  have HB1 := Lib.hid hb1
  clear hb1
  by_cases h40 : cs.length ≤ 40
  case neg =>
    have t40 : decide (40 < (cs.length : Int)) = true := by simp; omega
    clear h40
    go_wp2
    go_ret
    exact ⟨rfl, HB1.out⟩
  case pos =>
  have t40 : decide (40 < (cs.length : Int)) = false := by simp; omega
  have H40 := Lib.hid h40
  clear h40
  obtain ⟨st, hst⟩ : ∃ st, runS cs = st := ⟨_, rfl⟩
  have Hst := Lib.hid hst
  have hgood : Good st.1 st.2 := by rw [← hst]; exact run_good cs (0, []) good_nil
  have hsl : st.2.length ≤ 40 := by
    have h := runF_len cs (0, [])
    have := H40.out
    rw [← hst]; show (runF (0, []) cs).2.length ≤ 40
    simp only [List.length_nil] at h; omega
  obtain ⟨tk, l⟩ := st
  have Hg := Lib.hid hgood; have Hsl := Lib.hid hsl
  have hel := errsF_len (0, []) cs
  obtain ⟨es, hes⟩ : ∃ es, errsS cs = es := ⟨_, rfl⟩
  have hel2 : es.length = cs.length := by rw [← hes]; exact hel
  have Hes := Lib.hid hes; have Hel := Lib.hid hel2
  have hrun := Lib.hid (run_is (w := w1) l.length cs.length (HL.out.ext HB1.out) (by have := H40.out; omega) HW.out hst hes rfl hel2)
  clear hst hgood hsl hel hel2 hes
  go_upto_region 6 with (go_at_call 8; refine hrun.out.mono ?_; rintro e w2 ⟨ox, cx, oe, ce, rfl, hlx, hex, hb2⟩)
  have HB3 := Lib.hid (below_ext (below_ext HB1.out hb2) (b_al (.cells #[.int .i64 tk, .slice ox l.length cx] 26)))
  have HX3 := Lib.hid (hlx.ext (b_al (.cells #[.int .i64 tk, .slice ox l.length cx] 26)))
  have HE3 := Lib.hid (hex.ext (b_al (.cells #[.int .i64 tk, .slice ox l.length cx] 26)))
  have HBX3 : Hid (CB (w2.alloc (.cells #[.int .i64 tk, .slice ox l.length cx] 26)) w2.heap.size 26 [.int .i64 tk, .slice ox l.length cx]) := CB.new w2 _ _
  clear hb2 hlx hex t40 HB1 hrun
  generalize w2.alloc (.cells #[.int .i64 tk, .slice ox l.length cx] 26) = w3 at *
  generalize w2.heap.size = X at *
  have x0 : w3.cell? ⟨X, 0, none⟩ = some (.int .i64 tk) := HBX3.out.cell 0
  have x1 : w3.cell? ⟨X, 1, none⟩ = some (.slice ox l.length cx) := HBX3.out.cell 1
  have hchk := Lib.hid (check_is (tk := tk) (k := 0) HX3.out (by have := Hsl.out; omega) (by rw [good_iff.2 Hg.out]; rfl))
  go_wp2_with (go_at_call 9; refine hchk.out.mono ?_; rintro e w4 ⟨rfl, hb4⟩)
  have HB4 := Lib.hid (below_ext HB3.out hb4); have HX4 := Lib.hid (HX3.out.ext hb4); have HE4 := Lib.hid (HE3.out.ext hb4); have HBX4 := Lib.hid (HBX3.out.ext hb4)
  clear hb4 x0 x1 HB3 HX3 HE3 HBX3 hchk
  have bl4 : (cs.length : Int) ≤ 40 := by have := H40.out; omega
  go_loopw [5] (fun i wr => OnRel cs w4 i wr) (fun i _ => cs.length - (intOf i).toNat)
  case atStart => exact ⟨⟨0, by omega, rfl, Below.refl _ _⟩⟩
  case round =>
    obtain ⟨i, hi, rfl, hb⟩ := hrel.h
    have HB := Lib.hid hb
    clear hb
    by_cases hlt : i < cs.length
    case neg =>
      obtain rfl : i = cs.length := by omega
      have tj : decide ((cs.length : Int) < (cs.length : Int)) = false := by simp
      go_wp2_with fail
      go_ret
      exact ⟨rfl, below_ext HB4.out HB.out⟩
    case pos =>
    have tj : decide ((i : Int) < (cs.length : Int)) = true := by simp; omega
    have tj' : decide (i < cs.length) = true := by simp; omega
    have kb : (i : Int) < (cs.length : Int) := by omega
    obtain ⟨c, hc⟩ : ∃ c, cs[i]? = some c := ⟨_, List.getElem?_eq_getElem hlt⟩
    have hex := errsF_get cs (0, []) i c hc
    rw [show errsF (0, []) cs = es from Hes.out] at hex
    obtain ⟨e0, he0⟩ : ∃ e, errS (runF (0, []) (cs.take i)) c = e := ⟨_, rfl⟩
    rw [he0] at hex
    obtain ⟨b, off, rfl, _, hat⟩ := (HL.out.ext (below_ext HB4.out HB.out)).at hlt
    obtain ⟨g, o2, rfl, _, hat2⟩ := (Hel.out ▸ HE4.out.ext HB.out).at (k := i) (by rw [Hel.out]; exact hlt)
    have HF : Hid (FiveC wr b (off + i * 5) c) := fiveC_of (hat i c hc)
    have HG : Hid (wr.cell? ⟨g, o2 + i, none⟩ = some (.int .i64 e0)) := by
      have := er_at (hat2 i e0 hex)
      change wr.cell? ⟨g, o2 + i * 1, none⟩ = _ at this
      rw [Nat.mul_one] at this; exact this
    have HAT := Lib.hid hat; have HAT2 := Lib.hid hat2
    have Hc := Lib.hid hc; have He0 := Lib.hid he0; have Hex := Lib.hid hex
    clear hat hat2 hc he0 hex
    have f0 : wr.cell? ⟨b, off + i * 5, none⟩ = some (.int .i64 c.kd) := HF.out.1
    have f1 : wr.cell? ⟨b, off + i * 5 + 1, none⟩ = some (.int .i64 c.sl) := HF.out.2.1
    have f4 : wr.cell? ⟨b, off + i * 5 + 4, none⟩ = some (.int .i64 c.tk) := HF.out.2.2.2.2
    have g0 : wr.cell? ⟨g, o2 + i, none⟩ = some (.int .i64 e0) := HG.out
    obtain ⟨q0, hq0⟩ : ∃ q, (c.kd != 3) = q := ⟨_, rfl⟩
    obtain ⟨q1, hq1⟩ : ∃ q, (e0 != 0) = q := ⟨_, rfl⟩
    have Q0 := Lib.hid hq0; have Q1 := Lib.hid hq1
    cases q0
    case true =>
      clear f1 f4 g0
      go_wp2_with fail
      go_roundw
      case rel => exact ⟨⟨i + 1, by omega, by go_num, HB.out⟩⟩
      case measure => simp [intOf]; omega
    case false =>
    cases q1
    case true =>
      clear f1 f4
      go_wp2_with fail
      go_roundw
      case rel => exact ⟨⟨i + 1, by omega, by go_num, HB.out⟩⟩
      case measure => simp [intOf]; omega
    case false =>
    have hk3 : c.kd = 3 := by simpa using Q0.out
    have hez : errS (runS (cs.take i)) c = 0 := by have := Q1.out; rw [← He0.out] at this; simpa using this
    have Hk3 := Lib.hid hk3; have Hez := Lib.hid hez
    have Hu := Lib.hid (used_is Hc.out hk3 hez)
    have hgr : Hid ((grN cs es c.sl i).2 = c.tk) := by show _ = _; have := Hu.out.g; rw [Hes.out] at this; rw [this]
    have hone : 1 ≤ c.tk := Hu.out.one
    clear hk3 hez
    have hgc := Lib.hid (greatest_any cs es (.slice (some ⟨b, off, none⟩) cs.length cc) (.slice (some ⟨g, o2, none⟩) cs.length ce) i c.sl wr (HL.out.ext (below_ext HB4.out HB.out)) (HE4.out.ext HB.out) (by omega) (by rw [Hel.out]; omega) (by omega))
    go_upto_region 15 with (go_at_call 10; refine hgc.out.mono ?_; rw [hgr.out]; rintro e w' ⟨rfl, rfl⟩)
    clear f0 f1 f4 g0 hq0 hq1 hgc hone
    obtain ⟨wo, hwo⟩ : ∃ wo : World, wo = wr := ⟨_, rfl⟩
    subst hwo
    go_wp2_with fail
    go_loopw [7] (fun j wr => OnIn cs wo j wr) (fun j _ => cs.length - (intOf j).toNat)
    case atStart => exact ⟨⟨0, 0, by omega, rfl, rfl⟩⟩
    case round =>
      obtain ⟨k, n, hk, rfl, rfl⟩ := hrel.h
      clear hrel
      have F0 : (wo.drewN n).cell? ⟨b, off + i * 5 + 1, none⟩ = some (.int .i64 c.sl) := HF.out.2.1
      by_cases hkl : k < cs.length
      case pos =>
        have tkk : decide ((k : Int) < (cs.length : Int)) = true := by simp; omega
        have tkk' : decide (k < cs.length) = true := by simp; omega
        have kk : (k : Int) < (cs.length : Int) := by omega
        obtain ⟨d, hd⟩ : ∃ d, cs[k]? = some d := ⟨_, List.getElem?_eq_getElem hkl⟩
        have hdx := errsF_get cs (0, []) k d hd
        rw [show errsF (0, []) cs = es from Hes.out] at hdx
        obtain ⟨f, hf⟩ : ∃ e, errS (runF (0, []) (cs.take k)) d = e := ⟨_, rfl⟩
        rw [hf] at hdx
        have D1 : (wo.drewN n).cell? ⟨b, off + k * 5 + 1, none⟩ = some (.int .i64 d.sl) := (fiveC_of (HAT.out k d hd)).2.1
        have D0 : (wo.drewN n).cell? ⟨b, off + k * 5, none⟩ = some (.int .i64 d.kd) := (fiveC_of (HAT.out k d hd)).1
        have G1 : (wo.drewN n).cell? ⟨g, o2 + k, none⟩ = some (.int .i64 f) := by
          have := er_at (HAT2.out k f hdx)
          change wo.cell? ⟨g, o2 + k * 1, none⟩ = _ at this
          rw [Nat.mul_one] at this; exact this
        have hno : Hid (k ≠ i → d.sl = c.sl → f = 0 → d.kd ≠ 3 ∧ ¬ i < k) := by
          show _ → _
          intro hki hsl hf0
          refine ⟨fun h3 => ?_, fun hik => ?_⟩
          · by_cases hik : i < k
            · exact used_no Hc.out Hk3.out Hez.out hik hd hsl (hf.trans hf0)
            · exact used_no hd h3 (hf.trans hf0) (show k < i by omega) Hc.out hsl.symm Hez.out
          · exact used_no Hc.out Hk3.out Hez.out hik hd hsl (hf.trans hf0)
        clear hd hdx hf
        obtain ⟨p0, hp0⟩ : ∃ q, ((k : Int) != (i : Int)) = q := ⟨_, rfl⟩
        obtain ⟨p1, hp1⟩ : ∃ q, (d.sl == c.sl) = q := ⟨_, rfl⟩
        obtain ⟨p2, hp2⟩ : ∃ q, (f == 0) = q := ⟨_, rfl⟩
        have P0 := Lib.hid hp0; have P1 := Lib.hid hp1; have P2 := Lib.hid hp2
        generalize hwn : wo.drewN n = w5 at *
        have Hwn := Lib.hid hwn
        clear hwn
        cases p0
        case false =>
          clear hp1 hp2
          go_wp2_with fail
          go_quiet (fail)
          go_wp2
          go_roundw
          case rel => exact ⟨⟨k + 1, n + nq, by omega, by go_num, by rw [← Hwn.out, World.drewN_drewN]⟩⟩
          case measure => simp [intOf]; omega
        case true =>
        cases p1
        case false =>
          clear hp2
          go_wp2_with fail
          go_quiet (fail)
          go_wp2
          go_roundw
          case rel => exact ⟨⟨k + 1, n + nq, by omega, by go_num, by rw [← Hwn.out, World.drewN_drewN]⟩⟩
          case measure => simp [intOf]; omega
        case true =>
        cases p2
        case false =>
          go_wp2_with fail
          go_quiet (fail)
          go_wp2
          go_roundw
          case rel => exact ⟨⟨k + 1, n + nq, by omega, by go_num, by rw [← Hwn.out, World.drewN_drewN]⟩⟩
          case measure => simp [intOf]; omega
        case true =>
          obtain ⟨h3, h4⟩ := hno.out (by have := P0.out; simp only [bne_iff_ne] at this; omega) (by simpa using P1.out) (by simpa using P2.out)
          have t3 : (d.kd == 3) = false := by rw [beq_eq_false_iff_ne]; exact h3
          have t4 : decide ((i : Int) < (k : Int)) = false := by simp; omega
          have t4' : decide (i < k) = false := by simp; omega
          clear h3 h4
          go_wp2_with fail
          go_quiet (fail)
          go_wp2
          go_roundw
          case rel => exact ⟨⟨k + 1, n + nq, by omega, by go_num, by rw [← Hwn.out, World.drewN_drewN]⟩⟩
          case measure => simp [intOf]; omega
      case neg =>
        obtain rfl : k = cs.length := by omega
        have tkk : decide ((cs.length : Int) < (cs.length : Int)) = false := by simp
        obtain ⟨z, hz1, hz2, hz3, hz4⟩ := Hu.out.fin cs.length hlt
        rw [List.take_of_length_le (Nat.le_refl _), Hst.out] at hz1
        obtain ⟨zs, za, zf, zt, zu⟩ := z
        simp only at hz2 hz3 hz4
        subst hz2 hz3 hz4
        have Hz := Lib.hid hz1
        clear hz1 F0
        have HBn := Lib.hid (below_drewN'' HB.out n)
        have HFn : Hid (FiveC (wo.drewN n) b (off + i * 5) c) := HF.out
        clear HF HG HB
        go_upto_region 20 with fail
        generalize wo.drewN n = wn at *
        have HXn := Lib.hid (HBX4.out.ext HBn.out)
        have HLn := Lib.hid (HX4.out.ext HBn.out)
        go_cut [8, 9] (fun v8 v9 wx => CutH ⟨zs, za, c.fl, c.tk, true⟩ true wn v8 v9 wx)
        case first =>
          refine wp_region_noPanic ?_
          have hbw := Lib.hid (Below.refl wn.heap.size wn)
          refine wp_region_held_drew (S := fun w' => w'.cell? ⟨X, 0, none⟩ = some (.int .i64 tk) ∧ w'.cell? ⟨X, 1, none⟩ = some (.slice ox l.length cx) ∧ w'.cell? ⟨b, off + i * 5 + 1, none⟩ = some (.int .i64 c.sl)) (by kernel_rfl) ⟨cell_ext hbw.out (HXn.out.cell 0), cell_ext hbw.out (HXn.out.cell 1), cell_ext hbw.out HFn.out.2.1⟩ (fun hHeld => ?_)
          have hbd := Lib.hid hbw.out.drew
          generalize wn.drew = wd at *
          refine take_dst (some 112) (i := 0) (v := ?vBp0) rfl rfl (by kernel_rfl) (by kernel_rfl) (by kernel_rfl) (fun _ _ _ h => h) (Or.inl ⟨by rfl, fun wS hSw => ?hyBp0⟩) (by assumption) ?restBp0
          case hyBp0 => (obtain ⟨s0, s1, s2⟩ := hSw; go_simp; first | done | with_reducible rfl)
          try simp only [Act.put, List.setIfInBounds_toArray, List.set_cons_zero, List.set_cons_succ]
          refine take_dst (some 113) (i := 1) (v := ?vBp1) rfl rfl (by kernel_rfl) (by kernel_rfl) (by kernel_rfl) (fun _ _ _ h => h) (Or.inl ⟨by rfl, fun wS hSw => ?hyBp1⟩) (by assumption) ?restBp1
          case hyBp1 => (obtain ⟨s0, s1, s2⟩ := hSw; go_simp; first | done | with_reducible rfl)
          try simp only [Act.put, List.setIfInBounds_toArray, List.set_cons_zero, List.set_cons_succ]
          refine take_dst (some 114) (i := 2) (v := ?vBp2) rfl rfl (by kernel_rfl) (by kernel_rfl) (by kernel_rfl) (fun _ _ _ h => h) (Or.inl ⟨by rfl, fun wS hSw => ?hyBp2⟩) (by assumption) ?restBp2
          case hyBp2 => (obtain ⟨s0, s1, s2⟩ := hSw; go_simp; first | done | with_reducible rfl)
          try simp only [Act.put, List.setIfInBounds_toArray, List.set_cons_zero, List.set_cons_succ]
          refine take_dst (some 115) (i := 3) (v := ?vBp3) rfl rfl (by kernel_rfl) (by kernel_rfl) (by kernel_rfl) (fun _ _ _ h => h) (Or.inl ⟨by rfl, fun wS hSw => ?hyBp3⟩) (by assumption) ?restBp3
          case hyBp3 => (obtain ⟨s0, s1, s2⟩ := hSw; go_simp; first | done | with_reducible rfl)
          try simp only [Act.put, List.setIfInBounds_toArray, List.set_cons_zero, List.set_cons_succ]
          refine take_dst (some 116) (i := 4) (v := ?vBp4) rfl rfl (by kernel_rfl) (by kernel_rfl) (by kernel_rfl) (fun _ _ _ h => h) (Or.inl ⟨by rfl, fun wS hSw => ?hyBp4⟩) (by assumption) ?restBp4
          case hyBp4 => (obtain ⟨s0, s1, s2⟩ := hSw; go_simp; first | done | with_reducible rfl)
          try simp only [Act.put, List.setIfInBounds_toArray, List.set_cons_zero, List.set_cons_succ]
          refine take_dst (some 117) (i := 5) (v := ?vBp5) rfl rfl (by kernel_rfl) (by kernel_rfl) (by kernel_rfl) (fun _ _ _ h => h) (Or.inl ⟨by rfl, fun wS hSw => ?hyBp5⟩) (by assumption) ?restBp5
          case hyBp5 => (obtain ⟨s0, s1, s2⟩ := hSw; go_simp; first | done | with_reducible rfl)
          try simp only [Act.put, List.setIfInBounds_toArray, List.set_cons_zero, List.set_cons_succ]
          refine wpAnyH_ready (rs := [6, 10]) (by kernel_rfl) (by simp) ?_
          refine AllReadyH.cons rfl (fun K hK => ?_) (AllReadyH.cons rfl (fun K hK => ?_) AllReadyH.nil)
          · go_simp
            refine (holds_is (tk := tk) (x := ⟨zs, za, c.fl, c.tk, true⟩) (b := true) (HLn.out.ext hbd.out) (by rw [Hz.out]; rfl) (by rw [Hz.out]; rfl)).mono ?_
            rintro e w7 ⟨rfl, hb7⟩
            have hb7x := Lib.hid (below_ext hbd.out hb7)
            clear hb7
            refine hK.out _ _ ⟨cell_ext hb7x.out (HXn.out.cell 0), cell_ext hb7x.out (HXn.out.cell 1), cell_ext hb7x.out HFn.out.2.1⟩ (fun hHeldA => ?_)
            clear hK K
            try simp only [Act.put, List.setIfInBounds_toArray, List.set_cons_zero, List.set_cons_succ]
            refine take_dst (some 111) (i := 7) (v := ?vBx7) rfl rfl (by kernel_rfl) (by kernel_rfl) (by kernel_rfl) (fun _ _ _ h => h) (Or.inl ⟨by rfl, fun wS hSw => ?hyBx7⟩) (by assumption) ?restBx7
            case hyBx7 => (obtain ⟨s0, s1, s2⟩ := hSw; go_simp; first | done | with_reducible rfl)
            try simp only [Act.put, List.setIfInBounds_toArray, List.set_cons_zero, List.set_cons_succ]
            refine take_dst (some 119) (i := 8) (v := ?vBx8) rfl rfl (by kernel_rfl) (by kernel_rfl) (by kernel_rfl) (fun _ _ _ h => h) (Or.inl ⟨by rfl, fun wS hSw => ?hyBx8⟩) (by assumption) ?restBx8
            case hyBx8 => (obtain ⟨s0, s1, s2⟩ := hSw; go_simp; first | done | with_reducible rfl)
            try simp only [Act.put, List.setIfInBounds_toArray, List.set_cons_zero, List.set_cons_succ]
            refine take_dst (some 120) (i := 9) (v := ?vBx9) rfl rfl (by kernel_rfl) (by kernel_rfl) (by kernel_rfl) (fun _ _ _ h => h) (Or.inl ⟨by rfl, fun wS hSw => ?hyBx9⟩) (by assumption) ?restBx9
            case hyBx9 => (obtain ⟨s0, s1, s2⟩ := hSw; go_simp; first | done | with_reducible rfl)
            try simp only [Act.put, List.setIfInBounds_toArray, List.set_cons_zero, List.set_cons_succ]
            refine wpAnyH_ready (rs := [10]) (by kernel_rfl) (by simp) ?_
            refine AllReadyH.cons rfl (fun K hK => ?_) AllReadyH.nil
            go_simp
            have HE8 : Hid (CB (w7.alloc (.cells #[.int .i64 0, .int .i64 0, .int .i64 0, .int .i64 0, .bool false] 36)) w7.heap.size 36 [.int .i64 0, .int .i64 0, .int .i64 0, .int .i64 0, .bool false]) := CB.new w7 _ _
            have hb8 := Lib.hid (below_ext hb7x.out (b_al (.cells #[.int .i64 0, .int .i64 0, .int .i64 0, .int .i64 0, .bool false] 36)))
            have hEw := Lib.hid hb7x.out.size
            generalize hw8 : w7.alloc (.cells #[.int .i64 0, .int .i64 0, .int .i64 0, .int .i64 0, .bool false] 36) = w8 at *
            clear hw8
            skip
            clear hb7x
            generalize w7.heap.size = E at *
            refine hK.out _ _ ⟨cell_ext hb8.out (HXn.out.cell 0), cell_ext hb8.out (HXn.out.cell 1), cell_ext hb8.out HFn.out.2.1⟩ (fun hHeldB => ?_)
            clear hK K
            try simp only [Act.put, List.setIfInBounds_toArray, List.set_cons_zero, List.set_cons_succ]
            refine wpAnyH_ready (rs := [11]) (by kernel_rfl) (by simp) ?_
            refine AllReadyH.cons rfl (fun K hK => ?_) AllReadyH.nil
            have y0 : w8.cell? ⟨E, 0, none⟩ = some (.int .i64 0) := HE8.out.cell 0
            have z0 : w8.frozen? ⟨E, 0, none⟩ = false := HE8.out.frozen _
            have y1 : w8.cell? ⟨E, 1, none⟩ = some (.int .i64 0) := HE8.out.cell 1
            have z1 : w8.frozen? ⟨E, 1, none⟩ = false := HE8.out.frozen _
            have y2 : w8.cell? ⟨E, 2, none⟩ = some (.int .i64 0) := HE8.out.cell 2
            have z2 : w8.frozen? ⟨E, 2, none⟩ = false := HE8.out.frozen _
            have y3 : w8.cell? ⟨E, 3, none⟩ = some (.int .i64 0) := HE8.out.cell 3
            have z3 : w8.frozen? ⟨E, 3, none⟩ = false := HE8.out.frozen _
            have y4 : w8.cell? ⟨E, 4, none⟩ = some (.bool false) := HE8.out.cell 4
            have z4 : w8.frozen? ⟨E, 4, none⟩ = false := HE8.out.frozen _
            go_simp
            have HE9 : Hid (CB (((((w8.setCell ⟨E, 0, none⟩ (.int .i64 zs)).setCell ⟨E, 1, none⟩ (.int .i64 za)).setCell ⟨E, 2, none⟩ (.int .i64 c.fl)).setCell ⟨E, 3, none⟩ (.int .i64 c.tk)).setCell ⟨E, 4, none⟩ (.bool true)) E 36 [.int .i64 zs, .int .i64 za, .int .i64 c.fl, .int .i64 c.tk, .bool true]) := (((((HE8.out.set 0 (.int .i64 zs)).set 1 (.int .i64 za)).set 2 (.int .i64 c.fl)).set 3 (.int .i64 c.tk)).set 4 (.bool true))
            have hb9 : Hid (Below wn.heap.size wn (((((w8.setCell ⟨E, 0, none⟩ (.int .i64 zs)).setCell ⟨E, 1, none⟩ (.int .i64 za)).setCell ⟨E, 2, none⟩ (.int .i64 c.fl)).setCell ⟨E, 3, none⟩ (.int .i64 c.tk)).setCell ⟨E, 4, none⟩ (.bool true))) := (((((hb8.out.setCell (p := ⟨E, 0, none⟩) hEw.out (.int .i64 zs)).setCell (p := ⟨E, 1, none⟩) hEw.out (.int .i64 za)).setCell (p := ⟨E, 2, none⟩) hEw.out (.int .i64 c.fl)).setCell (p := ⟨E, 3, none⟩) hEw.out (.int .i64 c.tk)).setCell (p := ⟨E, 4, none⟩) hEw.out (.bool true))
            generalize hw9 : (((((w8.setCell ⟨E, 0, none⟩ (.int .i64 zs)).setCell ⟨E, 1, none⟩ (.int .i64 za)).setCell ⟨E, 2, none⟩ (.int .i64 c.fl)).setCell ⟨E, 3, none⟩ (.int .i64 c.tk)).setCell ⟨E, 4, none⟩ (.bool true)) = w9 at *
            clear hw9 y0 z0 y1 z1 y2 z2 y3 z3 y4 z4
            refine hK.out _ _ ⟨cell_ext hb9.out (HXn.out.cell 0), cell_ext hb9.out (HXn.out.cell 1), cell_ext hb9.out HFn.out.2.1⟩ (fun hHeldZ => ?_)
            clear hK K
            try simp only [Act.put, List.setIfInBounds_toArray, List.set_cons_zero, List.set_cons_succ]
            refine take_dst (some 9) (i := 12) (v := ?vBAa12) rfl rfl (by kernel_rfl) (by kernel_rfl) (by kernel_rfl) (fun _ _ _ h => h) (Or.inl ⟨by rfl, fun wS hSw => ?hyBAa12⟩) (by assumption) ?restBAa12
            case hyBAa12 => (obtain ⟨s0, s1, s2⟩ := hSw; go_simp; first | done | with_reducible rfl)
            try simp only [Act.put, List.setIfInBounds_toArray, List.set_cons_zero, List.set_cons_succ]
            refine wpAnyH_done (by kernel_rfl) ?_ _
            refine NoPanic.normal ?_
            go_wp2_with fail
            go_meet
            exact ⟨E, rfl, rfl, hb9.out, HE9.out⟩
          · go_simp
            have HE6 : Hid (CB (wd.alloc (.cells #[.int .i64 0, .int .i64 0, .int .i64 0, .int .i64 0, .bool false] 36)) wd.heap.size 36 [.int .i64 0, .int .i64 0, .int .i64 0, .int .i64 0, .bool false]) := CB.new wd _ _
            have hba := Lib.hid (below_ext hbd.out (b_al (.cells #[.int .i64 0, .int .i64 0, .int .i64 0, .int .i64 0, .bool false] 36)))
            have hEw := Lib.hid hbd.out.size
            generalize hwa : wd.alloc (.cells #[.int .i64 0, .int .i64 0, .int .i64 0, .int .i64 0, .bool false] 36) = wa at *
            clear hwa
            clear hbd
            generalize wd.heap.size = E at *
            have HEl := Lib.hid HE6.out.lt
            refine hK.out _ _ ⟨cell_ext hba.out (HXn.out.cell 0), cell_ext hba.out (HXn.out.cell 1), cell_ext hba.out HFn.out.2.1⟩ (fun hHeldA => ?_)
            clear hK K
            try simp only [Act.put, List.setIfInBounds_toArray, List.set_cons_zero, List.set_cons_succ]
            refine wpAnyH_ready (rs := [6]) (by kernel_rfl) (by simp) ?_
            refine AllReadyH.cons rfl (fun K hK => ?_) AllReadyH.nil
            go_simp
            refine (holds_is (tk := tk) (x := ⟨zs, za, c.fl, c.tk, true⟩) (b := true) (HLn.out.ext hba.out) (by rw [Hz.out]; rfl) (by rw [Hz.out]; rfl)).mono ?_
            rintro e w8 ⟨rfl, hb7⟩
            have hb8 := Lib.hid (below_ext hba.out hb7)
            have HE8 := Lib.hid (HE6.out.ext hb7)
            clear hb7
            refine hK.out _ _ ⟨cell_ext hb8.out (HXn.out.cell 0), cell_ext hb8.out (HXn.out.cell 1), cell_ext hb8.out HFn.out.2.1⟩ (fun hHeldB => ?_)
            clear hK K
            try simp only [Act.put, List.setIfInBounds_toArray, List.set_cons_zero, List.set_cons_succ]
            refine take_dst (some 111) (i := 7) (v := ?vBy7) rfl rfl (by kernel_rfl) (by kernel_rfl) (by kernel_rfl) (fun _ _ _ h => h) (Or.inl ⟨by rfl, fun wS hSw => ?hyBy7⟩) (by assumption) ?restBy7
            case hyBy7 => (obtain ⟨s0, s1, s2⟩ := hSw; go_simp; first | done | with_reducible rfl)
            try simp only [Act.put, List.setIfInBounds_toArray, List.set_cons_zero, List.set_cons_succ]
            refine take_dst (some 119) (i := 8) (v := ?vBy8) rfl rfl (by kernel_rfl) (by kernel_rfl) (by kernel_rfl) (fun _ _ _ h => h) (Or.inl ⟨by rfl, fun wS hSw => ?hyBy8⟩) (by assumption) ?restBy8
            case hyBy8 => (obtain ⟨s0, s1, s2⟩ := hSw; go_simp; first | done | with_reducible rfl)
            try simp only [Act.put, List.setIfInBounds_toArray, List.set_cons_zero, List.set_cons_succ]
            refine take_dst (some 120) (i := 9) (v := ?vBy9) rfl rfl (by kernel_rfl) (by kernel_rfl) (by kernel_rfl) (fun _ _ _ h => h) (Or.inl ⟨by rfl, fun wS hSw => ?hyBy9⟩) (by assumption) ?restBy9
            case hyBy9 => (obtain ⟨s0, s1, s2⟩ := hSw; go_simp; first | done | with_reducible rfl)
            try simp only [Act.put, List.setIfInBounds_toArray, List.set_cons_zero, List.set_cons_succ]
            refine wpAnyH_ready (rs := [11]) (by kernel_rfl) (by simp) ?_
            refine AllReadyH.cons rfl (fun K hK => ?_) AllReadyH.nil
            have y0 : w8.cell? ⟨E, 0, none⟩ = some (.int .i64 0) := HE8.out.cell 0
            have z0 : w8.frozen? ⟨E, 0, none⟩ = false := HE8.out.frozen _
            have y1 : w8.cell? ⟨E, 1, none⟩ = some (.int .i64 0) := HE8.out.cell 1
            have z1 : w8.frozen? ⟨E, 1, none⟩ = false := HE8.out.frozen _
            have y2 : w8.cell? ⟨E, 2, none⟩ = some (.int .i64 0) := HE8.out.cell 2
            have z2 : w8.frozen? ⟨E, 2, none⟩ = false := HE8.out.frozen _
            have y3 : w8.cell? ⟨E, 3, none⟩ = some (.int .i64 0) := HE8.out.cell 3
            have z3 : w8.frozen? ⟨E, 3, none⟩ = false := HE8.out.frozen _
            have y4 : w8.cell? ⟨E, 4, none⟩ = some (.bool false) := HE8.out.cell 4
            have z4 : w8.frozen? ⟨E, 4, none⟩ = false := HE8.out.frozen _
            go_simp
            have HE9 : Hid (CB (((((w8.setCell ⟨E, 0, none⟩ (.int .i64 zs)).setCell ⟨E, 1, none⟩ (.int .i64 za)).setCell ⟨E, 2, none⟩ (.int .i64 c.fl)).setCell ⟨E, 3, none⟩ (.int .i64 c.tk)).setCell ⟨E, 4, none⟩ (.bool true)) E 36 [.int .i64 zs, .int .i64 za, .int .i64 c.fl, .int .i64 c.tk, .bool true]) := (((((HE8.out.set 0 (.int .i64 zs)).set 1 (.int .i64 za)).set 2 (.int .i64 c.fl)).set 3 (.int .i64 c.tk)).set 4 (.bool true))
            have hb9 : Hid (Below wn.heap.size wn (((((w8.setCell ⟨E, 0, none⟩ (.int .i64 zs)).setCell ⟨E, 1, none⟩ (.int .i64 za)).setCell ⟨E, 2, none⟩ (.int .i64 c.fl)).setCell ⟨E, 3, none⟩ (.int .i64 c.tk)).setCell ⟨E, 4, none⟩ (.bool true))) := (((((hb8.out.setCell (p := ⟨E, 0, none⟩) hEw.out (.int .i64 zs)).setCell (p := ⟨E, 1, none⟩) hEw.out (.int .i64 za)).setCell (p := ⟨E, 2, none⟩) hEw.out (.int .i64 c.fl)).setCell (p := ⟨E, 3, none⟩) hEw.out (.int .i64 c.tk)).setCell (p := ⟨E, 4, none⟩) hEw.out (.bool true))
            generalize hw9 : (((((w8.setCell ⟨E, 0, none⟩ (.int .i64 zs)).setCell ⟨E, 1, none⟩ (.int .i64 za)).setCell ⟨E, 2, none⟩ (.int .i64 c.fl)).setCell ⟨E, 3, none⟩ (.int .i64 c.tk)).setCell ⟨E, 4, none⟩ (.bool true)) = w9 at *
            clear hw9 y0 z0 y1 z1 y2 z2 y3 z3 y4 z4
            refine hK.out _ _ ⟨cell_ext hb9.out (HXn.out.cell 0), cell_ext hb9.out (HXn.out.cell 1), cell_ext hb9.out HFn.out.2.1⟩ (fun hHeldZ => ?_)
            clear hK K
            try simp only [Act.put, List.setIfInBounds_toArray, List.set_cons_zero, List.set_cons_succ]
            refine take_dst (some 9) (i := 12) (v := ?vBBa12) rfl rfl (by kernel_rfl) (by kernel_rfl) (by kernel_rfl) (fun _ _ _ h => h) (Or.inl ⟨by rfl, fun wS hSw => ?hyBBa12⟩) (by assumption) ?restBBa12
            case hyBBa12 => (obtain ⟨s0, s1, s2⟩ := hSw; go_simp; first | done | with_reducible rfl)
            try simp only [Act.put, List.setIfInBounds_toArray, List.set_cons_zero, List.set_cons_succ]
            refine wpAnyH_done (by kernel_rfl) ?_ _
            refine NoPanic.normal ?_
            go_wp2_with fail
            go_meet
            exact ⟨E, rfl, rfl, hb9.out, HE9.out⟩
        case rest =>
          obtain ⟨H, rfl, rfl, hbh, hch⟩ := hcut
          have HBh := Lib.hid (below_ext HBn.out hbh)
          have y4 : wc.cell? ⟨H, 4, none⟩ = some (.bool true) := hch.cell 4
          have y2 : wc.cell? ⟨H, 2, none⟩ = some (.int .i64 c.fl) := hch.cell 2
          have y3 : wc.cell? ⟨H, 3, none⟩ = some (.int .i64 c.tk) := hch.cell 3
          have k3 : wc.cell? ⟨b, off + i * 5 + 3, none⟩ = some (.int .i64 c.fl) := cell_ext hbh HFn.out.2.2.2.1
          have k4 : wc.cell? ⟨b, off + i * 5 + 4, none⟩ = some (.int .i64 c.tk) := cell_ext hbh HFn.out.2.2.2.2
          clear hbh hch
          go_upto_region 21 with fail
          go_quiet (fail)
          go_wp2_with fail
          go_roundw
          case rel => exact ⟨⟨i + 1, by omega, by go_num, below_drewN'' HBh.out _⟩⟩
          case measure => simp [intOf]; omega
end Go.Proofs.Ytlocilbcmcfmaaa
