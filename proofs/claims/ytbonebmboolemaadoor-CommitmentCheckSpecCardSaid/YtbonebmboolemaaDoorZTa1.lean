/- CommitmentCheckSpec, walked (printed by gen36a.py). -/
import Derived.Test.YtbonebmboolemaaDoorK40
namespace Go.Proofs.YtbonebmboolemaaDoor
open Go.RowKit
structure CsRel (l : List Tab) (w : World) (vi : Value) (wr : World) : Prop where
  h : ∃ k : Nat, vi = .int .i64 (k : Int) ∧ k ≤ l.length ∧ Below w.heap.size w wr
set_option maxRecDepth 100000 in
set_option maxHeartbeats 4000000 in
theorem checkSpec36_walk (l : List Tab) (v : Value) (w : World) (hl : TabsAt w l v) (hLd : Laid w) : Calls Tryd.prog 3 #[v] w (TruePost w) := by
  have HL := Lib.hid hl; have HLd := Lib.hid hLd
  obtain ⟨oa, cap, rfl, hlc, hlm⟩ := hl.shape
  clear hl hLd
  go_enter Tryd.func3, Tryd.ntmps3
  go_upto_region 3 with (go_at_call 9; refine (sane36_any w HLd.out).mono ?_; rintro e w1 ⟨rfl, hb1⟩)
  have HB1 := Lib.hid hb1
  have HF := Lib.hid (few_any l _ w1 (HL.out.ext HB1.out))
  clear hb1
  by_cases hf : fewT l = true
  case neg =>
    have hf' : fewT l = false := by simpa using hf
    rw [hf'] at HF
    clear hf hf'
    go_wp2_with (go_at_call 10; refine HF.out.mono ?_; rintro e w2 ⟨rfl, rfl⟩)
    go_ret
    exact ⟨rfl, HB1.out⟩
  case pos =>
  rw [hf] at HF
  have hf10 : l.length ≤ 10 := by unfold fewT at hf; simp only [Bool.and_eq_true, decide_eq_true_eq] at hf; exact hf.2
  have bl : (l.length : Int) ≤ 10 := by omega
  clear hf hf10 hlc hlm
  go_wp2_with (go_at_call 10; refine HF.out.mono ?_; rintro e w2 ⟨rfl, rfl⟩)
  go_loopw [3] (fun vi wr => CsRel l w vi wr) (fun vi _ => l.length - natOf vi)
  case atStart => exact ⟨⟨0, rfl, by omega, HB1.out⟩⟩
  case round =>
    obtain ⟨k, rfl, hk, hb⟩ := hrel.h
    have HBr := Lib.hid hb
    clear hrel hb
    by_cases hlt : k < l.length
    case pos =>
      have tj : decide ((k : Int) < (l.length : Int)) = true := by simp; omega
      have tj' : decide (k < l.length) = true := by simp; omega
      have kb : (k : Int) < (l.length : Int) := by omega
      obtain ⟨t, ht⟩ : ∃ t, l[k]? = some t := ⟨_, List.getElem?_eq_getElem hlt⟩
      obtain ⟨b, off, r, rfl, hbb, hel, hr⟩ := (HL.out.ext HBr.out).el ht
      have HG : Hid (wr.rangeAt b (off + k * 35) r.cells) := el_rng hel
      have HT := Lib.hid hr
      have HK1 : Hid (∀ W, TabR W t r → Calls Tryd.prog 11 #[r.v] W fun e w' => e = .returned (.int .i64 (ckT t)) ∧ Below W.heap.size W w') := fun W h => check_any2 t r W h
      have HK2 : Hid (∀ W, TabR W t r → Calls Tryd.prog 12 #[r.v] W fun e w' => e = .returned (.int .i64 (ckT t)) ∧ Below W.heap.size W w') := fun W h => rtcheck_any t r W h
      generalize ckT t = z at *
      clear ht hbb hel hr
      go_upto_region 8 with fail
      have KB := Lib.hid HBr.out.drew; have KT := Lib.hid (HT.out.ext (Below.refl wr.heap.size wr).drew); have d1 : Hid (wr.drew.rangeAt b (off + k * 35) r.cells) := HG.out
      refine wp_region_held_drew (S := fun w' => w'.rangeAt b (off + k * 35) r.cells) (by kernel_rfl) d1.out (fun hHeld => ?_)
      clear HBr HT HG
      generalize wr.drew = w3 at *
      refine take_dst (some 19) (i := 0) (v := ?vC0) rfl rfl (by kernel_rfl) (by kernel_rfl) (by kernel_rfl) (fun _ _ _ h => h) (Or.inl ⟨by rfl, fun wS hSw => ?hyC0⟩) (by assumption) ?restC0
      case hyC0 => (obtain s1 := hSw; go_simp; first | done | with_reducible rfl)
      try simp only [Act.put, List.setIfInBounds_toArray, List.set_cons_zero, List.set_cons_succ]
      refine take_dst (some 20) (i := 1) (v := ?vC1) rfl rfl (by kernel_rfl) (by kernel_rfl) (by kernel_rfl) (fun _ _ _ h => h) (Or.inl ⟨by rfl, fun wS hSw => ?hyC1⟩) (by assumption) ?restC1
      case hyC1 => (obtain s1 := hSw; go_simp; first | done | with_reducible rfl)
      try simp only [Act.put, List.setIfInBounds_toArray, List.set_cons_zero, List.set_cons_succ]
      refine take_dst (some 21) (i := 2) (v := ?vC2) rfl rfl (by kernel_rfl) (by kernel_rfl) (by kernel_rfl) (fun _ _ _ h => h) (Or.inl ⟨by rfl, fun wS hSw => ?hyC2⟩) (by assumption) ?restC2
      case hyC2 => (obtain s1 := hSw; go_simp; first | done | with_reducible rfl)
      try simp only [Act.put, List.setIfInBounds_toArray, List.set_cons_zero, List.set_cons_succ]
      refine take_dst (some 22) (i := 3) (v := r.v) rfl rfl (by kernel_rfl) (by kernel_rfl) (by kernel_rfl) (fun _ _ _ h => h) (yieldsIf_load_mid (by rfl) 31 _ rfl b (off + k * 35) rfl r.cells _ (fun wS hSw => hSw) Tryd.underlying31 rfl (by rw [tb_len]; exact tb_sz)) (by assumption) ?restC3
      try simp only [Act.put, List.setIfInBounds_toArray, List.set_cons_zero, List.set_cons_succ]
      refine take_dst (some 24) (i := 5) (v := ?vC5) rfl rfl (by kernel_rfl) (by kernel_rfl) (by kernel_rfl) (fun _ _ _ h => h) (Or.inl ⟨by rfl, fun wS hSw => ?hyC5⟩) (by assumption) ?restC5
      case hyC5 => (obtain s1 := hSw; go_simp; first | done | with_reducible rfl)
      try simp only [Act.put, List.setIfInBounds_toArray, List.set_cons_zero, List.set_cons_succ]
      refine take_dst (some 25) (i := 6) (v := ?vC6) rfl rfl (by kernel_rfl) (by kernel_rfl) (by kernel_rfl) (fun _ _ _ h => h) (Or.inl ⟨by rfl, fun wS hSw => ?hyC6⟩) (by assumption) ?restC6
      case hyC6 => (obtain s1 := hSw; go_simp; first | done | with_reducible rfl)
      try simp only [Act.put, List.setIfInBounds_toArray, List.set_cons_zero, List.set_cons_succ]
      refine take_dst (some 26) (i := 7) (v := ?vC7) rfl rfl (by kernel_rfl) (by kernel_rfl) (by kernel_rfl) (fun _ _ _ h => h) (Or.inl ⟨by rfl, fun wS hSw => ?hyC7⟩) (by assumption) ?restC7
      case hyC7 => (obtain s1 := hSw; go_simp; first | done | with_reducible rfl)
      try simp only [Act.put, List.setIfInBounds_toArray, List.set_cons_zero, List.set_cons_succ]
      refine take_dst (some 27) (i := 8) (v := r.v) rfl rfl (by kernel_rfl) (by kernel_rfl) (by kernel_rfl) (fun _ _ _ h => h) (yieldsIf_load_mid (by rfl) 31 _ rfl b (off + k * 35) rfl r.cells _ (fun wS hSw => hSw) Tryd.underlying31 rfl (by rw [tb_len]; exact tb_sz)) (by assumption) ?restC8
      try simp only [Act.put, List.setIfInBounds_toArray, List.set_cons_zero, List.set_cons_succ]
      refine wpAnyH_ready (rs := [4]) (by kernel_rfl) (by simp) ?_
      refine AllReadyH.cons rfl (fun K hK => ?_) AllReadyH.nil
      go_simp
      refine (HK1.out w3 KT.out).mono ?_
      rintro e w4 ⟨rfl, hb4⟩
      have KB4 := Lib.hid (below_ext KB.out hb4); have KT4 := Lib.hid (KT.out.ext hb4)
      have d4 : Hid (w4.rangeAt b (off + k * 35) r.cells) := fun i u hu => cell_ext hb4 (d1.out i u hu)
      clear hb4 KB KT d1
      refine hK.out _ _ d4.out (fun hHeld => ?_)
      clear hK K
      try simp only [Act.put, List.setIfInBounds_toArray, List.set_cons_zero, List.set_cons_succ]
      refine wpAnyH_ready (rs := [9]) (by kernel_rfl) (by simp) ?_
      refine AllReadyH.cons rfl (fun K hK => ?_) AllReadyH.nil
      go_simp
      refine (HK2.out w4 KT4.out).mono ?_
      rintro e w5 ⟨rfl, hb5⟩
      have KB5 := Lib.hid (below_ext KB4.out hb5)
      have d5 : Hid (w5.rangeAt b (off + k * 35) r.cells) := fun i u hu => cell_ext hb5 (d4.out i u hu)
      clear hb5 KB4 KT4 d4
      refine hK.out _ _ d5.out (fun hHeld => ?_)
      clear hK K
      try simp only [Act.put, List.setIfInBounds_toArray, List.set_cons_zero, List.set_cons_succ]
      refine take_dst (some 29) (i := 10) (v := ?vC10) rfl rfl (by kernel_rfl) (by kernel_rfl) (by kernel_rfl) (fun _ _ _ h => h) (Or.inl ⟨by rfl, fun wS hSw => ?hyC10⟩) (by assumption) ?restC10
      case hyC10 => (obtain s1 := hSw; go_simp; first | done | with_reducible rfl)
      try simp only [Act.put, List.setIfInBounds_toArray, List.set_cons_zero, List.set_cons_succ]
      refine wpAnyH_done (by kernel_rfl) ?_ _
      go_wp2_with fail
      go_roundw
      case rel => exact ⟨⟨k + 1, by go_num, by omega, KB5.out⟩⟩
      case measure => simp [natOf]; omega
    case neg =>
      obtain rfl : k = l.length := by omega
      have tj : decide ((l.length : Int) < (l.length : Int)) = false := by simp
      have HC1 := Lib.hid (commit_any l _ wr (HL.out.ext HBr.out) (HLd.out.ext HBr.out))
      have HC2 := Lib.hid (fun W (hW : Below wr.heap.size wr W) => rcommit_any l _ W ((HL.out.ext HBr.out).ext hW))
      obtain ⟨d, hd⟩ : ∃ d, commitD l = d := ⟨_, rfl⟩
      obtain ⟨z, hz⟩ : ∃ z, commitE l = z := ⟨_, rfl⟩
      rw [hd, hz] at HC1 HC2
      have Hdl := Lib.hid d.2
      have heq : ∀ W, (binOp .eql 29 (dv d.1) (dv d.1)).run Tryd.prog W = .ok (.bool true) W := fun W => by rw [eql_dv _ _ Hdl.out Hdl.out]; simp
      have hgd := fun (a1 a2 : Operand) (W : World) => gd_dv .eql a1 a2 d.1 d.1 W
      clear hd hz hlt
      go_wp2_with (first
        | (go_at_call 13; refine HC1.out.mono ?_; go_loud (
            rintro e w2 ⟨rfl, hb2⟩
            have HB2 := Lib.hid hb2
            have HZ : Hid ((w2.alloc ZD).heap[w2.heap.size]? = some (.cells (bcells dgZ.1).toArray 29 (0, 0))) := cb_one w2 ZD _ _ rfl
            clear hb2 HC1))
        | ((refine wpList_store_d (hgd := rfl) 29 (.tmp 4) (.tmp 33) rfl w2.heap.size d.1 Hdl.out rfl rfl 29 _ HZ.out rfl dig_sz ?_); go_loud (
            intro w3 hc3 hg3 hz3
            have hb3 : Below w2.heap.size w2 w3 := (b_al (w := w2) ZD).grown hg3.out (by rw [World.size_alloc]; omega) (fun k hk => by injection hk; omega)
            have HB3 := Lib.hid (below_ext HB2.out hb3)
            have HK := Lib.hid (HC2.out w3 HB3.out)
            clear hb3 hg3 hz3 HB2 HZ))
        | (go_at_call 14; refine HK.out.mono ?_; go_loud (
            rintro e w4 ⟨rfl, hb4⟩
            have HB4 := Lib.hid (below_ext HB3.out hb4)
            have HD4 : Hid (CB w4 w2.heap.size 29 (bcells d.1)) := hc3.out.ext hb4
            have HZ4 : Hid ((w4.alloc ZD).heap[w4.heap.size]? = some (.cells (bcells dgZ.1).toArray 29 (0, 0))) := cb_one w4 ZD _ _ rfl
            clear hb4 HB3 hc3 HK))
        | ((refine wpList_store_d (hgd := rfl) 29 (.tmp 6) (.tmp 38) rfl w4.heap.size d.1 Hdl.out rfl rfl 29 _ HZ4.out rfl dig_sz ?_); go_loud (
            intro w5 hc5 hg5 hz5
            have hb5 : Below w4.heap.size w4 w5 := (b_al (w := w4) ZD).grown hg5.out (by rw [World.size_alloc]; omega) (fun k hk => by injection hk; omega)
            have HB5 := Lib.hid (below_ext HB4.out hb5)
            have HD5 := Lib.hid (HD4.out.ext hb5)
            clear hb5 hg5 hz5 HB4 HD4 HZ4))
        | (with_reducible refine wpList_load_d (hgd := rfl) 29 (.tmp 4) rfl w2.heap.size d.1 Hdl.out rfl 29 _ HD5.out Tryd.underlying29 rfl dig_sz ?_)
        | (with_reducible refine wpList_load_d (hgd := rfl) 29 (.tmp 6) rfl w4.heap.size d.1 Hdl.out rfl 29 _ hc5.out Tryd.underlying29 rfl dig_sz ?_))
      go_ret
      exact ⟨rfl, below_ext HBr.out HB5.out⟩
end Go.Proofs.YtbonebmboolemaaDoor
