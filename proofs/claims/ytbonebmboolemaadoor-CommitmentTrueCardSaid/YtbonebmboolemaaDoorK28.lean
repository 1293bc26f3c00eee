/- Merged: Tvr. -/
import Derived.Test.YtbonebmboolemaaDoorK22
import Derived.Test.YtbonebmboolemaaDoorK27
import Derived.Deep.DeepCutAuto
/- the reference's Valid (printed by gen36w.py). -/
namespace Go.Proofs.YtbonebmboolemaaDoor
open Go.RowKit
structure VrRel (l : List Tab) (w : World) (i : Value) (wr : World) : Prop where
  h : ∃ k : Nat, k ≤ l.length ∧ i = .int .i64 (k : Int) ∧ (∀ j : Nat, j < k → vAt l j = true) ∧ Below w.heap.size w wr
set_option maxRecDepth 100000 in
set_option maxHeartbeats 8000000 in
theorem rvalid_any (l : List Tab) (v : Value) (w : World) (hl : TabsAt w l v) :
    Calls Tryd.prog 33 #[v] w fun e w' => e = .returned (.bool (validT l)) ∧ Below w.heap.size w w' := by
  obtain ⟨oa, cap, rfl, hlc, hlm⟩ := hl.shape
  have bl : (l.length : Int) ≤ 9223372036854775807 := by omega
  have HL := Lib.hid hl
  obtain ⟨z0, hz0⟩ : ∃ z, validT l = z := ⟨_, rfl⟩
  have Hz := Lib.hid hz0
  rw [hz0]
  clear hl hlc hlm hz0
  by_cases h1 : l.length < 1
  · have t1 : decide ((l.length : Int) < 1) = true := by simp; omega
    have t1' : decide (l.length < 1) = true := by simpa using h1
    have t1'' : decide (l.length = 0) = true := decide_eq_true (by omega)
    have hzz := Lib.hid (Hz.out.symm.trans (valid_few (.inl h1)))
    clear h1
    go_enter Tryd.func33, Tryd.ntmps33
    go_wp2_with fail
    all_goals (go_ret; exact ⟨by rw [hzz.out]; rfl, Below.refl _ _⟩)
  have t1 : decide ((l.length : Int) < 1) = false := by simp; omega
  have t1' : decide (l.length < 1) = false := by simpa using h1
  have t1'' : decide (l.length = 0) = false := decide_eq_false (by omega)
  by_cases h8 : 8 < l.length
  · have t2 : decide ((8 : Int) < (l.length : Int)) = true := by simp; omega
    have t2' : decide (8 < l.length) = true := by simpa using h8
    have hzz := Lib.hid (Hz.out.symm.trans (valid_few (.inr h8)))
    clear h1 h8
    go_enter Tryd.func33, Tryd.ntmps33
    go_wp2_with fail
    all_goals (go_ret; exact ⟨by rw [hzz.out]; rfl, Below.refl _ _⟩)
  have t2 : decide ((8 : Int) < (l.length : Int)) = false := by simp; omega
  have t2' : decide (8 < l.length) = false := by simpa using h8
  obtain ⟨tz, htz⟩ : ∃ t, l[0]? = some t := ⟨_, List.getElem?_eq_getElem (by omega)⟩
  obtain ⟨b, off, rz, rfl, hbz, helz, hrz⟩ := HL.out.el htz
  have Helz := Lib.hid helz; have Htz := Lib.hid htz
  obtain ⟨za, zf, zo, zm, zc, zs⟩ := rz
  have Hza : Hid (za = tz.air) := hrz.air
  have Hzm : Hid (zm = tz.costs.length) := by
    obtain ⟨_, _, he, _⟩ := hrz.cs.shape
    injection he with _ e2 _
  have H1 : Hid (1 ≤ l.length) := by show _ ≤ _; omega
  have H8 : Hid (l.length ≤ 8) := by show _ ≤ _; omega
  have b8 : (l.length : Int) ≤ 8 := by omega
  have b0 : (0 : Int) < (l.length : Int) := by omega
  have b0' : 0 < l.length := by omega
  clear h1 h8 htz helz hrz hbz
  go_enter Tryd.func33, Tryd.ntmps33
  go_wp2_with fail
  go_loopw [3] (fun i wr => VrRel l w i wr) (fun i _ => l.length - (intO i).toNat)
  case atStart => exact ⟨⟨0, by omega, rfl, fun j h => by omega, Below.refl _ _⟩⟩
  case round =>
    obtain ⟨k, hk, rfl, hn, hb⟩ := hrel.h
    have HN := Lib.hid hn; have HBr := Lib.hid hb
    clear hn hb hrel
    by_cases hlt : k < l.length
    case neg =>
      obtain rfl : k = l.length := by omega
      have tj : decide ((l.length : Int) < (l.length : Int)) = false := by simp
      have hzz := Lib.hid (Hz.out.symm.trans (valid_yes H1.out H8.out HN.out))
      clear hlt
      go_wp2_with fail
      go_ret
      exact ⟨by rw [hzz.out]; rfl, HBr.out⟩
    case pos =>
    have tj : decide ((k : Int) < (l.length : Int)) = true := by simp; omega
    have tj' : decide (k < l.length) = true := by simp; omega
    have kb : (k : Int) < (l.length : Int) := by omega
    obtain ⟨t, ht⟩ : ∃ t, l[k]? = some t := ⟨_, List.getElem?_eq_getElem hlt⟩
    obtain ⟨b', off', rr, he, hbr, hel, hr⟩ := (HL.out.ext HBr.out).el ht
    obtain ⟨rfl, rfl⟩ : b = b' ∧ off = off' := by injection he with he; injection he with h1 h2 _; exact ⟨h1, h2⟩
    have Ht := Lib.hid ht
    obtain ⟨zc1, _, zc3⟩ := el_tb (by have := Helz.out.ext HBr.out; rw [Nat.zero_mul, Nat.add_zero] at this; exact this)
    have HEl := Lib.hid hel; have HTR := Lib.hid hr
    have Cz1 := Lib.hid zc1; have Cz3 := Lib.hid zc3
    have HCK : Hid (∀ W, TabR W t rr → Calls Tryd.prog 12 #[rr.v] W fun e w' => e = .returned (.int .i64 (ckT t)) ∧ Below W.heap.size W w') := fun W h => rtcheck_any t rr W h
    have Hra0 := hr.air; have Hrf0 := hr.fl; have Hm0 := hr.cs.shape
    obtain ⟨ra, hra⟩ : ∃ x, rr.air = x := ⟨_, rfl⟩
    obtain ⟨rf, hrf⟩ : ∃ x, rr.fl = x := ⟨_, rfl⟩
    obtain ⟨ro, m, rc, hcv⟩ : ∃ a b c, rr.cv = .slice a b c := ⟨_, _, _, rfl⟩
    rw [hra] at Hra0; rw [hrf] at Hrf0; rw [hcv] at Hm0
    have Hra := Lib.hid Hra0; have Hrf := Lib.hid Hrf0
    have Hm : Hid (m = t.costs.length) := by
      obtain ⟨_, _, he, _⟩ := Hm0
      injection he with _ e2 _
    have HRA := Lib.hid hra; have HRF := Lib.hid hrf; have HCV := Lib.hid hcv
    clear Hra0 Hrf0 Hm0 hra hrf hcv hel hr ht he hbr zc1 zc3
    obtain ⟨c1, c2, c3⟩ := el_tb HEl.out
    rw [HRA.out] at c1; rw [HRF.out] at c2; rw [HCV.out] at c3
    have C1 := Lib.hid c1; have C2 := Lib.hid c2; have C3 := Lib.hid c3
    have C4 := Lib.hid Cz1.out; have C5 := Lib.hid Cz3.out
    have Hb2 := Lib.hid (Below.refl wr.heap.size wr)
    clear c1 c2 c3 Cz1 Cz3
    go_upto_region 6 with fail
    by_cases hok : okT t = true
    case neg =>
      have Hck : Hid (ckT t = 360) := by show _ = _; unfold ckT; rw [if_neg hok]
      have hok' : okT t = false := by simpa using hok
      have hzz := Lib.hid (Hz.out.symm.trans (valid_no hlt (v_ck Ht.out hok')))
      have KE := Lib.hid (HEl.out.ext (Below.refl wr.heap.size wr).drew)
      have KB := Lib.hid HBr.out.drew; have KT := Lib.hid (HTR.out.ext (Below.refl wr.heap.size wr).drew)
      have d1 := Lib.hid (cell_ext (Below.refl wr.heap.size wr).drew C1.out)
      have d2 := Lib.hid (cell_ext (Below.refl wr.heap.size wr).drew C2.out)
      have d3 := Lib.hid (cell_ext (Below.refl wr.heap.size wr).drew C3.out)
      have d4 := Lib.hid (cell_ext (Below.refl wr.heap.size wr).drew C4.out)
      have d5 := Lib.hid (cell_ext (Below.refl wr.heap.size wr).drew C5.out)
      refine wp_region_held_drew (S := fun w' => w'.rangeAt b (off + k * 35) rr.cells ∧ w'.cell? ⟨b, off + k * 35, none⟩ = some (.int .i64 ra) ∧ w'.cell? ⟨b, off + k * 35 + 1, none⟩ = some (.int .i64 rf) ∧ w'.cell? ⟨b, off + k * 35 + 2, none⟩ = some (.slice ro m rc) ∧ w'.cell? ⟨b, off, none⟩ = some (.int .i64 za) ∧ w'.cell? ⟨b, off + 2, none⟩ = some (.slice zo zm zc)) (by kernel_rfl) ⟨el_rng KE.out, d1.out, d2.out, d3.out, d4.out, d5.out⟩ (fun hHeld => ?_)
      clear HEl HBr HTR
      generalize wr.drew = w3 at *
      refine take_dst (some 18) (i := 0) (v := ?vA0) rfl rfl (by kernel_rfl) (by kernel_rfl) (by kernel_rfl) (fun _ _ _ h => h) (Or.inl ⟨by rfl, fun wS hSw => ?hyA0⟩) (by assumption) ?restA0
      case hyA0 => (obtain ⟨s0, s1, s2, s3, s4, s5⟩ := hSw; go_simp; first | done | with_reducible rfl)
      try simp only [Act.put, List.setIfInBounds_toArray, List.set_cons_zero, List.set_cons_succ]
      refine take_dst (some 19) (i := 1) (v := ?vA1) rfl rfl (by kernel_rfl) (by kernel_rfl) (by kernel_rfl) (fun _ _ _ h => h) (Or.inl ⟨by rfl, fun wS hSw => ?hyA1⟩) (by assumption) ?restA1
      case hyA1 => (obtain ⟨s0, s1, s2, s3, s4, s5⟩ := hSw; go_simp; first | done | with_reducible rfl)
      try simp only [Act.put, List.setIfInBounds_toArray, List.set_cons_zero, List.set_cons_succ]
      refine take_dst (some 20) (i := 2) (v := ?vA2) rfl rfl (by kernel_rfl) (by kernel_rfl) (by kernel_rfl) (fun _ _ _ h => h) (Or.inl ⟨by rfl, fun wS hSw => ?hyA2⟩) (by assumption) ?restA2
      case hyA2 => (obtain ⟨s0, s1, s2, s3, s4, s5⟩ := hSw; go_simp; first | done | with_reducible rfl)
      try simp only [Act.put, List.setIfInBounds_toArray, List.set_cons_zero, List.set_cons_succ]
      refine take_dst (some 21) (i := 3) (v := rr.v) rfl rfl (by kernel_rfl) (by kernel_rfl) (by kernel_rfl) (fun _ _ _ h => h) (yieldsIf_load_mid (by rfl) 31 _ rfl b (off + k * 35) rfl rr.cells _ (fun wS hSw => by obtain ⟨s0, s1, s2, s3, s4, s5⟩ := hSw; exact s0) Tryd.underlying31 rfl (by rw [tb_len]; exact tb_sz)) (by assumption) ?restA3
      try simp only [Act.put, List.setIfInBounds_toArray, List.set_cons_zero, List.set_cons_succ]
      refine wpAnyH_ready (rs := [4]) (by kernel_rfl) (by simp) ?_
      refine AllReadyH.cons rfl (fun K hK => ?_) AllReadyH.nil
      go_simp
      refine (HCK.out w3 KT.out).mono ?_
      rintro e w4 ⟨rfl, hb4⟩
      rw [Hck.out]
      have KE4 := Lib.hid (KE.out.ext hb4)
      have KB4 := Lib.hid (below_ext KB.out hb4)
      have q1 := Lib.hid (cell_ext hb4 d1.out)
      have q2 := Lib.hid (cell_ext hb4 d2.out)
      have q3 := Lib.hid (cell_ext hb4 d3.out)
      have q4 := Lib.hid (cell_ext hb4 d4.out)
      have q5 := Lib.hid (cell_ext hb4 d5.out)
      clear hb4 KB KT KE d1 d2 d3 d4 d5
      refine hK.out _ _ ⟨el_rng KE4.out, q1.out, q2.out, q3.out, q4.out, q5.out⟩ (fun hHeld => ?_)
      clear hK K
      try simp only [Act.put, List.setIfInBounds_toArray, List.set_cons_zero, List.set_cons_succ]
      refine take_dst (some 23) (i := 5) (v := ?vA5) rfl rfl (by kernel_rfl) (by kernel_rfl) (by kernel_rfl) (fun _ _ _ h => h) (Or.inl ⟨by rfl, fun wS hSw => ?hyA5⟩) (by assumption) ?restA5
      case hyA5 => (obtain ⟨s0, s1, s2, s3, s4, s5⟩ := hSw; go_simp; first | done | with_reducible rfl)
      try simp only [Act.put, List.setIfInBounds_toArray, List.set_cons_zero, List.set_cons_succ]
      refine take_dst (some 24) (i := 6) (v := ?vA6) rfl rfl (by kernel_rfl) (by kernel_rfl) (by kernel_rfl) (fun _ _ _ h => h) (Or.inl ⟨by rfl, fun wS hSw => ?hyA6⟩) (by assumption) ?restA6
      case hyA6 => (obtain ⟨s0, s1, s2, s3, s4, s5⟩ := hSw; go_simp; first | done | with_reducible rfl)
      try simp only [Act.put, List.setIfInBounds_toArray, List.set_cons_zero, List.set_cons_succ]
      refine take_dst (some 25) (i := 7) (v := undef) rfl rfl (by kernel_rfl) (by kernel_rfl) (by kernel_rfl) (fun _ _ _ h => h) (Or.inr ⟨by rfl, rfl⟩) (by assumption) ?restA7
      try simp only [Act.put, List.setIfInBounds_toArray, List.set_cons_zero, List.set_cons_succ]
      refine take_dst (some 26) (i := 8) (v := undef) rfl rfl (by kernel_rfl) (by kernel_rfl) (by kernel_rfl) (fun _ _ _ h => h) (Or.inr ⟨by rfl, rfl⟩) (by assumption) ?restA8
      try simp only [Act.put, List.setIfInBounds_toArray, List.set_cons_zero, List.set_cons_succ]
      refine take_dst (some 27) (i := 9) (v := undef) rfl rfl (by kernel_rfl) (by kernel_rfl) (by kernel_rfl) (fun _ _ _ h => h) (Or.inr ⟨by rfl, rfl⟩) (by assumption) ?restA9
      try simp only [Act.put, List.setIfInBounds_toArray, List.set_cons_zero, List.set_cons_succ]
      refine take_dst (some 28) (i := 10) (v := undef) rfl rfl (by kernel_rfl) (by kernel_rfl) (by kernel_rfl) (fun _ _ _ h => h) (Or.inr ⟨by rfl, rfl⟩) (by assumption) ?restA10
      try simp only [Act.put, List.setIfInBounds_toArray, List.set_cons_zero, List.set_cons_succ]
      refine take_dst (some 29) (i := 11) (v := undef) rfl rfl (by kernel_rfl) (by kernel_rfl) (by kernel_rfl) (fun _ _ _ h => h) (Or.inr ⟨by rfl, rfl⟩) (by assumption) ?restA11
      try simp only [Act.put, List.setIfInBounds_toArray, List.set_cons_zero, List.set_cons_succ]
      refine take_dst (some 30) (i := 12) (v := undef) rfl rfl (by kernel_rfl) (by kernel_rfl) (by kernel_rfl) (fun _ _ _ h => h) (Or.inr ⟨by rfl, rfl⟩) (by assumption) ?restA12
      try simp only [Act.put, List.setIfInBounds_toArray, List.set_cons_zero, List.set_cons_succ]
      refine take_dst (some 31) (i := 13) (v := undef) rfl rfl (by kernel_rfl) (by kernel_rfl) (by kernel_rfl) (fun _ _ _ h => h) (Or.inr ⟨by rfl, rfl⟩) (by assumption) ?restA13
      try simp only [Act.put, List.setIfInBounds_toArray, List.set_cons_zero, List.set_cons_succ]
      refine take_dst (some 32) (i := 14) (v := undef) rfl rfl (by kernel_rfl) (by kernel_rfl) (by kernel_rfl) (fun _ _ _ h => h) (Or.inr ⟨by rfl, rfl⟩) (by assumption) ?restA14
      try simp only [Act.put, List.setIfInBounds_toArray, List.set_cons_zero, List.set_cons_succ]
      refine take_dst (some 33) (i := 15) (v := undef) rfl rfl (by kernel_rfl) (by kernel_rfl) (by kernel_rfl) (fun _ _ _ h => h) (Or.inr ⟨by rfl, rfl⟩) (by assumption) ?restA15
      try simp only [Act.put, List.setIfInBounds_toArray, List.set_cons_zero, List.set_cons_succ]
      refine take_dst (some 34) (i := 16) (v := undef) rfl rfl (by kernel_rfl) (by kernel_rfl) (by kernel_rfl) (fun _ _ _ h => h) (Or.inr ⟨by rfl, rfl⟩) (by assumption) ?restA16
      try simp only [Act.put, List.setIfInBounds_toArray, List.set_cons_zero, List.set_cons_succ]
      refine take_dst (some 35) (i := 17) (v := ?vA17) rfl rfl (by kernel_rfl) (by kernel_rfl) (by kernel_rfl) (fun _ _ _ h => h) (Or.inl ⟨by rfl, fun wS hSw => ?hyA17⟩) (by assumption) ?restA17
      case hyA17 => (obtain ⟨s0, s1, s2, s3, s4, s5⟩ := hSw; go_simp; first | done | with_reducible rfl)
      try simp only [Act.put, List.setIfInBounds_toArray, List.set_cons_zero, List.set_cons_succ]
      refine take_dst (some 36) (i := 18) (v := ?vA18) rfl rfl (by kernel_rfl) (by kernel_rfl) (by kernel_rfl) (fun _ _ _ h => h) (Or.inl ⟨by rfl, fun wS hSw => ?hyA18⟩) (by assumption) ?restA18
      case hyA18 => (obtain ⟨s0, s1, s2, s3, s4, s5⟩ := hSw; go_simp; first | done | with_reducible rfl)
      try simp only [Act.put, List.setIfInBounds_toArray, List.set_cons_zero, List.set_cons_succ]
      refine take_dst (some 37) (i := 19) (v := undef) rfl rfl (by kernel_rfl) (by kernel_rfl) (by kernel_rfl) (fun _ _ _ h => h) (Or.inr ⟨by rfl, rfl⟩) (by assumption) ?restA19
      try simp only [Act.put, List.setIfInBounds_toArray, List.set_cons_zero, List.set_cons_succ]
      refine take_dst (some 38) (i := 20) (v := undef) rfl rfl (by kernel_rfl) (by kernel_rfl) (by kernel_rfl) (fun _ _ _ h => h) (Or.inr ⟨by rfl, rfl⟩) (by assumption) ?restA20
      try simp only [Act.put, List.setIfInBounds_toArray, List.set_cons_zero, List.set_cons_succ]
      refine take_dst (some 39) (i := 21) (v := undef) rfl rfl (by kernel_rfl) (by kernel_rfl) (by kernel_rfl) (fun _ _ _ h => h) (Or.inr ⟨by rfl, rfl⟩) (by assumption) ?restA21
      try simp only [Act.put, List.setIfInBounds_toArray, List.set_cons_zero, List.set_cons_succ]
      refine take_dst (some 40) (i := 22) (v := undef) rfl rfl (by kernel_rfl) (by kernel_rfl) (by kernel_rfl) (fun _ _ _ h => h) (Or.inr ⟨by rfl, rfl⟩) (by assumption) ?restA22
      try simp only [Act.put, List.setIfInBounds_toArray, List.set_cons_zero, List.set_cons_succ]
      refine take_dst (some 41) (i := 23) (v := undef) rfl rfl (by kernel_rfl) (by kernel_rfl) (by kernel_rfl) (fun _ _ _ h => h) (Or.inr ⟨by rfl, rfl⟩) (by assumption) ?restA23
      try simp only [Act.put, List.setIfInBounds_toArray, List.set_cons_zero, List.set_cons_succ]
      refine take_dst (some 42) (i := 24) (v := undef) rfl rfl (by kernel_rfl) (by kernel_rfl) (by kernel_rfl) (fun _ _ _ h => h) (Or.inr ⟨by rfl, rfl⟩) (by assumption) ?restA24
      try simp only [Act.put, List.setIfInBounds_toArray, List.set_cons_zero, List.set_cons_succ]
      refine take_dst (some 43) (i := 25) (v := undef) rfl rfl (by kernel_rfl) (by kernel_rfl) (by kernel_rfl) (fun _ _ _ h => h) (Or.inr ⟨by rfl, rfl⟩) (by assumption) ?restA25
      try simp only [Act.put, List.setIfInBounds_toArray, List.set_cons_zero, List.set_cons_succ]
      refine take_dst (some 44) (i := 26) (v := undef) rfl rfl (by kernel_rfl) (by kernel_rfl) (by kernel_rfl) (fun _ _ _ h => h) (Or.inr ⟨by rfl, rfl⟩) (by assumption) ?restA26
      try simp only [Act.put, List.setIfInBounds_toArray, List.set_cons_zero, List.set_cons_succ]
      refine take_dst (some 45) (i := 27) (v := undef) rfl rfl (by kernel_rfl) (by kernel_rfl) (by kernel_rfl) (fun _ _ _ h => h) (Or.inr ⟨by rfl, rfl⟩) (by assumption) ?restA27
      try simp only [Act.put, List.setIfInBounds_toArray, List.set_cons_zero, List.set_cons_succ]
      refine take_dst (some 46) (i := 28) (v := undef) rfl rfl (by kernel_rfl) (by kernel_rfl) (by kernel_rfl) (fun _ _ _ h => h) (Or.inr ⟨by rfl, rfl⟩) (by assumption) ?restA28
      try simp only [Act.put, List.setIfInBounds_toArray, List.set_cons_zero, List.set_cons_succ]
      refine take_dst (some 47) (i := 29) (v := undef) rfl rfl (by kernel_rfl) (by kernel_rfl) (by kernel_rfl) (fun _ _ _ h => h) (Or.inr ⟨by rfl, rfl⟩) (by assumption) ?restA29
      try simp only [Act.put, List.setIfInBounds_toArray, List.set_cons_zero, List.set_cons_succ]
      refine take_dst (some 48) (i := 30) (v := undef) rfl rfl (by kernel_rfl) (by kernel_rfl) (by kernel_rfl) (fun _ _ _ h => h) (Or.inr ⟨by rfl, rfl⟩) (by assumption) ?restA30
      try simp only [Act.put, List.setIfInBounds_toArray, List.set_cons_zero, List.set_cons_succ]
      refine take_dst (some 49) (i := 31) (v := ?vA31) rfl rfl (by kernel_rfl) (by kernel_rfl) (by kernel_rfl) (fun _ _ _ h => h) (Or.inl ⟨by rfl, fun wS hSw => ?hyA31⟩) (by assumption) ?restA31
      case hyA31 => (obtain ⟨s0, s1, s2, s3, s4, s5⟩ := hSw; go_simp; first | done | with_reducible rfl)
      try simp only [Act.put, List.setIfInBounds_toArray, List.set_cons_zero, List.set_cons_succ]
      refine take_dst (some 50) (i := 32) (v := ?vA32) rfl rfl (by kernel_rfl) (by kernel_rfl) (by kernel_rfl) (fun _ _ _ h => h) (Or.inl ⟨by rfl, fun wS hSw => ?hyA32⟩) (by assumption) ?restA32
      case hyA32 => (obtain ⟨s0, s1, s2, s3, s4, s5⟩ := hSw; go_simp; first | done | with_reducible rfl)
      try simp only [Act.put, List.setIfInBounds_toArray, List.set_cons_zero, List.set_cons_succ]
      refine take_dst (some 51) (i := 33) (v := undef) rfl rfl (by kernel_rfl) (by kernel_rfl) (by kernel_rfl) (fun _ _ _ h => h) (Or.inr ⟨by rfl, rfl⟩) (by assumption) ?restA33
      try simp only [Act.put, List.setIfInBounds_toArray, List.set_cons_zero, List.set_cons_succ]
      refine take_dst (some 52) (i := 34) (v := undef) rfl rfl (by kernel_rfl) (by kernel_rfl) (by kernel_rfl) (fun _ _ _ h => h) (Or.inr ⟨by rfl, rfl⟩) (by assumption) ?restA34
      try simp only [Act.put, List.setIfInBounds_toArray, List.set_cons_zero, List.set_cons_succ]
      refine take_dst (some 53) (i := 35) (v := undef) rfl rfl (by kernel_rfl) (by kernel_rfl) (by kernel_rfl) (fun _ _ _ h => h) (Or.inr ⟨by rfl, rfl⟩) (by assumption) ?restA35
      try simp only [Act.put, List.setIfInBounds_toArray, List.set_cons_zero, List.set_cons_succ]
      refine take_dst (some 54) (i := 36) (v := undef) rfl rfl (by kernel_rfl) (by kernel_rfl) (by kernel_rfl) (fun _ _ _ h => h) (Or.inr ⟨by rfl, rfl⟩) (by assumption) ?restA36
      try simp only [Act.put, List.setIfInBounds_toArray, List.set_cons_zero, List.set_cons_succ]
      refine take_dst (some 55) (i := 37) (v := undef) rfl rfl (by kernel_rfl) (by kernel_rfl) (by kernel_rfl) (fun _ _ _ h => h) (Or.inr ⟨by rfl, rfl⟩) (by assumption) ?restA37
      try simp only [Act.put, List.setIfInBounds_toArray, List.set_cons_zero, List.set_cons_succ]
      refine take_dst (some 56) (i := 38) (v := undef) rfl rfl (by kernel_rfl) (by kernel_rfl) (by kernel_rfl) (fun _ _ _ h => h) (Or.inr ⟨by rfl, rfl⟩) (by assumption) ?restA38
      try simp only [Act.put, List.setIfInBounds_toArray, List.set_cons_zero, List.set_cons_succ]
      refine take_dst (some 57) (i := 39) (v := undef) rfl rfl (by kernel_rfl) (by kernel_rfl) (by kernel_rfl) (fun _ _ _ h => h) (Or.inr ⟨by rfl, rfl⟩) (by assumption) ?restA39
      try simp only [Act.put, List.setIfInBounds_toArray, List.set_cons_zero, List.set_cons_succ]
      refine take_dst (some 58) (i := 40) (v := undef) rfl rfl (by kernel_rfl) (by kernel_rfl) (by kernel_rfl) (fun _ _ _ h => h) (Or.inr ⟨by rfl, rfl⟩) (by assumption) ?restA40
      try simp only [Act.put, List.setIfInBounds_toArray, List.set_cons_zero, List.set_cons_succ]
      refine take_dst (some 59) (i := 41) (v := undef) rfl rfl (by kernel_rfl) (by kernel_rfl) (by kernel_rfl) (fun _ _ _ h => h) (Or.inr ⟨by rfl, rfl⟩) (by assumption) ?restA41
      try simp only [Act.put, List.setIfInBounds_toArray, List.set_cons_zero, List.set_cons_succ]
      refine take_dst (some 60) (i := 42) (v := undef) rfl rfl (by kernel_rfl) (by kernel_rfl) (by kernel_rfl) (fun _ _ _ h => h) (Or.inr ⟨by rfl, rfl⟩) (by assumption) ?restA42
      try simp only [Act.put, List.setIfInBounds_toArray, List.set_cons_zero, List.set_cons_succ]
      refine take_dst (some 61) (i := 43) (v := undef) rfl rfl (by kernel_rfl) (by kernel_rfl) (by kernel_rfl) (fun _ _ _ h => h) (Or.inr ⟨by rfl, rfl⟩) (by assumption) ?restA43
      try simp only [Act.put, List.setIfInBounds_toArray, List.set_cons_zero, List.set_cons_succ]
      refine take_dst (some 62) (i := 44) (v := undef) rfl rfl (by kernel_rfl) (by kernel_rfl) (by kernel_rfl) (fun _ _ _ h => h) (Or.inr ⟨by rfl, rfl⟩) (by assumption) ?restA44
      try simp only [Act.put, List.setIfInBounds_toArray, List.set_cons_zero, List.set_cons_succ]
      refine take_dst (some 63) (i := 45) (v := undef) rfl rfl (by kernel_rfl) (by kernel_rfl) (by kernel_rfl) (fun _ _ _ h => h) (Or.inr ⟨by rfl, rfl⟩) (by assumption) ?restA45
      try simp only [Act.put, List.setIfInBounds_toArray, List.set_cons_zero, List.set_cons_succ]
      refine take_dst (some 64) (i := 46) (v := undef) rfl rfl (by kernel_rfl) (by kernel_rfl) (by kernel_rfl) (fun _ _ _ h => h) (Or.inr ⟨by rfl, rfl⟩) (by assumption) ?restA46
      try simp only [Act.put, List.setIfInBounds_toArray, List.set_cons_zero, List.set_cons_succ]
      refine take_dst (some 65) (i := 47) (v := undef) rfl rfl (by kernel_rfl) (by kernel_rfl) (by kernel_rfl) (fun _ _ _ h => h) (Or.inr ⟨by rfl, rfl⟩) (by assumption) ?restA47
      try simp only [Act.put, List.setIfInBounds_toArray, List.set_cons_zero, List.set_cons_succ]
      refine take_dst (some 66) (i := 48) (v := undef) rfl rfl (by kernel_rfl) (by kernel_rfl) (by kernel_rfl) (fun _ _ _ h => h) (Or.inr ⟨by rfl, rfl⟩) (by assumption) ?restA48
      try simp only [Act.put, List.setIfInBounds_toArray, List.set_cons_zero, List.set_cons_succ]
      refine take_dst (some 67) (i := 49) (v := ?vA49) rfl rfl (by kernel_rfl) (by kernel_rfl) (by kernel_rfl) (fun _ _ _ h => h) (Or.inl ⟨by rfl, fun wS hSw => ?hyA49⟩) (by assumption) ?restA49
      case hyA49 => (obtain ⟨s0, s1, s2, s3, s4, s5⟩ := hSw; go_simp; first | done | with_reducible rfl)
      try simp only [Act.put, List.setIfInBounds_toArray, List.set_cons_zero, List.set_cons_succ]
      refine wpAnyH_done (by kernel_rfl) ?_ _
      go_wp2_with fail
      go_ret
      exact ⟨by rw [hzz.out]; rfl, KB4.out⟩
    case pos =>
    have Hck : Hid (ckT t = 0) := by show _ = _; unfold ckT; rw [if_pos hok]
    by_cases ha : ra = za
    case neg =>
      have a1 : decide (ra = za) = false := by simpa using ha
      have a2 : (ra == za) = false := by simpa using ha
      have a3 : (ra != za) = true := by simpa using ha
      have hzz := Lib.hid (Hz.out.symm.trans (valid_no hlt (v_air Ht.out Htz.out (by rw [← Hra.out, ← Hza.out]; exact ha))))
      have KE := Lib.hid (HEl.out.ext (Below.refl wr.heap.size wr).drew)
      have KB := Lib.hid HBr.out.drew; have KT := Lib.hid (HTR.out.ext (Below.refl wr.heap.size wr).drew)
      have d1 := Lib.hid (cell_ext (Below.refl wr.heap.size wr).drew C1.out)
      have d2 := Lib.hid (cell_ext (Below.refl wr.heap.size wr).drew C2.out)
      have d3 := Lib.hid (cell_ext (Below.refl wr.heap.size wr).drew C3.out)
      have d4 := Lib.hid (cell_ext (Below.refl wr.heap.size wr).drew C4.out)
      have d5 := Lib.hid (cell_ext (Below.refl wr.heap.size wr).drew C5.out)
      refine wp_region_held_drew (S := fun w' => w'.rangeAt b (off + k * 35) rr.cells ∧ w'.cell? ⟨b, off + k * 35, none⟩ = some (.int .i64 ra) ∧ w'.cell? ⟨b, off + k * 35 + 1, none⟩ = some (.int .i64 rf) ∧ w'.cell? ⟨b, off + k * 35 + 2, none⟩ = some (.slice ro m rc) ∧ w'.cell? ⟨b, off, none⟩ = some (.int .i64 za) ∧ w'.cell? ⟨b, off + 2, none⟩ = some (.slice zo zm zc)) (by kernel_rfl) ⟨el_rng KE.out, d1.out, d2.out, d3.out, d4.out, d5.out⟩ (fun hHeld => ?_)
      clear HEl HBr HTR
      generalize wr.drew = w3 at *
      refine take_dst (some 18) (i := 0) (v := ?vB0) rfl rfl (by kernel_rfl) (by kernel_rfl) (by kernel_rfl) (fun _ _ _ h => h) (Or.inl ⟨by rfl, fun wS hSw => ?hyB0⟩) (by assumption) ?restB0
      case hyB0 => (obtain ⟨s0, s1, s2, s3, s4, s5⟩ := hSw; go_simp; first | done | with_reducible rfl)
      try simp only [Act.put, List.setIfInBounds_toArray, List.set_cons_zero, List.set_cons_succ]
      refine take_dst (some 19) (i := 1) (v := ?vB1) rfl rfl (by kernel_rfl) (by kernel_rfl) (by kernel_rfl) (fun _ _ _ h => h) (Or.inl ⟨by rfl, fun wS hSw => ?hyB1⟩) (by assumption) ?restB1
      case hyB1 => (obtain ⟨s0, s1, s2, s3, s4, s5⟩ := hSw; go_simp; first | done | with_reducible rfl)
      try simp only [Act.put, List.setIfInBounds_toArray, List.set_cons_zero, List.set_cons_succ]
      refine take_dst (some 20) (i := 2) (v := ?vB2) rfl rfl (by kernel_rfl) (by kernel_rfl) (by kernel_rfl) (fun _ _ _ h => h) (Or.inl ⟨by rfl, fun wS hSw => ?hyB2⟩) (by assumption) ?restB2
      case hyB2 => (obtain ⟨s0, s1, s2, s3, s4, s5⟩ := hSw; go_simp; first | done | with_reducible rfl)
      try simp only [Act.put, List.setIfInBounds_toArray, List.set_cons_zero, List.set_cons_succ]
      refine take_dst (some 21) (i := 3) (v := rr.v) rfl rfl (by kernel_rfl) (by kernel_rfl) (by kernel_rfl) (fun _ _ _ h => h) (yieldsIf_load_mid (by rfl) 31 _ rfl b (off + k * 35) rfl rr.cells _ (fun wS hSw => by obtain ⟨s0, s1, s2, s3, s4, s5⟩ := hSw; exact s0) Tryd.underlying31 rfl (by rw [tb_len]; exact tb_sz)) (by assumption) ?restB3
      try simp only [Act.put, List.setIfInBounds_toArray, List.set_cons_zero, List.set_cons_succ]
      refine wpAnyH_ready (rs := [4]) (by kernel_rfl) (by simp) ?_
      refine AllReadyH.cons rfl (fun K hK => ?_) AllReadyH.nil
      go_simp
      refine (HCK.out w3 KT.out).mono ?_
      rintro e w4 ⟨rfl, hb4⟩
      rw [Hck.out]
      have KE4 := Lib.hid (KE.out.ext hb4)
      have KB4 := Lib.hid (below_ext KB.out hb4)
      have q1 := Lib.hid (cell_ext hb4 d1.out)
      have q2 := Lib.hid (cell_ext hb4 d2.out)
      have q3 := Lib.hid (cell_ext hb4 d3.out)
      have q4 := Lib.hid (cell_ext hb4 d4.out)
      have q5 := Lib.hid (cell_ext hb4 d5.out)
      clear hb4 KB KT KE d1 d2 d3 d4 d5
      refine hK.out _ _ ⟨el_rng KE4.out, q1.out, q2.out, q3.out, q4.out, q5.out⟩ (fun hHeld => ?_)
      clear hK K
      try simp only [Act.put, List.setIfInBounds_toArray, List.set_cons_zero, List.set_cons_succ]
      refine take_dst (some 23) (i := 5) (v := ?vB5) rfl rfl (by kernel_rfl) (by kernel_rfl) (by kernel_rfl) (fun _ _ _ h => h) (Or.inl ⟨by rfl, fun wS hSw => ?hyB5⟩) (by assumption) ?restB5
      case hyB5 => (obtain ⟨s0, s1, s2, s3, s4, s5⟩ := hSw; go_simp; first | done | with_reducible rfl)
      try simp only [Act.put, List.setIfInBounds_toArray, List.set_cons_zero, List.set_cons_succ]
      refine take_dst (some 24) (i := 6) (v := ?vB6) rfl rfl (by kernel_rfl) (by kernel_rfl) (by kernel_rfl) (fun _ _ _ h => h) (Or.inl ⟨by rfl, fun wS hSw => ?hyB6⟩) (by assumption) ?restB6
      case hyB6 => (obtain ⟨s0, s1, s2, s3, s4, s5⟩ := hSw; go_simp; first | done | with_reducible rfl)
      try simp only [Act.put, List.setIfInBounds_toArray, List.set_cons_zero, List.set_cons_succ]
      refine take_dst (some 25) (i := 7) (v := ?vB7) rfl rfl (by kernel_rfl) (by kernel_rfl) (by kernel_rfl) (fun _ _ _ h => h) (Or.inl ⟨by rfl, fun wS hSw => ?hyB7⟩) (by assumption) ?restB7
      case hyB7 => (obtain ⟨s0, s1, s2, s3, s4, s5⟩ := hSw; go_simp; first | done | with_reducible rfl)
      try simp only [Act.put, List.setIfInBounds_toArray, List.set_cons_zero, List.set_cons_succ]
      refine take_dst (some 26) (i := 8) (v := ?vB8) rfl rfl (by kernel_rfl) (by kernel_rfl) (by kernel_rfl) (fun _ _ _ h => h) (Or.inl ⟨by rfl, fun wS hSw => ?hyB8⟩) (by assumption) ?restB8
      case hyB8 => (obtain ⟨s0, s1, s2, s3, s4, s5⟩ := hSw; go_simp; first | done | with_reducible rfl)
      try simp only [Act.put, List.setIfInBounds_toArray, List.set_cons_zero, List.set_cons_succ]
      refine take_dst (some 27) (i := 9) (v := ?vB9) rfl rfl (by kernel_rfl) (by kernel_rfl) (by kernel_rfl) (fun _ _ _ h => h) (Or.inl ⟨by rfl, fun wS hSw => ?hyB9⟩) (by assumption) ?restB9
      case hyB9 => (obtain ⟨s0, s1, s2, s3, s4, s5⟩ := hSw; go_simp; first | done | with_reducible rfl)
      try simp only [Act.put, List.setIfInBounds_toArray, List.set_cons_zero, List.set_cons_succ]
      refine take_dst (some 28) (i := 10) (v := ?vB10) rfl rfl (by kernel_rfl) (by kernel_rfl) (by kernel_rfl) (fun _ _ _ h => h) (Or.inl ⟨by rfl, fun wS hSw => ?hyB10⟩) (by assumption) ?restB10
      case hyB10 => (obtain ⟨s0, s1, s2, s3, s4, s5⟩ := hSw; go_simp; first | done | with_reducible rfl)
      try simp only [Act.put, List.setIfInBounds_toArray, List.set_cons_zero, List.set_cons_succ]
      refine take_dst (some 29) (i := 11) (v := ?vB11) rfl rfl (by kernel_rfl) (by kernel_rfl) (by kernel_rfl) (fun _ _ _ h => h) (Or.inl ⟨by rfl, fun wS hSw => ?hyB11⟩) (by assumption) ?restB11
      case hyB11 => (obtain ⟨s0, s1, s2, s3, s4, s5⟩ := hSw; go_simp; first | done | with_reducible rfl)
      try simp only [Act.put, List.setIfInBounds_toArray, List.set_cons_zero, List.set_cons_succ]
      refine take_dst (some 30) (i := 12) (v := ?vB12) rfl rfl (by kernel_rfl) (by kernel_rfl) (by kernel_rfl) (fun _ _ _ h => h) (Or.inl ⟨by rfl, fun wS hSw => ?hyB12⟩) (by assumption) ?restB12
      case hyB12 => (obtain ⟨s0, s1, s2, s3, s4, s5⟩ := hSw; go_simp; first | done | with_reducible rfl)
      try simp only [Act.put, List.setIfInBounds_toArray, List.set_cons_zero, List.set_cons_succ]
      refine take_dst (some 31) (i := 13) (v := ?vB13) rfl rfl (by kernel_rfl) (by kernel_rfl) (by kernel_rfl) (fun _ _ _ h => h) (Or.inl ⟨by rfl, fun wS hSw => ?hyB13⟩) (by assumption) ?restB13
      case hyB13 => (obtain ⟨s0, s1, s2, s3, s4, s5⟩ := hSw; go_simp; first | done | with_reducible rfl)
      try simp only [Act.put, List.setIfInBounds_toArray, List.set_cons_zero, List.set_cons_succ]
      refine take_dst (some 32) (i := 14) (v := ?vB14) rfl rfl (by kernel_rfl) (by kernel_rfl) (by kernel_rfl) (fun _ _ _ h => h) (Or.inl ⟨by rfl, fun wS hSw => ?hyB14⟩) (by assumption) ?restB14
      case hyB14 => (obtain ⟨s0, s1, s2, s3, s4, s5⟩ := hSw; go_simp; first | done | with_reducible rfl)
      try simp only [Act.put, List.setIfInBounds_toArray, List.set_cons_zero, List.set_cons_succ]
      refine take_dst (some 33) (i := 15) (v := ?vB15) rfl rfl (by kernel_rfl) (by kernel_rfl) (by kernel_rfl) (fun _ _ _ h => h) (Or.inl ⟨by rfl, fun wS hSw => ?hyB15⟩) (by assumption) ?restB15
      case hyB15 => (obtain ⟨s0, s1, s2, s3, s4, s5⟩ := hSw; go_simp; first | done | with_reducible rfl)
      try simp only [Act.put, List.setIfInBounds_toArray, List.set_cons_zero, List.set_cons_succ]
      refine take_dst (some 34) (i := 16) (v := ?vB16) rfl rfl (by kernel_rfl) (by kernel_rfl) (by kernel_rfl) (fun _ _ _ h => h) (Or.inl ⟨by rfl, fun wS hSw => ?hyB16⟩) (by assumption) ?restB16
      case hyB16 => (obtain ⟨s0, s1, s2, s3, s4, s5⟩ := hSw; go_simp; first | done | with_reducible rfl)
      try simp only [Act.put, List.setIfInBounds_toArray, List.set_cons_zero, List.set_cons_succ]
      refine take_dst (some 35) (i := 17) (v := ?vB17) rfl rfl (by kernel_rfl) (by kernel_rfl) (by kernel_rfl) (fun _ _ _ h => h) (Or.inl ⟨by rfl, fun wS hSw => ?hyB17⟩) (by assumption) ?restB17
      case hyB17 => (obtain ⟨s0, s1, s2, s3, s4, s5⟩ := hSw; go_simp; first | done | with_reducible rfl)
      try simp only [Act.put, List.setIfInBounds_toArray, List.set_cons_zero, List.set_cons_succ]
      refine take_dst (some 36) (i := 18) (v := ?vB18) rfl rfl (by kernel_rfl) (by kernel_rfl) (by kernel_rfl) (fun _ _ _ h => h) (Or.inl ⟨by rfl, fun wS hSw => ?hyB18⟩) (by assumption) ?restB18
      case hyB18 => (obtain ⟨s0, s1, s2, s3, s4, s5⟩ := hSw; go_simp; first | done | with_reducible rfl)
      try simp only [Act.put, List.setIfInBounds_toArray, List.set_cons_zero, List.set_cons_succ]
      refine take_dst (some 37) (i := 19) (v := undef) rfl rfl (by kernel_rfl) (by kernel_rfl) (by kernel_rfl) (fun _ _ _ h => h) (Or.inr ⟨by rfl, rfl⟩) (by assumption) ?restB19
      try simp only [Act.put, List.setIfInBounds_toArray, List.set_cons_zero, List.set_cons_succ]
      refine take_dst (some 38) (i := 20) (v := undef) rfl rfl (by kernel_rfl) (by kernel_rfl) (by kernel_rfl) (fun _ _ _ h => h) (Or.inr ⟨by rfl, rfl⟩) (by assumption) ?restB20
      try simp only [Act.put, List.setIfInBounds_toArray, List.set_cons_zero, List.set_cons_succ]
      refine take_dst (some 39) (i := 21) (v := undef) rfl rfl (by kernel_rfl) (by kernel_rfl) (by kernel_rfl) (fun _ _ _ h => h) (Or.inr ⟨by rfl, rfl⟩) (by assumption) ?restB21
      try simp only [Act.put, List.setIfInBounds_toArray, List.set_cons_zero, List.set_cons_succ]
      refine take_dst (some 40) (i := 22) (v := undef) rfl rfl (by kernel_rfl) (by kernel_rfl) (by kernel_rfl) (fun _ _ _ h => h) (Or.inr ⟨by rfl, rfl⟩) (by assumption) ?restB22
      try simp only [Act.put, List.setIfInBounds_toArray, List.set_cons_zero, List.set_cons_succ]
      refine take_dst (some 41) (i := 23) (v := undef) rfl rfl (by kernel_rfl) (by kernel_rfl) (by kernel_rfl) (fun _ _ _ h => h) (Or.inr ⟨by rfl, rfl⟩) (by assumption) ?restB23
      try simp only [Act.put, List.setIfInBounds_toArray, List.set_cons_zero, List.set_cons_succ]
      refine take_dst (some 42) (i := 24) (v := undef) rfl rfl (by kernel_rfl) (by kernel_rfl) (by kernel_rfl) (fun _ _ _ h => h) (Or.inr ⟨by rfl, rfl⟩) (by assumption) ?restB24
      try simp only [Act.put, List.setIfInBounds_toArray, List.set_cons_zero, List.set_cons_succ]
      refine take_dst (some 43) (i := 25) (v := undef) rfl rfl (by kernel_rfl) (by kernel_rfl) (by kernel_rfl) (fun _ _ _ h => h) (Or.inr ⟨by rfl, rfl⟩) (by assumption) ?restB25
      try simp only [Act.put, List.setIfInBounds_toArray, List.set_cons_zero, List.set_cons_succ]
      refine take_dst (some 44) (i := 26) (v := undef) rfl rfl (by kernel_rfl) (by kernel_rfl) (by kernel_rfl) (fun _ _ _ h => h) (Or.inr ⟨by rfl, rfl⟩) (by assumption) ?restB26
      try simp only [Act.put, List.setIfInBounds_toArray, List.set_cons_zero, List.set_cons_succ]
      refine take_dst (some 45) (i := 27) (v := undef) rfl rfl (by kernel_rfl) (by kernel_rfl) (by kernel_rfl) (fun _ _ _ h => h) (Or.inr ⟨by rfl, rfl⟩) (by assumption) ?restB27
      try simp only [Act.put, List.setIfInBounds_toArray, List.set_cons_zero, List.set_cons_succ]
      refine take_dst (some 46) (i := 28) (v := undef) rfl rfl (by kernel_rfl) (by kernel_rfl) (by kernel_rfl) (fun _ _ _ h => h) (Or.inr ⟨by rfl, rfl⟩) (by assumption) ?restB28
      try simp only [Act.put, List.setIfInBounds_toArray, List.set_cons_zero, List.set_cons_succ]
      refine take_dst (some 47) (i := 29) (v := undef) rfl rfl (by kernel_rfl) (by kernel_rfl) (by kernel_rfl) (fun _ _ _ h => h) (Or.inr ⟨by rfl, rfl⟩) (by assumption) ?restB29
      try simp only [Act.put, List.setIfInBounds_toArray, List.set_cons_zero, List.set_cons_succ]
      refine take_dst (some 48) (i := 30) (v := undef) rfl rfl (by kernel_rfl) (by kernel_rfl) (by kernel_rfl) (fun _ _ _ h => h) (Or.inr ⟨by rfl, rfl⟩) (by assumption) ?restB30
      try simp only [Act.put, List.setIfInBounds_toArray, List.set_cons_zero, List.set_cons_succ]
      refine take_dst (some 49) (i := 31) (v := ?vB31) rfl rfl (by kernel_rfl) (by kernel_rfl) (by kernel_rfl) (fun _ _ _ h => h) (Or.inl ⟨by rfl, fun wS hSw => ?hyB31⟩) (by assumption) ?restB31
      case hyB31 => (obtain ⟨s0, s1, s2, s3, s4, s5⟩ := hSw; go_simp; first | done | with_reducible rfl)
      try simp only [Act.put, List.setIfInBounds_toArray, List.set_cons_zero, List.set_cons_succ]
      refine take_dst (some 50) (i := 32) (v := ?vB32) rfl rfl (by kernel_rfl) (by kernel_rfl) (by kernel_rfl) (fun _ _ _ h => h) (Or.inl ⟨by rfl, fun wS hSw => ?hyB32⟩) (by assumption) ?restB32
      case hyB32 => (obtain ⟨s0, s1, s2, s3, s4, s5⟩ := hSw; go_simp; first | done | with_reducible rfl)
      try simp only [Act.put, List.setIfInBounds_toArray, List.set_cons_zero, List.set_cons_succ]
      refine take_dst (some 51) (i := 33) (v := undef) rfl rfl (by kernel_rfl) (by kernel_rfl) (by kernel_rfl) (fun _ _ _ h => h) (Or.inr ⟨by rfl, rfl⟩) (by assumption) ?restB33
      try simp only [Act.put, List.setIfInBounds_toArray, List.set_cons_zero, List.set_cons_succ]
      refine take_dst (some 52) (i := 34) (v := undef) rfl rfl (by kernel_rfl) (by kernel_rfl) (by kernel_rfl) (fun _ _ _ h => h) (Or.inr ⟨by rfl, rfl⟩) (by assumption) ?restB34
      try simp only [Act.put, List.setIfInBounds_toArray, List.set_cons_zero, List.set_cons_succ]
      refine take_dst (some 53) (i := 35) (v := undef) rfl rfl (by kernel_rfl) (by kernel_rfl) (by kernel_rfl) (fun _ _ _ h => h) (Or.inr ⟨by rfl, rfl⟩) (by assumption) ?restB35
      try simp only [Act.put, List.setIfInBounds_toArray, List.set_cons_zero, List.set_cons_succ]
      refine take_dst (some 54) (i := 36) (v := undef) rfl rfl (by kernel_rfl) (by kernel_rfl) (by kernel_rfl) (fun _ _ _ h => h) (Or.inr ⟨by rfl, rfl⟩) (by assumption) ?restB36
      try simp only [Act.put, List.setIfInBounds_toArray, List.set_cons_zero, List.set_cons_succ]
      refine take_dst (some 55) (i := 37) (v := undef) rfl rfl (by kernel_rfl) (by kernel_rfl) (by kernel_rfl) (fun _ _ _ h => h) (Or.inr ⟨by rfl, rfl⟩) (by assumption) ?restB37
      try simp only [Act.put, List.setIfInBounds_toArray, List.set_cons_zero, List.set_cons_succ]
      refine take_dst (some 56) (i := 38) (v := undef) rfl rfl (by kernel_rfl) (by kernel_rfl) (by kernel_rfl) (fun _ _ _ h => h) (Or.inr ⟨by rfl, rfl⟩) (by assumption) ?restB38
      try simp only [Act.put, List.setIfInBounds_toArray, List.set_cons_zero, List.set_cons_succ]
      refine take_dst (some 57) (i := 39) (v := undef) rfl rfl (by kernel_rfl) (by kernel_rfl) (by kernel_rfl) (fun _ _ _ h => h) (Or.inr ⟨by rfl, rfl⟩) (by assumption) ?restB39
      try simp only [Act.put, List.setIfInBounds_toArray, List.set_cons_zero, List.set_cons_succ]
      refine take_dst (some 58) (i := 40) (v := undef) rfl rfl (by kernel_rfl) (by kernel_rfl) (by kernel_rfl) (fun _ _ _ h => h) (Or.inr ⟨by rfl, rfl⟩) (by assumption) ?restB40
      try simp only [Act.put, List.setIfInBounds_toArray, List.set_cons_zero, List.set_cons_succ]
      refine take_dst (some 59) (i := 41) (v := undef) rfl rfl (by kernel_rfl) (by kernel_rfl) (by kernel_rfl) (fun _ _ _ h => h) (Or.inr ⟨by rfl, rfl⟩) (by assumption) ?restB41
      try simp only [Act.put, List.setIfInBounds_toArray, List.set_cons_zero, List.set_cons_succ]
      refine take_dst (some 60) (i := 42) (v := undef) rfl rfl (by kernel_rfl) (by kernel_rfl) (by kernel_rfl) (fun _ _ _ h => h) (Or.inr ⟨by rfl, rfl⟩) (by assumption) ?restB42
      try simp only [Act.put, List.setIfInBounds_toArray, List.set_cons_zero, List.set_cons_succ]
      refine take_dst (some 61) (i := 43) (v := undef) rfl rfl (by kernel_rfl) (by kernel_rfl) (by kernel_rfl) (fun _ _ _ h => h) (Or.inr ⟨by rfl, rfl⟩) (by assumption) ?restB43
      try simp only [Act.put, List.setIfInBounds_toArray, List.set_cons_zero, List.set_cons_succ]
      refine take_dst (some 62) (i := 44) (v := undef) rfl rfl (by kernel_rfl) (by kernel_rfl) (by kernel_rfl) (fun _ _ _ h => h) (Or.inr ⟨by rfl, rfl⟩) (by assumption) ?restB44
      try simp only [Act.put, List.setIfInBounds_toArray, List.set_cons_zero, List.set_cons_succ]
      refine take_dst (some 63) (i := 45) (v := undef) rfl rfl (by kernel_rfl) (by kernel_rfl) (by kernel_rfl) (fun _ _ _ h => h) (Or.inr ⟨by rfl, rfl⟩) (by assumption) ?restB45
      try simp only [Act.put, List.setIfInBounds_toArray, List.set_cons_zero, List.set_cons_succ]
      refine take_dst (some 64) (i := 46) (v := undef) rfl rfl (by kernel_rfl) (by kernel_rfl) (by kernel_rfl) (fun _ _ _ h => h) (Or.inr ⟨by rfl, rfl⟩) (by assumption) ?restB46
      try simp only [Act.put, List.setIfInBounds_toArray, List.set_cons_zero, List.set_cons_succ]
      refine take_dst (some 65) (i := 47) (v := undef) rfl rfl (by kernel_rfl) (by kernel_rfl) (by kernel_rfl) (fun _ _ _ h => h) (Or.inr ⟨by rfl, rfl⟩) (by assumption) ?restB47
      try simp only [Act.put, List.setIfInBounds_toArray, List.set_cons_zero, List.set_cons_succ]
      refine take_dst (some 66) (i := 48) (v := undef) rfl rfl (by kernel_rfl) (by kernel_rfl) (by kernel_rfl) (fun _ _ _ h => h) (Or.inr ⟨by rfl, rfl⟩) (by assumption) ?restB48
      try simp only [Act.put, List.setIfInBounds_toArray, List.set_cons_zero, List.set_cons_succ]
      refine take_dst (some 67) (i := 49) (v := ?vB49) rfl rfl (by kernel_rfl) (by kernel_rfl) (by kernel_rfl) (fun _ _ _ h => h) (Or.inl ⟨by rfl, fun wS hSw => ?hyB49⟩) (by assumption) ?restB49
      case hyB49 => (obtain ⟨s0, s1, s2, s3, s4, s5⟩ := hSw; go_simp; first | done | with_reducible rfl)
      try simp only [Act.put, List.setIfInBounds_toArray, List.set_cons_zero, List.set_cons_succ]
      refine wpAnyH_done (by kernel_rfl) ?_ _
      go_wp2_with fail
      go_ret
      exact ⟨by rw [hzz.out]; rfl, KB4.out⟩
    case pos =>
    have a1 : decide (ra = za) = true := by simpa using ha
    have a2 : (ra == za) = true := by simpa using ha
    have a3 : (ra != za) = false := by simpa using ha
    by_cases hmm : m = zm
    case neg =>
      have m1 : decide ((m : Int) = (zm : Int)) = false := by simp; omega
      have m2 : ((m : Int) == (zm : Int)) = false := by rw [beq_eq_false_iff_ne]; omega
      have m3 : decide (m = zm) = false := by simpa using hmm
      have m4 : ((m : Int) != (zm : Int)) = true := by rw [bne_iff_ne]; omega
      have hzz := Lib.hid (Hz.out.symm.trans (valid_no hlt (v_len Ht.out Htz.out (by rw [← Hm.out, ← Hzm.out]; exact hmm))))
      have KE := Lib.hid (HEl.out.ext (Below.refl wr.heap.size wr).drew)
      have KB := Lib.hid HBr.out.drew; have KT := Lib.hid (HTR.out.ext (Below.refl wr.heap.size wr).drew)
      have d1 := Lib.hid (cell_ext (Below.refl wr.heap.size wr).drew C1.out)
      have d2 := Lib.hid (cell_ext (Below.refl wr.heap.size wr).drew C2.out)
      have d3 := Lib.hid (cell_ext (Below.refl wr.heap.size wr).drew C3.out)
      have d4 := Lib.hid (cell_ext (Below.refl wr.heap.size wr).drew C4.out)
      have d5 := Lib.hid (cell_ext (Below.refl wr.heap.size wr).drew C5.out)
      refine wp_region_held_drew (S := fun w' => w'.rangeAt b (off + k * 35) rr.cells ∧ w'.cell? ⟨b, off + k * 35, none⟩ = some (.int .i64 ra) ∧ w'.cell? ⟨b, off + k * 35 + 1, none⟩ = some (.int .i64 rf) ∧ w'.cell? ⟨b, off + k * 35 + 2, none⟩ = some (.slice ro m rc) ∧ w'.cell? ⟨b, off, none⟩ = some (.int .i64 za) ∧ w'.cell? ⟨b, off + 2, none⟩ = some (.slice zo zm zc)) (by kernel_rfl) ⟨el_rng KE.out, d1.out, d2.out, d3.out, d4.out, d5.out⟩ (fun hHeld => ?_)
      clear HEl HBr HTR
      generalize wr.drew = w3 at *
      refine take_dst (some 18) (i := 0) (v := ?vC0) rfl rfl (by kernel_rfl) (by kernel_rfl) (by kernel_rfl) (fun _ _ _ h => h) (Or.inl ⟨by rfl, fun wS hSw => ?hyC0⟩) (by assumption) ?restC0
      case hyC0 => (obtain ⟨s0, s1, s2, s3, s4, s5⟩ := hSw; go_simp; first | done | with_reducible rfl)
      try simp only [Act.put, List.setIfInBounds_toArray, List.set_cons_zero, List.set_cons_succ]
      refine take_dst (some 19) (i := 1) (v := ?vC1) rfl rfl (by kernel_rfl) (by kernel_rfl) (by kernel_rfl) (fun _ _ _ h => h) (Or.inl ⟨by rfl, fun wS hSw => ?hyC1⟩) (by assumption) ?restC1
      case hyC1 => (obtain ⟨s0, s1, s2, s3, s4, s5⟩ := hSw; go_simp; first | done | with_reducible rfl)
      try simp only [Act.put, List.setIfInBounds_toArray, List.set_cons_zero, List.set_cons_succ]
      refine take_dst (some 20) (i := 2) (v := ?vC2) rfl rfl (by kernel_rfl) (by kernel_rfl) (by kernel_rfl) (fun _ _ _ h => h) (Or.inl ⟨by rfl, fun wS hSw => ?hyC2⟩) (by assumption) ?restC2
      case hyC2 => (obtain ⟨s0, s1, s2, s3, s4, s5⟩ := hSw; go_simp; first | done | with_reducible rfl)
      try simp only [Act.put, List.setIfInBounds_toArray, List.set_cons_zero, List.set_cons_succ]
      refine take_dst (some 21) (i := 3) (v := rr.v) rfl rfl (by kernel_rfl) (by kernel_rfl) (by kernel_rfl) (fun _ _ _ h => h) (yieldsIf_load_mid (by rfl) 31 _ rfl b (off + k * 35) rfl rr.cells _ (fun wS hSw => by obtain ⟨s0, s1, s2, s3, s4, s5⟩ := hSw; exact s0) Tryd.underlying31 rfl (by rw [tb_len]; exact tb_sz)) (by assumption) ?restC3
      try simp only [Act.put, List.setIfInBounds_toArray, List.set_cons_zero, List.set_cons_succ]
      refine wpAnyH_ready (rs := [4]) (by kernel_rfl) (by simp) ?_
      refine AllReadyH.cons rfl (fun K hK => ?_) AllReadyH.nil
      go_simp
      refine (HCK.out w3 KT.out).mono ?_
      rintro e w4 ⟨rfl, hb4⟩
      rw [Hck.out]
      have KE4 := Lib.hid (KE.out.ext hb4)
      have KB4 := Lib.hid (below_ext KB.out hb4)
      have q1 := Lib.hid (cell_ext hb4 d1.out)
      have q2 := Lib.hid (cell_ext hb4 d2.out)
      have q3 := Lib.hid (cell_ext hb4 d3.out)
      have q4 := Lib.hid (cell_ext hb4 d4.out)
      have q5 := Lib.hid (cell_ext hb4 d5.out)
      clear hb4 KB KT KE d1 d2 d3 d4 d5
      refine hK.out _ _ ⟨el_rng KE4.out, q1.out, q2.out, q3.out, q4.out, q5.out⟩ (fun hHeld => ?_)
      clear hK K
      try simp only [Act.put, List.setIfInBounds_toArray, List.set_cons_zero, List.set_cons_succ]
      refine take_dst (some 23) (i := 5) (v := ?vC5) rfl rfl (by kernel_rfl) (by kernel_rfl) (by kernel_rfl) (fun _ _ _ h => h) (Or.inl ⟨by rfl, fun wS hSw => ?hyC5⟩) (by assumption) ?restC5
      case hyC5 => (obtain ⟨s0, s1, s2, s3, s4, s5⟩ := hSw; go_simp; first | done | with_reducible rfl)
      try simp only [Act.put, List.setIfInBounds_toArray, List.set_cons_zero, List.set_cons_succ]
      refine take_dst (some 24) (i := 6) (v := ?vC6) rfl rfl (by kernel_rfl) (by kernel_rfl) (by kernel_rfl) (fun _ _ _ h => h) (Or.inl ⟨by rfl, fun wS hSw => ?hyC6⟩) (by assumption) ?restC6
      case hyC6 => (obtain ⟨s0, s1, s2, s3, s4, s5⟩ := hSw; go_simp; first | done | with_reducible rfl)
      try simp only [Act.put, List.setIfInBounds_toArray, List.set_cons_zero, List.set_cons_succ]
      refine take_dst (some 25) (i := 7) (v := ?vC7) rfl rfl (by kernel_rfl) (by kernel_rfl) (by kernel_rfl) (fun _ _ _ h => h) (Or.inl ⟨by rfl, fun wS hSw => ?hyC7⟩) (by assumption) ?restC7
      case hyC7 => (obtain ⟨s0, s1, s2, s3, s4, s5⟩ := hSw; go_simp; first | done | with_reducible rfl)
      try simp only [Act.put, List.setIfInBounds_toArray, List.set_cons_zero, List.set_cons_succ]
      refine take_dst (some 26) (i := 8) (v := ?vC8) rfl rfl (by kernel_rfl) (by kernel_rfl) (by kernel_rfl) (fun _ _ _ h => h) (Or.inl ⟨by rfl, fun wS hSw => ?hyC8⟩) (by assumption) ?restC8
      case hyC8 => (obtain ⟨s0, s1, s2, s3, s4, s5⟩ := hSw; go_simp; first | done | with_reducible rfl)
      try simp only [Act.put, List.setIfInBounds_toArray, List.set_cons_zero, List.set_cons_succ]
      refine take_dst (some 27) (i := 9) (v := ?vC9) rfl rfl (by kernel_rfl) (by kernel_rfl) (by kernel_rfl) (fun _ _ _ h => h) (Or.inl ⟨by rfl, fun wS hSw => ?hyC9⟩) (by assumption) ?restC9
      case hyC9 => (obtain ⟨s0, s1, s2, s3, s4, s5⟩ := hSw; go_simp; first | done | with_reducible rfl)
      try simp only [Act.put, List.setIfInBounds_toArray, List.set_cons_zero, List.set_cons_succ]
      refine take_dst (some 28) (i := 10) (v := ?vC10) rfl rfl (by kernel_rfl) (by kernel_rfl) (by kernel_rfl) (fun _ _ _ h => h) (Or.inl ⟨by rfl, fun wS hSw => ?hyC10⟩) (by assumption) ?restC10
      case hyC10 => (obtain ⟨s0, s1, s2, s3, s4, s5⟩ := hSw; go_simp; first | done | with_reducible rfl)
      try simp only [Act.put, List.setIfInBounds_toArray, List.set_cons_zero, List.set_cons_succ]
      refine take_dst (some 29) (i := 11) (v := ?vC11) rfl rfl (by kernel_rfl) (by kernel_rfl) (by kernel_rfl) (fun _ _ _ h => h) (Or.inl ⟨by rfl, fun wS hSw => ?hyC11⟩) (by assumption) ?restC11
      case hyC11 => (obtain ⟨s0, s1, s2, s3, s4, s5⟩ := hSw; go_simp; first | done | with_reducible rfl)
      try simp only [Act.put, List.setIfInBounds_toArray, List.set_cons_zero, List.set_cons_succ]
      refine take_dst (some 30) (i := 12) (v := ?vC12) rfl rfl (by kernel_rfl) (by kernel_rfl) (by kernel_rfl) (fun _ _ _ h => h) (Or.inl ⟨by rfl, fun wS hSw => ?hyC12⟩) (by assumption) ?restC12
      case hyC12 => (obtain ⟨s0, s1, s2, s3, s4, s5⟩ := hSw; go_simp; first | done | with_reducible rfl)
      try simp only [Act.put, List.setIfInBounds_toArray, List.set_cons_zero, List.set_cons_succ]
      refine take_dst (some 31) (i := 13) (v := ?vC13) rfl rfl (by kernel_rfl) (by kernel_rfl) (by kernel_rfl) (fun _ _ _ h => h) (Or.inl ⟨by rfl, fun wS hSw => ?hyC13⟩) (by assumption) ?restC13
      case hyC13 => (obtain ⟨s0, s1, s2, s3, s4, s5⟩ := hSw; go_simp; first | done | with_reducible rfl)
      try simp only [Act.put, List.setIfInBounds_toArray, List.set_cons_zero, List.set_cons_succ]
      refine take_dst (some 32) (i := 14) (v := ?vC14) rfl rfl (by kernel_rfl) (by kernel_rfl) (by kernel_rfl) (fun _ _ _ h => h) (Or.inl ⟨by rfl, fun wS hSw => ?hyC14⟩) (by assumption) ?restC14
      case hyC14 => (obtain ⟨s0, s1, s2, s3, s4, s5⟩ := hSw; go_simp; first | done | with_reducible rfl)
      try simp only [Act.put, List.setIfInBounds_toArray, List.set_cons_zero, List.set_cons_succ]
      refine take_dst (some 33) (i := 15) (v := ?vC15) rfl rfl (by kernel_rfl) (by kernel_rfl) (by kernel_rfl) (fun _ _ _ h => h) (Or.inl ⟨by rfl, fun wS hSw => ?hyC15⟩) (by assumption) ?restC15
      case hyC15 => (obtain ⟨s0, s1, s2, s3, s4, s5⟩ := hSw; go_simp; first | done | with_reducible rfl)
      try simp only [Act.put, List.setIfInBounds_toArray, List.set_cons_zero, List.set_cons_succ]
      refine take_dst (some 34) (i := 16) (v := ?vC16) rfl rfl (by kernel_rfl) (by kernel_rfl) (by kernel_rfl) (fun _ _ _ h => h) (Or.inl ⟨by rfl, fun wS hSw => ?hyC16⟩) (by assumption) ?restC16
      case hyC16 => (obtain ⟨s0, s1, s2, s3, s4, s5⟩ := hSw; go_simp; first | done | with_reducible rfl)
      try simp only [Act.put, List.setIfInBounds_toArray, List.set_cons_zero, List.set_cons_succ]
      refine take_dst (some 35) (i := 17) (v := ?vC17) rfl rfl (by kernel_rfl) (by kernel_rfl) (by kernel_rfl) (fun _ _ _ h => h) (Or.inl ⟨by rfl, fun wS hSw => ?hyC17⟩) (by assumption) ?restC17
      case hyC17 => (obtain ⟨s0, s1, s2, s3, s4, s5⟩ := hSw; go_simp; first | done | with_reducible rfl)
      try simp only [Act.put, List.setIfInBounds_toArray, List.set_cons_zero, List.set_cons_succ]
      refine take_dst (some 36) (i := 18) (v := ?vC18) rfl rfl (by kernel_rfl) (by kernel_rfl) (by kernel_rfl) (fun _ _ _ h => h) (Or.inl ⟨by rfl, fun wS hSw => ?hyC18⟩) (by assumption) ?restC18
      case hyC18 => (obtain ⟨s0, s1, s2, s3, s4, s5⟩ := hSw; go_simp; first | done | with_reducible rfl)
      try simp only [Act.put, List.setIfInBounds_toArray, List.set_cons_zero, List.set_cons_succ]
      refine take_dst (some 37) (i := 19) (v := ?vC19) rfl rfl (by kernel_rfl) (by kernel_rfl) (by kernel_rfl) (fun _ _ _ h => h) (Or.inl ⟨by rfl, fun wS hSw => ?hyC19⟩) (by assumption) ?restC19
      case hyC19 => (obtain ⟨s0, s1, s2, s3, s4, s5⟩ := hSw; go_simp; first | done | with_reducible rfl)
      try simp only [Act.put, List.setIfInBounds_toArray, List.set_cons_zero, List.set_cons_succ]
      refine take_dst (some 38) (i := 20) (v := ?vC20) rfl rfl (by kernel_rfl) (by kernel_rfl) (by kernel_rfl) (fun _ _ _ h => h) (Or.inl ⟨by rfl, fun wS hSw => ?hyC20⟩) (by assumption) ?restC20
      case hyC20 => (obtain ⟨s0, s1, s2, s3, s4, s5⟩ := hSw; go_simp; first | done | with_reducible rfl)
      try simp only [Act.put, List.setIfInBounds_toArray, List.set_cons_zero, List.set_cons_succ]
      refine take_dst (some 39) (i := 21) (v := ?vC21) rfl rfl (by kernel_rfl) (by kernel_rfl) (by kernel_rfl) (fun _ _ _ h => h) (Or.inl ⟨by rfl, fun wS hSw => ?hyC21⟩) (by assumption) ?restC21
      case hyC21 => (obtain ⟨s0, s1, s2, s3, s4, s5⟩ := hSw; go_simp; first | done | with_reducible rfl)
      try simp only [Act.put, List.setIfInBounds_toArray, List.set_cons_zero, List.set_cons_succ]
      refine take_dst (some 40) (i := 22) (v := ?vC22) rfl rfl (by kernel_rfl) (by kernel_rfl) (by kernel_rfl) (fun _ _ _ h => h) (Or.inl ⟨by rfl, fun wS hSw => ?hyC22⟩) (by assumption) ?restC22
      case hyC22 => (obtain ⟨s0, s1, s2, s3, s4, s5⟩ := hSw; go_simp; first | done | with_reducible rfl)
      try simp only [Act.put, List.setIfInBounds_toArray, List.set_cons_zero, List.set_cons_succ]
      refine take_dst (some 41) (i := 23) (v := ?vC23) rfl rfl (by kernel_rfl) (by kernel_rfl) (by kernel_rfl) (fun _ _ _ h => h) (Or.inl ⟨by rfl, fun wS hSw => ?hyC23⟩) (by assumption) ?restC23
      case hyC23 => (obtain ⟨s0, s1, s2, s3, s4, s5⟩ := hSw; go_simp; first | done | with_reducible rfl)
      try simp only [Act.put, List.setIfInBounds_toArray, List.set_cons_zero, List.set_cons_succ]
      refine take_dst (some 42) (i := 24) (v := ?vC24) rfl rfl (by kernel_rfl) (by kernel_rfl) (by kernel_rfl) (fun _ _ _ h => h) (Or.inl ⟨by rfl, fun wS hSw => ?hyC24⟩) (by assumption) ?restC24
      case hyC24 => (obtain ⟨s0, s1, s2, s3, s4, s5⟩ := hSw; go_simp; first | done | with_reducible rfl)
      try simp only [Act.put, List.setIfInBounds_toArray, List.set_cons_zero, List.set_cons_succ]
      refine take_dst (some 43) (i := 25) (v := ?vC25) rfl rfl (by kernel_rfl) (by kernel_rfl) (by kernel_rfl) (fun _ _ _ h => h) (Or.inl ⟨by rfl, fun wS hSw => ?hyC25⟩) (by assumption) ?restC25
      case hyC25 => (obtain ⟨s0, s1, s2, s3, s4, s5⟩ := hSw; go_simp; first | done | with_reducible rfl)
      try simp only [Act.put, List.setIfInBounds_toArray, List.set_cons_zero, List.set_cons_succ]
      refine take_dst (some 44) (i := 26) (v := ?vC26) rfl rfl (by kernel_rfl) (by kernel_rfl) (by kernel_rfl) (fun _ _ _ h => h) (Or.inl ⟨by rfl, fun wS hSw => ?hyC26⟩) (by assumption) ?restC26
      case hyC26 => (obtain ⟨s0, s1, s2, s3, s4, s5⟩ := hSw; go_simp; first | done | with_reducible rfl)
      try simp only [Act.put, List.setIfInBounds_toArray, List.set_cons_zero, List.set_cons_succ]
      refine take_dst (some 45) (i := 27) (v := ?vC27) rfl rfl (by kernel_rfl) (by kernel_rfl) (by kernel_rfl) (fun _ _ _ h => h) (Or.inl ⟨by rfl, fun wS hSw => ?hyC27⟩) (by assumption) ?restC27
      case hyC27 => (obtain ⟨s0, s1, s2, s3, s4, s5⟩ := hSw; go_simp; first | done | with_reducible rfl)
      try simp only [Act.put, List.setIfInBounds_toArray, List.set_cons_zero, List.set_cons_succ]
      refine take_dst (some 46) (i := 28) (v := ?vC28) rfl rfl (by kernel_rfl) (by kernel_rfl) (by kernel_rfl) (fun _ _ _ h => h) (Or.inl ⟨by rfl, fun wS hSw => ?hyC28⟩) (by assumption) ?restC28
      case hyC28 => (obtain ⟨s0, s1, s2, s3, s4, s5⟩ := hSw; go_simp; first | done | with_reducible rfl)
      try simp only [Act.put, List.setIfInBounds_toArray, List.set_cons_zero, List.set_cons_succ]
      refine take_dst (some 47) (i := 29) (v := ?vC29) rfl rfl (by kernel_rfl) (by kernel_rfl) (by kernel_rfl) (fun _ _ _ h => h) (Or.inl ⟨by rfl, fun wS hSw => ?hyC29⟩) (by assumption) ?restC29
      case hyC29 => (obtain ⟨s0, s1, s2, s3, s4, s5⟩ := hSw; go_simp; first | done | with_reducible rfl)
      try simp only [Act.put, List.setIfInBounds_toArray, List.set_cons_zero, List.set_cons_succ]
      refine take_dst (some 48) (i := 30) (v := ?vC30) rfl rfl (by kernel_rfl) (by kernel_rfl) (by kernel_rfl) (fun _ _ _ h => h) (Or.inl ⟨by rfl, fun wS hSw => ?hyC30⟩) (by assumption) ?restC30
      case hyC30 => (obtain ⟨s0, s1, s2, s3, s4, s5⟩ := hSw; go_simp; first | done | with_reducible rfl)
      try simp only [Act.put, List.setIfInBounds_toArray, List.set_cons_zero, List.set_cons_succ]
      refine take_dst (some 49) (i := 31) (v := ?vC31) rfl rfl (by kernel_rfl) (by kernel_rfl) (by kernel_rfl) (fun _ _ _ h => h) (Or.inl ⟨by rfl, fun wS hSw => ?hyC31⟩) (by assumption) ?restC31
      case hyC31 => (obtain ⟨s0, s1, s2, s3, s4, s5⟩ := hSw; go_simp; first | done | with_reducible rfl)
      try simp only [Act.put, List.setIfInBounds_toArray, List.set_cons_zero, List.set_cons_succ]
      refine take_dst (some 50) (i := 32) (v := ?vC32) rfl rfl (by kernel_rfl) (by kernel_rfl) (by kernel_rfl) (fun _ _ _ h => h) (Or.inl ⟨by rfl, fun wS hSw => ?hyC32⟩) (by assumption) ?restC32
      case hyC32 => (obtain ⟨s0, s1, s2, s3, s4, s5⟩ := hSw; go_simp; first | done | with_reducible rfl)
      try simp only [Act.put, List.setIfInBounds_toArray, List.set_cons_zero, List.set_cons_succ]
      refine take_dst (some 51) (i := 33) (v := undef) rfl rfl (by kernel_rfl) (by kernel_rfl) (by kernel_rfl) (fun _ _ _ h => h) (Or.inr ⟨by rfl, rfl⟩) (by assumption) ?restC33
      try simp only [Act.put, List.setIfInBounds_toArray, List.set_cons_zero, List.set_cons_succ]
      refine take_dst (some 52) (i := 34) (v := undef) rfl rfl (by kernel_rfl) (by kernel_rfl) (by kernel_rfl) (fun _ _ _ h => h) (Or.inr ⟨by rfl, rfl⟩) (by assumption) ?restC34
      try simp only [Act.put, List.setIfInBounds_toArray, List.set_cons_zero, List.set_cons_succ]
      refine take_dst (some 53) (i := 35) (v := undef) rfl rfl (by kernel_rfl) (by kernel_rfl) (by kernel_rfl) (fun _ _ _ h => h) (Or.inr ⟨by rfl, rfl⟩) (by assumption) ?restC35
      try simp only [Act.put, List.setIfInBounds_toArray, List.set_cons_zero, List.set_cons_succ]
      refine take_dst (some 54) (i := 36) (v := undef) rfl rfl (by kernel_rfl) (by kernel_rfl) (by kernel_rfl) (fun _ _ _ h => h) (Or.inr ⟨by rfl, rfl⟩) (by assumption) ?restC36
      try simp only [Act.put, List.setIfInBounds_toArray, List.set_cons_zero, List.set_cons_succ]
      refine take_dst (some 55) (i := 37) (v := undef) rfl rfl (by kernel_rfl) (by kernel_rfl) (by kernel_rfl) (fun _ _ _ h => h) (Or.inr ⟨by rfl, rfl⟩) (by assumption) ?restC37
      try simp only [Act.put, List.setIfInBounds_toArray, List.set_cons_zero, List.set_cons_succ]
      refine take_dst (some 56) (i := 38) (v := undef) rfl rfl (by kernel_rfl) (by kernel_rfl) (by kernel_rfl) (fun _ _ _ h => h) (Or.inr ⟨by rfl, rfl⟩) (by assumption) ?restC38
      try simp only [Act.put, List.setIfInBounds_toArray, List.set_cons_zero, List.set_cons_succ]
      refine take_dst (some 57) (i := 39) (v := undef) rfl rfl (by kernel_rfl) (by kernel_rfl) (by kernel_rfl) (fun _ _ _ h => h) (Or.inr ⟨by rfl, rfl⟩) (by assumption) ?restC39
      try simp only [Act.put, List.setIfInBounds_toArray, List.set_cons_zero, List.set_cons_succ]
      refine take_dst (some 58) (i := 40) (v := undef) rfl rfl (by kernel_rfl) (by kernel_rfl) (by kernel_rfl) (fun _ _ _ h => h) (Or.inr ⟨by rfl, rfl⟩) (by assumption) ?restC40
      try simp only [Act.put, List.setIfInBounds_toArray, List.set_cons_zero, List.set_cons_succ]
      refine take_dst (some 59) (i := 41) (v := undef) rfl rfl (by kernel_rfl) (by kernel_rfl) (by kernel_rfl) (fun _ _ _ h => h) (Or.inr ⟨by rfl, rfl⟩) (by assumption) ?restC41
      try simp only [Act.put, List.setIfInBounds_toArray, List.set_cons_zero, List.set_cons_succ]
      refine take_dst (some 60) (i := 42) (v := undef) rfl rfl (by kernel_rfl) (by kernel_rfl) (by kernel_rfl) (fun _ _ _ h => h) (Or.inr ⟨by rfl, rfl⟩) (by assumption) ?restC42
      try simp only [Act.put, List.setIfInBounds_toArray, List.set_cons_zero, List.set_cons_succ]
      refine take_dst (some 61) (i := 43) (v := undef) rfl rfl (by kernel_rfl) (by kernel_rfl) (by kernel_rfl) (fun _ _ _ h => h) (Or.inr ⟨by rfl, rfl⟩) (by assumption) ?restC43
      try simp only [Act.put, List.setIfInBounds_toArray, List.set_cons_zero, List.set_cons_succ]
      refine take_dst (some 62) (i := 44) (v := undef) rfl rfl (by kernel_rfl) (by kernel_rfl) (by kernel_rfl) (fun _ _ _ h => h) (Or.inr ⟨by rfl, rfl⟩) (by assumption) ?restC44
      try simp only [Act.put, List.setIfInBounds_toArray, List.set_cons_zero, List.set_cons_succ]
      refine take_dst (some 63) (i := 45) (v := undef) rfl rfl (by kernel_rfl) (by kernel_rfl) (by kernel_rfl) (fun _ _ _ h => h) (Or.inr ⟨by rfl, rfl⟩) (by assumption) ?restC45
      try simp only [Act.put, List.setIfInBounds_toArray, List.set_cons_zero, List.set_cons_succ]
      refine take_dst (some 64) (i := 46) (v := undef) rfl rfl (by kernel_rfl) (by kernel_rfl) (by kernel_rfl) (fun _ _ _ h => h) (Or.inr ⟨by rfl, rfl⟩) (by assumption) ?restC46
      try simp only [Act.put, List.setIfInBounds_toArray, List.set_cons_zero, List.set_cons_succ]
      refine take_dst (some 65) (i := 47) (v := undef) rfl rfl (by kernel_rfl) (by kernel_rfl) (by kernel_rfl) (fun _ _ _ h => h) (Or.inr ⟨by rfl, rfl⟩) (by assumption) ?restC47
      try simp only [Act.put, List.setIfInBounds_toArray, List.set_cons_zero, List.set_cons_succ]
      refine take_dst (some 66) (i := 48) (v := undef) rfl rfl (by kernel_rfl) (by kernel_rfl) (by kernel_rfl) (fun _ _ _ h => h) (Or.inr ⟨by rfl, rfl⟩) (by assumption) ?restC48
      try simp only [Act.put, List.setIfInBounds_toArray, List.set_cons_zero, List.set_cons_succ]
      refine take_dst (some 67) (i := 49) (v := ?vC49) rfl rfl (by kernel_rfl) (by kernel_rfl) (by kernel_rfl) (fun _ _ _ h => h) (Or.inl ⟨by rfl, fun wS hSw => ?hyC49⟩) (by assumption) ?restC49
      case hyC49 => (obtain ⟨s0, s1, s2, s3, s4, s5⟩ := hSw; go_simp; first | done | with_reducible rfl)
      try simp only [Act.put, List.setIfInBounds_toArray, List.set_cons_zero, List.set_cons_succ]
      refine wpAnyH_done (by kernel_rfl) ?_ _
      go_wp2_with fail
      go_ret
      exact ⟨by rw [hzz.out]; rfl, KB4.out⟩
    case pos =>
    have m1 : decide ((m : Int) = (zm : Int)) = true := by simp; omega
    have m2 : ((m : Int) == (zm : Int)) = true := by rw [beq_iff_eq]; omega
    have m3 : decide (m = zm) = true := by simpa using hmm
    have m4 : ((m : Int) != (zm : Int)) = false := by rw [bne_eq_false_iff_eq]; omega
    by_cases hk0 : k = 0
    case pos =>
      have k1 : decide ((0 : Int) < (k : Int)) = false := by simp; omega
      have k2 : decide (0 < k) = false := by simp; omega
      have hyes := Lib.hid (v_ok0 hk0 Ht.out Htz.out hok (by rw [← Hra.out, ← Hza.out]; exact ha) (by rw [← Hm.out, ← Hzm.out]; exact hmm))
      clear hk0
      have KE := Lib.hid (HEl.out.ext (Below.refl wr.heap.size wr).drew)
      have KB := Lib.hid HBr.out.drew; have KT := Lib.hid (HTR.out.ext (Below.refl wr.heap.size wr).drew)
      have d1 := Lib.hid (cell_ext (Below.refl wr.heap.size wr).drew C1.out)
      have d2 := Lib.hid (cell_ext (Below.refl wr.heap.size wr).drew C2.out)
      have d3 := Lib.hid (cell_ext (Below.refl wr.heap.size wr).drew C3.out)
      have d4 := Lib.hid (cell_ext (Below.refl wr.heap.size wr).drew C4.out)
      have d5 := Lib.hid (cell_ext (Below.refl wr.heap.size wr).drew C5.out)
      refine wp_region_held_drew (S := fun w' => w'.rangeAt b (off + k * 35) rr.cells ∧ w'.cell? ⟨b, off + k * 35, none⟩ = some (.int .i64 ra) ∧ w'.cell? ⟨b, off + k * 35 + 1, none⟩ = some (.int .i64 rf) ∧ w'.cell? ⟨b, off + k * 35 + 2, none⟩ = some (.slice ro m rc) ∧ w'.cell? ⟨b, off, none⟩ = some (.int .i64 za) ∧ w'.cell? ⟨b, off + 2, none⟩ = some (.slice zo zm zc)) (by kernel_rfl) ⟨el_rng KE.out, d1.out, d2.out, d3.out, d4.out, d5.out⟩ (fun hHeld => ?_)
      clear HEl HBr HTR
      generalize wr.drew = w3 at *
      refine take_dst (some 18) (i := 0) (v := ?vE0) rfl rfl (by kernel_rfl) (by kernel_rfl) (by kernel_rfl) (fun _ _ _ h => h) (Or.inl ⟨by rfl, fun wS hSw => ?hyE0⟩) (by assumption) ?restE0
      case hyE0 => (obtain ⟨s0, s1, s2, s3, s4, s5⟩ := hSw; go_simp; first | done | with_reducible rfl)
      try simp only [Act.put, List.setIfInBounds_toArray, List.set_cons_zero, List.set_cons_succ]
      refine take_dst (some 19) (i := 1) (v := ?vE1) rfl rfl (by kernel_rfl) (by kernel_rfl) (by kernel_rfl) (fun _ _ _ h => h) (Or.inl ⟨by rfl, fun wS hSw => ?hyE1⟩) (by assumption) ?restE1
      case hyE1 => (obtain ⟨s0, s1, s2, s3, s4, s5⟩ := hSw; go_simp; first | done | with_reducible rfl)
      try simp only [Act.put, List.setIfInBounds_toArray, List.set_cons_zero, List.set_cons_succ]
      refine take_dst (some 20) (i := 2) (v := ?vE2) rfl rfl (by kernel_rfl) (by kernel_rfl) (by kernel_rfl) (fun _ _ _ h => h) (Or.inl ⟨by rfl, fun wS hSw => ?hyE2⟩) (by assumption) ?restE2
      case hyE2 => (obtain ⟨s0, s1, s2, s3, s4, s5⟩ := hSw; go_simp; first | done | with_reducible rfl)
      try simp only [Act.put, List.setIfInBounds_toArray, List.set_cons_zero, List.set_cons_succ]
      refine take_dst (some 21) (i := 3) (v := rr.v) rfl rfl (by kernel_rfl) (by kernel_rfl) (by kernel_rfl) (fun _ _ _ h => h) (yieldsIf_load_mid (by rfl) 31 _ rfl b (off + k * 35) rfl rr.cells _ (fun wS hSw => by obtain ⟨s0, s1, s2, s3, s4, s5⟩ := hSw; exact s0) Tryd.underlying31 rfl (by rw [tb_len]; exact tb_sz)) (by assumption) ?restE3
      try simp only [Act.put, List.setIfInBounds_toArray, List.set_cons_zero, List.set_cons_succ]
      refine wpAnyH_ready (rs := [4]) (by kernel_rfl) (by simp) ?_
      refine AllReadyH.cons rfl (fun K hK => ?_) AllReadyH.nil
      go_simp
      refine (HCK.out w3 KT.out).mono ?_
      rintro e w4 ⟨rfl, hb4⟩
      rw [Hck.out]
      have KE4 := Lib.hid (KE.out.ext hb4)
      have KB4 := Lib.hid (below_ext KB.out hb4)
      have q1 := Lib.hid (cell_ext hb4 d1.out)
      have q2 := Lib.hid (cell_ext hb4 d2.out)
      have q3 := Lib.hid (cell_ext hb4 d3.out)
      have q4 := Lib.hid (cell_ext hb4 d4.out)
      have q5 := Lib.hid (cell_ext hb4 d5.out)
      clear hb4 KB KT KE d1 d2 d3 d4 d5
      refine hK.out _ _ ⟨el_rng KE4.out, q1.out, q2.out, q3.out, q4.out, q5.out⟩ (fun hHeld => ?_)
      clear hK K
      try simp only [Act.put, List.setIfInBounds_toArray, List.set_cons_zero, List.set_cons_succ]
      refine take_dst (some 23) (i := 5) (v := ?vE5) rfl rfl (by kernel_rfl) (by kernel_rfl) (by kernel_rfl) (fun _ _ _ h => h) (Or.inl ⟨by rfl, fun wS hSw => ?hyE5⟩) (by assumption) ?restE5
      case hyE5 => (obtain ⟨s0, s1, s2, s3, s4, s5⟩ := hSw; go_simp; first | done | with_reducible rfl)
      try simp only [Act.put, List.setIfInBounds_toArray, List.set_cons_zero, List.set_cons_succ]
      refine take_dst (some 24) (i := 6) (v := ?vE6) rfl rfl (by kernel_rfl) (by kernel_rfl) (by kernel_rfl) (fun _ _ _ h => h) (Or.inl ⟨by rfl, fun wS hSw => ?hyE6⟩) (by assumption) ?restE6
      case hyE6 => (obtain ⟨s0, s1, s2, s3, s4, s5⟩ := hSw; go_simp; first | done | with_reducible rfl)
      try simp only [Act.put, List.setIfInBounds_toArray, List.set_cons_zero, List.set_cons_succ]
      refine take_dst (some 25) (i := 7) (v := ?vE7) rfl rfl (by kernel_rfl) (by kernel_rfl) (by kernel_rfl) (fun _ _ _ h => h) (Or.inl ⟨by rfl, fun wS hSw => ?hyE7⟩) (by assumption) ?restE7
      case hyE7 => (obtain ⟨s0, s1, s2, s3, s4, s5⟩ := hSw; go_simp; first | done | with_reducible rfl)
      try simp only [Act.put, List.setIfInBounds_toArray, List.set_cons_zero, List.set_cons_succ]
      refine take_dst (some 26) (i := 8) (v := ?vE8) rfl rfl (by kernel_rfl) (by kernel_rfl) (by kernel_rfl) (fun _ _ _ h => h) (Or.inl ⟨by rfl, fun wS hSw => ?hyE8⟩) (by assumption) ?restE8
      case hyE8 => (obtain ⟨s0, s1, s2, s3, s4, s5⟩ := hSw; go_simp; first | done | with_reducible rfl)
      try simp only [Act.put, List.setIfInBounds_toArray, List.set_cons_zero, List.set_cons_succ]
      refine take_dst (some 27) (i := 9) (v := ?vE9) rfl rfl (by kernel_rfl) (by kernel_rfl) (by kernel_rfl) (fun _ _ _ h => h) (Or.inl ⟨by rfl, fun wS hSw => ?hyE9⟩) (by assumption) ?restE9
      case hyE9 => (obtain ⟨s0, s1, s2, s3, s4, s5⟩ := hSw; go_simp; first | done | with_reducible rfl)
      try simp only [Act.put, List.setIfInBounds_toArray, List.set_cons_zero, List.set_cons_succ]
      refine take_dst (some 28) (i := 10) (v := ?vE10) rfl rfl (by kernel_rfl) (by kernel_rfl) (by kernel_rfl) (fun _ _ _ h => h) (Or.inl ⟨by rfl, fun wS hSw => ?hyE10⟩) (by assumption) ?restE10
      case hyE10 => (obtain ⟨s0, s1, s2, s3, s4, s5⟩ := hSw; go_simp; first | done | with_reducible rfl)
      try simp only [Act.put, List.setIfInBounds_toArray, List.set_cons_zero, List.set_cons_succ]
      refine take_dst (some 29) (i := 11) (v := ?vE11) rfl rfl (by kernel_rfl) (by kernel_rfl) (by kernel_rfl) (fun _ _ _ h => h) (Or.inl ⟨by rfl, fun wS hSw => ?hyE11⟩) (by assumption) ?restE11
      case hyE11 => (obtain ⟨s0, s1, s2, s3, s4, s5⟩ := hSw; go_simp; first | done | with_reducible rfl)
      try simp only [Act.put, List.setIfInBounds_toArray, List.set_cons_zero, List.set_cons_succ]
      refine take_dst (some 30) (i := 12) (v := ?vE12) rfl rfl (by kernel_rfl) (by kernel_rfl) (by kernel_rfl) (fun _ _ _ h => h) (Or.inl ⟨by rfl, fun wS hSw => ?hyE12⟩) (by assumption) ?restE12
      case hyE12 => (obtain ⟨s0, s1, s2, s3, s4, s5⟩ := hSw; go_simp; first | done | with_reducible rfl)
      try simp only [Act.put, List.setIfInBounds_toArray, List.set_cons_zero, List.set_cons_succ]
      refine take_dst (some 31) (i := 13) (v := ?vE13) rfl rfl (by kernel_rfl) (by kernel_rfl) (by kernel_rfl) (fun _ _ _ h => h) (Or.inl ⟨by rfl, fun wS hSw => ?hyE13⟩) (by assumption) ?restE13
      case hyE13 => (obtain ⟨s0, s1, s2, s3, s4, s5⟩ := hSw; go_simp; first | done | with_reducible rfl)
      try simp only [Act.put, List.setIfInBounds_toArray, List.set_cons_zero, List.set_cons_succ]
      refine take_dst (some 32) (i := 14) (v := ?vE14) rfl rfl (by kernel_rfl) (by kernel_rfl) (by kernel_rfl) (fun _ _ _ h => h) (Or.inl ⟨by rfl, fun wS hSw => ?hyE14⟩) (by assumption) ?restE14
      case hyE14 => (obtain ⟨s0, s1, s2, s3, s4, s5⟩ := hSw; go_simp; first | done | with_reducible rfl)
      try simp only [Act.put, List.setIfInBounds_toArray, List.set_cons_zero, List.set_cons_succ]
      refine take_dst (some 33) (i := 15) (v := ?vE15) rfl rfl (by kernel_rfl) (by kernel_rfl) (by kernel_rfl) (fun _ _ _ h => h) (Or.inl ⟨by rfl, fun wS hSw => ?hyE15⟩) (by assumption) ?restE15
      case hyE15 => (obtain ⟨s0, s1, s2, s3, s4, s5⟩ := hSw; go_simp; first | done | with_reducible rfl)
      try simp only [Act.put, List.setIfInBounds_toArray, List.set_cons_zero, List.set_cons_succ]
      refine take_dst (some 34) (i := 16) (v := ?vE16) rfl rfl (by kernel_rfl) (by kernel_rfl) (by kernel_rfl) (fun _ _ _ h => h) (Or.inl ⟨by rfl, fun wS hSw => ?hyE16⟩) (by assumption) ?restE16
      case hyE16 => (obtain ⟨s0, s1, s2, s3, s4, s5⟩ := hSw; go_simp; first | done | with_reducible rfl)
      try simp only [Act.put, List.setIfInBounds_toArray, List.set_cons_zero, List.set_cons_succ]
      refine take_dst (some 35) (i := 17) (v := ?vE17) rfl rfl (by kernel_rfl) (by kernel_rfl) (by kernel_rfl) (fun _ _ _ h => h) (Or.inl ⟨by rfl, fun wS hSw => ?hyE17⟩) (by assumption) ?restE17
      case hyE17 => (obtain ⟨s0, s1, s2, s3, s4, s5⟩ := hSw; go_simp; first | done | with_reducible rfl)
      try simp only [Act.put, List.setIfInBounds_toArray, List.set_cons_zero, List.set_cons_succ]
      refine take_dst (some 36) (i := 18) (v := ?vE18) rfl rfl (by kernel_rfl) (by kernel_rfl) (by kernel_rfl) (fun _ _ _ h => h) (Or.inl ⟨by rfl, fun wS hSw => ?hyE18⟩) (by assumption) ?restE18
      case hyE18 => (obtain ⟨s0, s1, s2, s3, s4, s5⟩ := hSw; go_simp; first | done | with_reducible rfl)
      try simp only [Act.put, List.setIfInBounds_toArray, List.set_cons_zero, List.set_cons_succ]
      refine take_dst (some 37) (i := 19) (v := ?vE19) rfl rfl (by kernel_rfl) (by kernel_rfl) (by kernel_rfl) (fun _ _ _ h => h) (Or.inl ⟨by rfl, fun wS hSw => ?hyE19⟩) (by assumption) ?restE19
      case hyE19 => (obtain ⟨s0, s1, s2, s3, s4, s5⟩ := hSw; go_simp; first | done | with_reducible rfl)
      try simp only [Act.put, List.setIfInBounds_toArray, List.set_cons_zero, List.set_cons_succ]
      refine take_dst (some 38) (i := 20) (v := ?vE20) rfl rfl (by kernel_rfl) (by kernel_rfl) (by kernel_rfl) (fun _ _ _ h => h) (Or.inl ⟨by rfl, fun wS hSw => ?hyE20⟩) (by assumption) ?restE20
      case hyE20 => (obtain ⟨s0, s1, s2, s3, s4, s5⟩ := hSw; go_simp; first | done | with_reducible rfl)
      try simp only [Act.put, List.setIfInBounds_toArray, List.set_cons_zero, List.set_cons_succ]
      refine take_dst (some 39) (i := 21) (v := ?vE21) rfl rfl (by kernel_rfl) (by kernel_rfl) (by kernel_rfl) (fun _ _ _ h => h) (Or.inl ⟨by rfl, fun wS hSw => ?hyE21⟩) (by assumption) ?restE21
      case hyE21 => (obtain ⟨s0, s1, s2, s3, s4, s5⟩ := hSw; go_simp; first | done | with_reducible rfl)
      try simp only [Act.put, List.setIfInBounds_toArray, List.set_cons_zero, List.set_cons_succ]
      refine take_dst (some 40) (i := 22) (v := ?vE22) rfl rfl (by kernel_rfl) (by kernel_rfl) (by kernel_rfl) (fun _ _ _ h => h) (Or.inl ⟨by rfl, fun wS hSw => ?hyE22⟩) (by assumption) ?restE22
      case hyE22 => (obtain ⟨s0, s1, s2, s3, s4, s5⟩ := hSw; go_simp; first | done | with_reducible rfl)
      try simp only [Act.put, List.setIfInBounds_toArray, List.set_cons_zero, List.set_cons_succ]
      refine take_dst (some 41) (i := 23) (v := ?vE23) rfl rfl (by kernel_rfl) (by kernel_rfl) (by kernel_rfl) (fun _ _ _ h => h) (Or.inl ⟨by rfl, fun wS hSw => ?hyE23⟩) (by assumption) ?restE23
      case hyE23 => (obtain ⟨s0, s1, s2, s3, s4, s5⟩ := hSw; go_simp; first | done | with_reducible rfl)
      try simp only [Act.put, List.setIfInBounds_toArray, List.set_cons_zero, List.set_cons_succ]
      refine take_dst (some 42) (i := 24) (v := ?vE24) rfl rfl (by kernel_rfl) (by kernel_rfl) (by kernel_rfl) (fun _ _ _ h => h) (Or.inl ⟨by rfl, fun wS hSw => ?hyE24⟩) (by assumption) ?restE24
      case hyE24 => (obtain ⟨s0, s1, s2, s3, s4, s5⟩ := hSw; go_simp; first | done | with_reducible rfl)
      try simp only [Act.put, List.setIfInBounds_toArray, List.set_cons_zero, List.set_cons_succ]
      refine take_dst (some 43) (i := 25) (v := ?vE25) rfl rfl (by kernel_rfl) (by kernel_rfl) (by kernel_rfl) (fun _ _ _ h => h) (Or.inl ⟨by rfl, fun wS hSw => ?hyE25⟩) (by assumption) ?restE25
      case hyE25 => (obtain ⟨s0, s1, s2, s3, s4, s5⟩ := hSw; go_simp; first | done | with_reducible rfl)
      try simp only [Act.put, List.setIfInBounds_toArray, List.set_cons_zero, List.set_cons_succ]
      refine take_dst (some 44) (i := 26) (v := ?vE26) rfl rfl (by kernel_rfl) (by kernel_rfl) (by kernel_rfl) (fun _ _ _ h => h) (Or.inl ⟨by rfl, fun wS hSw => ?hyE26⟩) (by assumption) ?restE26
      case hyE26 => (obtain ⟨s0, s1, s2, s3, s4, s5⟩ := hSw; go_simp; first | done | with_reducible rfl)
      try simp only [Act.put, List.setIfInBounds_toArray, List.set_cons_zero, List.set_cons_succ]
      refine take_dst (some 45) (i := 27) (v := ?vE27) rfl rfl (by kernel_rfl) (by kernel_rfl) (by kernel_rfl) (fun _ _ _ h => h) (Or.inl ⟨by rfl, fun wS hSw => ?hyE27⟩) (by assumption) ?restE27
      case hyE27 => (obtain ⟨s0, s1, s2, s3, s4, s5⟩ := hSw; go_simp; first | done | with_reducible rfl)
      try simp only [Act.put, List.setIfInBounds_toArray, List.set_cons_zero, List.set_cons_succ]
      refine take_dst (some 46) (i := 28) (v := ?vE28) rfl rfl (by kernel_rfl) (by kernel_rfl) (by kernel_rfl) (fun _ _ _ h => h) (Or.inl ⟨by rfl, fun wS hSw => ?hyE28⟩) (by assumption) ?restE28
      case hyE28 => (obtain ⟨s0, s1, s2, s3, s4, s5⟩ := hSw; go_simp; first | done | with_reducible rfl)
      try simp only [Act.put, List.setIfInBounds_toArray, List.set_cons_zero, List.set_cons_succ]
      refine take_dst (some 47) (i := 29) (v := ?vE29) rfl rfl (by kernel_rfl) (by kernel_rfl) (by kernel_rfl) (fun _ _ _ h => h) (Or.inl ⟨by rfl, fun wS hSw => ?hyE29⟩) (by assumption) ?restE29
      case hyE29 => (obtain ⟨s0, s1, s2, s3, s4, s5⟩ := hSw; go_simp; first | done | with_reducible rfl)
      try simp only [Act.put, List.setIfInBounds_toArray, List.set_cons_zero, List.set_cons_succ]
      refine take_dst (some 48) (i := 30) (v := ?vE30) rfl rfl (by kernel_rfl) (by kernel_rfl) (by kernel_rfl) (fun _ _ _ h => h) (Or.inl ⟨by rfl, fun wS hSw => ?hyE30⟩) (by assumption) ?restE30
      case hyE30 => (obtain ⟨s0, s1, s2, s3, s4, s5⟩ := hSw; go_simp; first | done | with_reducible rfl)
      try simp only [Act.put, List.setIfInBounds_toArray, List.set_cons_zero, List.set_cons_succ]
      refine take_dst (some 49) (i := 31) (v := ?vE31) rfl rfl (by kernel_rfl) (by kernel_rfl) (by kernel_rfl) (fun _ _ _ h => h) (Or.inl ⟨by rfl, fun wS hSw => ?hyE31⟩) (by assumption) ?restE31
      case hyE31 => (obtain ⟨s0, s1, s2, s3, s4, s5⟩ := hSw; go_simp; first | done | with_reducible rfl)
      try simp only [Act.put, List.setIfInBounds_toArray, List.set_cons_zero, List.set_cons_succ]
      refine take_dst (some 50) (i := 32) (v := ?vE32) rfl rfl (by kernel_rfl) (by kernel_rfl) (by kernel_rfl) (fun _ _ _ h => h) (Or.inl ⟨by rfl, fun wS hSw => ?hyE32⟩) (by assumption) ?restE32
      case hyE32 => (obtain ⟨s0, s1, s2, s3, s4, s5⟩ := hSw; go_simp; first | done | with_reducible rfl)
      try simp only [Act.put, List.setIfInBounds_toArray, List.set_cons_zero, List.set_cons_succ]
      refine take_dst (some 51) (i := 33) (v := ?vE33) rfl rfl (by kernel_rfl) (by kernel_rfl) (by kernel_rfl) (fun _ _ _ h => h) (Or.inl ⟨by rfl, fun wS hSw => ?hyE33⟩) (by assumption) ?restE33
      case hyE33 => (obtain ⟨s0, s1, s2, s3, s4, s5⟩ := hSw; go_simp; first | done | with_reducible rfl)
      try simp only [Act.put, List.setIfInBounds_toArray, List.set_cons_zero, List.set_cons_succ]
      refine take_dst (some 52) (i := 34) (v := ?vE34) rfl rfl (by kernel_rfl) (by kernel_rfl) (by kernel_rfl) (fun _ _ _ h => h) (Or.inl ⟨by rfl, fun wS hSw => ?hyE34⟩) (by assumption) ?restE34
      case hyE34 => (obtain ⟨s0, s1, s2, s3, s4, s5⟩ := hSw; go_simp; first | done | with_reducible rfl)
      try simp only [Act.put, List.setIfInBounds_toArray, List.set_cons_zero, List.set_cons_succ]
      refine take_dst (some 53) (i := 35) (v := ?vE35) rfl rfl (by kernel_rfl) (by kernel_rfl) (by kernel_rfl) (fun _ _ _ h => h) (Or.inl ⟨by rfl, fun wS hSw => ?hyE35⟩) (by assumption) ?restE35
      case hyE35 => (obtain ⟨s0, s1, s2, s3, s4, s5⟩ := hSw; go_simp; first | done | with_reducible rfl)
      try simp only [Act.put, List.setIfInBounds_toArray, List.set_cons_zero, List.set_cons_succ]
      refine take_dst (some 54) (i := 36) (v := undef) rfl rfl (by kernel_rfl) (by kernel_rfl) (by kernel_rfl) (fun _ _ _ h => h) (Or.inr ⟨by rfl, rfl⟩) (by assumption) ?restE36
      try simp only [Act.put, List.setIfInBounds_toArray, List.set_cons_zero, List.set_cons_succ]
      refine take_dst (some 55) (i := 37) (v := undef) rfl rfl (by kernel_rfl) (by kernel_rfl) (by kernel_rfl) (fun _ _ _ h => h) (Or.inr ⟨by rfl, rfl⟩) (by assumption) ?restE37
      try simp only [Act.put, List.setIfInBounds_toArray, List.set_cons_zero, List.set_cons_succ]
      refine take_dst (some 56) (i := 38) (v := undef) rfl rfl (by kernel_rfl) (by kernel_rfl) (by kernel_rfl) (fun _ _ _ h => h) (Or.inr ⟨by rfl, rfl⟩) (by assumption) ?restE38
      try simp only [Act.put, List.setIfInBounds_toArray, List.set_cons_zero, List.set_cons_succ]
      refine take_dst (some 57) (i := 39) (v := undef) rfl rfl (by kernel_rfl) (by kernel_rfl) (by kernel_rfl) (fun _ _ _ h => h) (Or.inr ⟨by rfl, rfl⟩) (by assumption) ?restE39
      try simp only [Act.put, List.setIfInBounds_toArray, List.set_cons_zero, List.set_cons_succ]
      refine take_dst (some 58) (i := 40) (v := undef) rfl rfl (by kernel_rfl) (by kernel_rfl) (by kernel_rfl) (fun _ _ _ h => h) (Or.inr ⟨by rfl, rfl⟩) (by assumption) ?restE40
      try simp only [Act.put, List.setIfInBounds_toArray, List.set_cons_zero, List.set_cons_succ]
      refine take_dst (some 59) (i := 41) (v := undef) rfl rfl (by kernel_rfl) (by kernel_rfl) (by kernel_rfl) (fun _ _ _ h => h) (Or.inr ⟨by rfl, rfl⟩) (by assumption) ?restE41
      try simp only [Act.put, List.setIfInBounds_toArray, List.set_cons_zero, List.set_cons_succ]
      refine take_dst (some 60) (i := 42) (v := undef) rfl rfl (by kernel_rfl) (by kernel_rfl) (by kernel_rfl) (fun _ _ _ h => h) (Or.inr ⟨by rfl, rfl⟩) (by assumption) ?restE42
      try simp only [Act.put, List.setIfInBounds_toArray, List.set_cons_zero, List.set_cons_succ]
      refine take_dst (some 61) (i := 43) (v := undef) rfl rfl (by kernel_rfl) (by kernel_rfl) (by kernel_rfl) (fun _ _ _ h => h) (Or.inr ⟨by rfl, rfl⟩) (by assumption) ?restE43
      try simp only [Act.put, List.setIfInBounds_toArray, List.set_cons_zero, List.set_cons_succ]
      refine take_dst (some 62) (i := 44) (v := undef) rfl rfl (by kernel_rfl) (by kernel_rfl) (by kernel_rfl) (fun _ _ _ h => h) (Or.inr ⟨by rfl, rfl⟩) (by assumption) ?restE44
      try simp only [Act.put, List.setIfInBounds_toArray, List.set_cons_zero, List.set_cons_succ]
      refine take_dst (some 63) (i := 45) (v := undef) rfl rfl (by kernel_rfl) (by kernel_rfl) (by kernel_rfl) (fun _ _ _ h => h) (Or.inr ⟨by rfl, rfl⟩) (by assumption) ?restE45
      try simp only [Act.put, List.setIfInBounds_toArray, List.set_cons_zero, List.set_cons_succ]
      refine take_dst (some 64) (i := 46) (v := undef) rfl rfl (by kernel_rfl) (by kernel_rfl) (by kernel_rfl) (fun _ _ _ h => h) (Or.inr ⟨by rfl, rfl⟩) (by assumption) ?restE46
      try simp only [Act.put, List.setIfInBounds_toArray, List.set_cons_zero, List.set_cons_succ]
      refine take_dst (some 65) (i := 47) (v := undef) rfl rfl (by kernel_rfl) (by kernel_rfl) (by kernel_rfl) (fun _ _ _ h => h) (Or.inr ⟨by rfl, rfl⟩) (by assumption) ?restE47
      try simp only [Act.put, List.setIfInBounds_toArray, List.set_cons_zero, List.set_cons_succ]
      refine take_dst (some 66) (i := 48) (v := ?vE48) rfl rfl (by kernel_rfl) (by kernel_rfl) (by kernel_rfl) (fun _ _ _ h => h) (Or.inl ⟨by rfl, fun wS hSw => ?hyE48⟩) (by assumption) ?restE48
      case hyE48 => (obtain ⟨s0, s1, s2, s3, s4, s5⟩ := hSw; go_simp; first | done | with_reducible rfl)
      try simp only [Act.put, List.setIfInBounds_toArray, List.set_cons_zero, List.set_cons_succ]
      refine take_dst (some 67) (i := 49) (v := ?vE49) rfl rfl (by kernel_rfl) (by kernel_rfl) (by kernel_rfl) (fun _ _ _ h => h) (Or.inl ⟨by rfl, fun wS hSw => ?hyE49⟩) (by assumption) ?restE49
      case hyE49 => (obtain ⟨s0, s1, s2, s3, s4, s5⟩ := hSw; go_simp; first | done | with_reducible rfl)
      try simp only [Act.put, List.setIfInBounds_toArray, List.set_cons_zero, List.set_cons_succ]
      refine wpAnyH_done (by kernel_rfl) ?_ _
      go_wp2_with fail
      go_roundw
      case rel => exact ⟨⟨k + 1, by omega, by go_num, fun j hj => by
        by_cases e : j = k
        · subst e; exact hyes.out
        · exact HN.out j (by omega), KB4.out⟩⟩
      case measure => simp [intO]; omega
    case neg =>
    have k1 : decide ((0 : Int) < (k : Int)) = true := by simp; omega
    have k2 : decide (0 < k) = true := by simp; omega
    have k3 : (k : Int) - 1 = ((k - 1 : Nat) : Int) := by omega
    have k4 : IntKind.i64.wrap ((k - 1 : Nat) : Int) = ((k - 1 : Nat) : Int) := IntWalk.i64_in _ (by omega)
    have k5 : ((k - 1 : Nat) : Int) < (l.length : Int) := by omega
    have k6 : k - 1 < l.length := by omega
    obtain ⟨p, hp⟩ : ∃ p, l[k - 1]? = some p := ⟨_, List.getElem?_eq_getElem (by omega)⟩
    have Hp := Lib.hid hp
    obtain ⟨b', off', rp, he, hbr, hel, hr⟩ := (HL.out.ext HBr.out).el hp
    obtain ⟨rfl, rfl⟩ : b = b' ∧ off = off' := by injection he with he; injection he with h1 h2 _; exact ⟨h1, h2⟩
    obtain ⟨_, pc2, _⟩ := el_tb hel
    have Hpf0 := hr.fl
    obtain ⟨pf, hpf⟩ : ∃ x, rp.fl = x := ⟨_, rfl⟩
    rw [hpf] at Hpf0 pc2
    have Hpf := Lib.hid Hpf0
    have C6 := Lib.hid pc2
    clear hp he hbr hel hr pc2 Hpf0 hpf
    by_cases hf : rf ≤ pf
    case pos =>
      have f1 : decide (rf ≤ pf) = true := by simpa using hf
      have hzz := Lib.hid (Hz.out.symm.trans (valid_no hlt (v_fl Ht.out Hp.out hk0 (by rw [← Hrf.out, ← Hpf.out]; omega))))
      have KE := Lib.hid (HEl.out.ext (Below.refl wr.heap.size wr).drew)
      have KB := Lib.hid HBr.out.drew; have KT := Lib.hid (HTR.out.ext (Below.refl wr.heap.size wr).drew)
      have d1 := Lib.hid (cell_ext (Below.refl wr.heap.size wr).drew C1.out)
      have d2 := Lib.hid (cell_ext (Below.refl wr.heap.size wr).drew C2.out)
      have d3 := Lib.hid (cell_ext (Below.refl wr.heap.size wr).drew C3.out)
      have d4 := Lib.hid (cell_ext (Below.refl wr.heap.size wr).drew C4.out)
      have d5 := Lib.hid (cell_ext (Below.refl wr.heap.size wr).drew C5.out)
      have d6 := Lib.hid (cell_ext (Below.refl wr.heap.size wr).drew C6.out)
      refine wp_region_held_drew (S := fun w' => w'.rangeAt b (off + k * 35) rr.cells ∧ w'.cell? ⟨b, off + k * 35, none⟩ = some (.int .i64 ra) ∧ w'.cell? ⟨b, off + k * 35 + 1, none⟩ = some (.int .i64 rf) ∧ w'.cell? ⟨b, off + k * 35 + 2, none⟩ = some (.slice ro m rc) ∧ w'.cell? ⟨b, off, none⟩ = some (.int .i64 za) ∧ w'.cell? ⟨b, off + 2, none⟩ = some (.slice zo zm zc) ∧ w'.cell? ⟨b, off + (k - 1) * 35 + 1, none⟩ = some (.int .i64 pf)) (by kernel_rfl) ⟨el_rng KE.out, d1.out, d2.out, d3.out, d4.out, d5.out, d6.out⟩ (fun hHeld => ?_)
      clear HEl HBr HTR
      generalize wr.drew = w3 at *
      refine take_dst (some 18) (i := 0) (v := ?vD0) rfl rfl (by kernel_rfl) (by kernel_rfl) (by kernel_rfl) (fun _ _ _ h => h) (Or.inl ⟨by rfl, fun wS hSw => ?hyD0⟩) (by assumption) ?restD0
      case hyD0 => (obtain ⟨s0, s1, s2, s3, s4, s5, s6⟩ := hSw; go_simp; first | done | with_reducible rfl)
      try simp only [Act.put, List.setIfInBounds_toArray, List.set_cons_zero, List.set_cons_succ]
      refine take_dst (some 19) (i := 1) (v := ?vD1) rfl rfl (by kernel_rfl) (by kernel_rfl) (by kernel_rfl) (fun _ _ _ h => h) (Or.inl ⟨by rfl, fun wS hSw => ?hyD1⟩) (by assumption) ?restD1
      case hyD1 => (obtain ⟨s0, s1, s2, s3, s4, s5, s6⟩ := hSw; go_simp; first | done | with_reducible rfl)
      try simp only [Act.put, List.setIfInBounds_toArray, List.set_cons_zero, List.set_cons_succ]
      refine take_dst (some 20) (i := 2) (v := ?vD2) rfl rfl (by kernel_rfl) (by kernel_rfl) (by kernel_rfl) (fun _ _ _ h => h) (Or.inl ⟨by rfl, fun wS hSw => ?hyD2⟩) (by assumption) ?restD2
      case hyD2 => (obtain ⟨s0, s1, s2, s3, s4, s5, s6⟩ := hSw; go_simp; first | done | with_reducible rfl)
      try simp only [Act.put, List.setIfInBounds_toArray, List.set_cons_zero, List.set_cons_succ]
      refine take_dst (some 21) (i := 3) (v := rr.v) rfl rfl (by kernel_rfl) (by kernel_rfl) (by kernel_rfl) (fun _ _ _ h => h) (yieldsIf_load_mid (by rfl) 31 _ rfl b (off + k * 35) rfl rr.cells _ (fun wS hSw => by obtain ⟨s0, s1, s2, s3, s4, s5, s6⟩ := hSw; exact s0) Tryd.underlying31 rfl (by rw [tb_len]; exact tb_sz)) (by assumption) ?restD3
      try simp only [Act.put, List.setIfInBounds_toArray, List.set_cons_zero, List.set_cons_succ]
      refine wpAnyH_ready (rs := [4]) (by kernel_rfl) (by simp) ?_
      refine AllReadyH.cons rfl (fun K hK => ?_) AllReadyH.nil
      go_simp
      refine (HCK.out w3 KT.out).mono ?_
      rintro e w4 ⟨rfl, hb4⟩
      rw [Hck.out]
      have KE4 := Lib.hid (KE.out.ext hb4)
      have KB4 := Lib.hid (below_ext KB.out hb4)
      have q1 := Lib.hid (cell_ext hb4 d1.out)
      have q2 := Lib.hid (cell_ext hb4 d2.out)
      have q3 := Lib.hid (cell_ext hb4 d3.out)
      have q4 := Lib.hid (cell_ext hb4 d4.out)
      have q5 := Lib.hid (cell_ext hb4 d5.out)
      have q6 := Lib.hid (cell_ext hb4 d6.out)
      clear hb4 KB KT KE d1 d2 d3 d4 d5 d6
      refine hK.out _ _ ⟨el_rng KE4.out, q1.out, q2.out, q3.out, q4.out, q5.out, q6.out⟩ (fun hHeld => ?_)
      clear hK K
      try simp only [Act.put, List.setIfInBounds_toArray, List.set_cons_zero, List.set_cons_succ]
      refine take_dst (some 23) (i := 5) (v := ?vD5) rfl rfl (by kernel_rfl) (by kernel_rfl) (by kernel_rfl) (fun _ _ _ h => h) (Or.inl ⟨by rfl, fun wS hSw => ?hyD5⟩) (by assumption) ?restD5
      case hyD5 => (obtain ⟨s0, s1, s2, s3, s4, s5, s6⟩ := hSw; go_simp; first | done | with_reducible rfl)
      try simp only [Act.put, List.setIfInBounds_toArray, List.set_cons_zero, List.set_cons_succ]
      refine take_dst (some 24) (i := 6) (v := ?vD6) rfl rfl (by kernel_rfl) (by kernel_rfl) (by kernel_rfl) (fun _ _ _ h => h) (Or.inl ⟨by rfl, fun wS hSw => ?hyD6⟩) (by assumption) ?restD6
      case hyD6 => (obtain ⟨s0, s1, s2, s3, s4, s5, s6⟩ := hSw; go_simp; first | done | with_reducible rfl)
      try simp only [Act.put, List.setIfInBounds_toArray, List.set_cons_zero, List.set_cons_succ]
      refine take_dst (some 25) (i := 7) (v := ?vD7) rfl rfl (by kernel_rfl) (by kernel_rfl) (by kernel_rfl) (fun _ _ _ h => h) (Or.inl ⟨by rfl, fun wS hSw => ?hyD7⟩) (by assumption) ?restD7
      case hyD7 => (obtain ⟨s0, s1, s2, s3, s4, s5, s6⟩ := hSw; go_simp; first | done | with_reducible rfl)
      try simp only [Act.put, List.setIfInBounds_toArray, List.set_cons_zero, List.set_cons_succ]
      refine take_dst (some 26) (i := 8) (v := ?vD8) rfl rfl (by kernel_rfl) (by kernel_rfl) (by kernel_rfl) (fun _ _ _ h => h) (Or.inl ⟨by rfl, fun wS hSw => ?hyD8⟩) (by assumption) ?restD8
      case hyD8 => (obtain ⟨s0, s1, s2, s3, s4, s5, s6⟩ := hSw; go_simp; first | done | with_reducible rfl)
      try simp only [Act.put, List.setIfInBounds_toArray, List.set_cons_zero, List.set_cons_succ]
      refine take_dst (some 27) (i := 9) (v := ?vD9) rfl rfl (by kernel_rfl) (by kernel_rfl) (by kernel_rfl) (fun _ _ _ h => h) (Or.inl ⟨by rfl, fun wS hSw => ?hyD9⟩) (by assumption) ?restD9
      case hyD9 => (obtain ⟨s0, s1, s2, s3, s4, s5, s6⟩ := hSw; go_simp; first | done | with_reducible rfl)
      try simp only [Act.put, List.setIfInBounds_toArray, List.set_cons_zero, List.set_cons_succ]
      refine take_dst (some 28) (i := 10) (v := ?vD10) rfl rfl (by kernel_rfl) (by kernel_rfl) (by kernel_rfl) (fun _ _ _ h => h) (Or.inl ⟨by rfl, fun wS hSw => ?hyD10⟩) (by assumption) ?restD10
      case hyD10 => (obtain ⟨s0, s1, s2, s3, s4, s5, s6⟩ := hSw; go_simp; first | done | with_reducible rfl)
      try simp only [Act.put, List.setIfInBounds_toArray, List.set_cons_zero, List.set_cons_succ]
      refine take_dst (some 29) (i := 11) (v := ?vD11) rfl rfl (by kernel_rfl) (by kernel_rfl) (by kernel_rfl) (fun _ _ _ h => h) (Or.inl ⟨by rfl, fun wS hSw => ?hyD11⟩) (by assumption) ?restD11
      case hyD11 => (obtain ⟨s0, s1, s2, s3, s4, s5, s6⟩ := hSw; go_simp; first | done | with_reducible rfl)
      try simp only [Act.put, List.setIfInBounds_toArray, List.set_cons_zero, List.set_cons_succ]
      refine take_dst (some 30) (i := 12) (v := ?vD12) rfl rfl (by kernel_rfl) (by kernel_rfl) (by kernel_rfl) (fun _ _ _ h => h) (Or.inl ⟨by rfl, fun wS hSw => ?hyD12⟩) (by assumption) ?restD12
      case hyD12 => (obtain ⟨s0, s1, s2, s3, s4, s5, s6⟩ := hSw; go_simp; first | done | with_reducible rfl)
      try simp only [Act.put, List.setIfInBounds_toArray, List.set_cons_zero, List.set_cons_succ]
      refine take_dst (some 31) (i := 13) (v := ?vD13) rfl rfl (by kernel_rfl) (by kernel_rfl) (by kernel_rfl) (fun _ _ _ h => h) (Or.inl ⟨by rfl, fun wS hSw => ?hyD13⟩) (by assumption) ?restD13
      case hyD13 => (obtain ⟨s0, s1, s2, s3, s4, s5, s6⟩ := hSw; go_simp; first | done | with_reducible rfl)
      try simp only [Act.put, List.setIfInBounds_toArray, List.set_cons_zero, List.set_cons_succ]
      refine take_dst (some 32) (i := 14) (v := ?vD14) rfl rfl (by kernel_rfl) (by kernel_rfl) (by kernel_rfl) (fun _ _ _ h => h) (Or.inl ⟨by rfl, fun wS hSw => ?hyD14⟩) (by assumption) ?restD14
      case hyD14 => (obtain ⟨s0, s1, s2, s3, s4, s5, s6⟩ := hSw; go_simp; first | done | with_reducible rfl)
      try simp only [Act.put, List.setIfInBounds_toArray, List.set_cons_zero, List.set_cons_succ]
      refine take_dst (some 33) (i := 15) (v := ?vD15) rfl rfl (by kernel_rfl) (by kernel_rfl) (by kernel_rfl) (fun _ _ _ h => h) (Or.inl ⟨by rfl, fun wS hSw => ?hyD15⟩) (by assumption) ?restD15
      case hyD15 => (obtain ⟨s0, s1, s2, s3, s4, s5, s6⟩ := hSw; go_simp; first | done | with_reducible rfl)
      try simp only [Act.put, List.setIfInBounds_toArray, List.set_cons_zero, List.set_cons_succ]
      refine take_dst (some 34) (i := 16) (v := ?vD16) rfl rfl (by kernel_rfl) (by kernel_rfl) (by kernel_rfl) (fun _ _ _ h => h) (Or.inl ⟨by rfl, fun wS hSw => ?hyD16⟩) (by assumption) ?restD16
      case hyD16 => (obtain ⟨s0, s1, s2, s3, s4, s5, s6⟩ := hSw; go_simp; first | done | with_reducible rfl)
      try simp only [Act.put, List.setIfInBounds_toArray, List.set_cons_zero, List.set_cons_succ]
      refine take_dst (some 35) (i := 17) (v := ?vD17) rfl rfl (by kernel_rfl) (by kernel_rfl) (by kernel_rfl) (fun _ _ _ h => h) (Or.inl ⟨by rfl, fun wS hSw => ?hyD17⟩) (by assumption) ?restD17
      case hyD17 => (obtain ⟨s0, s1, s2, s3, s4, s5, s6⟩ := hSw; go_simp; first | done | with_reducible rfl)
      try simp only [Act.put, List.setIfInBounds_toArray, List.set_cons_zero, List.set_cons_succ]
      refine take_dst (some 36) (i := 18) (v := ?vD18) rfl rfl (by kernel_rfl) (by kernel_rfl) (by kernel_rfl) (fun _ _ _ h => h) (Or.inl ⟨by rfl, fun wS hSw => ?hyD18⟩) (by assumption) ?restD18
      case hyD18 => (obtain ⟨s0, s1, s2, s3, s4, s5, s6⟩ := hSw; go_simp; first | done | with_reducible rfl)
      try simp only [Act.put, List.setIfInBounds_toArray, List.set_cons_zero, List.set_cons_succ]
      refine take_dst (some 37) (i := 19) (v := ?vD19) rfl rfl (by kernel_rfl) (by kernel_rfl) (by kernel_rfl) (fun _ _ _ h => h) (Or.inl ⟨by rfl, fun wS hSw => ?hyD19⟩) (by assumption) ?restD19
      case hyD19 => (obtain ⟨s0, s1, s2, s3, s4, s5, s6⟩ := hSw; go_simp; first | done | with_reducible rfl)
      try simp only [Act.put, List.setIfInBounds_toArray, List.set_cons_zero, List.set_cons_succ]
      refine take_dst (some 38) (i := 20) (v := ?vD20) rfl rfl (by kernel_rfl) (by kernel_rfl) (by kernel_rfl) (fun _ _ _ h => h) (Or.inl ⟨by rfl, fun wS hSw => ?hyD20⟩) (by assumption) ?restD20
      case hyD20 => (obtain ⟨s0, s1, s2, s3, s4, s5, s6⟩ := hSw; go_simp; first | done | with_reducible rfl)
      try simp only [Act.put, List.setIfInBounds_toArray, List.set_cons_zero, List.set_cons_succ]
      refine take_dst (some 39) (i := 21) (v := ?vD21) rfl rfl (by kernel_rfl) (by kernel_rfl) (by kernel_rfl) (fun _ _ _ h => h) (Or.inl ⟨by rfl, fun wS hSw => ?hyD21⟩) (by assumption) ?restD21
      case hyD21 => (obtain ⟨s0, s1, s2, s3, s4, s5, s6⟩ := hSw; go_simp; first | done | with_reducible rfl)
      try simp only [Act.put, List.setIfInBounds_toArray, List.set_cons_zero, List.set_cons_succ]
      refine take_dst (some 40) (i := 22) (v := ?vD22) rfl rfl (by kernel_rfl) (by kernel_rfl) (by kernel_rfl) (fun _ _ _ h => h) (Or.inl ⟨by rfl, fun wS hSw => ?hyD22⟩) (by assumption) ?restD22
      case hyD22 => (obtain ⟨s0, s1, s2, s3, s4, s5, s6⟩ := hSw; go_simp; first | done | with_reducible rfl)
      try simp only [Act.put, List.setIfInBounds_toArray, List.set_cons_zero, List.set_cons_succ]
      refine take_dst (some 41) (i := 23) (v := ?vD23) rfl rfl (by kernel_rfl) (by kernel_rfl) (by kernel_rfl) (fun _ _ _ h => h) (Or.inl ⟨by rfl, fun wS hSw => ?hyD23⟩) (by assumption) ?restD23
      case hyD23 => (obtain ⟨s0, s1, s2, s3, s4, s5, s6⟩ := hSw; go_simp; first | done | with_reducible rfl)
      try simp only [Act.put, List.setIfInBounds_toArray, List.set_cons_zero, List.set_cons_succ]
      refine take_dst (some 42) (i := 24) (v := ?vD24) rfl rfl (by kernel_rfl) (by kernel_rfl) (by kernel_rfl) (fun _ _ _ h => h) (Or.inl ⟨by rfl, fun wS hSw => ?hyD24⟩) (by assumption) ?restD24
      case hyD24 => (obtain ⟨s0, s1, s2, s3, s4, s5, s6⟩ := hSw; go_simp; first | done | with_reducible rfl)
      try simp only [Act.put, List.setIfInBounds_toArray, List.set_cons_zero, List.set_cons_succ]
      refine take_dst (some 43) (i := 25) (v := ?vD25) rfl rfl (by kernel_rfl) (by kernel_rfl) (by kernel_rfl) (fun _ _ _ h => h) (Or.inl ⟨by rfl, fun wS hSw => ?hyD25⟩) (by assumption) ?restD25
      case hyD25 => (obtain ⟨s0, s1, s2, s3, s4, s5, s6⟩ := hSw; go_simp; first | done | with_reducible rfl)
      try simp only [Act.put, List.setIfInBounds_toArray, List.set_cons_zero, List.set_cons_succ]
      refine take_dst (some 44) (i := 26) (v := ?vD26) rfl rfl (by kernel_rfl) (by kernel_rfl) (by kernel_rfl) (fun _ _ _ h => h) (Or.inl ⟨by rfl, fun wS hSw => ?hyD26⟩) (by assumption) ?restD26
      case hyD26 => (obtain ⟨s0, s1, s2, s3, s4, s5, s6⟩ := hSw; go_simp; first | done | with_reducible rfl)
      try simp only [Act.put, List.setIfInBounds_toArray, List.set_cons_zero, List.set_cons_succ]
      refine take_dst (some 45) (i := 27) (v := ?vD27) rfl rfl (by kernel_rfl) (by kernel_rfl) (by kernel_rfl) (fun _ _ _ h => h) (Or.inl ⟨by rfl, fun wS hSw => ?hyD27⟩) (by assumption) ?restD27
      case hyD27 => (obtain ⟨s0, s1, s2, s3, s4, s5, s6⟩ := hSw; go_simp; first | done | with_reducible rfl)
      try simp only [Act.put, List.setIfInBounds_toArray, List.set_cons_zero, List.set_cons_succ]
      refine take_dst (some 46) (i := 28) (v := ?vD28) rfl rfl (by kernel_rfl) (by kernel_rfl) (by kernel_rfl) (fun _ _ _ h => h) (Or.inl ⟨by rfl, fun wS hSw => ?hyD28⟩) (by assumption) ?restD28
      case hyD28 => (obtain ⟨s0, s1, s2, s3, s4, s5, s6⟩ := hSw; go_simp; first | done | with_reducible rfl)
      try simp only [Act.put, List.setIfInBounds_toArray, List.set_cons_zero, List.set_cons_succ]
      refine take_dst (some 47) (i := 29) (v := ?vD29) rfl rfl (by kernel_rfl) (by kernel_rfl) (by kernel_rfl) (fun _ _ _ h => h) (Or.inl ⟨by rfl, fun wS hSw => ?hyD29⟩) (by assumption) ?restD29
      case hyD29 => (obtain ⟨s0, s1, s2, s3, s4, s5, s6⟩ := hSw; go_simp; first | done | with_reducible rfl)
      try simp only [Act.put, List.setIfInBounds_toArray, List.set_cons_zero, List.set_cons_succ]
      refine take_dst (some 48) (i := 30) (v := ?vD30) rfl rfl (by kernel_rfl) (by kernel_rfl) (by kernel_rfl) (fun _ _ _ h => h) (Or.inl ⟨by rfl, fun wS hSw => ?hyD30⟩) (by assumption) ?restD30
      case hyD30 => (obtain ⟨s0, s1, s2, s3, s4, s5, s6⟩ := hSw; go_simp; first | done | with_reducible rfl)
      try simp only [Act.put, List.setIfInBounds_toArray, List.set_cons_zero, List.set_cons_succ]
      refine take_dst (some 49) (i := 31) (v := ?vD31) rfl rfl (by kernel_rfl) (by kernel_rfl) (by kernel_rfl) (fun _ _ _ h => h) (Or.inl ⟨by rfl, fun wS hSw => ?hyD31⟩) (by assumption) ?restD31
      case hyD31 => (obtain ⟨s0, s1, s2, s3, s4, s5, s6⟩ := hSw; go_simp; first | done | with_reducible rfl)
      try simp only [Act.put, List.setIfInBounds_toArray, List.set_cons_zero, List.set_cons_succ]
      refine take_dst (some 50) (i := 32) (v := ?vD32) rfl rfl (by kernel_rfl) (by kernel_rfl) (by kernel_rfl) (fun _ _ _ h => h) (Or.inl ⟨by rfl, fun wS hSw => ?hyD32⟩) (by assumption) ?restD32
      case hyD32 => (obtain ⟨s0, s1, s2, s3, s4, s5, s6⟩ := hSw; go_simp; first | done | with_reducible rfl)
      try simp only [Act.put, List.setIfInBounds_toArray, List.set_cons_zero, List.set_cons_succ]
      refine take_dst (some 51) (i := 33) (v := ?vD33) rfl rfl (by kernel_rfl) (by kernel_rfl) (by kernel_rfl) (fun _ _ _ h => h) (Or.inl ⟨by rfl, fun wS hSw => ?hyD33⟩) (by assumption) ?restD33
      case hyD33 => (obtain ⟨s0, s1, s2, s3, s4, s5, s6⟩ := hSw; go_simp; first | done | with_reducible rfl)
      try simp only [Act.put, List.setIfInBounds_toArray, List.set_cons_zero, List.set_cons_succ]
      refine take_dst (some 52) (i := 34) (v := ?vD34) rfl rfl (by kernel_rfl) (by kernel_rfl) (by kernel_rfl) (fun _ _ _ h => h) (Or.inl ⟨by rfl, fun wS hSw => ?hyD34⟩) (by assumption) ?restD34
      case hyD34 => (obtain ⟨s0, s1, s2, s3, s4, s5, s6⟩ := hSw; go_simp; first | done | with_reducible rfl)
      try simp only [Act.put, List.setIfInBounds_toArray, List.set_cons_zero, List.set_cons_succ]
      refine take_dst (some 53) (i := 35) (v := ?vD35) rfl rfl (by kernel_rfl) (by kernel_rfl) (by kernel_rfl) (fun _ _ _ h => h) (Or.inl ⟨by rfl, fun wS hSw => ?hyD35⟩) (by assumption) ?restD35
      case hyD35 => (obtain ⟨s0, s1, s2, s3, s4, s5, s6⟩ := hSw; go_simp; first | done | with_reducible rfl)
      try simp only [Act.put, List.setIfInBounds_toArray, List.set_cons_zero, List.set_cons_succ]
      refine take_dst (some 54) (i := 36) (v := ?vD36) rfl rfl (by kernel_rfl) (by kernel_rfl) (by kernel_rfl) (fun _ _ _ h => h) (Or.inl ⟨by rfl, fun wS hSw => ?hyD36⟩) (by assumption) ?restD36
      case hyD36 => (obtain ⟨s0, s1, s2, s3, s4, s5, s6⟩ := hSw; go_simp; first | done | with_reducible rfl)
      try simp only [Act.put, List.setIfInBounds_toArray, List.set_cons_zero, List.set_cons_succ]
      refine take_dst (some 55) (i := 37) (v := ?vD37) rfl rfl (by kernel_rfl) (by kernel_rfl) (by kernel_rfl) (fun _ _ _ h => h) (Or.inl ⟨by rfl, fun wS hSw => ?hyD37⟩) (by assumption) ?restD37
      case hyD37 => (obtain ⟨s0, s1, s2, s3, s4, s5, s6⟩ := hSw; go_simp; first | done | with_reducible rfl)
      try simp only [Act.put, List.setIfInBounds_toArray, List.set_cons_zero, List.set_cons_succ]
      refine take_dst (some 56) (i := 38) (v := ?vD38) rfl rfl (by kernel_rfl) (by kernel_rfl) (by kernel_rfl) (fun _ _ _ h => h) (Or.inl ⟨by rfl, fun wS hSw => ?hyD38⟩) (by assumption) ?restD38
      case hyD38 => (obtain ⟨s0, s1, s2, s3, s4, s5, s6⟩ := hSw; go_simp; first | done | with_reducible rfl)
      try simp only [Act.put, List.setIfInBounds_toArray, List.set_cons_zero, List.set_cons_succ]
      refine take_dst (some 57) (i := 39) (v := ?vD39) rfl rfl (by kernel_rfl) (by kernel_rfl) (by kernel_rfl) (fun _ _ _ h => h) (Or.inl ⟨by rfl, fun wS hSw => ?hyD39⟩) (by assumption) ?restD39
      case hyD39 => (obtain ⟨s0, s1, s2, s3, s4, s5, s6⟩ := hSw; go_simp; first | done | with_reducible rfl)
      try simp only [Act.put, List.setIfInBounds_toArray, List.set_cons_zero, List.set_cons_succ]
      refine take_dst (some 58) (i := 40) (v := ?vD40) rfl rfl (by kernel_rfl) (by kernel_rfl) (by kernel_rfl) (fun _ _ _ h => h) (Or.inl ⟨by rfl, fun wS hSw => ?hyD40⟩) (by assumption) ?restD40
      case hyD40 => (obtain ⟨s0, s1, s2, s3, s4, s5, s6⟩ := hSw; go_simp; first | done | with_reducible rfl)
      try simp only [Act.put, List.setIfInBounds_toArray, List.set_cons_zero, List.set_cons_succ]
      refine take_dst (some 59) (i := 41) (v := ?vD41) rfl rfl (by kernel_rfl) (by kernel_rfl) (by kernel_rfl) (fun _ _ _ h => h) (Or.inl ⟨by rfl, fun wS hSw => ?hyD41⟩) (by assumption) ?restD41
      case hyD41 => (obtain ⟨s0, s1, s2, s3, s4, s5, s6⟩ := hSw; go_simp; first | done | with_reducible rfl)
      try simp only [Act.put, List.setIfInBounds_toArray, List.set_cons_zero, List.set_cons_succ]
      refine take_dst (some 60) (i := 42) (v := ?vD42) rfl rfl (by kernel_rfl) (by kernel_rfl) (by kernel_rfl) (fun _ _ _ h => h) (Or.inl ⟨by rfl, fun wS hSw => ?hyD42⟩) (by assumption) ?restD42
      case hyD42 => (obtain ⟨s0, s1, s2, s3, s4, s5, s6⟩ := hSw; go_simp; first | done | with_reducible rfl)
      try simp only [Act.put, List.setIfInBounds_toArray, List.set_cons_zero, List.set_cons_succ]
      refine take_dst (some 61) (i := 43) (v := ?vD43) rfl rfl (by kernel_rfl) (by kernel_rfl) (by kernel_rfl) (fun _ _ _ h => h) (Or.inl ⟨by rfl, fun wS hSw => ?hyD43⟩) (by assumption) ?restD43
      case hyD43 => (obtain ⟨s0, s1, s2, s3, s4, s5, s6⟩ := hSw; go_simp; first | done | with_reducible rfl)
      try simp only [Act.put, List.setIfInBounds_toArray, List.set_cons_zero, List.set_cons_succ]
      refine take_dst (some 62) (i := 44) (v := ?vD44) rfl rfl (by kernel_rfl) (by kernel_rfl) (by kernel_rfl) (fun _ _ _ h => h) (Or.inl ⟨by rfl, fun wS hSw => ?hyD44⟩) (by assumption) ?restD44
      case hyD44 => (obtain ⟨s0, s1, s2, s3, s4, s5, s6⟩ := hSw; go_simp; first | done | with_reducible rfl)
      try simp only [Act.put, List.setIfInBounds_toArray, List.set_cons_zero, List.set_cons_succ]
      refine take_dst (some 63) (i := 45) (v := ?vD45) rfl rfl (by kernel_rfl) (by kernel_rfl) (by kernel_rfl) (fun _ _ _ h => h) (Or.inl ⟨by rfl, fun wS hSw => ?hyD45⟩) (by assumption) ?restD45
      case hyD45 => (obtain ⟨s0, s1, s2, s3, s4, s5, s6⟩ := hSw; go_simp; first | done | with_reducible rfl)
      try simp only [Act.put, List.setIfInBounds_toArray, List.set_cons_zero, List.set_cons_succ]
      refine take_dst (some 64) (i := 46) (v := ?vD46) rfl rfl (by kernel_rfl) (by kernel_rfl) (by kernel_rfl) (fun _ _ _ h => h) (Or.inl ⟨by rfl, fun wS hSw => ?hyD46⟩) (by assumption) ?restD46
      case hyD46 => (obtain ⟨s0, s1, s2, s3, s4, s5, s6⟩ := hSw; go_simp; first | done | with_reducible rfl)
      try simp only [Act.put, List.setIfInBounds_toArray, List.set_cons_zero, List.set_cons_succ]
      refine take_dst (some 65) (i := 47) (v := ?vD47) rfl rfl (by kernel_rfl) (by kernel_rfl) (by kernel_rfl) (fun _ _ _ h => h) (Or.inl ⟨by rfl, fun wS hSw => ?hyD47⟩) (by assumption) ?restD47
      case hyD47 => (obtain ⟨s0, s1, s2, s3, s4, s5, s6⟩ := hSw; go_simp; first | done | with_reducible rfl)
      try simp only [Act.put, List.setIfInBounds_toArray, List.set_cons_zero, List.set_cons_succ]
      refine take_dst (some 66) (i := 48) (v := ?vD48) rfl rfl (by kernel_rfl) (by kernel_rfl) (by kernel_rfl) (fun _ _ _ h => h) (Or.inl ⟨by rfl, fun wS hSw => ?hyD48⟩) (by assumption) ?restD48
      case hyD48 => (obtain ⟨s0, s1, s2, s3, s4, s5, s6⟩ := hSw; go_simp; first | done | with_reducible rfl)
      try simp only [Act.put, List.setIfInBounds_toArray, List.set_cons_zero, List.set_cons_succ]
      refine take_dst (some 67) (i := 49) (v := ?vD49) rfl rfl (by kernel_rfl) (by kernel_rfl) (by kernel_rfl) (fun _ _ _ h => h) (Or.inl ⟨by rfl, fun wS hSw => ?hyD49⟩) (by assumption) ?restD49
      case hyD49 => (obtain ⟨s0, s1, s2, s3, s4, s5, s6⟩ := hSw; go_simp; first | done | with_reducible rfl)
      try simp only [Act.put, List.setIfInBounds_toArray, List.set_cons_zero, List.set_cons_succ]
      refine wpAnyH_done (by kernel_rfl) ?_ _
      go_wp2_with fail
      go_ret
      exact ⟨by rw [hzz.out]; rfl, KB4.out⟩
    case neg =>
      have f1 : decide (rf ≤ pf) = false := by simpa using hf
      have hyes := Lib.hid (v_ok Ht.out Htz.out Hp.out hok (by rw [← Hra.out, ← Hza.out]; exact ha) (by rw [← Hm.out, ← Hzm.out]; exact hmm) (by rw [← Hrf.out, ← Hpf.out]; omega))
      have KE := Lib.hid (HEl.out.ext (Below.refl wr.heap.size wr).drew)
      have KB := Lib.hid HBr.out.drew; have KT := Lib.hid (HTR.out.ext (Below.refl wr.heap.size wr).drew)
      have d1 := Lib.hid (cell_ext (Below.refl wr.heap.size wr).drew C1.out)
      have d2 := Lib.hid (cell_ext (Below.refl wr.heap.size wr).drew C2.out)
      have d3 := Lib.hid (cell_ext (Below.refl wr.heap.size wr).drew C3.out)
      have d4 := Lib.hid (cell_ext (Below.refl wr.heap.size wr).drew C4.out)
      have d5 := Lib.hid (cell_ext (Below.refl wr.heap.size wr).drew C5.out)
      have d6 := Lib.hid (cell_ext (Below.refl wr.heap.size wr).drew C6.out)
      refine wp_region_held_drew (S := fun w' => w'.rangeAt b (off + k * 35) rr.cells ∧ w'.cell? ⟨b, off + k * 35, none⟩ = some (.int .i64 ra) ∧ w'.cell? ⟨b, off + k * 35 + 1, none⟩ = some (.int .i64 rf) ∧ w'.cell? ⟨b, off + k * 35 + 2, none⟩ = some (.slice ro m rc) ∧ w'.cell? ⟨b, off, none⟩ = some (.int .i64 za) ∧ w'.cell? ⟨b, off + 2, none⟩ = some (.slice zo zm zc) ∧ w'.cell? ⟨b, off + (k - 1) * 35 + 1, none⟩ = some (.int .i64 pf)) (by kernel_rfl) ⟨el_rng KE.out, d1.out, d2.out, d3.out, d4.out, d5.out, d6.out⟩ (fun hHeld => ?_)
      clear HEl HBr HTR
      generalize wr.drew = w3 at *
      refine take_dst (some 18) (i := 0) (v := ?vF0) rfl rfl (by kernel_rfl) (by kernel_rfl) (by kernel_rfl) (fun _ _ _ h => h) (Or.inl ⟨by rfl, fun wS hSw => ?hyF0⟩) (by assumption) ?restF0
      case hyF0 => (obtain ⟨s0, s1, s2, s3, s4, s5, s6⟩ := hSw; go_simp; first | done | with_reducible rfl)
      try simp only [Act.put, List.setIfInBounds_toArray, List.set_cons_zero, List.set_cons_succ]
      refine take_dst (some 19) (i := 1) (v := ?vF1) rfl rfl (by kernel_rfl) (by kernel_rfl) (by kernel_rfl) (fun _ _ _ h => h) (Or.inl ⟨by rfl, fun wS hSw => ?hyF1⟩) (by assumption) ?restF1
      case hyF1 => (obtain ⟨s0, s1, s2, s3, s4, s5, s6⟩ := hSw; go_simp; first | done | with_reducible rfl)
      try simp only [Act.put, List.setIfInBounds_toArray, List.set_cons_zero, List.set_cons_succ]
      refine take_dst (some 20) (i := 2) (v := ?vF2) rfl rfl (by kernel_rfl) (by kernel_rfl) (by kernel_rfl) (fun _ _ _ h => h) (Or.inl ⟨by rfl, fun wS hSw => ?hyF2⟩) (by assumption) ?restF2
      case hyF2 => (obtain ⟨s0, s1, s2, s3, s4, s5, s6⟩ := hSw; go_simp; first | done | with_reducible rfl)
      try simp only [Act.put, List.setIfInBounds_toArray, List.set_cons_zero, List.set_cons_succ]
      refine take_dst (some 21) (i := 3) (v := rr.v) rfl rfl (by kernel_rfl) (by kernel_rfl) (by kernel_rfl) (fun _ _ _ h => h) (yieldsIf_load_mid (by rfl) 31 _ rfl b (off + k * 35) rfl rr.cells _ (fun wS hSw => by obtain ⟨s0, s1, s2, s3, s4, s5, s6⟩ := hSw; exact s0) Tryd.underlying31 rfl (by rw [tb_len]; exact tb_sz)) (by assumption) ?restF3
      try simp only [Act.put, List.setIfInBounds_toArray, List.set_cons_zero, List.set_cons_succ]
      refine wpAnyH_ready (rs := [4]) (by kernel_rfl) (by simp) ?_
      refine AllReadyH.cons rfl (fun K hK => ?_) AllReadyH.nil
      go_simp
      refine (HCK.out w3 KT.out).mono ?_
      rintro e w4 ⟨rfl, hb4⟩
      rw [Hck.out]
      have KE4 := Lib.hid (KE.out.ext hb4)
      have KB4 := Lib.hid (below_ext KB.out hb4)
      have q1 := Lib.hid (cell_ext hb4 d1.out)
      have q2 := Lib.hid (cell_ext hb4 d2.out)
      have q3 := Lib.hid (cell_ext hb4 d3.out)
      have q4 := Lib.hid (cell_ext hb4 d4.out)
      have q5 := Lib.hid (cell_ext hb4 d5.out)
      have q6 := Lib.hid (cell_ext hb4 d6.out)
      clear hb4 KB KT KE d1 d2 d3 d4 d5 d6
      refine hK.out _ _ ⟨el_rng KE4.out, q1.out, q2.out, q3.out, q4.out, q5.out, q6.out⟩ (fun hHeld => ?_)
      clear hK K
      try simp only [Act.put, List.setIfInBounds_toArray, List.set_cons_zero, List.set_cons_succ]
      refine take_dst (some 23) (i := 5) (v := ?vF5) rfl rfl (by kernel_rfl) (by kernel_rfl) (by kernel_rfl) (fun _ _ _ h => h) (Or.inl ⟨by rfl, fun wS hSw => ?hyF5⟩) (by assumption) ?restF5
      case hyF5 => (obtain ⟨s0, s1, s2, s3, s4, s5, s6⟩ := hSw; go_simp; first | done | with_reducible rfl)
      try simp only [Act.put, List.setIfInBounds_toArray, List.set_cons_zero, List.set_cons_succ]
      refine take_dst (some 24) (i := 6) (v := ?vF6) rfl rfl (by kernel_rfl) (by kernel_rfl) (by kernel_rfl) (fun _ _ _ h => h) (Or.inl ⟨by rfl, fun wS hSw => ?hyF6⟩) (by assumption) ?restF6
      case hyF6 => (obtain ⟨s0, s1, s2, s3, s4, s5, s6⟩ := hSw; go_simp; first | done | with_reducible rfl)
      try simp only [Act.put, List.setIfInBounds_toArray, List.set_cons_zero, List.set_cons_succ]
      refine take_dst (some 25) (i := 7) (v := ?vF7) rfl rfl (by kernel_rfl) (by kernel_rfl) (by kernel_rfl) (fun _ _ _ h => h) (Or.inl ⟨by rfl, fun wS hSw => ?hyF7⟩) (by assumption) ?restF7
      case hyF7 => (obtain ⟨s0, s1, s2, s3, s4, s5, s6⟩ := hSw; go_simp; first | done | with_reducible rfl)
      try simp only [Act.put, List.setIfInBounds_toArray, List.set_cons_zero, List.set_cons_succ]
      refine take_dst (some 26) (i := 8) (v := ?vF8) rfl rfl (by kernel_rfl) (by kernel_rfl) (by kernel_rfl) (fun _ _ _ h => h) (Or.inl ⟨by rfl, fun wS hSw => ?hyF8⟩) (by assumption) ?restF8
      case hyF8 => (obtain ⟨s0, s1, s2, s3, s4, s5, s6⟩ := hSw; go_simp; first | done | with_reducible rfl)
      try simp only [Act.put, List.setIfInBounds_toArray, List.set_cons_zero, List.set_cons_succ]
      refine take_dst (some 27) (i := 9) (v := ?vF9) rfl rfl (by kernel_rfl) (by kernel_rfl) (by kernel_rfl) (fun _ _ _ h => h) (Or.inl ⟨by rfl, fun wS hSw => ?hyF9⟩) (by assumption) ?restF9
      case hyF9 => (obtain ⟨s0, s1, s2, s3, s4, s5, s6⟩ := hSw; go_simp; first | done | with_reducible rfl)
      try simp only [Act.put, List.setIfInBounds_toArray, List.set_cons_zero, List.set_cons_succ]
      refine take_dst (some 28) (i := 10) (v := ?vF10) rfl rfl (by kernel_rfl) (by kernel_rfl) (by kernel_rfl) (fun _ _ _ h => h) (Or.inl ⟨by rfl, fun wS hSw => ?hyF10⟩) (by assumption) ?restF10
      case hyF10 => (obtain ⟨s0, s1, s2, s3, s4, s5, s6⟩ := hSw; go_simp; first | done | with_reducible rfl)
      try simp only [Act.put, List.setIfInBounds_toArray, List.set_cons_zero, List.set_cons_succ]
      refine take_dst (some 29) (i := 11) (v := ?vF11) rfl rfl (by kernel_rfl) (by kernel_rfl) (by kernel_rfl) (fun _ _ _ h => h) (Or.inl ⟨by rfl, fun wS hSw => ?hyF11⟩) (by assumption) ?restF11
      case hyF11 => (obtain ⟨s0, s1, s2, s3, s4, s5, s6⟩ := hSw; go_simp; first | done | with_reducible rfl)
      try simp only [Act.put, List.setIfInBounds_toArray, List.set_cons_zero, List.set_cons_succ]
      refine take_dst (some 30) (i := 12) (v := ?vF12) rfl rfl (by kernel_rfl) (by kernel_rfl) (by kernel_rfl) (fun _ _ _ h => h) (Or.inl ⟨by rfl, fun wS hSw => ?hyF12⟩) (by assumption) ?restF12
      case hyF12 => (obtain ⟨s0, s1, s2, s3, s4, s5, s6⟩ := hSw; go_simp; first | done | with_reducible rfl)
      try simp only [Act.put, List.setIfInBounds_toArray, List.set_cons_zero, List.set_cons_succ]
      refine take_dst (some 31) (i := 13) (v := ?vF13) rfl rfl (by kernel_rfl) (by kernel_rfl) (by kernel_rfl) (fun _ _ _ h => h) (Or.inl ⟨by rfl, fun wS hSw => ?hyF13⟩) (by assumption) ?restF13
      case hyF13 => (obtain ⟨s0, s1, s2, s3, s4, s5, s6⟩ := hSw; go_simp; first | done | with_reducible rfl)
      try simp only [Act.put, List.setIfInBounds_toArray, List.set_cons_zero, List.set_cons_succ]
      refine take_dst (some 32) (i := 14) (v := ?vF14) rfl rfl (by kernel_rfl) (by kernel_rfl) (by kernel_rfl) (fun _ _ _ h => h) (Or.inl ⟨by rfl, fun wS hSw => ?hyF14⟩) (by assumption) ?restF14
      case hyF14 => (obtain ⟨s0, s1, s2, s3, s4, s5, s6⟩ := hSw; go_simp; first | done | with_reducible rfl)
      try simp only [Act.put, List.setIfInBounds_toArray, List.set_cons_zero, List.set_cons_succ]
      refine take_dst (some 33) (i := 15) (v := ?vF15) rfl rfl (by kernel_rfl) (by kernel_rfl) (by kernel_rfl) (fun _ _ _ h => h) (Or.inl ⟨by rfl, fun wS hSw => ?hyF15⟩) (by assumption) ?restF15
      case hyF15 => (obtain ⟨s0, s1, s2, s3, s4, s5, s6⟩ := hSw; go_simp; first | done | with_reducible rfl)
      try simp only [Act.put, List.setIfInBounds_toArray, List.set_cons_zero, List.set_cons_succ]
      refine take_dst (some 34) (i := 16) (v := ?vF16) rfl rfl (by kernel_rfl) (by kernel_rfl) (by kernel_rfl) (fun _ _ _ h => h) (Or.inl ⟨by rfl, fun wS hSw => ?hyF16⟩) (by assumption) ?restF16
      case hyF16 => (obtain ⟨s0, s1, s2, s3, s4, s5, s6⟩ := hSw; go_simp; first | done | with_reducible rfl)
      try simp only [Act.put, List.setIfInBounds_toArray, List.set_cons_zero, List.set_cons_succ]
      refine take_dst (some 35) (i := 17) (v := ?vF17) rfl rfl (by kernel_rfl) (by kernel_rfl) (by kernel_rfl) (fun _ _ _ h => h) (Or.inl ⟨by rfl, fun wS hSw => ?hyF17⟩) (by assumption) ?restF17
      case hyF17 => (obtain ⟨s0, s1, s2, s3, s4, s5, s6⟩ := hSw; go_simp; first | done | with_reducible rfl)
      try simp only [Act.put, List.setIfInBounds_toArray, List.set_cons_zero, List.set_cons_succ]
      refine take_dst (some 36) (i := 18) (v := ?vF18) rfl rfl (by kernel_rfl) (by kernel_rfl) (by kernel_rfl) (fun _ _ _ h => h) (Or.inl ⟨by rfl, fun wS hSw => ?hyF18⟩) (by assumption) ?restF18
      case hyF18 => (obtain ⟨s0, s1, s2, s3, s4, s5, s6⟩ := hSw; go_simp; first | done | with_reducible rfl)
      try simp only [Act.put, List.setIfInBounds_toArray, List.set_cons_zero, List.set_cons_succ]
      refine take_dst (some 37) (i := 19) (v := ?vF19) rfl rfl (by kernel_rfl) (by kernel_rfl) (by kernel_rfl) (fun _ _ _ h => h) (Or.inl ⟨by rfl, fun wS hSw => ?hyF19⟩) (by assumption) ?restF19
      case hyF19 => (obtain ⟨s0, s1, s2, s3, s4, s5, s6⟩ := hSw; go_simp; first | done | with_reducible rfl)
      try simp only [Act.put, List.setIfInBounds_toArray, List.set_cons_zero, List.set_cons_succ]
      refine take_dst (some 38) (i := 20) (v := ?vF20) rfl rfl (by kernel_rfl) (by kernel_rfl) (by kernel_rfl) (fun _ _ _ h => h) (Or.inl ⟨by rfl, fun wS hSw => ?hyF20⟩) (by assumption) ?restF20
      case hyF20 => (obtain ⟨s0, s1, s2, s3, s4, s5, s6⟩ := hSw; go_simp; first | done | with_reducible rfl)
      try simp only [Act.put, List.setIfInBounds_toArray, List.set_cons_zero, List.set_cons_succ]
      refine take_dst (some 39) (i := 21) (v := ?vF21) rfl rfl (by kernel_rfl) (by kernel_rfl) (by kernel_rfl) (fun _ _ _ h => h) (Or.inl ⟨by rfl, fun wS hSw => ?hyF21⟩) (by assumption) ?restF21
      case hyF21 => (obtain ⟨s0, s1, s2, s3, s4, s5, s6⟩ := hSw; go_simp; first | done | with_reducible rfl)
      try simp only [Act.put, List.setIfInBounds_toArray, List.set_cons_zero, List.set_cons_succ]
      refine take_dst (some 40) (i := 22) (v := ?vF22) rfl rfl (by kernel_rfl) (by kernel_rfl) (by kernel_rfl) (fun _ _ _ h => h) (Or.inl ⟨by rfl, fun wS hSw => ?hyF22⟩) (by assumption) ?restF22
      case hyF22 => (obtain ⟨s0, s1, s2, s3, s4, s5, s6⟩ := hSw; go_simp; first | done | with_reducible rfl)
      try simp only [Act.put, List.setIfInBounds_toArray, List.set_cons_zero, List.set_cons_succ]
      refine take_dst (some 41) (i := 23) (v := ?vF23) rfl rfl (by kernel_rfl) (by kernel_rfl) (by kernel_rfl) (fun _ _ _ h => h) (Or.inl ⟨by rfl, fun wS hSw => ?hyF23⟩) (by assumption) ?restF23
      case hyF23 => (obtain ⟨s0, s1, s2, s3, s4, s5, s6⟩ := hSw; go_simp; first | done | with_reducible rfl)
      try simp only [Act.put, List.setIfInBounds_toArray, List.set_cons_zero, List.set_cons_succ]
      refine take_dst (some 42) (i := 24) (v := ?vF24) rfl rfl (by kernel_rfl) (by kernel_rfl) (by kernel_rfl) (fun _ _ _ h => h) (Or.inl ⟨by rfl, fun wS hSw => ?hyF24⟩) (by assumption) ?restF24
      case hyF24 => (obtain ⟨s0, s1, s2, s3, s4, s5, s6⟩ := hSw; go_simp; first | done | with_reducible rfl)
      try simp only [Act.put, List.setIfInBounds_toArray, List.set_cons_zero, List.set_cons_succ]
      refine take_dst (some 43) (i := 25) (v := ?vF25) rfl rfl (by kernel_rfl) (by kernel_rfl) (by kernel_rfl) (fun _ _ _ h => h) (Or.inl ⟨by rfl, fun wS hSw => ?hyF25⟩) (by assumption) ?restF25
      case hyF25 => (obtain ⟨s0, s1, s2, s3, s4, s5, s6⟩ := hSw; go_simp; first | done | with_reducible rfl)
      try simp only [Act.put, List.setIfInBounds_toArray, List.set_cons_zero, List.set_cons_succ]
      refine take_dst (some 44) (i := 26) (v := ?vF26) rfl rfl (by kernel_rfl) (by kernel_rfl) (by kernel_rfl) (fun _ _ _ h => h) (Or.inl ⟨by rfl, fun wS hSw => ?hyF26⟩) (by assumption) ?restF26
      case hyF26 => (obtain ⟨s0, s1, s2, s3, s4, s5, s6⟩ := hSw; go_simp; first | done | with_reducible rfl)
      try simp only [Act.put, List.setIfInBounds_toArray, List.set_cons_zero, List.set_cons_succ]
      refine take_dst (some 45) (i := 27) (v := ?vF27) rfl rfl (by kernel_rfl) (by kernel_rfl) (by kernel_rfl) (fun _ _ _ h => h) (Or.inl ⟨by rfl, fun wS hSw => ?hyF27⟩) (by assumption) ?restF27
      case hyF27 => (obtain ⟨s0, s1, s2, s3, s4, s5, s6⟩ := hSw; go_simp; first | done | with_reducible rfl)
      try simp only [Act.put, List.setIfInBounds_toArray, List.set_cons_zero, List.set_cons_succ]
      refine take_dst (some 46) (i := 28) (v := ?vF28) rfl rfl (by kernel_rfl) (by kernel_rfl) (by kernel_rfl) (fun _ _ _ h => h) (Or.inl ⟨by rfl, fun wS hSw => ?hyF28⟩) (by assumption) ?restF28
      case hyF28 => (obtain ⟨s0, s1, s2, s3, s4, s5, s6⟩ := hSw; go_simp; first | done | with_reducible rfl)
      try simp only [Act.put, List.setIfInBounds_toArray, List.set_cons_zero, List.set_cons_succ]
      refine take_dst (some 47) (i := 29) (v := ?vF29) rfl rfl (by kernel_rfl) (by kernel_rfl) (by kernel_rfl) (fun _ _ _ h => h) (Or.inl ⟨by rfl, fun wS hSw => ?hyF29⟩) (by assumption) ?restF29
      case hyF29 => (obtain ⟨s0, s1, s2, s3, s4, s5, s6⟩ := hSw; go_simp; first | done | with_reducible rfl)
      try simp only [Act.put, List.setIfInBounds_toArray, List.set_cons_zero, List.set_cons_succ]
      refine take_dst (some 48) (i := 30) (v := ?vF30) rfl rfl (by kernel_rfl) (by kernel_rfl) (by kernel_rfl) (fun _ _ _ h => h) (Or.inl ⟨by rfl, fun wS hSw => ?hyF30⟩) (by assumption) ?restF30
      case hyF30 => (obtain ⟨s0, s1, s2, s3, s4, s5, s6⟩ := hSw; go_simp; first | done | with_reducible rfl)
      try simp only [Act.put, List.setIfInBounds_toArray, List.set_cons_zero, List.set_cons_succ]
      refine take_dst (some 49) (i := 31) (v := ?vF31) rfl rfl (by kernel_rfl) (by kernel_rfl) (by kernel_rfl) (fun _ _ _ h => h) (Or.inl ⟨by rfl, fun wS hSw => ?hyF31⟩) (by assumption) ?restF31
      case hyF31 => (obtain ⟨s0, s1, s2, s3, s4, s5, s6⟩ := hSw; go_simp; first | done | with_reducible rfl)
      try simp only [Act.put, List.setIfInBounds_toArray, List.set_cons_zero, List.set_cons_succ]
      refine take_dst (some 50) (i := 32) (v := ?vF32) rfl rfl (by kernel_rfl) (by kernel_rfl) (by kernel_rfl) (fun _ _ _ h => h) (Or.inl ⟨by rfl, fun wS hSw => ?hyF32⟩) (by assumption) ?restF32
      case hyF32 => (obtain ⟨s0, s1, s2, s3, s4, s5, s6⟩ := hSw; go_simp; first | done | with_reducible rfl)
      try simp only [Act.put, List.setIfInBounds_toArray, List.set_cons_zero, List.set_cons_succ]
      refine take_dst (some 51) (i := 33) (v := ?vF33) rfl rfl (by kernel_rfl) (by kernel_rfl) (by kernel_rfl) (fun _ _ _ h => h) (Or.inl ⟨by rfl, fun wS hSw => ?hyF33⟩) (by assumption) ?restF33
      case hyF33 => (obtain ⟨s0, s1, s2, s3, s4, s5, s6⟩ := hSw; go_simp; first | done | with_reducible rfl)
      try simp only [Act.put, List.setIfInBounds_toArray, List.set_cons_zero, List.set_cons_succ]
      refine take_dst (some 52) (i := 34) (v := ?vF34) rfl rfl (by kernel_rfl) (by kernel_rfl) (by kernel_rfl) (fun _ _ _ h => h) (Or.inl ⟨by rfl, fun wS hSw => ?hyF34⟩) (by assumption) ?restF34
      case hyF34 => (obtain ⟨s0, s1, s2, s3, s4, s5, s6⟩ := hSw; go_simp; first | done | with_reducible rfl)
      try simp only [Act.put, List.setIfInBounds_toArray, List.set_cons_zero, List.set_cons_succ]
      refine take_dst (some 53) (i := 35) (v := ?vF35) rfl rfl (by kernel_rfl) (by kernel_rfl) (by kernel_rfl) (fun _ _ _ h => h) (Or.inl ⟨by rfl, fun wS hSw => ?hyF35⟩) (by assumption) ?restF35
      case hyF35 => (obtain ⟨s0, s1, s2, s3, s4, s5, s6⟩ := hSw; go_simp; first | done | with_reducible rfl)
      try simp only [Act.put, List.setIfInBounds_toArray, List.set_cons_zero, List.set_cons_succ]
      refine take_dst (some 54) (i := 36) (v := ?vF36) rfl rfl (by kernel_rfl) (by kernel_rfl) (by kernel_rfl) (fun _ _ _ h => h) (Or.inl ⟨by rfl, fun wS hSw => ?hyF36⟩) (by assumption) ?restF36
      case hyF36 => (obtain ⟨s0, s1, s2, s3, s4, s5, s6⟩ := hSw; go_simp; first | done | with_reducible rfl)
      try simp only [Act.put, List.setIfInBounds_toArray, List.set_cons_zero, List.set_cons_succ]
      refine take_dst (some 55) (i := 37) (v := ?vF37) rfl rfl (by kernel_rfl) (by kernel_rfl) (by kernel_rfl) (fun _ _ _ h => h) (Or.inl ⟨by rfl, fun wS hSw => ?hyF37⟩) (by assumption) ?restF37
      case hyF37 => (obtain ⟨s0, s1, s2, s3, s4, s5, s6⟩ := hSw; go_simp; first | done | with_reducible rfl)
      try simp only [Act.put, List.setIfInBounds_toArray, List.set_cons_zero, List.set_cons_succ]
      refine take_dst (some 56) (i := 38) (v := ?vF38) rfl rfl (by kernel_rfl) (by kernel_rfl) (by kernel_rfl) (fun _ _ _ h => h) (Or.inl ⟨by rfl, fun wS hSw => ?hyF38⟩) (by assumption) ?restF38
      case hyF38 => (obtain ⟨s0, s1, s2, s3, s4, s5, s6⟩ := hSw; go_simp; first | done | with_reducible rfl)
      try simp only [Act.put, List.setIfInBounds_toArray, List.set_cons_zero, List.set_cons_succ]
      refine take_dst (some 57) (i := 39) (v := ?vF39) rfl rfl (by kernel_rfl) (by kernel_rfl) (by kernel_rfl) (fun _ _ _ h => h) (Or.inl ⟨by rfl, fun wS hSw => ?hyF39⟩) (by assumption) ?restF39
      case hyF39 => (obtain ⟨s0, s1, s2, s3, s4, s5, s6⟩ := hSw; go_simp; first | done | with_reducible rfl)
      try simp only [Act.put, List.setIfInBounds_toArray, List.set_cons_zero, List.set_cons_succ]
      refine take_dst (some 58) (i := 40) (v := ?vF40) rfl rfl (by kernel_rfl) (by kernel_rfl) (by kernel_rfl) (fun _ _ _ h => h) (Or.inl ⟨by rfl, fun wS hSw => ?hyF40⟩) (by assumption) ?restF40
      case hyF40 => (obtain ⟨s0, s1, s2, s3, s4, s5, s6⟩ := hSw; go_simp; first | done | with_reducible rfl)
      try simp only [Act.put, List.setIfInBounds_toArray, List.set_cons_zero, List.set_cons_succ]
      refine take_dst (some 59) (i := 41) (v := ?vF41) rfl rfl (by kernel_rfl) (by kernel_rfl) (by kernel_rfl) (fun _ _ _ h => h) (Or.inl ⟨by rfl, fun wS hSw => ?hyF41⟩) (by assumption) ?restF41
      case hyF41 => (obtain ⟨s0, s1, s2, s3, s4, s5, s6⟩ := hSw; go_simp; first | done | with_reducible rfl)
      try simp only [Act.put, List.setIfInBounds_toArray, List.set_cons_zero, List.set_cons_succ]
      refine take_dst (some 60) (i := 42) (v := ?vF42) rfl rfl (by kernel_rfl) (by kernel_rfl) (by kernel_rfl) (fun _ _ _ h => h) (Or.inl ⟨by rfl, fun wS hSw => ?hyF42⟩) (by assumption) ?restF42
      case hyF42 => (obtain ⟨s0, s1, s2, s3, s4, s5, s6⟩ := hSw; go_simp; first | done | with_reducible rfl)
      try simp only [Act.put, List.setIfInBounds_toArray, List.set_cons_zero, List.set_cons_succ]
      refine take_dst (some 61) (i := 43) (v := ?vF43) rfl rfl (by kernel_rfl) (by kernel_rfl) (by kernel_rfl) (fun _ _ _ h => h) (Or.inl ⟨by rfl, fun wS hSw => ?hyF43⟩) (by assumption) ?restF43
      case hyF43 => (obtain ⟨s0, s1, s2, s3, s4, s5, s6⟩ := hSw; go_simp; first | done | with_reducible rfl)
      try simp only [Act.put, List.setIfInBounds_toArray, List.set_cons_zero, List.set_cons_succ]
      refine take_dst (some 62) (i := 44) (v := ?vF44) rfl rfl (by kernel_rfl) (by kernel_rfl) (by kernel_rfl) (fun _ _ _ h => h) (Or.inl ⟨by rfl, fun wS hSw => ?hyF44⟩) (by assumption) ?restF44
      case hyF44 => (obtain ⟨s0, s1, s2, s3, s4, s5, s6⟩ := hSw; go_simp; first | done | with_reducible rfl)
      try simp only [Act.put, List.setIfInBounds_toArray, List.set_cons_zero, List.set_cons_succ]
      refine take_dst (some 63) (i := 45) (v := ?vF45) rfl rfl (by kernel_rfl) (by kernel_rfl) (by kernel_rfl) (fun _ _ _ h => h) (Or.inl ⟨by rfl, fun wS hSw => ?hyF45⟩) (by assumption) ?restF45
      case hyF45 => (obtain ⟨s0, s1, s2, s3, s4, s5, s6⟩ := hSw; go_simp; first | done | with_reducible rfl)
      try simp only [Act.put, List.setIfInBounds_toArray, List.set_cons_zero, List.set_cons_succ]
      refine take_dst (some 64) (i := 46) (v := ?vF46) rfl rfl (by kernel_rfl) (by kernel_rfl) (by kernel_rfl) (fun _ _ _ h => h) (Or.inl ⟨by rfl, fun wS hSw => ?hyF46⟩) (by assumption) ?restF46
      case hyF46 => (obtain ⟨s0, s1, s2, s3, s4, s5, s6⟩ := hSw; go_simp; first | done | with_reducible rfl)
      try simp only [Act.put, List.setIfInBounds_toArray, List.set_cons_zero, List.set_cons_succ]
      refine take_dst (some 65) (i := 47) (v := ?vF47) rfl rfl (by kernel_rfl) (by kernel_rfl) (by kernel_rfl) (fun _ _ _ h => h) (Or.inl ⟨by rfl, fun wS hSw => ?hyF47⟩) (by assumption) ?restF47
      case hyF47 => (obtain ⟨s0, s1, s2, s3, s4, s5, s6⟩ := hSw; go_simp; first | done | with_reducible rfl)
      try simp only [Act.put, List.setIfInBounds_toArray, List.set_cons_zero, List.set_cons_succ]
      refine take_dst (some 66) (i := 48) (v := ?vF48) rfl rfl (by kernel_rfl) (by kernel_rfl) (by kernel_rfl) (fun _ _ _ h => h) (Or.inl ⟨by rfl, fun wS hSw => ?hyF48⟩) (by assumption) ?restF48
      case hyF48 => (obtain ⟨s0, s1, s2, s3, s4, s5, s6⟩ := hSw; go_simp; first | done | with_reducible rfl)
      try simp only [Act.put, List.setIfInBounds_toArray, List.set_cons_zero, List.set_cons_succ]
      refine take_dst (some 67) (i := 49) (v := ?vF49) rfl rfl (by kernel_rfl) (by kernel_rfl) (by kernel_rfl) (fun _ _ _ h => h) (Or.inl ⟨by rfl, fun wS hSw => ?hyF49⟩) (by assumption) ?restF49
      case hyF49 => (obtain ⟨s0, s1, s2, s3, s4, s5, s6⟩ := hSw; go_simp; first | done | with_reducible rfl)
      try simp only [Act.put, List.setIfInBounds_toArray, List.set_cons_zero, List.set_cons_succ]
      refine wpAnyH_done (by kernel_rfl) ?_ _
      go_wp2_with fail
      go_roundw
      case rel => exact ⟨⟨k + 1, by omega, by go_num, fun j hj => by
        by_cases e : j = k
        · subst e; exact hyes.out
        · exact HN.out j (by omega), KB4.out⟩⟩
      case measure => simp [intO]; omega
end Go.Proofs.YtbonebmboolemaaDoor
