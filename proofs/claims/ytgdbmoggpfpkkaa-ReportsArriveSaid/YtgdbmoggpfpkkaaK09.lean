/- Merged: Rqc Rad. -/
import Derived.Test.YtgdbmoggpfpkkaaK07
import Derived.Test.YtgdbmoggpfpkkaaK08
/- the reference: Collected. (Printed by gen22q.py.) -/
namespace Go.Proofs.Ytgdbmoggpfpkkaa
open Go.RowKit
theorem rcheck_t (r : Rp) (h : Hid (repB 4 3 r = true)) (hs : r.cl.size ≤ 9223372036854775807) (w : World) : Calls Try.prog 14 #[.int .i64 4, r.v] w fun e w' => e = .returned (.int .i64 0) ∧ Below w.heap.size w w' :=
  (rcheck22_any 4 3 r w three hs).mono fun _ _ q => ⟨by rw [q.1, h.out]; rfl, q.2⟩
theorem rcheck_f (r : Rp) (h : Hid (repB 4 3 r = false)) (hs : r.cl.size ≤ 9223372036854775807) (w : World) : Calls Try.prog 14 #[.int .i64 4, r.v] w fun e w' => e = .returned (.int .i64 220) ∧ Below w.heap.size w w' :=
  (rcheck22_any 4 3 r w three hs).mono fun _ _ q => ⟨by rw [q.1, h.out]; rfl, q.2⟩
set_option maxRecDepth 100000 in
set_option maxHeartbeats 4000000 in
theorem rcollected_any (l : List Rp) (v : Value) (w : World) (hl : RpsAt w.heap.size w l v) (hs : ∀ r ∈ l, r.cl.size ≤ 9223372036854775807) :
    Calls Try.prog 47 #[v] w fun e w' => e = .returned (.bool (colB l)) ∧ Below w.heap.size w w' := by
  obtain ⟨oa, cap, rfl, hlm⟩ := hl.shape
  have HR := Lib.hid hl; have HS := Lib.hid hs
  have bl : (l.length : Int) ≤ 9223372036854775807 := by omega
  clear hl hs hlm
  go_enter Try.func47, Try.ntmps47
  go_wp2_with fail
  go_loopw [3] (fun i wr => CoRel l w i wr) (fun i _ => l.length - (intOf i).toNat)
  case atStart => exact ⟨0, by omega, rfl, rfl, Below.refl _ _⟩
  case round =>
    obtain ⟨k, hk, rfl, hi, hb⟩ := hrel
    have HIn := Lib.hid hi; have HB := Lib.hid hb
    clear hi hb
    by_cases hlt : k < l.length
    · have tj : decide ((k : Int) < (l.length : Int)) = true := by simp; omega
      have tj' : (k : Int) < (l.length : Int) := by omega
      obtain ⟨r, hr⟩ : ∃ r, l[k]? = some r := ⟨_, List.getElem?_eq_getElem hlt⟩
      obtain ⟨b, off, rfl, hat⟩ := (HR.out.ext HB.out).at hlt
      have Hat1 := Lib.hid (hat k r hr)
      have Hat := Lib.hid hat; have Hr := Lib.hid hr
      have Hsz : Hid (r.cl.size ≤ 9223372036854775807) := HS.out r (List.mem_of_getElem? hr)
      clear hat hr
      have hbS := (Below.refl wr.heap.size wr).drew
      cases hrb : repB 4 3 r
      · have Hrb := Lib.hid hrb
        have hN := Lib.hid (col_bad Hr.out HIn.out hrb)
        clear hrb
        go_upto_region 4 with fail
        refine wp_region_noPanic ?_
        refine wp_region_held_drew (S := fun w' => w'.cell? ⟨b, off + k * 6, none⟩ = some (.int .i64 r.st) ∧ w'.cell? ⟨b, off + k * 6 + 1, none⟩ = some (.int .i64 r.no) ∧ w'.cell? ⟨b, off + k * 6 + 2, none⟩ = some (.int .i64 r.mi) ∧ w'.cell? ⟨b, off + k * 6 + 3, none⟩ = some (.int .i64 r.ar) ∧ w'.cell? ⟨b, off + k * 6 + 4, none⟩ = some (.string r.cl) ∧ w'.cell? ⟨b, off + k * 6 + 5, none⟩ = some (.int .i64 r.vo)) (by kernel_rfl) (Hat1.out.ext hbS).six (fun hHeld => ?_)
        refine take_dst (some 10) (i := 0) (v := ?vA0) rfl rfl (by kernel_rfl) (by kernel_rfl) (by kernel_rfl) (fun _ _ _ h => h) (Or.inl ⟨by rfl, fun wS hSw => ?hyA0⟩) (by assumption) ?restA0
        case hyA0 => (obtain ⟨s0, s1, s2, s3, s4, s5⟩ := hSw; go_simp; first | done | with_reducible rfl)
        try simp only [Act.put, List.setIfInBounds_toArray, List.set_cons_zero, List.set_cons_succ]
        refine take_dst (some 11) (i := 1) (v := ?vA1) rfl rfl (by kernel_rfl) (by kernel_rfl) (by kernel_rfl) (fun _ _ _ h => h) (Or.inl ⟨by rfl, fun wS hSw => ?hyA1⟩) (by assumption) ?restA1
        case hyA1 => (obtain ⟨s0, s1, s2, s3, s4, s5⟩ := hSw; go_simp; first | done | with_reducible rfl)
        try simp only [Act.put, List.setIfInBounds_toArray, List.set_cons_zero, List.set_cons_succ]
        refine take_dst (some 12) (i := 2) (v := ?vA2) rfl rfl (by kernel_rfl) (by kernel_rfl) (by kernel_rfl) (fun _ _ _ h => h) (Or.inl ⟨by rfl, fun wS hSw => ?hyA2⟩) (by assumption) ?restA2
        case hyA2 => (obtain ⟨s0, s1, s2, s3, s4, s5⟩ := hSw; go_simp; first | done | with_reducible rfl)
        try simp only [Act.put, List.setIfInBounds_toArray, List.set_cons_zero, List.set_cons_succ]
        refine take_dst (some 13) (i := 3) (v := ?vA3) rfl rfl (by kernel_rfl) (by kernel_rfl) (by kernel_rfl) (fun _ _ _ h => h) (Or.inl ⟨by rfl, fun wS hSw => ?hyA3⟩) (by assumption) ?restA3
        case hyA3 => (obtain ⟨s0, s1, s2, s3, s4, s5⟩ := hSw; go_simp; first | done | with_reducible rfl)
        try simp only [Act.put, List.setIfInBounds_toArray, List.set_cons_zero, List.set_cons_succ]
        refine wpAnyH_ready (rs := [4]) (by kernel_rfl) (by simp) ?_
        refine AllReadyH.cons rfl (fun K hK => ?_) AllReadyH.nil
        go_simp
        refine (rcheck_f r Hrb Hsz.out _).mono ?_
        rintro e w7 ⟨rfl, hb7⟩
        have hbS2 : Below wr.heap.size wr w7 := below_undrew' hb7
        refine hK.out _ _ (Hat1.out.ext hbS2).six (fun hHeld => ?_)
        clear hK K
        try simp only [Act.put, List.setIfInBounds_toArray, List.set_cons_zero, List.set_cons_succ]
        refine take_dst (some 15) (i := 5) (v := ?vA5) rfl rfl (by kernel_rfl) (by kernel_rfl) (by kernel_rfl) (fun _ _ _ h => h) (Or.inl ⟨by rfl, fun wS hSw => ?hyA5⟩) (by assumption) ?restA5
        case hyA5 => (obtain ⟨s0, s1, s2, s3, s4, s5⟩ := hSw; go_simp; first | done | with_reducible rfl)
        try simp only [Act.put, List.setIfInBounds_toArray, List.set_cons_zero, List.set_cons_succ]
        refine take_dst (some 16) (i := 6) (v := ?vA6) rfl rfl (by kernel_rfl) (by kernel_rfl) (by kernel_rfl) (fun _ _ _ h => h) (Or.inl ⟨by rfl, fun wS hSw => ?hyA6⟩) (by assumption) ?restA6
        case hyA6 => (obtain ⟨s0, s1, s2, s3, s4, s5⟩ := hSw; go_simp; first | done | with_reducible rfl)
        try simp only [Act.put, List.setIfInBounds_toArray, List.set_cons_zero, List.set_cons_succ]
        refine take_dst (some 17) (i := 7) (v := undef) rfl rfl (by kernel_rfl) (by kernel_rfl) (by kernel_rfl) (fun _ _ _ h => h) (Or.inr ⟨by rfl, rfl⟩) (by assumption) ?restA7
        try simp only [Act.put, List.setIfInBounds_toArray, List.set_cons_zero, List.set_cons_succ]
        refine take_dst (some 18) (i := 8) (v := undef) rfl rfl (by kernel_rfl) (by kernel_rfl) (by kernel_rfl) (fun _ _ _ h => h) (Or.inr ⟨by rfl, rfl⟩) (by assumption) ?restA8
        try simp only [Act.put, List.setIfInBounds_toArray, List.set_cons_zero, List.set_cons_succ]
        refine take_dst (some 19) (i := 9) (v := undef) rfl rfl (by kernel_rfl) (by kernel_rfl) (by kernel_rfl) (fun _ _ _ h => h) (Or.inr ⟨by rfl, rfl⟩) (by assumption) ?restA9
        try simp only [Act.put, List.setIfInBounds_toArray, List.set_cons_zero, List.set_cons_succ]
        refine take_dst (some 20) (i := 10) (v := undef) rfl rfl (by kernel_rfl) (by kernel_rfl) (by kernel_rfl) (fun _ _ _ h => h) (Or.inr ⟨by rfl, rfl⟩) (by assumption) ?restA10
        try simp only [Act.put, List.setIfInBounds_toArray, List.set_cons_zero, List.set_cons_succ]
        refine take_dst (some 21) (i := 11) (v := undef) rfl rfl (by kernel_rfl) (by kernel_rfl) (by kernel_rfl) (fun _ _ _ h => h) (Or.inr ⟨by rfl, rfl⟩) (by assumption) ?restA11
        try simp only [Act.put, List.setIfInBounds_toArray, List.set_cons_zero, List.set_cons_succ]
        refine take_dst (some 22) (i := 12) (v := undef) rfl rfl (by kernel_rfl) (by kernel_rfl) (by kernel_rfl) (fun _ _ _ h => h) (Or.inr ⟨by rfl, rfl⟩) (by assumption) ?restA12
        try simp only [Act.put, List.setIfInBounds_toArray, List.set_cons_zero, List.set_cons_succ]
        refine take_dst (some 23) (i := 13) (v := undef) rfl rfl (by kernel_rfl) (by kernel_rfl) (by kernel_rfl) (fun _ _ _ h => h) (Or.inr ⟨by rfl, rfl⟩) (by assumption) ?restA13
        try simp only [Act.put, List.setIfInBounds_toArray, List.set_cons_zero, List.set_cons_succ]
        refine take_dst (some 24) (i := 14) (v := undef) rfl rfl (by kernel_rfl) (by kernel_rfl) (by kernel_rfl) (fun _ _ _ h => h) (Or.inr ⟨by rfl, rfl⟩) (by assumption) ?restA14
        try simp only [Act.put, List.setIfInBounds_toArray, List.set_cons_zero, List.set_cons_succ]
        refine take_dst (some 25) (i := 15) (v := undef) rfl rfl (by kernel_rfl) (by kernel_rfl) (by kernel_rfl) (fun _ _ _ h => h) (Or.inr ⟨by rfl, rfl⟩) (by assumption) ?restA15
        try simp only [Act.put, List.setIfInBounds_toArray, List.set_cons_zero, List.set_cons_succ]
        refine take_dst (some 26) (i := 16) (v := undef) rfl rfl (by kernel_rfl) (by kernel_rfl) (by kernel_rfl) (fun _ _ _ h => h) (Or.inr ⟨by rfl, rfl⟩) (by assumption) ?restA16
        try simp only [Act.put, List.setIfInBounds_toArray, List.set_cons_zero, List.set_cons_succ]
        refine take_dst (some 27) (i := 17) (v := undef) rfl rfl (by kernel_rfl) (by kernel_rfl) (by kernel_rfl) (fun _ _ _ h => h) (Or.inr ⟨by rfl, rfl⟩) (by assumption) ?restA17
        try simp only [Act.put, List.setIfInBounds_toArray, List.set_cons_zero, List.set_cons_succ]
        refine take_dst (some 28) (i := 18) (v := undef) rfl rfl (by kernel_rfl) (by kernel_rfl) (by kernel_rfl) (fun _ _ _ h => h) (Or.inr ⟨by rfl, rfl⟩) (by assumption) ?restA18
        try simp only [Act.put, List.setIfInBounds_toArray, List.set_cons_zero, List.set_cons_succ]
        refine take_dst (some 29) (i := 19) (v := undef) rfl rfl (by kernel_rfl) (by kernel_rfl) (by kernel_rfl) (fun _ _ _ h => h) (Or.inr ⟨by rfl, rfl⟩) (by assumption) ?restA19
        try simp only [Act.put, List.setIfInBounds_toArray, List.set_cons_zero, List.set_cons_succ]
        refine take_dst (some 30) (i := 20) (v := undef) rfl rfl (by kernel_rfl) (by kernel_rfl) (by kernel_rfl) (fun _ _ _ h => h) (Or.inr ⟨by rfl, rfl⟩) (by assumption) ?restA20
        try simp only [Act.put, List.setIfInBounds_toArray, List.set_cons_zero, List.set_cons_succ]
        refine take_dst (some 31) (i := 21) (v := undef) rfl rfl (by kernel_rfl) (by kernel_rfl) (by kernel_rfl) (fun _ _ _ h => h) (Or.inr ⟨by rfl, rfl⟩) (by assumption) ?restA21
        try simp only [Act.put, List.setIfInBounds_toArray, List.set_cons_zero, List.set_cons_succ]
        refine take_dst (some 32) (i := 22) (v := ?vA22) rfl rfl (by kernel_rfl) (by kernel_rfl) (by kernel_rfl) (fun _ _ _ h => h) (Or.inl ⟨by rfl, fun wS hSw => ?hyA22⟩) (by assumption) ?restA22
        case hyA22 => (obtain ⟨s0, s1, s2, s3, s4, s5⟩ := hSw; go_simp; first | done | with_reducible rfl)
        try simp only [Act.put, List.setIfInBounds_toArray, List.set_cons_zero, List.set_cons_succ]
        refine wpAnyH_done (by kernel_rfl) ?_ _
        refine NoPanic.normal ?_
        have HB2 := Lib.hid (below_ext HB.out hbS2)
        clear hbS hbS2
        go_wp2_with fail
        go_ret
        exact ⟨by unfold colB; rw [hN.out]; rfl, HB2.out⟩
      · have Hrb := Lib.hid hrb
        clear hrb
        by_cases hk0 : k = 0
        · subst hk0
          have hN := Lib.hid (col_zero Hr.out Hrb.out)
          have tk : decide ((0 : Int) < ((0 : Nat) : Int)) = false := by simp
          have Hat1 : Hid (RpAt wr b off r) := by have := Hat1.out; rw [Nat.zero_mul, Nat.add_zero] at this; exact this
          go_upto_region 4 with fail
          refine wp_region_noPanic ?_
          refine wp_region_held_drew (S := fun w' => w'.cell? ⟨b, off, none⟩ = some (.int .i64 r.st) ∧ w'.cell? ⟨b, off + 1, none⟩ = some (.int .i64 r.no) ∧ w'.cell? ⟨b, off + 2, none⟩ = some (.int .i64 r.mi) ∧ w'.cell? ⟨b, off + 3, none⟩ = some (.int .i64 r.ar) ∧ w'.cell? ⟨b, off + 4, none⟩ = some (.string r.cl) ∧ w'.cell? ⟨b, off + 5, none⟩ = some (.int .i64 r.vo)) (by kernel_rfl) (Hat1.out.ext hbS).six (fun hHeld => ?_)
          refine take_dst (some 10) (i := 0) (v := ?vB0) rfl rfl (by kernel_rfl) (by kernel_rfl) (by kernel_rfl) (fun _ _ _ h => h) (Or.inl ⟨by rfl, fun wS hSw => ?hyB0⟩) (by assumption) ?restB0
          case hyB0 => (obtain ⟨s0, s1, s2, s3, s4, s5⟩ := hSw; go_simp; first | done | with_reducible rfl)
          try simp only [Act.put, List.setIfInBounds_toArray, List.set_cons_zero, List.set_cons_succ]
          refine take_dst (some 11) (i := 1) (v := ?vB1) rfl rfl (by kernel_rfl) (by kernel_rfl) (by kernel_rfl) (fun _ _ _ h => h) (Or.inl ⟨by rfl, fun wS hSw => ?hyB1⟩) (by assumption) ?restB1
          case hyB1 => (obtain ⟨s0, s1, s2, s3, s4, s5⟩ := hSw; go_simp; first | done | with_reducible rfl)
          try simp only [Act.put, List.setIfInBounds_toArray, List.set_cons_zero, List.set_cons_succ]
          refine take_dst (some 12) (i := 2) (v := ?vB2) rfl rfl (by kernel_rfl) (by kernel_rfl) (by kernel_rfl) (fun _ _ _ h => h) (Or.inl ⟨by rfl, fun wS hSw => ?hyB2⟩) (by assumption) ?restB2
          case hyB2 => (obtain ⟨s0, s1, s2, s3, s4, s5⟩ := hSw; go_simp; first | done | with_reducible rfl)
          try simp only [Act.put, List.setIfInBounds_toArray, List.set_cons_zero, List.set_cons_succ]
          refine take_dst (some 13) (i := 3) (v := ?vB3) rfl rfl (by kernel_rfl) (by kernel_rfl) (by kernel_rfl) (fun _ _ _ h => h) (Or.inl ⟨by rfl, fun wS hSw => ?hyB3⟩) (by assumption) ?restB3
          case hyB3 => (obtain ⟨s0, s1, s2, s3, s4, s5⟩ := hSw; go_simp; first | done | with_reducible rfl)
          try simp only [Act.put, List.setIfInBounds_toArray, List.set_cons_zero, List.set_cons_succ]
          refine wpAnyH_ready (rs := [4]) (by kernel_rfl) (by simp) ?_
          refine AllReadyH.cons rfl (fun K hK => ?_) AllReadyH.nil
          go_simp
          refine (rcheck_t r Hrb Hsz.out _).mono ?_
          rintro e w7 ⟨rfl, hb7⟩
          have hbS2 : Below wr.heap.size wr w7 := below_undrew' hb7
          refine hK.out _ _ (Hat1.out.ext hbS2).six (fun hHeld => ?_)
          clear hK K
          try simp only [Act.put, List.setIfInBounds_toArray, List.set_cons_zero, List.set_cons_succ]
          refine take_dst (some 15) (i := 5) (v := ?vB5) rfl rfl (by kernel_rfl) (by kernel_rfl) (by kernel_rfl) (fun _ _ _ h => h) (Or.inl ⟨by rfl, fun wS hSw => ?hyB5⟩) (by assumption) ?restB5
          case hyB5 => (obtain ⟨s0, s1, s2, s3, s4, s5⟩ := hSw; go_simp; first | done | with_reducible rfl)
          try simp only [Act.put, List.setIfInBounds_toArray, List.set_cons_zero, List.set_cons_succ]
          refine take_dst (some 16) (i := 6) (v := ?vB6) rfl rfl (by kernel_rfl) (by kernel_rfl) (by kernel_rfl) (fun _ _ _ h => h) (Or.inl ⟨by rfl, fun wS hSw => ?hyB6⟩) (by assumption) ?restB6
          case hyB6 => (obtain ⟨s0, s1, s2, s3, s4, s5⟩ := hSw; go_simp; first | done | with_reducible rfl)
          try simp only [Act.put, List.setIfInBounds_toArray, List.set_cons_zero, List.set_cons_succ]
          refine take_dst (some 17) (i := 7) (v := ?vB7) rfl rfl (by kernel_rfl) (by kernel_rfl) (by kernel_rfl) (fun _ _ _ h => h) (Or.inl ⟨by rfl, fun wS hSw => ?hyB7⟩) (by assumption) ?restB7
          case hyB7 => (obtain ⟨s0, s1, s2, s3, s4, s5⟩ := hSw; go_simp; first | done | with_reducible rfl)
          try simp only [Act.put, List.setIfInBounds_toArray, List.set_cons_zero, List.set_cons_succ]
          refine take_dst (some 18) (i := 8) (v := ?vB8) rfl rfl (by kernel_rfl) (by kernel_rfl) (by kernel_rfl) (fun _ _ _ h => h) (Or.inl ⟨by rfl, fun wS hSw => ?hyB8⟩) (by assumption) ?restB8
          case hyB8 => (obtain ⟨s0, s1, s2, s3, s4, s5⟩ := hSw; go_simp; first | done | with_reducible rfl)
          try simp only [Act.put, List.setIfInBounds_toArray, List.set_cons_zero, List.set_cons_succ]
          refine take_dst (some 19) (i := 9) (v := ?vB9) rfl rfl (by kernel_rfl) (by kernel_rfl) (by kernel_rfl) (fun _ _ _ h => h) (Or.inl ⟨by rfl, fun wS hSw => ?hyB9⟩) (by assumption) ?restB9
          case hyB9 => (obtain ⟨s0, s1, s2, s3, s4, s5⟩ := hSw; go_simp; first | done | with_reducible rfl)
          try simp only [Act.put, List.setIfInBounds_toArray, List.set_cons_zero, List.set_cons_succ]
          refine take_dst (some 20) (i := 10) (v := undef) rfl rfl (by kernel_rfl) (by kernel_rfl) (by kernel_rfl) (fun _ _ _ h => h) (Or.inr ⟨by rfl, rfl⟩) (by assumption) ?restB10
          try simp only [Act.put, List.setIfInBounds_toArray, List.set_cons_zero, List.set_cons_succ]
          refine take_dst (some 21) (i := 11) (v := undef) rfl rfl (by kernel_rfl) (by kernel_rfl) (by kernel_rfl) (fun _ _ _ h => h) (Or.inr ⟨by rfl, rfl⟩) (by assumption) ?restB11
          try simp only [Act.put, List.setIfInBounds_toArray, List.set_cons_zero, List.set_cons_succ]
          refine take_dst (some 22) (i := 12) (v := undef) rfl rfl (by kernel_rfl) (by kernel_rfl) (by kernel_rfl) (fun _ _ _ h => h) (Or.inr ⟨by rfl, rfl⟩) (by assumption) ?restB12
          try simp only [Act.put, List.setIfInBounds_toArray, List.set_cons_zero, List.set_cons_succ]
          refine take_dst (some 23) (i := 13) (v := undef) rfl rfl (by kernel_rfl) (by kernel_rfl) (by kernel_rfl) (fun _ _ _ h => h) (Or.inr ⟨by rfl, rfl⟩) (by assumption) ?restB13
          try simp only [Act.put, List.setIfInBounds_toArray, List.set_cons_zero, List.set_cons_succ]
          refine take_dst (some 24) (i := 14) (v := undef) rfl rfl (by kernel_rfl) (by kernel_rfl) (by kernel_rfl) (fun _ _ _ h => h) (Or.inr ⟨by rfl, rfl⟩) (by assumption) ?restB14
          try simp only [Act.put, List.setIfInBounds_toArray, List.set_cons_zero, List.set_cons_succ]
          refine take_dst (some 25) (i := 15) (v := undef) rfl rfl (by kernel_rfl) (by kernel_rfl) (by kernel_rfl) (fun _ _ _ h => h) (Or.inr ⟨by rfl, rfl⟩) (by assumption) ?restB15
          try simp only [Act.put, List.setIfInBounds_toArray, List.set_cons_zero, List.set_cons_succ]
          refine take_dst (some 26) (i := 16) (v := undef) rfl rfl (by kernel_rfl) (by kernel_rfl) (by kernel_rfl) (fun _ _ _ h => h) (Or.inr ⟨by rfl, rfl⟩) (by assumption) ?restB16
          try simp only [Act.put, List.setIfInBounds_toArray, List.set_cons_zero, List.set_cons_succ]
          refine take_dst (some 27) (i := 17) (v := undef) rfl rfl (by kernel_rfl) (by kernel_rfl) (by kernel_rfl) (fun _ _ _ h => h) (Or.inr ⟨by rfl, rfl⟩) (by assumption) ?restB17
          try simp only [Act.put, List.setIfInBounds_toArray, List.set_cons_zero, List.set_cons_succ]
          refine take_dst (some 28) (i := 18) (v := undef) rfl rfl (by kernel_rfl) (by kernel_rfl) (by kernel_rfl) (fun _ _ _ h => h) (Or.inr ⟨by rfl, rfl⟩) (by assumption) ?restB18
          try simp only [Act.put, List.setIfInBounds_toArray, List.set_cons_zero, List.set_cons_succ]
          refine take_dst (some 29) (i := 19) (v := undef) rfl rfl (by kernel_rfl) (by kernel_rfl) (by kernel_rfl) (fun _ _ _ h => h) (Or.inr ⟨by rfl, rfl⟩) (by assumption) ?restB19
          try simp only [Act.put, List.setIfInBounds_toArray, List.set_cons_zero, List.set_cons_succ]
          refine take_dst (some 30) (i := 20) (v := undef) rfl rfl (by kernel_rfl) (by kernel_rfl) (by kernel_rfl) (fun _ _ _ h => h) (Or.inr ⟨by rfl, rfl⟩) (by assumption) ?restB20
          try simp only [Act.put, List.setIfInBounds_toArray, List.set_cons_zero, List.set_cons_succ]
          refine take_dst (some 31) (i := 21) (v := ?vB21) rfl rfl (by kernel_rfl) (by kernel_rfl) (by kernel_rfl) (fun _ _ _ h => h) (Or.inl ⟨by rfl, fun wS hSw => ?hyB21⟩) (by assumption) ?restB21
          case hyB21 => (obtain ⟨s0, s1, s2, s3, s4, s5⟩ := hSw; go_simp; first | done | with_reducible rfl)
          try simp only [Act.put, List.setIfInBounds_toArray, List.set_cons_zero, List.set_cons_succ]
          refine take_dst (some 32) (i := 22) (v := ?vB22) rfl rfl (by kernel_rfl) (by kernel_rfl) (by kernel_rfl) (fun _ _ _ h => h) (Or.inl ⟨by rfl, fun wS hSw => ?hyB22⟩) (by assumption) ?restB22
          case hyB22 => (obtain ⟨s0, s1, s2, s3, s4, s5⟩ := hSw; go_simp; first | done | with_reducible rfl)
          try simp only [Act.put, List.setIfInBounds_toArray, List.set_cons_zero, List.set_cons_succ]
          refine wpAnyH_done (by kernel_rfl) ?_ _
          refine NoPanic.normal ?_
          have HB2 := Lib.hid (below_ext HB.out hbS2)
          clear hbS hbS2 tk
          go_wp2_with fail
          go_roundw
          case rel => exact ⟨1, by omega, by first | rfl | go_num, hN.out, HB2.out⟩
          case measure => simp [intOf]; omega
        · obtain ⟨j, hj⟩ : ∃ j, k = j + 1 := ⟨k - 1, by omega⟩
          obtain ⟨p, hp⟩ : ∃ p, l[j]? = some p := ⟨_, List.getElem?_eq_getElem (by omega)⟩
          have hat2 := Lib.hid (Hat.out j p hp)
          have e2 : IntKind.i64.wrap ((k : Int) - 1) = (j : Int) := by rw [IntWalk.i64_in _ (by omega)]; omega
          have tk : decide ((0 : Int) < (k : Int)) = true := by simp; omega
          have tk2 : decide (0 < k) = true := by simp; omega
          have tjj : decide ((j : Int) < (l.length : Int)) = true := by simp; omega
          have tjj' : (j : Int) < (l.length : Int) := by omega
          have hst := Lib.hid (by rw [hj] at Hr HIn; exact col_step hp Hr.out HIn.out Hrb.out)
          rw [← hj] at hst
          obtain ⟨t, ht⟩ : ∃ t, decide (cmpP p.st p.no r.st r.no < 0) = t := ⟨_, rfl⟩
          rw [ht] at hst
          have Ht := Lib.hid ht
          clear ht hk0 hj hp
          go_upto_region 4 with fail
          go_region_held3 (fun w' => (w'.cell? ⟨b, off + k * 6, none⟩ = some (.int .i64 r.st) ∧ w'.cell? ⟨b, off + k * 6 + 1, none⟩ = some (.int .i64 r.no) ∧ w'.cell? ⟨b, off + k * 6 + 2, none⟩ = some (.int .i64 r.mi) ∧ w'.cell? ⟨b, off + k * 6 + 3, none⟩ = some (.int .i64 r.ar) ∧ w'.cell? ⟨b, off + k * 6 + 4, none⟩ = some (.string r.cl) ∧ w'.cell? ⟨b, off + k * 6 + 5, none⟩ = some (.int .i64 r.vo)) ∧ w'.cell? ⟨b, off + j * 6, none⟩ = some (.int .i64 p.st) ∧ w'.cell? ⟨b, off + j * 6 + 1, none⟩ = some (.int .i64 p.no) ∧ w'.cell? ⟨b, off + j * 6 + 2, none⟩ = some (.int .i64 p.mi) ∧ w'.cell? ⟨b, off + j * 6 + 3, none⟩ = some (.int .i64 p.ar) ∧ w'.cell? ⟨b, off + j * 6 + 4, none⟩ = some (.string p.cl) ∧ w'.cell? ⟨b, off + j * 6 + 5, none⟩ = some (.int .i64 p.vo))
            (first
             | exact ⟨(Hat1.out.ext hbS).six, (hat2.out.ext hbS).six⟩
             | go_keep)
            (first
             | (go_at_call 14; refine (rcheck_t r Hrb Hsz.out _).mono ?_; rintro e w7 ⟨rfl, hb7⟩; have hbS : Below wr.heap.size wr w7 := by (first | exact below_ext hbS hb7 | exact below_undrew' hb7))
             | (go_at_call 48; refine (before_any p r t _ Ht).mono ?_; rintro e w7 ⟨rfl, hb7⟩; have hbS : Below wr.heap.size wr w7 := by (first | exact below_ext hbS hb7 | exact below_undrew' hb7)))
          have HB2 := Lib.hid (below_ext HB.out hbS)
          clear hbS
          cases t
          · go_wp2_with fail
            go_ret
            exact ⟨by unfold colB; rw [hst.out]; rfl, HB2.out⟩
          · go_wp2_with fail
            go_roundw
            case rel => exact ⟨k + 1, by omega, by go_num, by rw [hst.out]; rfl, HB2.out⟩
            case measure => simp [intOf]; omega
    · obtain rfl : k = l.length := by omega
      have tj : decide ((l.length : Int) < (l.length : Int)) = false := by simp
      have hend : Hid (colB l = decide (l.length ≤ 1024)) := by show _ = _; unfold colB; rw [HIn.out, List.drop_of_length_le (Nat.le_refl _)]; unfold colF; rfl
      have td : decide ((l.length : Int) ≤ 1024) = decide (l.length ≤ 1024) := by rw [Bool.eq_iff_iff]; simp; omega
      obtain ⟨t, ht⟩ : ∃ t, decide (l.length ≤ 1024) = t := ⟨_, rfl⟩
      rw [ht] at hend td
      clear ht
      go_wp2_with fail
      go_ret
      exact ⟨by rw [hend.out]; rfl, HB.out⟩
end Go.Proofs.Ytgdbmoggpfpkkaa
/- reports.Add. -/
namespace Go.Proofs.Ytgdbmoggpfpkkaa
open Go.RowKit
theorem bsearch_six {l : List Rp} {v : Value} (r : Rp) (w : World) (hl : RpsAt w.heap.size w l v) (hc : colB l = true) (hlen : l.length ≤ 1024) (h : Bool) (hh : Hid (hitB l r.st r.no (lowN l r.st r.no) = h)) (n : Nat) (hn : Hid (lowN l r.st r.no = n)) :
    Calls Try.prog 41 #[v, plV r.st r.no, .func (.func 43) #[] #[]] w
      fun e w' => e = .returned (.tuple #[.int .i64 (n : Int), .bool h]) ∧ Below w.heap.size w w' := by
  have hl2 := low_of_col r.st r.no l none (by unfold colB at hc; simp only [Bool.and_eq_true] at hc; exact hc.1)
  have := bsearch_any l v r.st r.no _ w hl (by omega) hl2
  rw [hh.out, hn.out] at this
  exact this
def AdS (w' : World) (g : Nat) (r : Rp) : Prop := w'.cell? ⟨g, 0, none⟩ = some (.int .i64 r.st) ∧ w'.cell? ⟨g, 1, none⟩ = some (.int .i64 r.no) ∧ w'.cell? ⟨g, 2, none⟩ = some (.int .i64 r.mi) ∧ w'.cell? ⟨g, 3, none⟩ = some (.int .i64 r.ar) ∧ w'.cell? ⟨g, 4, none⟩ = some (.string r.cl) ∧ w'.cell? ⟨g, 5, none⟩ = some (.int .i64 r.vo)
/-- an own row above a bound is changed: below the bound all is kept -/
theorem below_own {w0 w w' : World} {base : Nat} {v : Value} {l : List Rp} (hb : Below w0.heap.size w0 w) (hv : OwnR w base v l) (hg : w.grownBy w' v.ownBlock) (h : w0.heap.size ≤ base) : Below w0.heap.size w0 w' :=
  hb.trans ⟨hg.os, hg.tape, hg.output, hg.size, fun k hk => hg.block k (Nat.lt_of_lt_of_le hk hb.size) (fun e => by have := (hv.lt k e.symm).1; omega)⟩
theorem hit_ex {l : List Rp} {t m : Int} {n : Nat} (h : hitB l t m n = true) : ∃ x, l[n]? = some x := by
  unfold hitB at h
  cases hx : l[n]? with
  | none => rw [hx] at h; cases h
  | some x => exact ⟨x, rfl⟩
set_option maxRecDepth 100000 in
set_option maxHeartbeats 4000000 in
theorem add_any (l : List Rp) (v : Value) (r : Rp) (w : World) (hl : RpsAt w.heap.size w l v) (hs : ∀ x ∈ l, x.cl.size ≤ 9223372036854775807) (hr : r.cl.size ≤ 9223372036854775807) :
    Calls Try.prog 21 #[v, r.v] w (AddPost l r w) := by
  obtain ⟨oa, cap, rfl, hlm⟩ := hl.shape
  have HR := Lib.hid hl; have HS := Lib.hid hs; have Hr := Lib.hid hr
  have bl : (l.length : Int) ≤ 9223372036854775807 := by omega
  have hcb0 : Hid (CB (w.alloc (.cells #[.int .i64 r.st, .int .i64 r.no, .int .i64 r.mi, .int .i64 r.ar, .string r.cl, .int .i64 r.vo] 23)) w.heap.size 23 r.cells) := CB.new w _ _
  have hb0 := Lib.hid ((Below.refl w.heap.size w).alloc (Nat.le_refl _) (.cells #[.int .i64 r.st, .int .i64 r.no, .int .i64 r.mi, .int .i64 r.ar, .string r.cl, .int .i64 r.vo] 23))
  clear hl hs hr hlm
  change Calls Try.prog 21 #[.slice oa l.length cap, .agg #[.int .i64 r.st, .int .i64 r.no, .int .i64 r.mi, .int .i64 r.ar, .string r.cl, .int .i64 r.vo]] w _
  obtain ⟨c, hc⟩ : ∃ c, colB l = c := ⟨_, rfl⟩
  have Hc := Lib.hid hc; clear hc
  go_enter Try.func21, Try.ntmps21
  go_upto_region 1 with fail
  generalize w.alloc (.cells #[.int .i64 r.st, .int .i64 r.no, .int .i64 r.mi, .int .i64 r.ar, .string r.cl, .int .i64 r.vo] 23) = w0 at *
  go_wp2_with fail
  refine (collected_any l _ _ (HR.out.ext hb0.out) HS.out).mono ?_
  rw [Hc.out]
  rintro e w1 ⟨rfl, hb1⟩
  have HB1 := Lib.hid (below_ext hb0.out hb1)
  have HC1 := Lib.hid (hcb0.out.ext hb1)
  clear hb1
  cases c
  case false =>
    go_wp2_with fail
    go_ret2
    exact add_nil (addX_1 r Hc.out) HB1.out
  case true =>
    obtain ⟨c0, c1, c2, c3, c4, c5⟩ := RpAt.of_cb HC1.out
    obtain ⟨rb, hrb⟩ : ∃ c, repB 4 3 r = c := ⟨_, rfl⟩
    have Hrb := Lib.hid hrb; clear hrb
    have hcl : l.length ≤ 1024 := by have := Hc.out; unfold colB at this; simp only [Bool.and_eq_true, decide_eq_true_eq] at this; exact this.2
    cases rb
    case false =>
      go_wp2_with fail
      refine (check_f r Hrb Hr.out _).mono ?_
      rintro e w2 ⟨rfl, hb2⟩
      have HB2 := Lib.hid (below_ext HB1.out hb2)
      go_wp2_with fail
      go_ret2
      exact add_nil (addX_2 Hrb.out) HB2.out
    case true =>
      go_wp2_with fail
      refine (check_t r Hrb Hr.out _).mono ?_
      rintro e w2 ⟨rfl, hb2⟩
      have HB2 := Lib.hid (below_ext HB1.out hb2)
      have HC2 := Lib.hid (HC1.out.ext hb2)
      clear hb2 c0 c1 c2 c3 c4 c5
      obtain ⟨c0, c1, c2, c3, c4, c5⟩ := RpAt.of_cb HC2.out
      go_wp2_with fail
      refine (placeOf_any r _).mono ?_
      rintro e w3 ⟨rfl, hb3⟩
      have HB3 := Lib.hid (below_ext HB2.out hb3)
      have HC3 := Lib.hid (HC2.out.ext hb3)
      clear hb3 c0 c1 c2 c3 c4 c5
      obtain ⟨n, hn⟩ : ∃ n, lowN l r.st r.no = n := ⟨_, rfl⟩
      obtain ⟨hit, hhit⟩ : ∃ c, hitB l r.st r.no (lowN l r.st r.no) = c := ⟨_, rfl⟩
      have Hn := Lib.hid hn; have Hhit := Lib.hid hhit
      clear hn hhit
      go_wp2_with fail
      refine (bsearch_six r _ (HR.out.ext HB3.out) Hc.out hcl hit Hhit n Hn).mono ?_
      rintro e w4 ⟨rfl, hb4⟩
      have HB4 := Lib.hid (below_ext HB3.out hb4)
      have HC4 := Lib.hid (HC3.out.ext hb4)
      clear hb4
      obtain ⟨c0, c1, c2, c3, c4, c5⟩ := RpAt.of_cb HC4.out
      cases hit
      case true =>
        obtain ⟨x, hx⟩ : ∃ x, l[n]? = some x := by rw [← Hn.out]; exact hit_ex Hhit.out
        have hlt : n < l.length := (List.getElem?_eq_some_iff.1 hx).1
        obtain ⟨b, off, rfl, hat⟩ := (HR.out.ext HB4.out).at hlt
        obtain ⟨d0, d1, d2, d3, d4, d5⟩ := hat n x hx
        obtain ⟨q, hq⟩ : ∃ q, rpEq x r = q := ⟨_, rfl⟩
        have Hq : Hid (eqAt l (lowN l r.st r.no) r = q) := by show _ = _; rw [Hn.out, eqAt_some r hx, hq]
        have heq : ∀ w : World, (Op.equalIn 10000 23 (.agg #[.int .i64 x.st, .int .i64 x.no, .int .i64 x.mi, .int .i64 x.ar, .string x.cl, .int .i64 x.vo]) (.agg #[.int .i64 r.st, .int .i64 r.no, .int .i64 r.mi, .int .i64 r.ar, .string r.cl, .int .i64 r.vo])).run Try.prog w = .ok q w := fun w => by rw [← hq]; exact eq_rp x r w
        have tj : decide ((n : Int) < (l.length : Int)) = true := by simp; omega
        have tj' : (n : Int) < (l.length : Int) := by omega
        clear hat hx hq
        go_upto_region 7 with fail
        go_quiet (fail)
        cases q
        case true =>
          go_wp2_with fail
          go_ret2
          exact add_list (addX_3 Hc.out Hrb.out Hhit.out Hq.out) (HR.out.ext (below_drewN'' HB4.out _)) (below_drewN'' HB4.out _)
        case false =>
          go_wp2_with fail
          go_ret2
          exact add_nil (addX_4 Hc.out Hrb.out Hhit.out Hq.out) (below_drewN'' HB4.out _)
      case false =>
        go_upto_region 7 with fail
        go_quiet (fail)
        have HB5 := Lib.hid (below_drewN'' HB4.out nq)
        have HC5 := Lib.hid (HC4.out.keep (w' := w4.drewN nq) rfl)
        clear c0 c1 c2 c3 c4 c5
        generalize w4.drewN nq = w5 at *
        by_cases hlen : l.length = 1024
        · have tl : ((l.length : Int) == 1024) = true := by rw [beq_iff_eq]; omega
          have HX := Lib.hid (addX_5 Hc.out Hrb.out Hhit.out hlen)
          clear hlen
          go_wp2_with fail
          go_ret2
          exact add_nil HX.out HB5.out
        · have tl : ((l.length : Int) == 1024) = false := by rw [beq_eq_false_iff_ne]; omega
          have HX := Lib.hid (addX_6 Hc.out Hrb.out Hhit.out hlen)
          rw [Hn.out] at HX
          clear hlen
          go_upto_region 13 with fail
          have hnl : n ≤ l.length := by rw [← Hn.out]; exact (low_of_col r.st r.no l none (by have := Hc.out; unfold colB at this; simp only [Bool.and_eq_true] at this; exact this.1)).1
          have H0 := Lib.hid ((Below.refl w5.heap.size w5).drew)
          refine wp_region_held_drew (S := (fun w' => w'.cell? ⟨w.heap.size, 0, none⟩ = some (.int .i64 r.st) ∧ w'.cell? ⟨w.heap.size, 1, none⟩ = some (.int .i64 r.no) ∧ w'.cell? ⟨w.heap.size, 2, none⟩ = some (.int .i64 r.mi) ∧ w'.cell? ⟨w.heap.size, 3, none⟩ = some (.int .i64 r.ar) ∧ w'.cell? ⟨w.heap.size, 4, none⟩ = some (.string r.cl) ∧ w'.cell? ⟨w.heap.size, 5, none⟩ = some (.int .i64 r.vo))) (by kernel_rfl) ((RpAt.of_cb HC5.out).ext H0.out).six (fun hHeld => ?_)
          generalize w5.drew = W0 at *
          refine take_dst (some 41) (i := 0) (v := ?va0) rfl rfl (by kernel_rfl) (by kernel_rfl) (by kernel_rfl) (fun _ _ _ h => h) (Or.inl ⟨by rfl, fun wS hSw => ?hya0⟩) (by assumption) ?resta0
          case hya0 => (obtain ⟨s0, s1, s2, s3, s4, s5⟩ := hSw; go_simp; first | done | with_reducible rfl)
          try simp only [Act.put, List.setIfInBounds_toArray, List.set_cons_zero, List.set_cons_succ]
          refine take_dst (some 43) (i := 2) (v := ?va2) rfl rfl (by kernel_rfl) (by kernel_rfl) (by kernel_rfl) (fun _ _ _ h => h) (Or.inl ⟨by rfl, fun wS hSw => ?hya2⟩) (by assumption) ?resta2
          case hya2 => (obtain ⟨s0, s1, s2, s3, s4, s5⟩ := hSw; go_simp; first | done | with_reducible rfl)
          try simp only [Act.put, List.setIfInBounds_toArray, List.set_cons_zero, List.set_cons_succ]
          refine take_dst (some 44) (i := 3) (v := ?va3) rfl rfl (by kernel_rfl) (by kernel_rfl) (by kernel_rfl) (fun _ _ _ h => h) (Or.inl ⟨by rfl, fun wS hSw => ?hya3⟩) (by assumption) ?resta3
          case hya3 => (obtain ⟨s0, s1, s2, s3, s4, s5⟩ := hSw; go_simp; first | done | with_reducible rfl)
          try simp only [Act.put, List.setIfInBounds_toArray, List.set_cons_zero, List.set_cons_succ]
          refine wpAnyH_ready (rs := [1, 4]) (by kernel_rfl) (by simp) ?_
          refine AllReadyH.cons rfl (fun K hK => ?_) (AllReadyH.cons rfl (fun K hK => ?_) AllReadyH.nil)
          · skip
            go_simp
            refine (clone_any l _ _ (HR.out.ext (below_ext HB5.out H0.out)) (by omega)).mono ?_
            rintro e W1 ⟨v1, rfl, hv1, hb⟩
            have HV1 := Lib.hid hv1
            have H1 := Lib.hid (below_ext H0.out hb)
            have hbz := hb.size
            refine hK.out _ _ ((RpAt.of_cb HC5.out).ext H1.out).six (fun hHeld => ?_)
            clear hK K hv1 hb
            try simp only [Act.put, List.setIfInBounds_toArray, List.set_cons_zero, List.set_cons_succ]
            refine wpAnyH_ready (rs := [4]) (by kernel_rfl) (by simp) ?_
            refine AllReadyH.cons rfl (fun K hK => ?_) AllReadyH.nil
            go_simp
            have H2 := Lib.hid (H1.out.alloc H1.out.size (.cells #[.int .i64 r.st, .int .i64 r.no, .int .i64 r.mi, .int .i64 r.ar, .string r.cl, .int .i64 r.vo] 23))
            have HA2 : Hid (CB (W1.alloc (.cells #[.int .i64 r.st, .int .i64 r.no, .int .i64 r.mi, .int .i64 r.ar, .string r.cl, .int .i64 r.vo] 23)) W1.heap.size 23 r.cells) := CB.new W1 _ _
            have HV2 := Lib.hid (World.ownsRow.alloc HV1.out (.cells #[.int .i64 r.st, .int .i64 r.no, .int .i64 r.mi, .int .i64 r.ar, .string r.cl, .int .i64 r.vo] 23))
            have Hne : Hid (v1.ownBlock ≠ some W1.heap.size) := by show _ ≠ _; intro h; have := (HV1.out.lt _ h).2; omega
            have Hz : Hid (W0.heap.size ≤ W1.heap.size + 1) := by show _ ≤ _; omega
            have Hz0 : Hid (w5.heap.size ≤ W0.heap.size) := H0.out.size
            refine hK.out _ _ ((RpAt.of_cb HC5.out).ext H2.out).six (fun hHeld => ?_)
            clear hK K
            have hWs : (W1.alloc (.cells #[.int .i64 r.st, .int .i64 r.no, .int .i64 r.mi, .int .i64 r.ar, .string r.cl, .int .i64 r.vo] 23)).heap.size = W1.heap.size + 1 := by simp
            have HWs := Lib.hid hWs; clear hWs
            generalize W1.alloc (.cells #[.int .i64 r.st, .int .i64 r.no, .int .i64 r.mi, .int .i64 r.ar, .string r.cl, .int .i64 r.vo] 23) = W2 at *
            try simp only [Act.put, List.setIfInBounds_toArray, List.set_cons_zero, List.set_cons_succ]
            refine wpAnyH_ready (rs := [5]) (by kernel_rfl) (by simp) ?_
            refine AllReadyH.cons rfl (fun K hK => ?_) AllReadyH.nil
            go_simp
            refine (insert_any l v1 W0.heap.size r n W1.heap.size _ HV2.out (by rw [HWs.out]; exact Hz.out) hnl (by omega) HA2.out (by exact Hne.out)).mono ?_
            rintro e W3 ⟨v2, rfl, hv2, hg⟩
            have HV3 := Lib.hid hv2
            have H3 := Lib.hid (below_own H2.out HV2.out hg (by exact Hz0.out))
            refine hK.out _ _ ((RpAt.of_cb HC5.out).ext H3.out).six (fun hHeld => ?_)
            clear hK K hv2 hg
            try simp only [Act.put, List.setIfInBounds_toArray, List.set_cons_zero, List.set_cons_succ]
            refine take_dst (some 4) (i := 6) (v := ?vb3) rfl rfl (by kernel_rfl) (by kernel_rfl) (by kernel_rfl) (fun _ _ _ h => h) (Or.inl ⟨by rfl, fun wS hSw => ?hyb3⟩) (by assumption) ?restb3
            case hyb3 => (obtain ⟨s0, s1, s2, s3, s4, s5⟩ := hSw; go_simp; first | done | with_reducible rfl)
            try simp only [Act.put, List.setIfInBounds_toArray, List.set_cons_zero, List.set_cons_succ]
            refine take_dst (some 5) (i := 7) (v := ?vc3) rfl rfl (by kernel_rfl) (by kernel_rfl) (by kernel_rfl) (fun _ _ _ h => h) (Or.inl ⟨by rfl, fun wS hSw => ?hyc3⟩) (by assumption) ?restc3
            case hyc3 => (obtain ⟨s0, s1, s2, s3, s4, s5⟩ := hSw; go_simp; first | done | with_reducible rfl)
            try simp only [Act.put, List.setIfInBounds_toArray, List.set_cons_zero, List.set_cons_succ]
            refine wpAnyH_done (by kernel_rfl) ?_ _
            go_wp2_with fail
            go_ret2
            exact add_list HX.out HV3.out.rd (below_ext HB5.out H3.out)
          · skip
            go_simp
            have H1 := Lib.hid (H0.out.alloc H0.out.size (.cells #[.int .i64 r.st, .int .i64 r.no, .int .i64 r.mi, .int .i64 r.ar, .string r.cl, .int .i64 r.vo] 23))
            have HA1 : Hid (CB (W0.alloc (.cells #[.int .i64 r.st, .int .i64 r.no, .int .i64 r.mi, .int .i64 r.ar, .string r.cl, .int .i64 r.vo] 23)) W0.heap.size 23 r.cells) := CB.new W0 _ _
            have Hz0 : Hid (w5.heap.size ≤ W0.heap.size) := H0.out.size
            refine hK.out _ _ ((RpAt.of_cb HC5.out).ext H1.out).six (fun hHeld => ?_)
            clear hK K
            have hWs : (W0.alloc (.cells #[.int .i64 r.st, .int .i64 r.no, .int .i64 r.mi, .int .i64 r.ar, .string r.cl, .int .i64 r.vo] 23)).heap.size = W0.heap.size + 1 := by simp
            have HWs := Lib.hid hWs; clear hWs
            generalize W0.alloc (.cells #[.int .i64 r.st, .int .i64 r.no, .int .i64 r.mi, .int .i64 r.ar, .string r.cl, .int .i64 r.vo] 23) = W1 at *
            try simp only [Act.put, List.setIfInBounds_toArray, List.set_cons_zero, List.set_cons_succ]
            refine wpAnyH_ready (rs := [1]) (by kernel_rfl) (by simp) ?_
            refine AllReadyH.cons rfl (fun K hK => ?_) AllReadyH.nil
            go_simp
            refine (clone_any l _ _ (HR.out.ext (below_ext HB5.out H1.out)) (by omega)).mono ?_
            rintro e W2 ⟨v1, rfl, hv1, hb⟩
            have HV2 := Lib.hid hv1
            have H2 := Lib.hid (below_ext H1.out hb)
            have HA2 := Lib.hid (HA1.out.ext hb)
            have Hz : Hid (W1.heap.size ≤ W2.heap.size) := hb.size
            have Hne : Hid (v1.ownBlock ≠ some W0.heap.size) := by show _ ≠ _; intro h; have := (HV2.out.lt _ h).1; have := HWs.out; omega
            have Hz1 : Hid (w5.heap.size ≤ W1.heap.size) := by show _ ≤ _; have := Hz0.out; have := HWs.out; omega
            refine hK.out _ _ ((RpAt.of_cb HC5.out).ext H2.out).six (fun hHeld => ?_)
            clear hK K hv1 hb
            try simp only [Act.put, List.setIfInBounds_toArray, List.set_cons_zero, List.set_cons_succ]
            refine wpAnyH_ready (rs := [5]) (by kernel_rfl) (by simp) ?_
            refine AllReadyH.cons rfl (fun K hK => ?_) AllReadyH.nil
            go_simp
            refine (insert_any l v1 W1.heap.size r n W0.heap.size _ HV2.out (by exact Hz.out) hnl (by omega) HA2.out (by exact Hne.out)).mono ?_
            rintro e W3 ⟨v2, rfl, hv2, hg⟩
            have HV3 := Lib.hid hv2
            have H3 := Lib.hid (below_own H2.out HV2.out hg (by exact Hz1.out))
            refine hK.out _ _ ((RpAt.of_cb HC5.out).ext H3.out).six (fun hHeld => ?_)
            clear hK K hv2 hg
            try simp only [Act.put, List.setIfInBounds_toArray, List.set_cons_zero, List.set_cons_succ]
            refine take_dst (some 4) (i := 6) (v := ?vb3x) rfl rfl (by kernel_rfl) (by kernel_rfl) (by kernel_rfl) (fun _ _ _ h => h) (Or.inl ⟨by rfl, fun wS hSw => ?hyb3x⟩) (by assumption) ?restb3x
            case hyb3x => (obtain ⟨s0, s1, s2, s3, s4, s5⟩ := hSw; go_simp; first | done | with_reducible rfl)
            try simp only [Act.put, List.setIfInBounds_toArray, List.set_cons_zero, List.set_cons_succ]
            refine take_dst (some 5) (i := 7) (v := ?vc3x) rfl rfl (by kernel_rfl) (by kernel_rfl) (by kernel_rfl) (fun _ _ _ h => h) (Or.inl ⟨by rfl, fun wS hSw => ?hyc3x⟩) (by assumption) ?restc3x
            case hyc3x => (obtain ⟨s0, s1, s2, s3, s4, s5⟩ := hSw; go_simp; first | done | with_reducible rfl)
            try simp only [Act.put, List.setIfInBounds_toArray, List.set_cons_zero, List.set_cons_succ]
            refine wpAnyH_done (by kernel_rfl) ?_ _
            go_wp2_with fail
            go_ret2
            exact add_list HX.out HV3.out.rd (below_ext HB5.out H3.out)
end Go.Proofs.Ytgdbmoggpfpkkaa
