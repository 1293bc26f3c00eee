/- Merged: Ren Rqd Rsm. -/
import Derived.Test.YtgdbmoggpfpkkaaK08
import Derived.Test.YtgdbmoggpfpkkaaK10
/- Encode: the program's and the reference's. (Printed by gen22e.py.) -/
namespace Go.Proofs.Ytgdbmoggpfpkkaa
open Go.RowKit
/-- a list of values in a block of their own -/
theorem sl_block {w : World} {g cap : Nat} {t : TypeId} (l : List V) (lvs : List Value) (h : CB w g t (vcells l lvs)) (hv : velems (fun k => k < w.heap.size) w l lvs) (hl : l ≠ []) (hm : l.length ≤ maxLen) : SlV w.heap.size w l (.slice (some ⟨g, 0, none⟩) l.length cap) :=
  .inr ⟨hl, g, 0, cap, rfl, hm, V.atsD_ats (fun _ h => h) _ _ _ (atsD_of_cells (D := fun k => k < w.heap.size) h.lt l lvs 0 hv fun j u hj => by rw [Nat.zero_add, h.cell]; exact hj)⟩
def nils (n : Nat) : List Value := List.replicate n (.slice none 0 0)
theorem slVD_nil (D : Nat → Prop) (w : World) : SlVD D w [] (.slice none 0 0) := .inl ⟨rfl, _, _, rfl⟩
theorem rep_sl {w : World} {g : Nat} {t : TypeId} {r : Rp} (hi : RpI r) (hs : r.cl.size ≤ maxLen) (h : CB w g t (vcells (repL r) (nils 6))) : RdV w.heap.size w (repV r) (.agg #[.int .i64 3, .int .i64 0, .string ⟨#[]⟩, .slice (some ⟨g, 0, none⟩) 6 6]) :=
  ⟨i64_3, i64_0, Nat.zero_le _, _, rfl, sl_block (repL r) (nils 6) h
    ⟨⟨i64_1, hi.st, Nat.zero_le _, slVD_nil _ _⟩, ⟨i64_1, hi.no, Nat.zero_le _, slVD_nil _ _⟩, ⟨i64_1, hi.mi, Nat.zero_le _, slVD_nil _ _⟩, ⟨i64_1, hi.ar, Nat.zero_le _, slVD_nil _ _⟩, ⟨i64_2, i64_0, hs, slVD_nil _ _⟩, ⟨i64_1, hi.vo, Nat.zero_le _, slVD_nil _ _⟩, trivial⟩ (by simp [repL]) (by unfold maxLen; simp [repL])⟩
set_option maxRecDepth 100000 in
set_option maxHeartbeats 1000000 in
theorem enc1_any (n : Int) (w : World) : Calls Try.prog 30 #[.int .i64 n] w fun e w' => e = .returned (.agg #[.int .i64 1, .int .i64 n, .string ⟨#[]⟩, .slice none 0 0]) ∧ Below w.heap.size w w' := by
  go_enter Try.func30, Try.ntmps30
  go_wp2
  refine bodyPost_ret (v := .agg #[.int .i64 1, .int .i64 n, .string ⟨#[]⟩, .slice none 0 0]) (by simp [results, Try.results30, go_sem]) rfl ?_
  refine ⟨rfl, ?_⟩
  repeat (first | exact (Below.refl _ _).alloc (Nat.le_refl _) _ | refine Below.setCell ?_ (by simp) _)
set_option maxRecDepth 100000 in
set_option maxHeartbeats 4000000 in
theorem encode22_any (r : Rp) (w : World) (hr : r.cl.size ≤ 9223372036854775807) : Calls Try.prog 17 #[r.v] w (EncRP r w) := by
  have Hr := Lib.hid hr
  have hcb0 : Hid (CB (w.alloc (.cells #[.int .i64 r.st, .int .i64 r.no, .int .i64 r.mi, .int .i64 r.ar, .string r.cl, .int .i64 r.vo] 23)) w.heap.size 23 r.cells) := CB.new w _ _
  have hb0 := Lib.hid ((Below.refl w.heap.size w).alloc (Nat.le_refl _) (.cells #[.int .i64 r.st, .int .i64 r.no, .int .i64 r.mi, .int .i64 r.ar, .string r.cl, .int .i64 r.vo] 23))
  change Calls Try.prog 17 #[.agg #[.int .i64 r.st, .int .i64 r.no, .int .i64 r.mi, .int .i64 r.ar, .string r.cl, .int .i64 r.vo]] w _
  obtain ⟨rb, hrb⟩ : ∃ c, repB 4 3 r = c := ⟨_, rfl⟩
  have Hrb := Lib.hid hrb
  clear hrb hr
  go_enter Try.func17, Try.ntmps17
  go_upto_region 1 with fail
  generalize w.alloc (.cells #[.int .i64 r.st, .int .i64 r.no, .int .i64 r.mi, .int .i64 r.ar, .string r.cl, .int .i64 r.vo] 23) = w0 at *
  obtain ⟨c0, c1, c2, c3, c4, c5⟩ := RpAt.of_cb hcb0.out
  cases rb
  case false =>
    go_wp2_with fail
    refine (check_f r Hrb Hr.out _).mono ?_
    rintro e w2 ⟨rfl, hb2⟩
    have HB2 := Lib.hid (below_ext hb0.out hb2)
    go_wp2_with fail
    go_ret2
    exact encRP_bad Hrb.out HB2.out
  case true =>
    have hrs := repB_sound Hrb.out
    have HRI := Lib.hid hrs.1
    have hm32 : r.cl.size ≤ 32 := hrs.2.2
    have Hm32 := Lib.hid hm32
    clear hrs hm32
    go_wp2_with fail
    refine (check_t r Hrb Hr.out _).mono ?_
    rintro e w2 ⟨rfl, hb2⟩
    have HB2 := Lib.hid (below_ext hb0.out hb2)
    have HC0 := Lib.hid (hcb0.out.ext hb2)
    clear hb2 c0 c1 c2 c3 c4 c5
    go_upto_region 5 with fail
    have H0 := Lib.hid ((Below.refl w2.heap.size w2).drew)
    · skip
      refine wp_region_held_drew (S := fun w' => w'.cell? ⟨w.heap.size, 0, none⟩ = some (.int .i64 r.st) ∧ w'.cell? ⟨w.heap.size, 1, none⟩ = some (.int .i64 r.no) ∧ w'.cell? ⟨w.heap.size, 2, none⟩ = some (.int .i64 r.mi) ∧ w'.cell? ⟨w.heap.size, 3, none⟩ = some (.int .i64 r.ar) ∧ w'.cell? ⟨w.heap.size, 4, none⟩ = some (.string r.cl) ∧ w'.cell? ⟨w.heap.size, 5, none⟩ = some (.int .i64 r.vo)) (by kernel_rfl) ((RpAt.of_cb HC0.out).ext H0.out).six (fun hHeld => ?_)
      generalize w2.drew = W0 at *
      refine take_dst (some 11) (i := 0) (v := ?ve0) rfl rfl (by kernel_rfl) (by kernel_rfl) (by kernel_rfl) (fun _ _ _ h => h) (Or.inl ⟨by rfl, fun wS hSw => ?hye0⟩) (by assumption) ?reste0
      case hye0 => (obtain ⟨s0, s1, s2, s3, s4, s5⟩ := hSw; go_simp; first | done | with_reducible rfl)
      try simp only [Act.put, List.setIfInBounds_toArray, List.set_cons_zero, List.set_cons_succ]
      refine take_dst (some 12) (i := 1) (v := ?ve1) rfl rfl (by kernel_rfl) (by kernel_rfl) (by kernel_rfl) (fun _ _ _ h => h) (Or.inl ⟨by rfl, fun wS hSw => ?hye1⟩) (by assumption) ?reste1
      case hye1 => (obtain ⟨s0, s1, s2, s3, s4, s5⟩ := hSw; go_simp; first | done | with_reducible rfl)
      try simp only [Act.put, List.setIfInBounds_toArray, List.set_cons_zero, List.set_cons_succ]
      refine take_dst (some 13) (i := 2) (v := ?ve2) rfl rfl (by kernel_rfl) (by kernel_rfl) (by kernel_rfl) (fun _ _ _ h => h) (Or.inl ⟨by rfl, fun wS hSw => ?hye2⟩) (by assumption) ?reste2
      case hye2 => (obtain ⟨s0, s1, s2, s3, s4, s5⟩ := hSw; go_simp; first | done | with_reducible rfl)
      try simp only [Act.put, List.setIfInBounds_toArray, List.set_cons_zero, List.set_cons_succ]
      refine take_dst (some 15) (i := 4) (v := ?ve4) rfl rfl (by kernel_rfl) (by kernel_rfl) (by kernel_rfl) (fun _ _ _ h => h) (Or.inl ⟨by rfl, fun wS hSw => ?hye4⟩) (by assumption) ?reste4
      case hye4 => (obtain ⟨s0, s1, s2, s3, s4, s5⟩ := hSw; go_simp; first | done | with_reducible rfl)
      try simp only [Act.put, List.setIfInBounds_toArray, List.set_cons_zero, List.set_cons_succ]
      refine take_dst (some 16) (i := 5) (v := ?ve5) rfl rfl (by kernel_rfl) (by kernel_rfl) (by kernel_rfl) (fun _ _ _ h => h) (Or.inl ⟨by rfl, fun wS hSw => ?hye5⟩) (by assumption) ?reste5
      case hye5 => (obtain ⟨s0, s1, s2, s3, s4, s5⟩ := hSw; go_simp; first | done | with_reducible rfl)
      try simp only [Act.put, List.setIfInBounds_toArray, List.set_cons_zero, List.set_cons_succ]
      refine take_dst (some 17) (i := 6) (v := ?ve6) rfl rfl (by kernel_rfl) (by kernel_rfl) (by kernel_rfl) (fun _ _ _ h => h) (Or.inl ⟨by rfl, fun wS hSw => ?hye6⟩) (by assumption) ?reste6
      case hye6 => (obtain ⟨s0, s1, s2, s3, s4, s5⟩ := hSw; go_simp; first | done | with_reducible rfl)
      try simp only [Act.put, List.setIfInBounds_toArray, List.set_cons_zero, List.set_cons_succ]
      refine take_dst (some 19) (i := 8) (v := ?ve8) rfl rfl (by kernel_rfl) (by kernel_rfl) (by kernel_rfl) (fun _ _ _ h => h) (Or.inl ⟨by rfl, fun wS hSw => ?hye8⟩) (by assumption) ?reste8
      case hye8 => (obtain ⟨s0, s1, s2, s3, s4, s5⟩ := hSw; go_simp; first | done | with_reducible rfl)
      try simp only [Act.put, List.setIfInBounds_toArray, List.set_cons_zero, List.set_cons_succ]
      refine take_dst (some 20) (i := 9) (v := ?ve9) rfl rfl (by kernel_rfl) (by kernel_rfl) (by kernel_rfl) (fun _ _ _ h => h) (Or.inl ⟨by rfl, fun wS hSw => ?hye9⟩) (by assumption) ?reste9
      case hye9 => (obtain ⟨s0, s1, s2, s3, s4, s5⟩ := hSw; go_simp; first | done | with_reducible rfl)
      try simp only [Act.put, List.setIfInBounds_toArray, List.set_cons_zero, List.set_cons_succ]
      refine take_dst (some 21) (i := 10) (v := ?ve10) rfl rfl (by kernel_rfl) (by kernel_rfl) (by kernel_rfl) (fun _ _ _ h => h) (Or.inl ⟨by rfl, fun wS hSw => ?hye10⟩) (by assumption) ?reste10
      case hye10 => (obtain ⟨s0, s1, s2, s3, s4, s5⟩ := hSw; go_simp; first | done | with_reducible rfl)
      try simp only [Act.put, List.setIfInBounds_toArray, List.set_cons_zero, List.set_cons_succ]
      refine take_dst (some 23) (i := 12) (v := ?ve12) rfl rfl (by kernel_rfl) (by kernel_rfl) (by kernel_rfl) (fun _ _ _ h => h) (Or.inl ⟨by rfl, fun wS hSw => ?hye12⟩) (by assumption) ?reste12
      case hye12 => (obtain ⟨s0, s1, s2, s3, s4, s5⟩ := hSw; go_simp; first | done | with_reducible rfl)
      try simp only [Act.put, List.setIfInBounds_toArray, List.set_cons_zero, List.set_cons_succ]
      refine take_dst (some 24) (i := 13) (v := ?ve13) rfl rfl (by kernel_rfl) (by kernel_rfl) (by kernel_rfl) (fun _ _ _ h => h) (Or.inl ⟨by rfl, fun wS hSw => ?hye13⟩) (by assumption) ?reste13
      case hye13 => (obtain ⟨s0, s1, s2, s3, s4, s5⟩ := hSw; go_simp; first | done | with_reducible rfl)
      try simp only [Act.put, List.setIfInBounds_toArray, List.set_cons_zero, List.set_cons_succ]
      refine take_dst (some 25) (i := 14) (v := ?ve14) rfl rfl (by kernel_rfl) (by kernel_rfl) (by kernel_rfl) (fun _ _ _ h => h) (Or.inl ⟨by rfl, fun wS hSw => ?hye14⟩) (by assumption) ?reste14
      case hye14 => (obtain ⟨s0, s1, s2, s3, s4, s5⟩ := hSw; go_simp; first | done | with_reducible rfl)
      try simp only [Act.put, List.setIfInBounds_toArray, List.set_cons_zero, List.set_cons_succ]
      refine take_dst (some 27) (i := 16) (v := ?ve16) rfl rfl (by kernel_rfl) (by kernel_rfl) (by kernel_rfl) (fun _ _ _ h => h) (Or.inl ⟨by rfl, fun wS hSw => ?hye16⟩) (by assumption) ?reste16
      case hye16 => (obtain ⟨s0, s1, s2, s3, s4, s5⟩ := hSw; go_simp; first | done | with_reducible rfl)
      try simp only [Act.put, List.setIfInBounds_toArray, List.set_cons_zero, List.set_cons_succ]
      refine take_dst (some 28) (i := 17) (v := ?ve17) rfl rfl (by kernel_rfl) (by kernel_rfl) (by kernel_rfl) (fun _ _ _ h => h) (Or.inl ⟨by rfl, fun wS hSw => ?hye17⟩) (by assumption) ?reste17
      case hye17 => (obtain ⟨s0, s1, s2, s3, s4, s5⟩ := hSw; go_simp; first | done | with_reducible rfl)
      try simp only [Act.put, List.setIfInBounds_toArray, List.set_cons_zero, List.set_cons_succ]
      refine take_dst (some 29) (i := 18) (v := ?ve18) rfl rfl (by kernel_rfl) (by kernel_rfl) (by kernel_rfl) (fun _ _ _ h => h) (Or.inl ⟨by rfl, fun wS hSw => ?hye18⟩) (by assumption) ?reste18
      case hye18 => (obtain ⟨s0, s1, s2, s3, s4, s5⟩ := hSw; go_simp; first | done | with_reducible rfl)
      try simp only [Act.put, List.setIfInBounds_toArray, List.set_cons_zero, List.set_cons_succ]
      refine take_dst (some 30) (i := 19) (v := ?ve19) rfl rfl (by kernel_rfl) (by kernel_rfl) (by kernel_rfl) (fun _ _ _ h => h) (Or.inl ⟨by rfl, fun wS hSw => ?hye19⟩) (by assumption) ?reste19
      case hye19 => (obtain ⟨s0, s1, s2, s3, s4, s5⟩ := hSw; go_simp; first | done | with_reducible rfl)
      try simp only [Act.put, List.setIfInBounds_toArray, List.set_cons_zero, List.set_cons_succ]
      refine take_dst (some 31) (i := 20) (v := ?ve20) rfl rfl (by kernel_rfl) (by kernel_rfl) (by kernel_rfl) (fun _ _ _ h => h) (Or.inl ⟨by rfl, fun wS hSw => ?hye20⟩) (by assumption) ?reste20
      case hye20 => (obtain ⟨s0, s1, s2, s3, s4, s5⟩ := hSw; go_simp; first | done | with_reducible rfl)
      try simp only [Act.put, List.setIfInBounds_toArray, List.set_cons_zero, List.set_cons_succ]
      refine take_dst (some 32) (i := 21) (v := ?ve21) rfl rfl (by kernel_rfl) (by kernel_rfl) (by kernel_rfl) (fun _ _ _ h => h) (Or.inl ⟨by rfl, fun wS hSw => ?hye21⟩) (by assumption) ?reste21
      case hye21 => (obtain ⟨s0, s1, s2, s3, s4, s5⟩ := hSw; go_simp; first | done | with_reducible rfl)
      try simp only [Act.put, List.setIfInBounds_toArray, List.set_cons_zero, List.set_cons_succ]
      refine wpAnyH_ready (rs := [3]) (by kernel_rfl) (by simp) ?_
      refine AllReadyH.cons rfl (fun K hK => ?_) AllReadyH.nil
      go_simp
      refine (enc1_any r.st _).mono ?_
      rintro e W1 ⟨rfl, hb⟩
      have H1 := Lib.hid (below_ext H0.out hb)
      clear hb
      refine hK.out _ _ ((RpAt.of_cb HC0.out).ext H1.out).six (fun hHeld => ?_)
      clear hK K
      try simp only [Act.put, List.setIfInBounds_toArray, List.set_cons_zero, List.set_cons_succ]
      refine wpAnyH_ready (rs := [7]) (by kernel_rfl) (by simp) ?_
      refine AllReadyH.cons rfl (fun K hK => ?_) AllReadyH.nil
      go_simp
      refine (enc1_any r.no _).mono ?_
      rintro e W2 ⟨rfl, hb⟩
      have H2 := Lib.hid (below_ext H1.out hb)
      clear hb
      refine hK.out _ _ ((RpAt.of_cb HC0.out).ext H2.out).six (fun hHeld => ?_)
      clear hK K
      try simp only [Act.put, List.setIfInBounds_toArray, List.set_cons_zero, List.set_cons_succ]
      refine wpAnyH_ready (rs := [11]) (by kernel_rfl) (by simp) ?_
      refine AllReadyH.cons rfl (fun K hK => ?_) AllReadyH.nil
      go_simp
      refine (enc1_any r.mi _).mono ?_
      rintro e W3 ⟨rfl, hb⟩
      have H3 := Lib.hid (below_ext H2.out hb)
      clear hb
      refine hK.out _ _ ((RpAt.of_cb HC0.out).ext H3.out).six (fun hHeld => ?_)
      clear hK K
      try simp only [Act.put, List.setIfInBounds_toArray, List.set_cons_zero, List.set_cons_succ]
      refine wpAnyH_ready (rs := [15]) (by kernel_rfl) (by simp) ?_
      refine AllReadyH.cons rfl (fun K hK => ?_) AllReadyH.nil
      go_simp
      refine (enc1_any r.ar _).mono ?_
      rintro e W4 ⟨rfl, hb⟩
      have H4 := Lib.hid (below_ext H3.out hb)
      clear hb
      refine hK.out _ _ ((RpAt.of_cb HC0.out).ext H4.out).six (fun hHeld => ?_)
      clear hK K
      try simp only [Act.put, List.setIfInBounds_toArray, List.set_cons_zero, List.set_cons_succ]
      refine wpAnyH_ready (rs := [22]) (by kernel_rfl) (by simp) ?_
      refine AllReadyH.cons rfl (fun K hK => ?_) AllReadyH.nil
      go_simp
      refine (enc1_any r.vo _).mono ?_
      rintro e W5 ⟨rfl, hb⟩
      have H5 := Lib.hid (below_ext H4.out hb)
      clear hb
      refine hK.out _ _ ((RpAt.of_cb HC0.out).ext H5.out).six (fun hHeld => ?_)
      clear hK K
      try simp only [Act.put, List.setIfInBounds_toArray, List.set_cons_zero, List.set_cons_succ]
      refine wpAnyH_ready (rs := [23]) (by kernel_rfl) (by simp) ?_
      refine AllReadyH.cons rfl (fun K hK => ?_) AllReadyH.nil
      go_simp
      have HA : Hid (CB (W5.alloc (.cells #[.int .i64 1, .int .i64 r.st, .string ⟨#[]⟩, .slice none 0 0, .int .i64 1, .int .i64 r.no, .string ⟨#[]⟩, .slice none 0 0, .int .i64 1, .int .i64 r.mi, .string ⟨#[]⟩, .slice none 0 0, .int .i64 1, .int .i64 r.ar, .string ⟨#[]⟩, .slice none 0 0, .int .i64 2, .int .i64 0, .string r.cl, .slice none 0 0, .int .i64 1, .int .i64 r.vo, .string ⟨#[]⟩, .slice none 0 0] 57)) W5.heap.size 57 (vcells (repL r) (nils 6))) := CB.new W5 _ _
      have H6 := Lib.hid (H5.out.alloc H5.out.size (.cells #[.int .i64 1, .int .i64 r.st, .string ⟨#[]⟩, .slice none 0 0, .int .i64 1, .int .i64 r.no, .string ⟨#[]⟩, .slice none 0 0, .int .i64 1, .int .i64 r.mi, .string ⟨#[]⟩, .slice none 0 0, .int .i64 1, .int .i64 r.ar, .string ⟨#[]⟩, .slice none 0 0, .int .i64 2, .int .i64 0, .string r.cl, .slice none 0 0, .int .i64 1, .int .i64 r.vo, .string ⟨#[]⟩, .slice none 0 0] 57))
      refine hK.out _ _ ((RpAt.of_cb HC0.out).ext H6.out).six (fun hHeld => ?_)
      clear hK K
      try simp only [Act.put, List.setIfInBounds_toArray, List.set_cons_zero, List.set_cons_succ]
      generalize W5.alloc (.cells #[.int .i64 1, .int .i64 r.st, .string ⟨#[]⟩, .slice none 0 0, .int .i64 1, .int .i64 r.no, .string ⟨#[]⟩, .slice none 0 0, .int .i64 1, .int .i64 r.mi, .string ⟨#[]⟩, .slice none 0 0, .int .i64 1, .int .i64 r.ar, .string ⟨#[]⟩, .slice none 0 0, .int .i64 2, .int .i64 0, .string r.cl, .slice none 0 0, .int .i64 1, .int .i64 r.vo, .string ⟨#[]⟩, .slice none 0 0] 57) = W6 at *
      refine take_dst (some 35) (i := 24) (v := ?vf24) rfl rfl (by kernel_rfl) (by kernel_rfl) (by kernel_rfl) (fun _ _ _ h => h) (Or.inl ⟨by rfl, fun wS hSw => ?hyf24⟩) (by assumption) ?restf24
      case hyf24 => (obtain ⟨s0, s1, s2, s3, s4, s5⟩ := hSw; go_simp; first | done | with_reducible rfl)
      try simp only [Act.put, List.setIfInBounds_toArray, List.set_cons_zero, List.set_cons_succ]
      refine wpAnyH_ready (rs := [25]) (by kernel_rfl) (by simp) ?_
      refine AllReadyH.cons rfl (fun K hK => ?_) AllReadyH.nil
      go_simp
      refine (encode_any (repV r) (by rw [repV_sz]; have := Hm32.out; omega) _ _ (rep_sl HRI.out (by have := Hm32.out; unfold maxLen; omega) HA.out)).mono ?_
      rintro e W7 ⟨v9, rfl, hv9, hb9⟩
      rw [repV_ck] at hv9 ⊢
      rw [if_pos rfl] at hv9
      have HV9 := Lib.hid hv9
      have H7 := Lib.hid (below_ext H6.out hb9)
      clear hv9 hb9
      refine hK.out _ _ ((RpAt.of_cb HC0.out).ext H7.out).six (fun hHeld => ?_)
      clear hK K
      try simp only [Act.put, List.setIfInBounds_toArray, List.set_cons_zero, List.set_cons_succ]
      refine take_dst (some 37) (i := 26) (v := ?vf26) rfl rfl (by kernel_rfl) (by kernel_rfl) (by kernel_rfl) (fun _ _ _ h => h) (Or.inl ⟨by rfl, fun wS hSw => ?hyf26⟩) (by assumption) ?restf26
      case hyf26 => (obtain ⟨s0, s1, s2, s3, s4, s5⟩ := hSw; go_simp; first | done | with_reducible rfl)
      try simp only [Act.put, List.setIfInBounds_toArray, List.set_cons_zero, List.set_cons_succ]
      refine take_dst (some 38) (i := 27) (v := ?vf27) rfl rfl (by kernel_rfl) (by kernel_rfl) (by kernel_rfl) (fun _ _ _ h => h) (Or.inl ⟨by rfl, fun wS hSw => ?hyf27⟩) (by assumption) ?restf27
      case hyf27 => (obtain ⟨s0, s1, s2, s3, s4, s5⟩ := hSw; go_simp; first | done | with_reducible rfl)
      try simp only [Act.put, List.setIfInBounds_toArray, List.set_cons_zero, List.set_cons_succ]
      refine take_dst (some 2) (i := 28) (v := ?vf28) rfl rfl (by kernel_rfl) (by kernel_rfl) (by kernel_rfl) (fun _ _ _ h => h) (Or.inl ⟨by rfl, fun wS hSw => ?hyf28⟩) (by assumption) ?restf28
      case hyf28 => (obtain ⟨s0, s1, s2, s3, s4, s5⟩ := hSw; go_simp; first | done | with_reducible rfl)
      try simp only [Act.put, List.setIfInBounds_toArray, List.set_cons_zero, List.set_cons_succ]
      refine take_dst (some 3) (i := 29) (v := ?vf29) rfl rfl (by kernel_rfl) (by kernel_rfl) (by kernel_rfl) (fun _ _ _ h => h) (Or.inl ⟨by rfl, fun wS hSw => ?hyf29⟩) (by assumption) ?restf29
      case hyf29 => (obtain ⟨s0, s1, s2, s3, s4, s5⟩ := hSw; go_simp; first | done | with_reducible rfl)
      try simp only [Act.put, List.setIfInBounds_toArray, List.set_cons_zero, List.set_cons_succ]
      refine wpAnyH_done (by kernel_rfl) ?_ _
      go_wp2_with fail
      go_ret2
      exact encRP_ok Hrb.out HV9.out (below_ext HB2.out H7.out)
set_option maxRecDepth 100000 in
set_option maxHeartbeats 4000000 in
theorem rencode22_any (r : Rp) (w : World) (hr : r.cl.size ≤ 9223372036854775807) : Calls Try.prog 18 #[r.v] w (EncRP r w) := by
  have Hr := Lib.hid hr
  have hcb0 : Hid (CB (w.alloc (.cells #[.int .i64 r.st, .int .i64 r.no, .int .i64 r.mi, .int .i64 r.ar, .string r.cl, .int .i64 r.vo] 23)) w.heap.size 23 r.cells) := CB.new w _ _
  have hb0 := Lib.hid ((Below.refl w.heap.size w).alloc (Nat.le_refl _) (.cells #[.int .i64 r.st, .int .i64 r.no, .int .i64 r.mi, .int .i64 r.ar, .string r.cl, .int .i64 r.vo] 23))
  change Calls Try.prog 18 #[.agg #[.int .i64 r.st, .int .i64 r.no, .int .i64 r.mi, .int .i64 r.ar, .string r.cl, .int .i64 r.vo]] w _
  obtain ⟨rb, hrb⟩ : ∃ c, repB 4 3 r = c := ⟨_, rfl⟩
  have Hrb := Lib.hid hrb
  clear hrb hr
  go_enter Try.func18, Try.ntmps18
  go_upto_region 1 with fail
  generalize w.alloc (.cells #[.int .i64 r.st, .int .i64 r.no, .int .i64 r.mi, .int .i64 r.ar, .string r.cl, .int .i64 r.vo] 23) = w0 at *
  obtain ⟨c0, c1, c2, c3, c4, c5⟩ := RpAt.of_cb hcb0.out
  cases rb
  case false =>
    go_wp2_with fail
    refine (rcheck_f r Hrb Hr.out _).mono ?_
    rintro e w2 ⟨rfl, hb2⟩
    have HB2 := Lib.hid (below_ext hb0.out hb2)
    go_wp2_with fail
    go_ret2
    exact encRP_bad Hrb.out HB2.out
  case true =>
    have hrs := repB_sound Hrb.out
    have HRI := Lib.hid hrs.1
    have hm32 : r.cl.size ≤ 32 := hrs.2.2
    have Hm32 := Lib.hid hm32
    clear hrs hm32
    go_wp2_with fail
    refine (rcheck_t r Hrb Hr.out _).mono ?_
    rintro e w2 ⟨rfl, hb2⟩
    have HB2 := Lib.hid (below_ext hb0.out hb2)
    have HC0 := Lib.hid (hcb0.out.ext hb2)
    clear hb2 c0 c1 c2 c3 c4 c5
    go_upto_region 4 with fail
    have H0 := Lib.hid ((Below.refl w2.heap.size w2).drew)
    · skip
      refine wp_region_held_drew (S := fun w' => w'.cell? ⟨w.heap.size, 0, none⟩ = some (.int .i64 r.st) ∧ w'.cell? ⟨w.heap.size, 1, none⟩ = some (.int .i64 r.no) ∧ w'.cell? ⟨w.heap.size, 2, none⟩ = some (.int .i64 r.mi) ∧ w'.cell? ⟨w.heap.size, 3, none⟩ = some (.int .i64 r.ar) ∧ w'.cell? ⟨w.heap.size, 4, none⟩ = some (.string r.cl) ∧ w'.cell? ⟨w.heap.size, 5, none⟩ = some (.int .i64 r.vo)) (by kernel_rfl) ((RpAt.of_cb HC0.out).ext H0.out).six (fun hHeld => ?_)
      generalize w2.drew = W0 at *
      refine take_dst (some 10) (i := 0) (v := ?vg0) rfl rfl (by kernel_rfl) (by kernel_rfl) (by kernel_rfl) (fun _ _ _ h => h) (Or.inl ⟨by rfl, fun wS hSw => ?hyg0⟩) (by assumption) ?restg0
      case hyg0 => (obtain ⟨s0, s1, s2, s3, s4, s5⟩ := hSw; go_simp; first | done | with_reducible rfl)
      try simp only [Act.put, List.setIfInBounds_toArray, List.set_cons_zero, List.set_cons_succ]
      refine take_dst (some 11) (i := 1) (v := ?vg1) rfl rfl (by kernel_rfl) (by kernel_rfl) (by kernel_rfl) (fun _ _ _ h => h) (Or.inl ⟨by rfl, fun wS hSw => ?hyg1⟩) (by assumption) ?restg1
      case hyg1 => (obtain ⟨s0, s1, s2, s3, s4, s5⟩ := hSw; go_simp; first | done | with_reducible rfl)
      try simp only [Act.put, List.setIfInBounds_toArray, List.set_cons_zero, List.set_cons_succ]
      refine take_dst (some 13) (i := 3) (v := ?vg3) rfl rfl (by kernel_rfl) (by kernel_rfl) (by kernel_rfl) (fun _ _ _ h => h) (Or.inl ⟨by rfl, fun wS hSw => ?hyg3⟩) (by assumption) ?restg3
      case hyg3 => (obtain ⟨s0, s1, s2, s3, s4, s5⟩ := hSw; go_simp; first | done | with_reducible rfl)
      try simp only [Act.put, List.setIfInBounds_toArray, List.set_cons_zero, List.set_cons_succ]
      refine take_dst (some 14) (i := 4) (v := ?vg4) rfl rfl (by kernel_rfl) (by kernel_rfl) (by kernel_rfl) (fun _ _ _ h => h) (Or.inl ⟨by rfl, fun wS hSw => ?hyg4⟩) (by assumption) ?restg4
      case hyg4 => (obtain ⟨s0, s1, s2, s3, s4, s5⟩ := hSw; go_simp; first | done | with_reducible rfl)
      try simp only [Act.put, List.setIfInBounds_toArray, List.set_cons_zero, List.set_cons_succ]
      refine take_dst (some 16) (i := 6) (v := ?vg6) rfl rfl (by kernel_rfl) (by kernel_rfl) (by kernel_rfl) (fun _ _ _ h => h) (Or.inl ⟨by rfl, fun wS hSw => ?hyg6⟩) (by assumption) ?restg6
      case hyg6 => (obtain ⟨s0, s1, s2, s3, s4, s5⟩ := hSw; go_simp; first | done | with_reducible rfl)
      try simp only [Act.put, List.setIfInBounds_toArray, List.set_cons_zero, List.set_cons_succ]
      refine take_dst (some 17) (i := 7) (v := ?vg7) rfl rfl (by kernel_rfl) (by kernel_rfl) (by kernel_rfl) (fun _ _ _ h => h) (Or.inl ⟨by rfl, fun wS hSw => ?hyg7⟩) (by assumption) ?restg7
      case hyg7 => (obtain ⟨s0, s1, s2, s3, s4, s5⟩ := hSw; go_simp; first | done | with_reducible rfl)
      try simp only [Act.put, List.setIfInBounds_toArray, List.set_cons_zero, List.set_cons_succ]
      refine take_dst (some 19) (i := 9) (v := ?vg9) rfl rfl (by kernel_rfl) (by kernel_rfl) (by kernel_rfl) (fun _ _ _ h => h) (Or.inl ⟨by rfl, fun wS hSw => ?hyg9⟩) (by assumption) ?restg9
      case hyg9 => (obtain ⟨s0, s1, s2, s3, s4, s5⟩ := hSw; go_simp; first | done | with_reducible rfl)
      try simp only [Act.put, List.setIfInBounds_toArray, List.set_cons_zero, List.set_cons_succ]
      refine take_dst (some 20) (i := 10) (v := ?vg10) rfl rfl (by kernel_rfl) (by kernel_rfl) (by kernel_rfl) (fun _ _ _ h => h) (Or.inl ⟨by rfl, fun wS hSw => ?hyg10⟩) (by assumption) ?restg10
      case hyg10 => (obtain ⟨s0, s1, s2, s3, s4, s5⟩ := hSw; go_simp; first | done | with_reducible rfl)
      try simp only [Act.put, List.setIfInBounds_toArray, List.set_cons_zero, List.set_cons_succ]
      refine take_dst (some 22) (i := 12) (v := ?vg12) rfl rfl (by kernel_rfl) (by kernel_rfl) (by kernel_rfl) (fun _ _ _ h => h) (Or.inl ⟨by rfl, fun wS hSw => ?hyg12⟩) (by assumption) ?restg12
      case hyg12 => (obtain ⟨s0, s1, s2, s3, s4, s5⟩ := hSw; go_simp; first | done | with_reducible rfl)
      try simp only [Act.put, List.setIfInBounds_toArray, List.set_cons_zero, List.set_cons_succ]
      refine take_dst (some 23) (i := 13) (v := ?vg13) rfl rfl (by kernel_rfl) (by kernel_rfl) (by kernel_rfl) (fun _ _ _ h => h) (Or.inl ⟨by rfl, fun wS hSw => ?hyg13⟩) (by assumption) ?restg13
      case hyg13 => (obtain ⟨s0, s1, s2, s3, s4, s5⟩ := hSw; go_simp; first | done | with_reducible rfl)
      try simp only [Act.put, List.setIfInBounds_toArray, List.set_cons_zero, List.set_cons_succ]
      refine take_dst (some 25) (i := 15) (v := ?vg15) rfl rfl (by kernel_rfl) (by kernel_rfl) (by kernel_rfl) (fun _ _ _ h => h) (Or.inl ⟨by rfl, fun wS hSw => ?hyg15⟩) (by assumption) ?restg15
      case hyg15 => (obtain ⟨s0, s1, s2, s3, s4, s5⟩ := hSw; go_simp; first | done | with_reducible rfl)
      try simp only [Act.put, List.setIfInBounds_toArray, List.set_cons_zero, List.set_cons_succ]
      refine take_dst (some 26) (i := 16) (v := ?vg16) rfl rfl (by kernel_rfl) (by kernel_rfl) (by kernel_rfl) (fun _ _ _ h => h) (Or.inl ⟨by rfl, fun wS hSw => ?hyg16⟩) (by assumption) ?restg16
      case hyg16 => (obtain ⟨s0, s1, s2, s3, s4, s5⟩ := hSw; go_simp; first | done | with_reducible rfl)
      try simp only [Act.put, List.setIfInBounds_toArray, List.set_cons_zero, List.set_cons_succ]
      refine wpAnyH_ready (rs := [2]) (by kernel_rfl) (by simp) ?_
      refine AllReadyH.cons rfl (fun K hK => ?_) AllReadyH.nil
      go_simp
      refine (rInt_any r.st _).mono ?_
      rintro e W1 ⟨rfl, hb⟩
      have H1 := Lib.hid (below_ext H0.out hb)
      clear hb
      refine hK.out _ _ ((RpAt.of_cb HC0.out).ext H1.out).six (fun hHeld => ?_)
      clear hK K
      try simp only [Act.put, List.setIfInBounds_toArray, List.set_cons_zero, List.set_cons_succ]
      refine wpAnyH_ready (rs := [5]) (by kernel_rfl) (by simp) ?_
      refine AllReadyH.cons rfl (fun K hK => ?_) AllReadyH.nil
      go_simp
      refine (rInt_any r.no _).mono ?_
      rintro e W2 ⟨rfl, hb⟩
      have H2 := Lib.hid (below_ext H1.out hb)
      clear hb
      refine hK.out _ _ ((RpAt.of_cb HC0.out).ext H2.out).six (fun hHeld => ?_)
      clear hK K
      try simp only [Act.put, List.setIfInBounds_toArray, List.set_cons_zero, List.set_cons_succ]
      refine wpAnyH_ready (rs := [8]) (by kernel_rfl) (by simp) ?_
      refine AllReadyH.cons rfl (fun K hK => ?_) AllReadyH.nil
      go_simp
      refine (rInt_any r.mi _).mono ?_
      rintro e W3 ⟨rfl, hb⟩
      have H3 := Lib.hid (below_ext H2.out hb)
      clear hb
      refine hK.out _ _ ((RpAt.of_cb HC0.out).ext H3.out).six (fun hHeld => ?_)
      clear hK K
      try simp only [Act.put, List.setIfInBounds_toArray, List.set_cons_zero, List.set_cons_succ]
      refine wpAnyH_ready (rs := [11]) (by kernel_rfl) (by simp) ?_
      refine AllReadyH.cons rfl (fun K hK => ?_) AllReadyH.nil
      go_simp
      refine (rInt_any r.ar _).mono ?_
      rintro e W4 ⟨rfl, hb⟩
      have H4 := Lib.hid (below_ext H3.out hb)
      clear hb
      refine hK.out _ _ ((RpAt.of_cb HC0.out).ext H4.out).six (fun hHeld => ?_)
      clear hK K
      try simp only [Act.put, List.setIfInBounds_toArray, List.set_cons_zero, List.set_cons_succ]
      refine wpAnyH_ready (rs := [14]) (by kernel_rfl) (by simp) ?_
      refine AllReadyH.cons rfl (fun K hK => ?_) AllReadyH.nil
      go_simp
      refine (rText_any r.cl _).mono ?_
      rintro e W5 ⟨rfl, hb⟩
      have H5 := Lib.hid (below_ext H4.out hb)
      clear hb
      refine hK.out _ _ ((RpAt.of_cb HC0.out).ext H5.out).six (fun hHeld => ?_)
      clear hK K
      try simp only [Act.put, List.setIfInBounds_toArray, List.set_cons_zero, List.set_cons_succ]
      refine wpAnyH_ready (rs := [17]) (by kernel_rfl) (by simp) ?_
      refine AllReadyH.cons rfl (fun K hK => ?_) AllReadyH.nil
      go_simp
      refine (rInt_any r.vo _).mono ?_
      rintro e W6 ⟨rfl, hb⟩
      have H6 := Lib.hid (below_ext H5.out hb)
      clear hb
      refine hK.out _ _ ((RpAt.of_cb HC0.out).ext H6.out).six (fun hHeld => ?_)
      clear hK K
      try simp only [Act.put, List.setIfInBounds_toArray, List.set_cons_zero, List.set_cons_succ]
      refine wpAnyH_ready (rs := [18]) (by kernel_rfl) (by simp) ?_
      refine AllReadyH.cons rfl (fun K hK => ?_) AllReadyH.nil
      go_simp
      have HA : Hid (CB (W6.alloc (.cells #[.int .i64 1, .int .i64 r.st, .string ⟨#[]⟩, .slice none 0 0, .int .i64 1, .int .i64 r.no, .string ⟨#[]⟩, .slice none 0 0, .int .i64 1, .int .i64 r.mi, .string ⟨#[]⟩, .slice none 0 0, .int .i64 1, .int .i64 r.ar, .string ⟨#[]⟩, .slice none 0 0, .int .i64 2, .int .i64 0, .string r.cl, .slice none 0 0, .int .i64 1, .int .i64 r.vo, .string ⟨#[]⟩, .slice none 0 0] 57)) W6.heap.size 57 (vcells (repL r) (nils 6))) := CB.new W6 _ _
      have H7 := Lib.hid (H6.out.alloc H6.out.size (.cells #[.int .i64 1, .int .i64 r.st, .string ⟨#[]⟩, .slice none 0 0, .int .i64 1, .int .i64 r.no, .string ⟨#[]⟩, .slice none 0 0, .int .i64 1, .int .i64 r.mi, .string ⟨#[]⟩, .slice none 0 0, .int .i64 1, .int .i64 r.ar, .string ⟨#[]⟩, .slice none 0 0, .int .i64 2, .int .i64 0, .string r.cl, .slice none 0 0, .int .i64 1, .int .i64 r.vo, .string ⟨#[]⟩, .slice none 0 0] 57))
      refine hK.out _ _ ((RpAt.of_cb HC0.out).ext H7.out).six (fun hHeld => ?_)
      clear hK K
      try simp only [Act.put, List.setIfInBounds_toArray, List.set_cons_zero, List.set_cons_succ]
      generalize W6.alloc (.cells #[.int .i64 1, .int .i64 r.st, .string ⟨#[]⟩, .slice none 0 0, .int .i64 1, .int .i64 r.no, .string ⟨#[]⟩, .slice none 0 0, .int .i64 1, .int .i64 r.mi, .string ⟨#[]⟩, .slice none 0 0, .int .i64 1, .int .i64 r.ar, .string ⟨#[]⟩, .slice none 0 0, .int .i64 2, .int .i64 0, .string r.cl, .slice none 0 0, .int .i64 1, .int .i64 r.vo, .string ⟨#[]⟩, .slice none 0 0] 57) = W7 at *
      refine wpAnyH_ready (rs := [19]) (by kernel_rfl) (by simp) ?_
      refine AllReadyH.cons rfl (fun K hK => ?_) AllReadyH.nil
      go_simp
      refine (rList_any _ 6 6 _).mono ?_
      rintro e W8 ⟨rfl, hb9⟩
      have H8 := Lib.hid (below_ext H7.out hb9)
      have HA2 := Lib.hid (HA.out.ext hb9)
      clear hb9
      refine hK.out _ _ ((RpAt.of_cb HC0.out).ext H8.out).six (fun hHeld => ?_)
      clear hK K
      try simp only [Act.put, List.setIfInBounds_toArray, List.set_cons_zero, List.set_cons_succ]
      refine wpAnyH_ready (rs := [20]) (by kernel_rfl) (by simp) ?_
      refine AllReadyH.cons rfl (fun K hK => ?_) AllReadyH.nil
      go_simp
      refine (rEncode_any (repV r) (by rw [repV_sz]; have := Hm32.out; omega) _ _ (rep_sl HRI.out (by have := Hm32.out; unfold maxLen; omega) HA2.out)).mono ?_
      rintro e W9 ⟨v9, rfl, hv9, hb9⟩
      rw [repV_ck] at hv9 ⊢
      rw [if_pos rfl] at hv9
      have HV9 := Lib.hid hv9
      have H9 := Lib.hid (below_ext H8.out hb9)
      clear hv9 hb9
      refine hK.out _ _ ((RpAt.of_cb HC0.out).ext H9.out).six (fun hHeld => ?_)
      clear hK K
      try simp only [Act.put, List.setIfInBounds_toArray, List.set_cons_zero, List.set_cons_succ]
      refine take_dst (some 31) (i := 21) (v := ?vh21) rfl rfl (by kernel_rfl) (by kernel_rfl) (by kernel_rfl) (fun _ _ _ h => h) (Or.inl ⟨by rfl, fun wS hSw => ?hyh21⟩) (by assumption) ?resth21
      case hyh21 => (obtain ⟨s0, s1, s2, s3, s4, s5⟩ := hSw; go_simp; first | done | with_reducible rfl)
      try simp only [Act.put, List.setIfInBounds_toArray, List.set_cons_zero, List.set_cons_succ]
      refine take_dst (some 32) (i := 22) (v := ?vh22) rfl rfl (by kernel_rfl) (by kernel_rfl) (by kernel_rfl) (fun _ _ _ h => h) (Or.inl ⟨by rfl, fun wS hSw => ?hyh22⟩) (by assumption) ?resth22
      case hyh22 => (obtain ⟨s0, s1, s2, s3, s4, s5⟩ := hSw; go_simp; first | done | with_reducible rfl)
      try simp only [Act.put, List.setIfInBounds_toArray, List.set_cons_zero, List.set_cons_succ]
      refine take_dst (some 2) (i := 23) (v := ?vh23) rfl rfl (by kernel_rfl) (by kernel_rfl) (by kernel_rfl) (fun _ _ _ h => h) (Or.inl ⟨by rfl, fun wS hSw => ?hyh23⟩) (by assumption) ?resth23
      case hyh23 => (obtain ⟨s0, s1, s2, s3, s4, s5⟩ := hSw; go_simp; first | done | with_reducible rfl)
      try simp only [Act.put, List.setIfInBounds_toArray, List.set_cons_zero, List.set_cons_succ]
      refine take_dst (some 3) (i := 24) (v := ?vh24) rfl rfl (by kernel_rfl) (by kernel_rfl) (by kernel_rfl) (fun _ _ _ h => h) (Or.inl ⟨by rfl, fun wS hSw => ?hyh24⟩) (by assumption) ?resth24
      case hyh24 => (obtain ⟨s0, s1, s2, s3, s4, s5⟩ := hSw; go_simp; first | done | with_reducible rfl)
      try simp only [Act.put, List.setIfInBounds_toArray, List.set_cons_zero, List.set_cons_succ]
      refine wpAnyH_done (by kernel_rfl) ?_ _
      go_wp2_with fail
      go_ret2
      exact encRP_ok Hrb.out HV9.out (below_ext HB2.out H9.out)
end Go.Proofs.Ytgdbmoggpfpkkaa
/- Decode of a report: the reference's. (Printed by gen22d.py.) -/
namespace Go.Proofs.Ytgdbmoggpfpkkaa
open Go.RowKit
theorem bytes_beq (a b : List UInt8) : ((⟨a.toArray⟩ : ByteArray).toList == (⟨b.toArray⟩ : ByteArray).toList) = decide (a = b) := by
  rw [ByteArray.toList_eq, ByteArray.toList_eq, Bool.eq_iff_iff, beq_iff_eq, decide_eq_true_eq]
set_option maxRecDepth 100000 in
set_option maxHeartbeats 4000000 in
theorem rdecode22_any (l : List UInt8) (hl : l.length ≤ 4000) (v : Value) (w : World) (hb : BtsAt w.heap.size w l v) : Calls Try.prog 20 #[v] w (DecRP l w) := by
  have HW := Lib.hid hb
  obtain ⟨ob, cap2, rfl, hbc, hbm⟩ := hb.form
  have hrl : l.length ≤ 9223372036854775807 := by omega
  have Hl := Lib.hid hl
  clear hb hbc hbm hl
  have hcb0 : Hid (CB (w.alloc (.cells #[.int .i64 0, .int .i64 0, .int .i64 0, .int .i64 0, .string ⟨#[]⟩, .int .i64 0] 23)) w.heap.size 23 rpZ.cells) := CB.new w _ _
  have hb0 := Lib.hid ((Below.refl w.heap.size w).alloc (Nat.le_refl _) (.cells #[.int .i64 0, .int .i64 0, .int .i64 0, .int .i64 0, .string ⟨#[]⟩, .int .i64 0] 23))
  obtain ⟨o, ho⟩ : ∃ o, decF l = o := ⟨_, rfl⟩
  have HO := Lib.hid ho; clear ho
  go_enter Try.func20, Try.ntmps20
  go_upto_region 1 with fail
  generalize w.alloc (.cells #[.int .i64 0, .int .i64 0, .int .i64 0, .int .i64 0, .string ⟨#[]⟩, .int .i64 0] 23) = w0 at *
  go_wp2_with fail
  refine (rdecode_any l Hl.out _ _ (HW.out.ext hb0.out)).mono ?_
  rw [HO.out]
  cases o with
  | none =>
    rintro e w1 ⟨rfl, hb1⟩
    have HB1 := Lib.hid ((below_ext hb0.out hb1).alloc (below_ext hb0.out hb1).size (.cells #[.int .i64 0, .int .i64 0, .string ⟨#[]⟩, .slice none 0 0] 57))
    have HC1 : Hid (CB (w1.alloc (.cells #[.int .i64 0, .int .i64 0, .string ⟨#[]⟩, .slice none 0 0] 57)) w.heap.size 23 rpZ.cells) := (hcb0.out.ext hb1).alloc _
    clear hb1
    go_upto_region 3 with fail
    generalize w1.alloc (.cells #[.int .i64 0, .int .i64 0, .string ⟨#[]⟩, .slice none 0 0] 57) = w2 at *
    obtain ⟨c0, c1, c2, c3, c4, c5⟩ := RpAt.of_cb HC1.out
    have yf : ∀ o, w2.frozen? ⟨w.heap.size, o, none⟩ = false := HC1.out.frozen
    go_wp2_with fail
    change bodyPost _ _ _ _ _ (set6 w2 w.heap.size rpZ)
    have HC9 := Lib.hid (set6_cb rpZ HC1.out)
    have HB9 := Lib.hid (set6_below rpZ HB1.out (Nat.le_refl _))
    clear c0 c1 c2 c3 c4 c5 yf
    generalize set6 w2 w.heap.size rpZ = w9 at *
    obtain ⟨y0, y1, y2, y3, y4, y5⟩ := RpAt.of_cb HC9.out
    refine bodyPost_ret (v := .tuple #[.agg #[.int .i64 rpZ.st, .int .i64 rpZ.no, .int .i64 rpZ.mi, .int .i64 rpZ.ar, .string rpZ.cl, .int .i64 rpZ.vo], .int .i64 10]) (by simp [results, Try.results20, go_sem, y0, y1, y2, y3, y4, y5]) rfl ?_
    exact decRP_none (decR_code HO.out) HB9.out
  | some x =>
    rintro e w1 ⟨oa, cap, rfl, hv1, hb1⟩
    have HB2 := Lib.hid ((below_ext hb0.out hb1).alloc (below_ext hb0.out hb1).size (.cells #[.int .i64 x.kind, .int .i64 x.n, .string x.s, .slice oa x.l.length cap] 57))
    have HC2 : Hid (CB (w1.alloc (.cells #[.int .i64 x.kind, .int .i64 x.n, .string x.s, .slice oa x.l.length cap] 57)) w.heap.size 23 rpZ.cells) := (hcb0.out.ext hb1).alloc _
    have HX2 : Hid (CB (w1.alloc (.cells #[.int .i64 x.kind, .int .i64 x.n, .string x.s, .slice oa x.l.length cap] 57)) w1.heap.size 57 [.int .i64 x.kind, .int .i64 x.n, .string x.s, .slice oa x.l.length cap]) := CB.new w1 _ _
    have HV2 : Hid (SlV (w1.alloc (.cells #[.int .i64 x.kind, .int .i64 x.n, .string x.s, .slice oa x.l.length cap] 57)).heap.size (w1.alloc (.cells #[.int .i64 x.kind, .int .i64 x.n, .string x.s, .slice oa x.l.length cap] 57)) x.l (.slice oa x.l.length cap)) := by
      obtain ⟨oa2, cap2, he, hs⟩ := (hv1.alloc (.cells #[.int .i64 x.kind, .int .i64 x.n, .string x.s, .slice oa x.l.length cap] 57)).form
      injection he with he
      have he := congrArg (fun a => a.toList[3]?) he
      simp at he
      obtain ⟨rfl, rfl⟩ := he
      exact hs
    have hsnd := Lib.hid (decF_sound HO.out (by have := Hl.out; unfold maxLen; omega))
    clear hb1 hv1
    go_upto_region 4 with fail
    generalize w1.alloc (.cells #[.int .i64 x.kind, .int .i64 x.n, .string x.s, .slice oa x.l.length cap] 57) = w2 at *
    have d0 : w2.cell? ⟨w1.heap.size, 0, none⟩ = some (.int .i64 x.kind) := HX2.out.cell 0
    have d3 : w2.cell? ⟨w1.heap.size, 3, none⟩ = some (.slice oa x.l.length cap) := HX2.out.cell 3
    have hxlen : x.l.length ≤ 9223372036854775807 := by
      rcases HV2.out with ⟨h, _⟩ | ⟨_, _, _, _, _, h, _⟩
      · rw [h]; simp
      · unfold maxLen at h; omega
    by_cases hk : x.kind = 3
    case neg =>
      have hN := Lib.hid (decR_bad HO.out (by unfold isRp; rw [show (x.kind == 3) = false by rw [beq_eq_false_iff_ne]; exact hk]; simp))
      have tk : (x.kind != 3) = true := by rw [bne_iff_ne]; exact hk
      clear hk
      go_upto_region 5 with fail
      obtain ⟨c0, c1, c2, c3, c4, c5⟩ := RpAt.of_cb HC2.out
      have yf : ∀ o, w2.frozen? ⟨w.heap.size, o, none⟩ = false := HC2.out.frozen
      go_wp2_with fail
      change bodyPost _ _ _ _ _ (set6 w2 w.heap.size rpZ)
      have HC9 := Lib.hid (set6_cb rpZ HC2.out)
      have HB9 := Lib.hid (set6_below rpZ HB2.out (Nat.le_refl _))
      clear c0 c1 c2 c3 c4 c5 yf
      generalize set6 w2 w.heap.size rpZ = w9 at *
      obtain ⟨y0, y1, y2, y3, y4, y5⟩ := RpAt.of_cb HC9.out
      refine bodyPost_ret (v := .tuple #[.agg #[.int .i64 rpZ.st, .int .i64 rpZ.no, .int .i64 rpZ.mi, .int .i64 rpZ.ar, .string rpZ.cl, .int .i64 rpZ.vo], .int .i64 220]) (by simp [results, Try.results20, go_sem, y0, y1, y2, y3, y4, y5]) rfl ?_
      exact decRP_none hN.out HB9.out
    case pos =>
    have tk : (x.kind != 3) = false := by rw [hk]; rfl
    by_cases h6 : x.l.length = 6
    case neg =>
      have hN := Lib.hid (decR_bad HO.out (by
        have : isRp x = false := by
          cases hi : isRp x with
          | false => rfl
          | true =>
            unfold isRp at hi; simp only [Bool.and_eq_true, beq_iff_eq] at hi
            have : (List.map V.kind x.l).length = 6 := congrArg List.length hi.2
            rw [List.length_map] at this; exact absurd this h6
        rw [this]; rfl))
      have t6 : ((x.l.length : Int) != 6) = true := by rw [bne_iff_ne]; omega
      clear hk h6
      go_upto_region 5 with fail
      obtain ⟨c0, c1, c2, c3, c4, c5⟩ := RpAt.of_cb HC2.out
      have yf : ∀ o, w2.frozen? ⟨w.heap.size, o, none⟩ = false := HC2.out.frozen
      go_wp2_with fail
      change bodyPost _ _ _ _ _ (set6 w2 w.heap.size rpZ)
      have HC9 := Lib.hid (set6_cb rpZ HC2.out)
      have HB9 := Lib.hid (set6_below rpZ HB2.out (Nat.le_refl _))
      clear c0 c1 c2 c3 c4 c5 yf
      generalize set6 w2 w.heap.size rpZ = w9 at *
      obtain ⟨y0, y1, y2, y3, y4, y5⟩ := RpAt.of_cb HC9.out
      refine bodyPost_ret (v := .tuple #[.agg #[.int .i64 rpZ.st, .int .i64 rpZ.no, .int .i64 rpZ.mi, .int .i64 rpZ.ar, .string rpZ.cl, .int .i64 rpZ.vo], .int .i64 220]) (by simp [results, Try.results20, go_sem, y0, y1, y2, y3, y4, y5]) rfl ?_
      exact decRP_none hN.out HB9.out
    case pos =>
      have hag := Lib.hid (again_iff HO.out (by have := Hl.out; unfold maxLen; omega) hk h6)
      clear hk hxlen
      obtain ⟨a, b, c, d, e, f, hx⟩ := six_of h6
      rw [h6] at d3 HV2 ⊢
      have HX6 := Lib.hid hx
      rw [hx] at HV2
      clear hx h6
      obtain ⟨_, gb, go, cap', he, _, hat⟩ : _ ∧ _ := by
        rcases HV2.out with ⟨h, _⟩ | h
        · cases h
        · exact h
      injection he with he _ _
      subst he
      have p0 := (V.at_def (V.ats_get hat 0 a rfl)).2.2.1
      have p1 := (V.at_def (V.ats_get hat 1 b rfl)).2.2.1
      have p2 := (V.at_def (V.ats_get hat 2 c rfl)).2.2.1
      have p3 := (V.at_def (V.ats_get hat 3 d rfl)).2.2.1
      have p4 := (V.at_def (V.ats_get hat 4 e rfl)).2.2.2.1
      have p5 := (V.at_def (V.ats_get hat 5 f rfl)).2.2.1
      clear hat
      simp only [Nat.zero_mul, Nat.add_zero, Nat.one_mul, Nat.reduceMul] at p0 p1 p2 p3 p4 p5
      obtain ⟨rr, hrr⟩ : ∃ rr : Rp, (⟨a.n, b.n, c.n, d.n, e.s, f.n⟩ : Rp) = rr := ⟨_, rfl⟩
      have hrx : Hid (rpOf x = rr) := by show _ = _; rw [← hrr]; unfold rpOf; rw [HX6.out]
      rw [hrx.out] at hag
      rw [show a.n = rr.st by rw [← hrr]] at p0
      rw [show b.n = rr.no by rw [← hrr]] at p1
      rw [show c.n = rr.mi by rw [← hrr]] at p2
      rw [show d.n = rr.ar by rw [← hrr]] at p3
      rw [show e.s = rr.cl by rw [← hrr]] at p4
      rw [show f.n = rr.vo by rw [← hrr]] at p5
      have hcl : rr.cl.size ≤ 9223372036854775807 := by
        rw [← hrx.out]
        have := hsnd.out.2.2.2
        have h2 : e.s.size ≤ sz x := by
          obtain ⟨k', n', s', l'⟩ := x
          have hl' : l' = [a, b, c, d, e, f] := HX6.out
          obtain ⟨ke, ne, se, le⟩ := e
          subst hl'
          simp only [sz, szs, V.s]; omega
        have h3 : (rpOf x).cl = e.s := by unfold rpOf; rw [HX6.out]
        rw [h3]; have := Hl.out; omega
      clear hrr
      go_upto_region 6 with fail
      have H0 := Lib.hid ((Below.refl w2.heap.size w2).drew)
      refine wp_region_noPanic ?_
      refine wp_region_held_drew (S := fun w' => w'.cell? ⟨w1.heap.size, 3, none⟩ = some (.slice (some ⟨gb, go, none⟩) 6 cap) ∧ w'.cell? ⟨gb, go + 1, none⟩ = some (.int .i64 rr.st) ∧ w'.cell? ⟨gb, go + 4 + 1, none⟩ = some (.int .i64 rr.no) ∧ w'.cell? ⟨gb, go + 8 + 1, none⟩ = some (.int .i64 rr.mi) ∧ w'.cell? ⟨gb, go + 12 + 1, none⟩ = some (.int .i64 rr.ar) ∧ w'.cell? ⟨gb, go + 16 + 2, none⟩ = some (.string rr.cl) ∧ w'.cell? ⟨gb, go + 20 + 1, none⟩ = some (.int .i64 rr.vo)) (by kernel_rfl) ⟨cell_ext H0.out d3, cell_ext H0.out p0, cell_ext H0.out p1, cell_ext H0.out p2, cell_ext H0.out p3, cell_ext H0.out p4, cell_ext H0.out p5⟩ (fun hHeld => ?_)
      generalize w2.drew = W0 at *
      refine take_dst (some 28) (i := 0) (v := ?vg0) rfl rfl (by kernel_rfl) (by kernel_rfl) (by kernel_rfl) (fun _ _ _ h => h) (Or.inl ⟨by rfl, fun wS hSw => ?hyg0⟩) (by assumption) ?restg0
      case hyg0 => (obtain ⟨s0, s1, s2, s3, s4, s5, s6⟩ := hSw; go_simp; first | done | with_reducible rfl)
      try simp only [Act.put, List.setIfInBounds_toArray, List.set_cons_zero, List.set_cons_succ]
      refine take_dst (some 29) (i := 1) (v := ?vg1) rfl rfl (by kernel_rfl) (by kernel_rfl) (by kernel_rfl) (fun _ _ _ h => h) (Or.inl ⟨by rfl, fun wS hSw => ?hyg1⟩) (by assumption) ?restg1
      case hyg1 => (obtain ⟨s0, s1, s2, s3, s4, s5, s6⟩ := hSw; go_simp; first | done | with_reducible rfl)
      try simp only [Act.put, List.setIfInBounds_toArray, List.set_cons_zero, List.set_cons_succ]
      refine take_dst (some 30) (i := 2) (v := ?vg2) rfl rfl (by kernel_rfl) (by kernel_rfl) (by kernel_rfl) (fun _ _ _ h => h) (Or.inl ⟨by rfl, fun wS hSw => ?hyg2⟩) (by assumption) ?restg2
      case hyg2 => (obtain ⟨s0, s1, s2, s3, s4, s5, s6⟩ := hSw; go_simp; first | done | with_reducible rfl)
      try simp only [Act.put, List.setIfInBounds_toArray, List.set_cons_zero, List.set_cons_succ]
      refine take_dst (some 31) (i := 3) (v := ?vg3) rfl rfl (by kernel_rfl) (by kernel_rfl) (by kernel_rfl) (fun _ _ _ h => h) (Or.inl ⟨by rfl, fun wS hSw => ?hyg3⟩) (by assumption) ?restg3
      case hyg3 => (obtain ⟨s0, s1, s2, s3, s4, s5, s6⟩ := hSw; go_simp; first | done | with_reducible rfl)
      try simp only [Act.put, List.setIfInBounds_toArray, List.set_cons_zero, List.set_cons_succ]
      refine take_dst (some 32) (i := 4) (v := ?vg4) rfl rfl (by kernel_rfl) (by kernel_rfl) (by kernel_rfl) (fun _ _ _ h => h) (Or.inl ⟨by rfl, fun wS hSw => ?hyg4⟩) (by assumption) ?restg4
      case hyg4 => (obtain ⟨s0, s1, s2, s3, s4, s5, s6⟩ := hSw; go_simp; first | done | with_reducible rfl)
      try simp only [Act.put, List.setIfInBounds_toArray, List.set_cons_zero, List.set_cons_succ]
      refine take_dst (some 33) (i := 5) (v := ?vg5) rfl rfl (by kernel_rfl) (by kernel_rfl) (by kernel_rfl) (fun _ _ _ h => h) (Or.inl ⟨by rfl, fun wS hSw => ?hyg5⟩) (by assumption) ?restg5
      case hyg5 => (obtain ⟨s0, s1, s2, s3, s4, s5, s6⟩ := hSw; go_simp; first | done | with_reducible rfl)
      try simp only [Act.put, List.setIfInBounds_toArray, List.set_cons_zero, List.set_cons_succ]
      refine take_dst (some 34) (i := 6) (v := ?vg6) rfl rfl (by kernel_rfl) (by kernel_rfl) (by kernel_rfl) (fun _ _ _ h => h) (Or.inl ⟨by rfl, fun wS hSw => ?hyg6⟩) (by assumption) ?restg6
      case hyg6 => (obtain ⟨s0, s1, s2, s3, s4, s5, s6⟩ := hSw; go_simp; first | done | with_reducible rfl)
      try simp only [Act.put, List.setIfInBounds_toArray, List.set_cons_zero, List.set_cons_succ]
      refine take_dst (some 35) (i := 7) (v := ?vg7) rfl rfl (by kernel_rfl) (by kernel_rfl) (by kernel_rfl) (fun _ _ _ h => h) (Or.inl ⟨by rfl, fun wS hSw => ?hyg7⟩) (by assumption) ?restg7
      case hyg7 => (obtain ⟨s0, s1, s2, s3, s4, s5, s6⟩ := hSw; go_simp; first | done | with_reducible rfl)
      try simp only [Act.put, List.setIfInBounds_toArray, List.set_cons_zero, List.set_cons_succ]
      refine take_dst (some 36) (i := 8) (v := ?vg8) rfl rfl (by kernel_rfl) (by kernel_rfl) (by kernel_rfl) (fun _ _ _ h => h) (Or.inl ⟨by rfl, fun wS hSw => ?hyg8⟩) (by assumption) ?restg8
      case hyg8 => (obtain ⟨s0, s1, s2, s3, s4, s5, s6⟩ := hSw; go_simp; first | done | with_reducible rfl)
      try simp only [Act.put, List.setIfInBounds_toArray, List.set_cons_zero, List.set_cons_succ]
      refine take_dst (some 37) (i := 9) (v := ?vg9) rfl rfl (by kernel_rfl) (by kernel_rfl) (by kernel_rfl) (fun _ _ _ h => h) (Or.inl ⟨by rfl, fun wS hSw => ?hyg9⟩) (by assumption) ?restg9
      case hyg9 => (obtain ⟨s0, s1, s2, s3, s4, s5, s6⟩ := hSw; go_simp; first | done | with_reducible rfl)
      try simp only [Act.put, List.setIfInBounds_toArray, List.set_cons_zero, List.set_cons_succ]
      refine take_dst (some 38) (i := 10) (v := ?vg10) rfl rfl (by kernel_rfl) (by kernel_rfl) (by kernel_rfl) (fun _ _ _ h => h) (Or.inl ⟨by rfl, fun wS hSw => ?hyg10⟩) (by assumption) ?restg10
      case hyg10 => (obtain ⟨s0, s1, s2, s3, s4, s5, s6⟩ := hSw; go_simp; first | done | with_reducible rfl)
      try simp only [Act.put, List.setIfInBounds_toArray, List.set_cons_zero, List.set_cons_succ]
      refine take_dst (some 39) (i := 11) (v := ?vg11) rfl rfl (by kernel_rfl) (by kernel_rfl) (by kernel_rfl) (fun _ _ _ h => h) (Or.inl ⟨by rfl, fun wS hSw => ?hyg11⟩) (by assumption) ?restg11
      case hyg11 => (obtain ⟨s0, s1, s2, s3, s4, s5, s6⟩ := hSw; go_simp; first | done | with_reducible rfl)
      try simp only [Act.put, List.setIfInBounds_toArray, List.set_cons_zero, List.set_cons_succ]
      refine take_dst (some 40) (i := 12) (v := ?vg12) rfl rfl (by kernel_rfl) (by kernel_rfl) (by kernel_rfl) (fun _ _ _ h => h) (Or.inl ⟨by rfl, fun wS hSw => ?hyg12⟩) (by assumption) ?restg12
      case hyg12 => (obtain ⟨s0, s1, s2, s3, s4, s5, s6⟩ := hSw; go_simp; first | done | with_reducible rfl)
      try simp only [Act.put, List.setIfInBounds_toArray, List.set_cons_zero, List.set_cons_succ]
      refine take_dst (some 41) (i := 13) (v := ?vg13) rfl rfl (by kernel_rfl) (by kernel_rfl) (by kernel_rfl) (fun _ _ _ h => h) (Or.inl ⟨by rfl, fun wS hSw => ?hyg13⟩) (by assumption) ?restg13
      case hyg13 => (obtain ⟨s0, s1, s2, s3, s4, s5, s6⟩ := hSw; go_simp; first | done | with_reducible rfl)
      try simp only [Act.put, List.setIfInBounds_toArray, List.set_cons_zero, List.set_cons_succ]
      refine take_dst (some 42) (i := 14) (v := ?vg14) rfl rfl (by kernel_rfl) (by kernel_rfl) (by kernel_rfl) (fun _ _ _ h => h) (Or.inl ⟨by rfl, fun wS hSw => ?hyg14⟩) (by assumption) ?restg14
      case hyg14 => (obtain ⟨s0, s1, s2, s3, s4, s5, s6⟩ := hSw; go_simp; first | done | with_reducible rfl)
      try simp only [Act.put, List.setIfInBounds_toArray, List.set_cons_zero, List.set_cons_succ]
      refine take_dst (some 43) (i := 15) (v := ?vg15) rfl rfl (by kernel_rfl) (by kernel_rfl) (by kernel_rfl) (fun _ _ _ h => h) (Or.inl ⟨by rfl, fun wS hSw => ?hyg15⟩) (by assumption) ?restg15
      case hyg15 => (obtain ⟨s0, s1, s2, s3, s4, s5, s6⟩ := hSw; go_simp; first | done | with_reducible rfl)
      try simp only [Act.put, List.setIfInBounds_toArray, List.set_cons_zero, List.set_cons_succ]
      refine take_dst (some 44) (i := 16) (v := ?vg16) rfl rfl (by kernel_rfl) (by kernel_rfl) (by kernel_rfl) (fun _ _ _ h => h) (Or.inl ⟨by rfl, fun wS hSw => ?hyg16⟩) (by assumption) ?restg16
      case hyg16 => (obtain ⟨s0, s1, s2, s3, s4, s5, s6⟩ := hSw; go_simp; first | done | with_reducible rfl)
      try simp only [Act.put, List.setIfInBounds_toArray, List.set_cons_zero, List.set_cons_succ]
      refine take_dst (some 45) (i := 17) (v := ?vg17) rfl rfl (by kernel_rfl) (by kernel_rfl) (by kernel_rfl) (fun _ _ _ h => h) (Or.inl ⟨by rfl, fun wS hSw => ?hyg17⟩) (by assumption) ?restg17
      case hyg17 => (obtain ⟨s0, s1, s2, s3, s4, s5, s6⟩ := hSw; go_simp; first | done | with_reducible rfl)
      try simp only [Act.put, List.setIfInBounds_toArray, List.set_cons_zero, List.set_cons_succ]
      refine take_dst (some 46) (i := 18) (v := ?vg18) rfl rfl (by kernel_rfl) (by kernel_rfl) (by kernel_rfl) (fun _ _ _ h => h) (Or.inl ⟨by rfl, fun wS hSw => ?hyg18⟩) (by assumption) ?restg18
      case hyg18 => (obtain ⟨s0, s1, s2, s3, s4, s5, s6⟩ := hSw; go_simp; first | done | with_reducible rfl)
      try simp only [Act.put, List.setIfInBounds_toArray, List.set_cons_zero, List.set_cons_succ]
      refine take_dst (some 47) (i := 19) (v := ?vg19) rfl rfl (by kernel_rfl) (by kernel_rfl) (by kernel_rfl) (fun _ _ _ h => h) (Or.inl ⟨by rfl, fun wS hSw => ?hyg19⟩) (by assumption) ?restg19
      case hyg19 => (obtain ⟨s0, s1, s2, s3, s4, s5, s6⟩ := hSw; go_simp; first | done | with_reducible rfl)
      try simp only [Act.put, List.setIfInBounds_toArray, List.set_cons_zero, List.set_cons_succ]
      refine take_dst (some 48) (i := 20) (v := ?vg20) rfl rfl (by kernel_rfl) (by kernel_rfl) (by kernel_rfl) (fun _ _ _ h => h) (Or.inl ⟨by rfl, fun wS hSw => ?hyg20⟩) (by assumption) ?restg20
      case hyg20 => (obtain ⟨s0, s1, s2, s3, s4, s5, s6⟩ := hSw; go_simp; first | done | with_reducible rfl)
      try simp only [Act.put, List.setIfInBounds_toArray, List.set_cons_zero, List.set_cons_succ]
      refine take_dst (some 49) (i := 21) (v := ?vg21) rfl rfl (by kernel_rfl) (by kernel_rfl) (by kernel_rfl) (fun _ _ _ h => h) (Or.inl ⟨by rfl, fun wS hSw => ?hyg21⟩) (by assumption) ?restg21
      case hyg21 => (obtain ⟨s0, s1, s2, s3, s4, s5, s6⟩ := hSw; go_simp; first | done | with_reducible rfl)
      try simp only [Act.put, List.setIfInBounds_toArray, List.set_cons_zero, List.set_cons_succ]
      refine take_dst (some 50) (i := 22) (v := ?vg22) rfl rfl (by kernel_rfl) (by kernel_rfl) (by kernel_rfl) (fun _ _ _ h => h) (Or.inl ⟨by rfl, fun wS hSw => ?hyg22⟩) (by assumption) ?restg22
      case hyg22 => (obtain ⟨s0, s1, s2, s3, s4, s5, s6⟩ := hSw; go_simp; first | done | with_reducible rfl)
      try simp only [Act.put, List.setIfInBounds_toArray, List.set_cons_zero, List.set_cons_succ]
      refine take_dst (some 51) (i := 23) (v := ?vg23) rfl rfl (by kernel_rfl) (by kernel_rfl) (by kernel_rfl) (fun _ _ _ h => h) (Or.inl ⟨by rfl, fun wS hSw => ?hyg23⟩) (by assumption) ?restg23
      case hyg23 => (obtain ⟨s0, s1, s2, s3, s4, s5, s6⟩ := hSw; go_simp; first | done | with_reducible rfl)
      try simp only [Act.put, List.setIfInBounds_toArray, List.set_cons_zero, List.set_cons_succ]
      refine take_dst (some 52) (i := 24) (v := ?vg24) rfl rfl (by kernel_rfl) (by kernel_rfl) (by kernel_rfl) (fun _ _ _ h => h) (Or.inl ⟨by rfl, fun wS hSw => ?hyg24⟩) (by assumption) ?restg24
      case hyg24 => (obtain ⟨s0, s1, s2, s3, s4, s5, s6⟩ := hSw; go_simp; first | done | with_reducible rfl)
      try simp only [Act.put, List.setIfInBounds_toArray, List.set_cons_zero, List.set_cons_succ]
      refine take_dst (some 53) (i := 25) (v := ?vg25) rfl rfl (by kernel_rfl) (by kernel_rfl) (by kernel_rfl) (fun _ _ _ h => h) (Or.inl ⟨by rfl, fun wS hSw => ?hyg25⟩) (by assumption) ?restg25
      case hyg25 => (obtain ⟨s0, s1, s2, s3, s4, s5, s6⟩ := hSw; go_simp; first | done | with_reducible rfl)
      try simp only [Act.put, List.setIfInBounds_toArray, List.set_cons_zero, List.set_cons_succ]
      refine take_dst (some 54) (i := 26) (v := ?vg26) rfl rfl (by kernel_rfl) (by kernel_rfl) (by kernel_rfl) (fun _ _ _ h => h) (Or.inl ⟨by rfl, fun wS hSw => ?hyg26⟩) (by assumption) ?restg26
      case hyg26 => (obtain ⟨s0, s1, s2, s3, s4, s5, s6⟩ := hSw; go_simp; first | done | with_reducible rfl)
      try simp only [Act.put, List.setIfInBounds_toArray, List.set_cons_zero, List.set_cons_succ]
      refine take_dst (some 55) (i := 27) (v := ?vg27) rfl rfl (by kernel_rfl) (by kernel_rfl) (by kernel_rfl) (fun _ _ _ h => h) (Or.inl ⟨by rfl, fun wS hSw => ?hyg27⟩) (by assumption) ?restg27
      case hyg27 => (obtain ⟨s0, s1, s2, s3, s4, s5, s6⟩ := hSw; go_simp; first | done | with_reducible rfl)
      try simp only [Act.put, List.setIfInBounds_toArray, List.set_cons_zero, List.set_cons_succ]
      refine take_dst (some 56) (i := 28) (v := ?vg28) rfl rfl (by kernel_rfl) (by kernel_rfl) (by kernel_rfl) (fun _ _ _ h => h) (Or.inl ⟨by rfl, fun wS hSw => ?hyg28⟩) (by assumption) ?restg28
      case hyg28 => (obtain ⟨s0, s1, s2, s3, s4, s5, s6⟩ := hSw; go_simp; first | done | with_reducible rfl)
      try simp only [Act.put, List.setIfInBounds_toArray, List.set_cons_zero, List.set_cons_succ]
      refine take_dst (some 57) (i := 29) (v := ?vg29) rfl rfl (by kernel_rfl) (by kernel_rfl) (by kernel_rfl) (fun _ _ _ h => h) (Or.inl ⟨by rfl, fun wS hSw => ?hyg29⟩) (by assumption) ?restg29
      case hyg29 => (obtain ⟨s0, s1, s2, s3, s4, s5, s6⟩ := hSw; go_simp; first | done | with_reducible rfl)
      try simp only [Act.put, List.setIfInBounds_toArray, List.set_cons_zero, List.set_cons_succ]
      refine take_dst (some 58) (i := 30) (v := ?vg30) rfl rfl (by kernel_rfl) (by kernel_rfl) (by kernel_rfl) (fun _ _ _ h => h) (Or.inl ⟨by rfl, fun wS hSw => ?hyg30⟩) (by assumption) ?restg30
      case hyg30 => (obtain ⟨s0, s1, s2, s3, s4, s5, s6⟩ := hSw; go_simp; first | done | with_reducible rfl)
      try simp only [Act.put, List.setIfInBounds_toArray, List.set_cons_zero, List.set_cons_succ]
      refine wpAnyH_ready (rs := [31]) (by kernel_rfl) (by simp) ?_
      refine AllReadyH.cons rfl (fun K hK => ?_) AllReadyH.nil
      go_simp
      have HN : Hid (CB (W0.alloc (.cells #[.int .i64 0, .int .i64 0, .int .i64 0, .int .i64 0, .string ⟨#[]⟩, .int .i64 0] 23)) W0.heap.size 23 rpZ.cells) := CB.new W0 _ _
      have H1 := Lib.hid (H0.out.alloc H0.out.size (.cells #[.int .i64 0, .int .i64 0, .int .i64 0, .int .i64 0, .string ⟨#[]⟩, .int .i64 0] 23))
      refine hK.out _ _ ⟨cell_ext H1.out d3, cell_ext H1.out p0, cell_ext H1.out p1, cell_ext H1.out p2, cell_ext H1.out p3, cell_ext H1.out p4, cell_ext H1.out p5⟩ (fun hHeld => ?_)
      clear hK K
      try simp only [Act.put, List.setIfInBounds_toArray, List.set_cons_zero, List.set_cons_succ]
      have HW0 : Hid (w.heap.size < W0.heap.size) := by show _ < _; have := H0.out.size; have := HC2.out.lt; omega
      have HCb : Hid (CB (W0.alloc (.cells #[.int .i64 0, .int .i64 0, .int .i64 0, .int .i64 0, .string ⟨#[]⟩, .int .i64 0] 23)) w.heap.size 23 rpZ.cells) := HC2.out.ext H1.out
      generalize W0.alloc (.cells #[.int .i64 0, .int .i64 0, .int .i64 0, .int .i64 0, .string ⟨#[]⟩, .int .i64 0] 23) = W1 at *
      obtain ⟨n0, n1, n2, n3, n4, n5⟩ := RpAt.of_cb HN.out
      have nf : ∀ o, W1.frozen? ⟨W0.heap.size, o, none⟩ = false := HN.out.frozen
      refine wpAnyH_ready (rs := [32]) (by kernel_rfl) (by simp) ?_
      refine AllReadyH.cons rfl (fun K hK => ?_) AllReadyH.nil
      go_simp
      change K _ (set6 W1 W0.heap.size rr)
      have HN2 := Lib.hid (set6_cb rr HN.out)
      have H2 := Lib.hid (set6_below rr H1.out H0.out.size)
      have HC4 : Hid (CB (set6 W1 W0.heap.size rr) w.heap.size 23 rpZ.cells) := HCb.out.keep (set6_far rr (Nat.ne_of_lt HW0.out))
      refine hK.out _ _ ⟨cell_ext H2.out d3, cell_ext H2.out p0, cell_ext H2.out p1, cell_ext H2.out p2, cell_ext H2.out p3, cell_ext H2.out p4, cell_ext H2.out p5⟩ (fun hHeld => ?_)
      clear hK K n0 n1 n2 n3 n4 n5 nf HN HCb
      generalize set6 W1 W0.heap.size rr = w4 at *
      refine wpAnyH_done (by kernel_rfl) ?_ _
      refine NoPanic.normal ?_
      have HB4 := Lib.hid (below_ext HB2.out H2.out)
      clear hHeld p0 p1 p2 p3 p4 p5 d0 d3 HX2 HV2 HB2 H0 H1 H2 HC2 tk
      obtain ⟨n0, n1, n2, n3, n4, n5⟩ := RpAt.of_cb HN2.out
      obtain ⟨rb, hrb⟩ : ∃ c, repB 4 3 rr = c := ⟨_, rfl⟩
      have Hrb := Lib.hid hrb; clear hrb
      go_wp2_with fail
      refine (rencode22_any rr _ hcl).mono ?_
      rintro e w6 ⟨v6, rfl, hv6, hb6⟩
      unfold encR at hv6
      rw [Hrb.out] at hv6 ⊢
      have HC6 := Lib.hid (HC4.out.ext hb6)
      have HN6 := Lib.hid (HN2.out.ext hb6)
      have HB6 := Lib.hid (below_ext HB4.out hb6)
      clear hb6 n0 n1 n2 n3 n4 n5 HC4 HN2 HB4
      obtain ⟨c0, c1, c2, c3, c4, c5⟩ := RpAt.of_cb HC6.out
      obtain ⟨n0, n1, n2, n3, n4, n5⟩ := RpAt.of_cb HN6.out
      have yf : ∀ o, w6.frozen? ⟨w.heap.size, o, none⟩ = false := HC6.out.frozen
      obtain ⟨oa6, cap6, rfl⟩ := hv6.form
      cases rb
      case false =>
        have hN := Lib.hid (decR_bad HO.out (by rw [hrx.out, Hrb.out]; simp))
        go_wp2_with fail
        change bodyPost _ _ _ _ _ (set6 w6 w.heap.size rpZ)
        have HC9 := Lib.hid (set6_cb rpZ HC6.out)
        have HB9 := Lib.hid (set6_below rpZ HB6.out (Nat.le_refl _))
        clear c0 c1 c2 c3 c4 c5 yf
        generalize set6 w6 w.heap.size rpZ = w9 at *
        obtain ⟨y0, y1, y2, y3, y4, y5⟩ := RpAt.of_cb HC9.out
        refine bodyPost_ret (v := .tuple #[.agg #[.int .i64 rpZ.st, .int .i64 rpZ.no, .int .i64 rpZ.mi, .int .i64 rpZ.ar, .string rpZ.cl, .int .i64 rpZ.vo], .int .i64 220]) (by simp [results, Try.results20, go_sem, y0, y1, y2, y3, y4, y5]) rfl ?_
        exact decRP_none hN.out HB9.out
      case true =>
        have k1 := conv_B hv6
        have k2 := conv_bts (HW.out.ext HB6.out)
        have kb := bytes_beq (enc (repV rr)) l
        obtain ⟨t, ht⟩ : ∃ t, decide (enc (repV rr) = l) = t := ⟨_, rfl⟩
        have hq : Hid ((isRp x && repB 4 3 (rpOf x)) = t) := by show _ = _; rw [hrx.out, ← hag.out, Hrb.out, ht]; rfl
        rw [ht] at kb
        clear ht hv6
        simp only [if_true] at k1 ⊢
        obtain ⟨S1, hS1⟩ : ∃ S1 : ByteArray, (⟨(enc (repV rr)).toArray⟩ : ByteArray) = S1 := ⟨_, rfl⟩
        obtain ⟨S2, hS2⟩ : ∃ S2 : ByteArray, (⟨l.toArray⟩ : ByteArray) = S2 := ⟨_, rfl⟩
        rw [hS1] at k1 kb
        rw [hS2] at k2 kb
        clear hS1 hS2
        cases t
        case false =>
          have kb2 : (!S1.toList == S2.toList) = true := by rw [kb]; rfl
          have hN := Lib.hid (decR_bad HO.out hq.out)
          go_wp2_with fail
          change bodyPost _ _ _ _ _ (set6 w6 w.heap.size rpZ)
          have HC9 := Lib.hid (set6_cb rpZ HC6.out)
          have HB9 := Lib.hid (set6_below rpZ HB6.out (Nat.le_refl _))
          clear c0 c1 c2 c3 c4 c5 yf
          generalize set6 w6 w.heap.size rpZ = w9 at *
          obtain ⟨y0, y1, y2, y3, y4, y5⟩ := RpAt.of_cb HC9.out
          refine bodyPost_ret (v := .tuple #[.agg #[.int .i64 rpZ.st, .int .i64 rpZ.no, .int .i64 rpZ.mi, .int .i64 rpZ.ar, .string rpZ.cl, .int .i64 rpZ.vo], .int .i64 220]) (by simp [results, Try.results20, go_sem, y0, y1, y2, y3, y4, y5]) rfl ?_
          exact decRP_none hN.out HB9.out
        case true =>
          have kb2 : (!S1.toList == S2.toList) = false := by rw [kb]; rfl
          have hN := Lib.hid (decR_ok HO.out hq.out)
          rw [hrx.out] at hN
          go_wp2_with fail
          change bodyPost _ _ _ _ _ (set6 w6 w.heap.size rr)
          have HC9 := Lib.hid (set6_cb rr HC6.out)
          have HB9 := Lib.hid (set6_below rr HB6.out (Nat.le_refl _))
          clear c0 c1 c2 c3 c4 c5 yf
          generalize set6 w6 w.heap.size rr = w9 at *
          obtain ⟨y0, y1, y2, y3, y4, y5⟩ := RpAt.of_cb HC9.out
          refine bodyPost_ret (v := .tuple #[.agg #[.int .i64 rr.st, .int .i64 rr.no, .int .i64 rr.mi, .int .i64 rr.ar, .string rr.cl, .int .i64 rr.vo], .int .i64 0]) (by simp [results, Try.results20, go_sem, y0, y1, y2, y3, y4, y5]) rfl ?_
          exact decRP_some hN.out HB9.out
end Go.Proofs.Ytgdbmoggpfpkkaa
/- the reference: Same of two lists of reports. -/
namespace Go.Proofs.Ytgdbmoggpfpkkaa
open Go.RowKit
def sameB : List Rp → List Rp → Bool
  | [], [] => true
  | a :: r, b :: t => rpEq a b && sameB r t
  | _, _ => false
theorem sameB_len : ∀ {a b : List Rp}, sameB a b = true → a.length = b.length
  | [], [], _ => rfl
  | _ :: r, _ :: t, h => by simp only [sameB, Bool.and_eq_true] at h; simp [sameB_len h.2]
  | [], _ :: _, h => by simp [sameB] at h
  | _ :: _, [], h => by simp [sameB] at h
theorem sameB_iff : ∀ (a b : List Rp), sameB a b = true ↔ a = b
  | [], [] => by simp [sameB]
  | x :: r, y :: t => by simp only [sameB, Bool.and_eq_true, rpEq_iff, sameB_iff r t, List.cons.injEq]
  | [], _ :: _ => by simp [sameB]
  | _ :: _, [] => by simp [sameB]
def SmRel (a b : List Rp) (w : World) (i : Value) (wr : World) : Prop := ∃ k n : Nat, k ≤ a.length ∧ i = .int .i64 k ∧ sameB a b = sameB (a.drop k) (b.drop k) ∧ wr = w.drewN n
set_option maxRecDepth 100000 in
set_option maxHeartbeats 2000000 in
theorem rsame22_any (a b : List Rp) (u v : Value) (w : World) (ha : RpsAt w.heap.size w a u) (hb : RpsAt w.heap.size w b v) :
    Calls Try.prog 23 #[u, v] w fun e w' => e = .returned (.bool (sameB a b)) ∧ Below w.heap.size w w' := by
  obtain ⟨oa, ca, rfl, hla⟩ := ha.shape
  obtain ⟨ob, cb, rfl, hlb⟩ := hb.shape
  have HA := Lib.hid ha; have HB := Lib.hid hb
  have bla : (a.length : Int) ≤ 9223372036854775807 := by omega
  have blb : (b.length : Int) ≤ 9223372036854775807 := by omega
  clear ha hb hla hlb
  by_cases hlen : a.length = b.length
  case neg =>
    have hne : (((a.length : Nat) : Int) != ((b.length : Nat) : Int)) = true := by rw [bne_iff_ne]; omega
    have hs : Hid (sameB a b = false) := by
      show _ = _
      cases h : sameB a b
      · rfl
      · exact absurd (sameB_len h) hlen
    clear hlen
    go_enter Try.func23, Try.ntmps23
    go_wp2
    go_ret
    exact ⟨by rw [hs.out]; rfl, Below.refl _ _⟩
  case pos =>
    have hne : (((a.length : Nat) : Int) != ((b.length : Nat) : Int)) = false := by rw [bne_eq_false_iff_eq]; omega
    have Hlen := Lib.hid hlen
    clear hlen
    go_enter Try.func23, Try.ntmps23
    go_wp2_with fail
    clear hne
    go_loopw [5] (fun i wr => SmRel a b w i wr) (fun i _ => a.length - (intOf i).toNat)
    case atStart => exact ⟨0, 0, by omega, rfl, rfl, rfl⟩
    case round =>
      obtain ⟨k, n, hk, rfl, hi, rfl⟩ := hrel
      have HI := Lib.hid hi
      clear hi
      by_cases hlt : k < a.length
      · have tj : decide ((k : Int) < (a.length : Int)) = true := by simp; omega
        have tj' : decide (k < a.length) = true := by simp; omega
        have hltb : k < b.length := by rw [← Hlen.out]; exact hlt
        have kb : (k : Int) < (b.length : Int) := by omega
        have ka : (k : Int) < (a.length : Int) := by omega
        obtain ⟨x, hx⟩ : ∃ r, a[k]? = some r := ⟨_, List.getElem?_eq_getElem hlt⟩
        obtain ⟨y, hy⟩ : ∃ r, b[k]? = some r := ⟨_, List.getElem?_eq_getElem hltb⟩
        obtain ⟨g, o1, rfl, h1⟩ := HA.out.at hlt
        obtain ⟨q, o2, rfl, h2⟩ := HB.out.at hltb
        obtain ⟨c0, c1, c2, c3, c4, c5⟩ := (h1 k x hx).keep (w' := w.drewN n) rfl
        obtain ⟨d0, d1, d2, d3, d4, d5⟩ := (h2 k y hy).keep (w' := w.drewN n) rfl
        obtain ⟨t, ht⟩ : ∃ t, rpEq x y = t := ⟨_, rfl⟩
        have hst : Hid (sameB a b = (t && sameB (a.drop (k + 1)) (b.drop (k + 1)))) := by
          show _ = _
          rw [HI.out, drop_rp hx, drop_rp hy, sameB, ht]
        have heq : ∀ w : World, (Op.equalIn 10000 23 (.agg #[.int .i64 x.st, .int .i64 x.no, .int .i64 x.mi, .int .i64 x.ar, .string x.cl, .int .i64 x.vo]) (.agg #[.int .i64 y.st, .int .i64 y.no, .int .i64 y.mi, .int .i64 y.ar, .string y.cl, .int .i64 y.vo])).run Try.prog w = .ok t w := fun w => by rw [← ht]; exact eq_rp x y w
        clear hx hy h1 h2 ht hltb
        generalize hwn : w.drewN n = w5 at *
        have Hwn := Lib.hid hwn
        clear hwn
        cases t
        · go_wp2_with fail
          go_quiet (fail)
          go_wp2
          go_ret
          exact ⟨by rw [hst.out]; rfl, by rw [← Hwn.out]; exact below_drewN'' (below_drewN'' (Below.refl _ _) _) _⟩
        · go_wp2_with fail
          go_quiet (fail)
          go_wp2
          go_roundw
          case rel => exact ⟨k + 1, n + nq, by omega, by go_num, by rw [hst.out]; simp, by rw [← Hwn.out, World.drewN_drewN]⟩
          case measure => simp [intOf]; omega
      · obtain rfl : k = a.length := by omega
        have tj : decide ((a.length : Int) < (a.length : Int)) = false := by simp
        have hend : Hid (sameB a b = true) := by
          show _ = _
          rw [HI.out, List.drop_of_length_le (Nat.le_refl _), List.drop_of_length_le (by rw [Hlen.out]; exact Nat.le_refl _)]; rfl
        go_wp2_with fail
        go_ret
        exact ⟨by rw [hend.out]; rfl, below_drewN'' (Below.refl _ _) _⟩
end Go.Proofs.Ytgdbmoggpfpkkaa
