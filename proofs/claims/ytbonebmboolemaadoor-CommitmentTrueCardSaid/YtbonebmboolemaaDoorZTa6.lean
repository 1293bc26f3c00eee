/- CommitmentTrue, walked (printed by gen36t2.py). -/
import Derived.Test.YtbonebmboolemaaDoorK40
import Derived.Test.YtbonebmboolemaaDoorZTwz
import Derived.Test.YtbonebmboolemaaDoorZTlk
namespace Go.Proofs.YtbonebmboolemaaDoor
open Go.RowKit
theorem pre_I {air tables slots : Int} {o : Opn} (h : preV air tables slots o = true) : OpI o := by
  obtain ⟨p1, p2, p3, p4, p5, p6, p7, p8, p9⟩ := pre_parts h
  unfold knownB at p6; unfold costB at p9
  simp only [Bool.and_eq_true, decide_eq_true_eq] at p6 p9
  exact ⟨by unfold I64; omega, by unfold I64; omega, by unfold I64; omega, by unfold I64; omega⟩
theorem ways_tags {o p : Opn} {a tables slots part : Nat} (hs : o.slot = p.slot) (hl : o.path.length = p.path.length) : (wayS o a tables slots part).map (·.1) = (wayS p a tables slots part).map (·.1) := by
  have e1 : (o.path.take part).length = (p.path.take part).length := by rw [List.length_take, List.length_take, hl]
  have e2 : (o.path.drop part).length = (p.path.drop part).length := by rw [List.length_drop, List.length_drop, hl]
  unfold wayS
  simp only [List.map_cons, List.map_append]
  rw [hs, stW_par _ (ownD o) (ownD p) slots p.slot.toNat _ _ e1 rfl, stW_par _ _ (topW (ownD p) slots p.slot.toNat (p.path.take part)) tables a _ _ e2 rfl]
theorem stW_small (m : Nat) : ∀ (d : Dg) (n a : Nat) (p : List Dg), p.length ≤ m → SmallS (stW d n a p) := by
  induction m with
  | zero =>
    intro d n a p h s hs
    rw [stW_end (.inr (List.eq_nil_of_length_eq_zero (by omega))), List.mem_singleton] at hs
    subst hs
    exact ⟨by show 4 ≤ 1000; omega, by show d.1.length ≤ 10000; rw [d.2]; omega⟩
  | succ m ih =>
    intro d n a p h s hs
    by_cases h0 : n ≤ 1 ∨ p = []
    · rw [stW_end h0, List.mem_singleton] at hs
      subst hs
      exact ⟨by show 4 ≤ 1000; omega, by show d.1.length ≤ 10000; rw [d.2]; omega⟩
    · simp only [not_or] at h0
      obtain ⟨q, z, rfl⟩ : ∃ q z, p = q ++ [z] := ⟨_, _, (List.dropLast_concat_getLast h0.2).symm⟩
      rw [List.length_append, List.length_singleton] at h
      have key : ∀ x y : Dg, 4 ≤ 1000 ∧ (x.1 ++ y.1).length ≤ 10000 := fun x y => ⟨by omega, by rw [List.length_append, x.2, y.2]; omega⟩
      by_cases ha : a < halfN n
      · rw [stW_lt (by omega) ha, List.mem_append, List.mem_singleton] at hs
        rcases hs with hs | rfl
        · exact ih d (halfN n) a q (by omega) s hs
        · exact key _ _
      · rw [stW_ge (by omega) ha, List.mem_append, List.mem_singleton] at hs
        rcases hs with hs | rfl
        · exact ih d (n - halfN n) (a - halfN n) q (by omega) s hs
        · exact key _ _
theorem way_small (o : Opn) (a T S n : Nat) : SmallS (wayS o a T S n) := by
  intro s hs
  unfold wayS at hs
  rw [List.mem_cons, List.mem_append] at hs
  rcases hs with rfl | hs | hs
  · refine ⟨by show 4 ≤ 1000; omega, ?_⟩
    show (hashedX o).length ≤ 10000
    unfold hashedX
    have := enc_most [o.air, o.fl, o.slot, o.cost] (by simp)
    rw [List.length_append, o.salt.2]; show 32 + (enc (lsI [o.air, o.fl, o.slot, o.cost])).length ≤ 10000; omega
  · exact stW_small _ _ _ _ _ (Nat.le_refl _) s hs
  · exact stW_small _ _ _ _ _ (Nat.le_refl _) s hs
theorem way_len (o : Opn) (a T S n : Nat) (h : o.path.length ≤ 64) : (wayS o a T S n).length ≤ 1000 := by
  unfold wayS
  have h1 := stW_most (ownD o) o.path.length S o.slot.toNat (o.path.take n) (by rw [List.length_take]; omega)
  have h2 := stW_most (topW (ownD o) S o.slot.toNat (o.path.take n)) o.path.length T a (o.path.drop n) (by rw [List.length_drop]; omega)
  rw [List.length_cons, List.length_append]; omega
/-- numbers of an opening that Open gives -/
theorem open_I {l : List Tab} {a s : Int} : OpI (openO l a s) := by
  by_cases h : openB l a s = true
  · obtain ⟨i, k, t, c, rfl, rfl, ht, hc, hv, -⟩ := open_parts h
    exact pre_I (air := t.air) (tables := l.length) (slots := t.costs.length) (by have := open_ver hv ht hc; unfold verB at this; rw [Bool.and_eq_true] at this; exact this.1)
  · rw [(open_no h).1]; exact ⟨by unfold I64; decide, by unfold I64; decide, by unfold I64; decide, by unfold I64; decide⟩
structure TuRel (l : List Tab) (p : Opn) (r : Ob) (d : Dg) (w : World) (gd : Nat) (vi : Value) (wr : World) : Prop where
  h : ∃ i : Nat, vi = .int .i64 (i : Int) ∧ i ≤ l.length ∧ (∀ j t, j < i → l[j]? = some t → ¬ (t.fl = p.fl ∧ t.costs.getD p.slot.toNat 0 = p.cost)) ∧ CB wr gd 29 (bcells d.1) ∧ CB wr w.heap.size 36 r.cells ∧ Below w.heap.size w wr
structure TvRel (pl : List Nat) (r : Ob) (w0 w : World) (vi : Value) (wr : World) : Prop where
  h : ∃ i : Nat, vi = .int .i64 (i : Int) ∧ i ≤ pl.length ∧ CB wr w.heap.size 36 r.cells ∧ Below w0.heap.size w0 wr
set_option maxRecDepth 100000 in
set_option maxHeartbeats 16000000 in
theorem true36_walk (l : List Tab) (v : Value) (p : Opn) (r : Ob) (w : World) (hl : TabsAt w l v) (hr : OpR w p r) (hLd : Laid w) :
    Calls Tryd.prog 6 #[v, r.v] w (TruePost w) := by
  have HB0 := Lib.hid (b_al (w := w) (bO r))
  have HL := Lib.hid hl; have HLd := Lib.hid hLd; have HR := Lib.hid hr
  have HO0 : Hid (CB (w.alloc (bO r)) w.heap.size 36 r.cells) := cb_one w (bO r) _ _ rfl
  obtain ⟨po, pn, pc, hpv⟩ : ∃ a b c, r.pv = .slice a b c := ⟨_, _, _, rfl⟩
  have hpn : pn = p.path.length := by
    obtain ⟨_, _, he, _⟩ := hr.path.shape
    rw [hpv] at he
    injection he with _ e2 _
  have HPV := Lib.hid hpv; have HPN := Lib.hid hpn
  obtain ⟨oa, cap, rfl, hlc, hlm⟩ := hl.shape
  clear hl hr hLd hlm hlc hpv hpn
  change Calls Tryd.prog 6 #[_, .agg r.cells.toArray] w _
  go_enter Tryd.func6, Tryd.ntmps6
  go_upto_region 1 with fail
  change Code.wp _ _ _ _ (w.alloc (bO r))
  generalize w.alloc (bO r) = w0 at *
  go_upto_region 3 with (go_at_call 9; refine (sane36_any w0 (HLd.out.ext HB0.out)).mono ?_; rintro e w1 ⟨rfl, hb1⟩)
  have HB1 := Lib.hid (below_ext HB0.out hb1); have HO1 := Lib.hid (HO0.out.ext hb1)
  clear hb1 HB0 HO0
  have HF := Lib.hid (few_any l _ w1 (HL.out.ext HB1.out))
  have c5 := (ob_cell HO1.out).2.2.2.2.2
  rw [HPV.out] at c5
  by_cases hf : fewT l = true
  case neg =>
    have hf' : fewT l = false := by simpa using hf
    rw [hf'] at HF
    clear hf hf'
    go_wp2_with (go_at_call 10; refine HF.out.mono ?_; rintro e w2 ⟨rfl, rfl⟩)
    go_ret
    exact ⟨rfl, HB1.out⟩
  case pos =>
  rw [hf] at HF
  clear hf
  by_cases hp : 20 < pn
  case pos =>
    have t1 : decide ((20 : Int) < (pn : Int)) = true := decide_eq_true (by omega)
    have t1' : decide (20 < pn) = true := decide_eq_true hp
    go_wp2_with (go_at_call 10; refine HF.out.mono ?_; rintro e w2 ⟨rfl, rfl⟩)
    go_ret
    exact ⟨rfl, HB1.out⟩
  case neg =>
  have t1 : decide ((20 : Int) < (pn : Int)) = false := decide_eq_false (by omega)
  have t1' : decide (20 < pn) = false := decide_eq_false hp
  have Hpl : Hid (p.path.length ≤ 64) := by show _ ≤ _; rw [← HPN.out]; omega
  clear hp
  go_upto_region 5 with (go_at_call 10; refine HF.out.mono ?_; rintro e w2 ⟨rfl, rfl⟩)
  clear c5 t1 t1' HF
  have HC1 := Lib.hid (commit_any l _ w1 (HL.out.ext HB1.out) (HLd.out.ext HB1.out))
  obtain ⟨d, hd⟩ : ∃ d, commitD l = d := ⟨_, rfl⟩
  rw [hd] at HC1
  have HD := Lib.hid hd
  have Hdl := Lib.hid d.2
  clear hd
  by_cases hv : validT l = true
  case neg =>
    have hce : commitE l = 360 := by unfold commitE; rw [if_neg hv]
    rw [hce] at HC1
    clear hv hce
    go_wp2_with (first
      | (go_at_call 13; refine HC1.out.mono ?_; go_loud (
          rintro e w2 ⟨rfl, hb2⟩
          have HB2 := Lib.hid (below_ext HB1.out hb2)
          have HZ : Hid ((w2.alloc ZD).heap[w2.heap.size]? = some (.cells (bcells dgZ.1).toArray 29 (0, 0))) := cb_one w2 ZD _ _ rfl
          clear hb2 HC1))
      | (have _g := HZ.out; refine wpList_store_d (hgd := rfl) 29 (.tmp 5) (.tmp 31) rfl w2.heap.size d.1 Hdl.out rfl rfl 29 _ HZ.out rfl dig_sz ?_; go_loud (
          intro w3 hc3 hg3 hz3
          have hb3 : Below w2.heap.size w2 w3 := (b_al (w := w2) ZD).grown hg3.out (by rw [World.size_alloc]; omega) (fun k hk => by injection hk; omega)
          have HB3 := Lib.hid (below_ext HB2.out hb3)
          clear hb3 hg3 hz3 hc3 HB2 HZ)))
    go_ret
    exact ⟨rfl, HB3.out⟩
  case pos =>
  have hce : commitE l = 0 := by unfold commitE; rw [if_pos hv]
  rw [hce] at HC1
  have HV := Lib.hid hv
  have hl1 := valid_len hv
  obtain ⟨tz, htz⟩ : ∃ t, l[0]? = some t := ⟨_, List.getElem?_eq_getElem (by omega)⟩
  obtain ⟨b, off, rz, rfl, hbz, helz, hrz⟩ := HL.out.el htz
  rw [Nat.zero_mul, Nat.add_zero] at helz
  obtain ⟨zc1, -, zc3⟩ := el_tb helz
  obtain ⟨zo, zm, zc, hzv⟩ : ∃ a b c, rz.cv = .slice a b c := ⟨_, _, _, rfl⟩
  have hzm : zm = tz.costs.length := by
    obtain ⟨_, _, he, _⟩ := hrz.cs.shape
    rw [hzv] at he
    injection he with _ e2 _
  subst hzm
  rw [hrz.air] at zc1
  rw [hzv] at zc3
  have hok := (valid_at hv htz).1
  unfold okT knownB at hok
  simp only [Bool.and_eq_true, decide_eq_true_eq] at hok
  obtain ⟨⟨⟨-, k5⟩, k6⟩, -⟩ := hok
  have Hd0 : Hid (l.getD 0 default = tz) := by show _ = _; exact gd htz
  obtain ⟨ta, hta⟩ : ∃ x, tz.air = x := ⟨_, rfl⟩
  obtain ⟨S, hS⟩ : ∃ x, tz.costs.length = x := ⟨_, rfl⟩
  have Hta := Lib.hid hta; have HSS := Lib.hid hS
  rw [hta] at zc1
  rw [hS] at zc3 k5 k6
  have Z1 := Lib.hid zc1; have Z3 := Lib.hid zc3
  have b0 : (0 : Int) < (l.length : Int) := by omega
  have b0' : 0 < l.length := by omega
  have bT : (l.length : Int) ≤ 8 := by omega
  have bS : (S : Int) ≤ 8 := by omega
  have HT8 : Hid (1 ≤ l.length ∧ l.length ≤ 8) := ⟨by omega, by omega⟩
  have HS8 : Hid (1 ≤ S ∧ S ≤ 8) := ⟨k5, k6⟩
  clear hce hl1 hv htz hbz helz hrz zc1 zc3 hzv hta hS k5 k6
  go_upto_region 8 with (first
    | (go_at_call 13; refine HC1.out.mono ?_; go_loud (
        rintro e w2 ⟨rfl, hb2⟩
        have HB2 := Lib.hid (below_ext HB1.out hb2); have HO2 := Lib.hid (HO1.out.ext hb2)
        have HZ : Hid ((w2.alloc ZD).heap[w2.heap.size]? = some (.cells (bcells dgZ.1).toArray 29 (0, 0))) := cb_one w2 ZD _ _ rfl
        clear hb2 HC1 HB1 HO1))
    | (have _g := HZ.out; refine wpList_store_d (hgd := rfl) 29 (.tmp 5) (.tmp 31) rfl w2.heap.size d.1 Hdl.out rfl rfl 29 _ HZ.out rfl dig_sz ?_; go_loud (
        intro w3 hc3 hg3 hz3
        have hb3 : Below w2.heap.size w2 w3 := (b_al (w := w2) ZD).grown hg3.out (by rw [World.size_alloc]; omega) (fun k hk => by injection hk; omega)
        have HB3 := Lib.hid (below_ext HB2.out hb3); have HO3 := Lib.hid (HO2.out.ext hb3)
        clear hb3 hg3 hz3 HB2 HO2 HZ)))
  generalize w2.heap.size = gd at *
  have z3 := cell_ext HB3.out Z3.out
  go_quiet (fail)
  have K5 : Hid (Below w.heap.size w (w3.drewN nq)) := below_drewN2 HB3.out nq
  have KD5 : Hid (CB (w3.drewN nq) gd 29 (bcells d.1)) := hc3.out
  have KO5 : Hid (CB (w3.drewN nq) w.heap.size 36 r.cells) := HO3.out
  clear z3 HB3 hc3 HO3 Z3
  generalize w3.drewN nq = w5 at *
  -- Verify
  have HVr := Lib.hid (fun W hW => verify_any d ta (l.length : Int) (S : Int) p r W (HR.out.ext hW) Hpl.out (HLd.out.ext hW))
  have HZ1 := Lib.hid (fun W (hW : Below w.heap.size w W) => cell_ext hW Z1.out)
  clear Z1
  go_upto_region 9 with fail
  have J := Lib.hid K5.out.drew
  have JD := Lib.hid (KD5.out.ext (Below.refl w5.heap.size w5).drew); have JO := Lib.hid (KO5.out.ext (Below.refl w5.heap.size w5).drew)
  refine wp_region_held_drew (S := fun w' => w'.rangeAt gd 0 (bcells d.1) ∧ w'.rangeAt w.heap.size 0 r.cells ∧ w'.cell? ⟨b, off, none⟩ = some (.int .i64 ta)) (by kernel_rfl) ⟨cb_rng JD.out, cb_rng JO.out, HZ1.out _ J.out⟩ (fun hHeld => ?_)
  clear K5 KD5 KO5
  generalize w5.drew = w6 at *
  refine take_dst (some 42) (i := 0) (v := dv d.1) rfl rfl (by kernel_rfl) (by kernel_rfl) (by kernel_rfl) (fun _ _ _ h => h) (yieldsIf_load_mid (by rfl) 29 _ rfl gd 0 rfl (bcells d.1) _ (fun wS hSw => by obtain ⟨s1, s2, s3⟩ := hSw; exact s1) Tryd.underlying29 rfl (by rw [bcells_length, Hdl.out]; exact dig_sz)) (by assumption) ?restV0
  try simp only [Act.put, List.setIfInBounds_toArray, List.set_cons_zero, List.set_cons_succ]
  refine take_dst (some 43) (i := 1) (v := ?vV1) rfl rfl (by kernel_rfl) (by kernel_rfl) (by kernel_rfl) (fun _ _ _ h => h) (Or.inl ⟨by rfl, fun wS hSw => ?hyV1⟩) (by assumption) ?restV1
  case hyV1 => (obtain ⟨s1, s2, s3⟩ := hSw; go_simp; first | done | with_reducible rfl)
  try simp only [Act.put, List.setIfInBounds_toArray, List.set_cons_zero, List.set_cons_succ]
  refine take_dst (some 44) (i := 2) (v := ?vV2) rfl rfl (by kernel_rfl) (by kernel_rfl) (by kernel_rfl) (fun _ _ _ h => h) (Or.inl ⟨by rfl, fun wS hSw => ?hyV2⟩) (by assumption) ?restV2
  case hyV2 => (obtain ⟨s1, s2, s3⟩ := hSw; go_simp; first | done | with_reducible rfl)
  try simp only [Act.put, List.setIfInBounds_toArray, List.set_cons_zero, List.set_cons_succ]
  refine take_dst (some 45) (i := 3) (v := ?vV3) rfl rfl (by kernel_rfl) (by kernel_rfl) (by kernel_rfl) (fun _ _ _ h => h) (Or.inl ⟨by rfl, fun wS hSw => ?hyV3⟩) (by assumption) ?restV3
  case hyV3 => (obtain ⟨s1, s2, s3⟩ := hSw; go_simp; first | done | with_reducible rfl)
  try simp only [Act.put, List.setIfInBounds_toArray, List.set_cons_zero, List.set_cons_succ]
  refine take_dst (some 46) (i := 4) (v := ?vV4) rfl rfl (by kernel_rfl) (by kernel_rfl) (by kernel_rfl) (fun _ _ _ h => h) (Or.inl ⟨by rfl, fun wS hSw => ?hyV4⟩) (by assumption) ?restV4
  case hyV4 => (obtain ⟨s1, s2, s3⟩ := hSw; go_simp; first | done | with_reducible rfl)
  try simp only [Act.put, List.setIfInBounds_toArray, List.set_cons_zero, List.set_cons_succ]
  refine take_dst (some 47) (i := 5) (v := ?vV5) rfl rfl (by kernel_rfl) (by kernel_rfl) (by kernel_rfl) (fun _ _ _ h => h) (Or.inl ⟨by rfl, fun wS hSw => ?hyV5⟩) (by assumption) ?restV5
  case hyV5 => (obtain ⟨s1, s2, s3⟩ := hSw; go_simp; first | done | with_reducible rfl)
  try simp only [Act.put, List.setIfInBounds_toArray, List.set_cons_zero, List.set_cons_succ]
  refine take_dst (some 48) (i := 6) (v := ?vV6) rfl rfl (by kernel_rfl) (by kernel_rfl) (by kernel_rfl) (fun _ _ _ h => h) (Or.inl ⟨by rfl, fun wS hSw => ?hyV6⟩) (by assumption) ?restV6
  case hyV6 => (obtain ⟨s1, s2, s3⟩ := hSw; go_simp; first | done | with_reducible rfl)
  try simp only [Act.put, List.setIfInBounds_toArray, List.set_cons_zero, List.set_cons_succ]
  refine take_dst (some 49) (i := 7) (v := r.v) rfl rfl (by kernel_rfl) (by kernel_rfl) (by kernel_rfl) (fun _ _ _ h => h) (yieldsIf_load_mid (by rfl) 36 _ rfl w.heap.size 0 rfl r.cells _ (fun wS hSw => by obtain ⟨s1, s2, s3⟩ := hSw; exact s2) Tryd.underlying36 rfl (by rw [ob_len]; exact ob_sz)) (by assumption) ?restV7
  try simp only [Act.put, List.setIfInBounds_toArray, List.set_cons_zero, List.set_cons_succ]
  refine wpAnyH_ready (rs := [8]) (by kernel_rfl) (by simp) ?_
  refine AllReadyH.cons rfl (fun K hK => ?_) AllReadyH.nil
  have hcall := Lib.hid (HVr.out w6 J.out)
  unfold VerPost at hcall
  go_simp
  refine hcall.out.mono ?_
  rintro e w7 ⟨rfl, hb7⟩
  have J7 := Lib.hid (below_ext J.out hb7); have JD7 := Lib.hid (JD.out.ext hb7); have JO7 := Lib.hid (JO.out.ext hb7)
  clear hb7 hcall J JD JO
  refine hK.out _ _ ⟨cb_rng JD7.out, cb_rng JO7.out, HZ1.out _ J7.out⟩ (fun hHeld => ?_)
  clear hK K
  try simp only [Act.put, List.setIfInBounds_toArray, List.set_cons_zero, List.set_cons_succ]
  by_cases hver : verB d ta (l.length : Int) (S : Int) p = true
  case neg =>
    have hve : verE d ta (l.length : Int) (S : Int) p = 360 := by unfold verE; rw [if_neg hver]
    rw [hve]
    clear hver hve
    refine take_dst (some 51) (i := 9) (v := ?vVA9) rfl rfl (by kernel_rfl) (by kernel_rfl) (by kernel_rfl) (fun _ _ _ h => h) (Or.inl ⟨by rfl, fun wS hSw => ?hyVA9⟩) (by assumption) ?restVA9
    case hyVA9 => (obtain ⟨s1, s2, s3⟩ := hSw; go_simp; first | done | with_reducible rfl)
    try simp only [Act.put, List.setIfInBounds_toArray, List.set_cons_zero, List.set_cons_succ]
    refine wpAnyH_done (by kernel_rfl) ?_ _
    go_wp2_with fail
    go_ret
    exact ⟨rfl, J7.out⟩
  case pos =>
  have hve : verE d ta (l.length : Int) (S : Int) p = 0 := by unfold verE; rw [if_pos hver]
  rw [hve]
  have HVer := Lib.hid hver
  clear hver hve HVr
  refine take_dst (some 51) (i := 9) (v := ?vVB9) rfl rfl (by kernel_rfl) (by kernel_rfl) (by kernel_rfl) (fun _ _ _ h => h) (Or.inl ⟨by rfl, fun wS hSw => ?hyVB9⟩) (by assumption) ?restVB9
  case hyVB9 => (obtain ⟨s1, s2, s3⟩ := hSw; go_simp; first | done | with_reducible rfl)
  try simp only [Act.put, List.setIfInBounds_toArray, List.set_cons_zero, List.set_cons_succ]
  refine wpAnyH_done (by kernel_rfl) ?_ _
  have hpre : preV ta (l.length : Int) (S : Int) p = true := by have := HVer.out; unfold verB at this; rw [Bool.and_eq_true] at this; exact this.1
  have hI := pre_I hpre
  obtain ⟨k, hk, hkS⟩ : ∃ k : Nat, p.slot = (k : Int) ∧ k < S := by
    obtain ⟨-, -, -, -, -, -, p7, p8, -⟩ := pre_parts hpre
    exact ⟨p.slot.toNat, by omega, by omega⟩
  have HPre := Lib.hid hpre; have HI := Lib.hid hI; have Hk := Lib.hid hk; have HkS := Lib.hid hkS
  have HRc : Hid (∀ (W : World), CB W w.heap.size 36 r.cells → W.cell? ⟨w.heap.size, 1, none⟩ = some (.int .i64 p.fl) ∧ W.cell? ⟨w.heap.size, 2, none⟩ = some (.int .i64 (k : Int)) ∧ W.cell? ⟨w.heap.size, 3, none⟩ = some (.int .i64 p.cost) ∧ W.cell? ⟨w.heap.size, 36, none⟩ = some (.slice po pn pc)) := fun W h => by
    obtain ⟨-, h1, h2, h3, -, h5⟩ := ob_cell h
    rw [HR.out.fl] at h1; rw [HR.out.slot, Hk.out] at h2; rw [HR.out.cost] at h3; rw [HPV.out] at h5
    exact ⟨h1, h2, h3, h5⟩
  clear hpre hI hk hkS HZ1
  generalize w7 = w8 at *
  go_wp2_with fail
  go_loopw [54] (fun vi wr => TuRel l p r d w gd vi wr) (fun vi _ => l.length - natOf vi)
  case atStart => exact ⟨⟨0, rfl, by omega, fun j t h _ => by omega, JD7.out, JO7.out, J7.out⟩⟩
  case round =>
    obtain ⟨i, rfl, hi, hno, hc, ho, hb⟩ := hrel.h
    have HNO := Lib.hid hno; have HDr := Lib.hid hc; have HOr := Lib.hid ho; have HBr := Lib.hid hb
    clear hrel hno hc ho hb JD7 JO7 J7
    by_cases hlt : i < l.length
    case pos =>
      have tj : decide ((i : Int) < (l.length : Int)) = true := by simp; omega
      have tj' : decide (i < l.length) = true := by simp; omega
      have kb : (i : Int) < (l.length : Int) := by omega
      have Hil := Lib.hid hlt
      obtain ⟨t, ht⟩ : ∃ t, l[i]? = some t := ⟨_, List.getElem?_eq_getElem hlt⟩
      obtain ⟨b', off', rt, hoa, hbb, hel, hrt⟩ := HL.out.el ht
      injection hoa with hoa
      injection hoa with e1 e2 _
      subst e1 e2
      have HG : Hid (wr.rangeAt b (off + i * 35) rt.cells) := fun j u hu => cell_ext HBr.out (el_rng hel j u hu)
      have HT := Lib.hid hrt; have Ht := Lib.hid ht
      have HZ : Hid ((wr.alloc ZT).heap[wr.heap.size]? = some (.cells (Tb.cells ⟨0, 0, none, 0, 0, dgZ⟩).toArray 31 (0, 0))) := cb_one wr ZT _ _ rfl
      have hlen : t.costs.length = S := by have := (valid_at HV.out ht).2.2.1; rw [Hd0.out, HSS.out] at this; exact this
      obtain ⟨xo, xn, xc, hcv⟩ : ∃ a b c, rt.cv = .slice a b c := ⟨_, _, _, rfl⟩
      have hcs := hrt.cs
      rw [hcv] at hcs
      have hxn : xn = S := by
        obtain ⟨_, _, he, _⟩ := hcs.shape
        injection he with _ e2 _
        rw [e2, hlen]
      subst hxn
      have hcs : LsAt nuK w.heap.size w t.costs (.slice xo t.costs.length xc) := by rw [hlen]; exact hcs
      obtain ⟨cb, co, rfl, _, hat⟩ := hcs.at (k := k) (by have := HkS.out; omega)
      have hkl : k < t.costs.length := by have := HkS.out; omega
      obtain ⟨c, hcc⟩ : ∃ c, t.costs[k]? = some c := ⟨_, List.getElem?_eq_getElem hkl⟩
      have c5 := hat k c hcc 0 _ rfl
      have c5' : w.cell? ⟨cb, co + k, none⟩ = some (.int .i64 c) := by simpa [nuK] using c5
      have C5 := Lib.hid c5'
      have hgd : t.costs.getD p.slot.toNat 0 = c := by rw [Hk.out, Int.toNat_natCast, List.getD_eq_getElem?_getD, hcc]; rfl
      have HGD := Lib.hid hgd; have HCV := Lib.hid hcv
      have kS' : (k : Int) < (xn : Int) := by have := HkS.out; omega
      have kS2 : k < xn := HkS.out
      clear hbb hel hrt ht hlt hi hcv hcs hat hkl hcc c5 c5' hgd hlen
      go_upto_region 14 with (first
        | (with_reducible refine wpList_load_mid rfl 31 (.tmp 56) rfl b (off + i * 35) rfl rt.cells _ HG.out Tryd.underlying31 rfl (by rw [tb_len]; exact tb_sz) ?_)
        | (have _g := HZ.out; refine wpList_store_tb (hgd := rfl) 31 (.tmp 10) (.tmp 57) rfl wr.heap.size rt rfl rfl 31 _ HZ.out rfl tb_sz ?_; go_loud (
            intro w9 hc9 hg9 hz9
            have hb9 : Below wr.heap.size wr w9 := (b_al (w := wr) ZT).grown hg9.out (by rw [World.size_alloc]; omega) (fun k hk => by injection hk; omega)
            have HB9 := Lib.hid (below_ext HBr.out hb9); have HD9 := Lib.hid (HDr.out.ext hb9); have HO9 := Lib.hid (HOr.out.ext hb9)
            clear hb9 hg9 hz9 HZ HG HBr HDr HOr)))
      generalize wr.heap.size = g10 at *
      obtain ⟨-, t1, t2⟩ := tb_cell hc9.out
      rw [HT.out.fl] at t1
      rw [HCV.out] at t2
      obtain ⟨o1, o2, o3, -⟩ := HRc.out w9 HO9.out
      have c5 := cell_ext HB9.out C5.out
      obtain ⟨tf, htf⟩ : ∃ x, t.fl = x := ⟨_, rfl⟩
      obtain ⟨pf, hpf⟩ : ∃ x, p.fl = x := ⟨_, rfl⟩
      obtain ⟨pco, hpco⟩ : ∃ x, p.cost = x := ⟨_, rfl⟩
      rw [htf] at t1; rw [hpf] at o1; rw [hpco] at o3
      have Htf := Lib.hid htf; have Hpf := Lib.hid hpf; have Hpco := Lib.hid hpco
      clear htf hpf hpco
      have HNX : Hid (¬ (tf = pf ∧ c = pco) → ∀ j t', j < i + 1 → l[j]? = some t' → ¬ (t'.fl = p.fl ∧ t'.costs.getD p.slot.toNat 0 = p.cost)) := fun hne j t' hj ht' => by
        rcases Nat.lt_succ_iff_lt_or_eq.1 hj with h | h
        · exact HNO.out j t' h ht'
        · subst h
          have := Ht.out.symm.trans ht'
          injection this with this
          subst this
          rw [Htf.out, Hpf.out, HGD.out, Hpco.out]; exact hne
      by_cases hff : tf = pf
      · subst hff
        by_cases hcq : c = pco
        · subst hcq
          go_quiet (fail)
          have K := Lib.hid (below_drewN2 HB9.out nq)
          clear t1 t2 o1 o2 o3 c5 hc9 HB9 HD9 HO9
          go_wp2_with fail
          go_ret
          exact ⟨rfl, K.out⟩
        · have u1 : decide (c = pco) = false := decide_eq_false hcq
          have u2 : (c == pco) = false := by rw [beq_eq_false_iff_ne]; exact hcq
          have HN := Lib.hid (HNX.out fun h => hcq h.2)
          clear hcq
          go_quiet (fail)
          have K := Lib.hid (below_drewN2 HB9.out nq); have KD : Hid (CB (w9.drewN nq) gd 29 (bcells d.1)) := HD9.out; have KO : Hid (CB (w9.drewN nq) w.heap.size 36 r.cells) := HO9.out
          clear t1 t2 o1 o2 o3 c5 hc9 HB9 HD9 HO9
          generalize w9.drewN nq = wA at *
          go_wp2_with fail
          go_roundw
          case rel => exact ⟨⟨i + 1, by go_num, Hil.out, HN.out, KD.out, KO.out, K.out⟩⟩
          case measure => simp [natOf]; have := Hil.out; omega
      · have u1 : decide (tf = pf) = false := decide_eq_false hff
        have u2 : (tf == pf) = false := by rw [beq_eq_false_iff_ne]; exact hff
        have HN := Lib.hid (HNX.out fun h => hff h.1)
        clear hff
        have K := Lib.hid HB9.out.drew; have KD : Hid (CB w9.drew gd 29 (bcells d.1)) := HD9.out; have KO : Hid (CB w9.drew w.heap.size 36 r.cells) := HO9.out
        have Q1 := Lib.hid t1; have Q2 := Lib.hid o1
        refine wp_region_held_drew (S := fun w' => w'.cell? ⟨g10, 1, none⟩ = some (.int .i64 tf) ∧ w'.cell? ⟨w.heap.size, 1, none⟩ = some (.int .i64 pf)) (by kernel_rfl) ⟨Q1.out, Q2.out⟩ (fun hHeld => ?_)
        clear t1 t2 o1 o2 o3 c5 hc9 HB9 HD9 HO9
        generalize w9.drew = wA at *
        refine take_dst (some 58) (i := 0) (v := ?vN0) rfl rfl (by kernel_rfl) (by kernel_rfl) (by kernel_rfl) (fun _ _ _ h => h) (Or.inl ⟨by rfl, fun wS hSw => ?hyN0⟩) (by assumption) ?restN0
        case hyN0 => (obtain ⟨s1, s2⟩ := hSw; go_simp; first | done | with_reducible rfl)
        try simp only [Act.put, List.setIfInBounds_toArray, List.set_cons_zero, List.set_cons_succ]
        refine take_dst (some 59) (i := 1) (v := ?vN1) rfl rfl (by kernel_rfl) (by kernel_rfl) (by kernel_rfl) (fun _ _ _ h => h) (Or.inl ⟨by rfl, fun wS hSw => ?hyN1⟩) (by assumption) ?restN1
        case hyN1 => (obtain ⟨s1, s2⟩ := hSw; go_simp; first | done | with_reducible rfl)
        try simp only [Act.put, List.setIfInBounds_toArray, List.set_cons_zero, List.set_cons_succ]
        refine take_dst (some 60) (i := 2) (v := ?vN2) rfl rfl (by kernel_rfl) (by kernel_rfl) (by kernel_rfl) (fun _ _ _ h => h) (Or.inl ⟨by rfl, fun wS hSw => ?hyN2⟩) (by assumption) ?restN2
        case hyN2 => (obtain ⟨s1, s2⟩ := hSw; go_simp; first | done | with_reducible rfl)
        try simp only [Act.put, List.setIfInBounds_toArray, List.set_cons_zero, List.set_cons_succ]
        refine take_dst (some 61) (i := 3) (v := ?vN3) rfl rfl (by kernel_rfl) (by kernel_rfl) (by kernel_rfl) (fun _ _ _ h => h) (Or.inl ⟨by rfl, fun wS hSw => ?hyN3⟩) (by assumption) ?restN3
        case hyN3 => (obtain ⟨s1, s2⟩ := hSw; go_simp; first | done | with_reducible rfl)
        try simp only [Act.put, List.setIfInBounds_toArray, List.set_cons_zero, List.set_cons_succ]
        refine take_dst (some 62) (i := 4) (v := ?vN4) rfl rfl (by kernel_rfl) (by kernel_rfl) (by kernel_rfl) (fun _ _ _ h => h) (Or.inl ⟨by rfl, fun wS hSw => ?hyN4⟩) (by assumption) ?restN4
        case hyN4 => (obtain ⟨s1, s2⟩ := hSw; go_simp; first | done | with_reducible rfl)
        try simp only [Act.put, List.setIfInBounds_toArray, List.set_cons_zero, List.set_cons_succ]
        refine take_dst (some 63) (i := 5) (v := ?vN5) rfl rfl (by kernel_rfl) (by kernel_rfl) (by kernel_rfl) (fun _ _ _ h => h) (Or.inl ⟨by rfl, fun wS hSw => ?hyN5⟩) (by assumption) ?restN5
        case hyN5 => (obtain ⟨s1, s2⟩ := hSw; go_simp; first | done | with_reducible rfl)
        try simp only [Act.put, List.setIfInBounds_toArray, List.set_cons_zero, List.set_cons_succ]
        refine take_dst (some 64) (i := 6) (v := undef) rfl rfl (by kernel_rfl) (by kernel_rfl) (by kernel_rfl) (fun _ _ _ h => h) (Or.inr ⟨by rfl, rfl⟩) (by assumption) ?restN6
        try simp only [Act.put, List.setIfInBounds_toArray, List.set_cons_zero, List.set_cons_succ]
        refine take_dst (some 65) (i := 7) (v := undef) rfl rfl (by kernel_rfl) (by kernel_rfl) (by kernel_rfl) (fun _ _ _ h => h) (Or.inr ⟨by rfl, rfl⟩) (by assumption) ?restN7
        try simp only [Act.put, List.setIfInBounds_toArray, List.set_cons_zero, List.set_cons_succ]
        refine take_dst (some 66) (i := 8) (v := undef) rfl rfl (by kernel_rfl) (by kernel_rfl) (by kernel_rfl) (fun _ _ _ h => h) (Or.inr ⟨by rfl, rfl⟩) (by assumption) ?restN8
        try simp only [Act.put, List.setIfInBounds_toArray, List.set_cons_zero, List.set_cons_succ]
        refine take_dst (some 67) (i := 9) (v := undef) rfl rfl (by kernel_rfl) (by kernel_rfl) (by kernel_rfl) (fun _ _ _ h => h) (Or.inr ⟨by rfl, rfl⟩) (by assumption) ?restN9
        try simp only [Act.put, List.setIfInBounds_toArray, List.set_cons_zero, List.set_cons_succ]
        refine take_dst (some 68) (i := 10) (v := undef) rfl rfl (by kernel_rfl) (by kernel_rfl) (by kernel_rfl) (fun _ _ _ h => h) (Or.inr ⟨by rfl, rfl⟩) (by assumption) ?restN10
        try simp only [Act.put, List.setIfInBounds_toArray, List.set_cons_zero, List.set_cons_succ]
        refine take_dst (some 69) (i := 11) (v := undef) rfl rfl (by kernel_rfl) (by kernel_rfl) (by kernel_rfl) (fun _ _ _ h => h) (Or.inr ⟨by rfl, rfl⟩) (by assumption) ?restN11
        try simp only [Act.put, List.setIfInBounds_toArray, List.set_cons_zero, List.set_cons_succ]
        refine take_dst (some 70) (i := 12) (v := undef) rfl rfl (by kernel_rfl) (by kernel_rfl) (by kernel_rfl) (fun _ _ _ h => h) (Or.inr ⟨by rfl, rfl⟩) (by assumption) ?restN12
        try simp only [Act.put, List.setIfInBounds_toArray, List.set_cons_zero, List.set_cons_succ]
        refine take_dst (some 71) (i := 13) (v := undef) rfl rfl (by kernel_rfl) (by kernel_rfl) (by kernel_rfl) (fun _ _ _ h => h) (Or.inr ⟨by rfl, rfl⟩) (by assumption) ?restN13
        try simp only [Act.put, List.setIfInBounds_toArray, List.set_cons_zero, List.set_cons_succ]
        refine take_dst (some 72) (i := 14) (v := undef) rfl rfl (by kernel_rfl) (by kernel_rfl) (by kernel_rfl) (fun _ _ _ h => h) (Or.inr ⟨by rfl, rfl⟩) (by assumption) ?restN14
        try simp only [Act.put, List.setIfInBounds_toArray, List.set_cons_zero, List.set_cons_succ]
        refine take_dst (some 73) (i := 15) (v := ?vN15) rfl rfl (by kernel_rfl) (by kernel_rfl) (by kernel_rfl) (fun _ _ _ h => h) (Or.inl ⟨by rfl, fun wS hSw => ?hyN15⟩) (by assumption) ?restN15
        case hyN15 => (obtain ⟨s1, s2⟩ := hSw; go_simp; first | done | with_reducible rfl)
        try simp only [Act.put, List.setIfInBounds_toArray, List.set_cons_zero, List.set_cons_succ]
        refine wpAnyH_done (by kernel_rfl) ?_ _
        go_wp2_with fail
        go_roundw
        case rel => exact ⟨⟨i + 1, by go_num, Hil.out, HN.out, KD.out, KO.out, K.out⟩⟩
        case measure => simp [natOf]; have := Hil.out; omega
    case neg =>
    obtain rfl : i = l.length := by omega
    have tj : decide ((l.length : Int) < (l.length : Int)) = false := by simp
    have hnone : ∀ t ∈ l, ¬ (t.fl = p.fl ∧ t.costs.getD p.slot.toNat 0 = p.cost) := fun t ht => by
      obtain ⟨j, hj, rfl⟩ := List.getElem_of_mem ht
      exact HNO.out j _ hj (List.getElem?_eq_getElem hj)
    have HTC : Hid (∀ a ∈ allN d l.length S p, _) := Lib.hid (fun a (ha : a ∈ allN d l.length S p) => true_col (l := l) (o := p) (a := a) HV.out Hd0.out (by rw [Hta.out, HSS.out]; exact HPre.out) HI.out hnone (by rw [HD.out, HSS.out]; exact ha))
    rw [HD.out, HSS.out] at HTC
    have HPl := Lib.hid (places_any d l.length S k p r wr (HR.out.ext HBr.out) HI.out HT8.out.2 HS8.out.2 Hk.out HkS.out Hpl.out)
    unfold PlPost at HPl
    have hne : allN d l.length S p ≠ [] := by
      have := HVer.out; unfold verB at this; rw [Bool.and_eq_true] at this
      exact found_iff.1 (by simpa using this.2)
    have hpb : ∀ a ∈ allN d l.length S p, a < l.length := fun a ha => (place_cut ha).1
    have hpm : (allN d l.length S p).length ≤ 520 := by
      unfold allN
      refine Nat.le_trans (places_len d l.length S p (p.path.length + 1)) (Nat.mul_le_mul (show p.path.length + 1 ≤ 65 by have := Hpl.out; omega) HT8.out.2)
    obtain ⟨pl, hpl⟩ : ∃ x, allN d l.length S p = x := ⟨_, rfl⟩
    obtain ⟨q, hq⟩ : ∃ x, partN d l.length S p (p.path.length + 1) = x := ⟨_, rfl⟩
    rw [hpl, hq] at HPl HTC
    rw [hpl] at hne hpb hpm
    have Hne := Lib.hid hne; have Hpb := Lib.hid hpb
    have hpl0 : 0 < pl.length := List.length_pos_iff.2 hne
    clear hpl hq hne hpb hnone hi hlt
    go_upto_region 18 with (first
      | (with_reducible refine wpList_load_d (hgd := rfl) 29 (.tmp 5) rfl gd d.1 Hdl.out rfl 29 _ HDr.out Tryd.underlying29 rfl dig_sz ?_)
      | (with_reducible refine wpList_load_ob (hgd := rfl) 36 (.tmp 3) rfl w.heap.size r rfl 36 _ HOr.out Tryd.underlying36 rfl ob_sz ?_)
      | (go_at_call 20; refine HPl.out.mono ?_; go_loud (
          rintro e wB ⟨vB, rfl, hvB, hbB⟩
          have HPB := Lib.hid hvB.rd; have KB := Lib.hid (below_ext HBr.out hbB); have KO := Lib.hid (HOr.out.ext hbB)
          obtain ⟨xo, xc, hvs, -⟩ := hvB.rd.shape
          clear hvB hbB HPl HBr HDr HOr)))
    subst hvs
    have hil : (intsN pl).length = pl.length := by unfold intsN; rw [List.length_map]
    obtain ⟨M, hM⟩ : ∃ M, pl.length = M := ⟨_, rfl⟩
    rw [hil, hM]
    rw [hil, hM] at HPB
    have HM := Lib.hid hM
    have hpl1 : (0 : Int) < (M : Int) := by omega
    have bM : (M : Int) ≤ 520 := by omega
    have hpl2 : decide ((0 : Int) < (M : Int)) = true := decide_eq_true hpl1
    have hpl3 : decide (0 < M) = true := decide_eq_true (by omega)
    clear hil hM HVer HNO hpm
    generalize wB = w0B at *
    go_wp2_with fail
    go_loopw [85] (fun vi wr => TvRel pl r w0B w vi wr) (fun vi _ => M - natOf vi)
    case atStart => exact ⟨⟨0, rfl, by omega, KO.out, Below.refl _ _⟩⟩
    case round =>
      obtain ⟨i, rfl, hi, ho, hb⟩ := hrel.h
      have HOr := Lib.hid ho; have HBx := Lib.hid hb; have HBr := Lib.hid (below_ext KB.out hb)
      clear hrel ho hb KO
      rw [HM.out] at hi
      by_cases hlt : i < M
      case neg =>
        obtain rfl : i = M := by omega
        have tk : decide ((i : Int) < (i : Int)) = false := by simp
        go_wp2_with fail
        go_ret
        exact ⟨rfl, HBr.out⟩
      case pos =>
      have tk : decide ((i : Int) < (M : Int)) = true := by simp; omega
      have tk' : decide (i < M) = true := by simp; omega
      have kk : (i : Int) < (M : Int) := by omega
      have Him := Lib.hid hlt
      obtain ⟨a, hai⟩ : ∃ a, pl[i]? = some a := ⟨_, List.getElem?_eq_getElem (by rw [HM.out]; exact hlt)⟩
      have ham := List.mem_of_getElem? hai
      have hPB := HPB.out
      rw [show M = (intsN pl).length by unfold intsN; rw [List.length_map]; exact HM.out.symm] at hPB
      obtain ⟨xb, xf, rfl, _, hat⟩ := hPB.at (k := i) (by unfold intsN; rw [List.length_map, HM.out]; exact hlt)
      have c5 := hat i (a : Int) (by unfold intsN; rw [List.getElem?_map, hai]; rfl) 0 _ rfl
      have c5 : wr.cell? ⟨xb, xf + i, none⟩ = some (.int .i64 (a : Int)) := cell_ext HBx.out (by simpa [nuK] using c5)
      have haT := Hpb.out a ham
      obtain ⟨q1, q2, q3, q4⟩ := HTC.out a ham
      rw [Hk.out] at q1 q2 q4
      have HC2 := Lib.hid (open_any l (a : Int) (k : Int) _ wr (HL.out.ext HBr.out) (HLd.out.ext HBr.out))
      unfold OpenPost at HC2
      rw [q1] at HC2
      have hoI := open_I (l := l) (a := (a : Int)) (s := (k : Int))
      have hosl : (openO l (a : Int) (k : Int)).slot = (k : Int) := by
        by_cases hob : openB l (a : Int) (k : Int) = true
        · unfold openO; rw [if_pos hob]
        · rw [(open_no hob).2] at q1; cases q1
      obtain ⟨x, hx⟩ : ∃ x, openO l (a : Int) (k : Int) = x := ⟨_, rfl⟩
      rw [hx] at HC2 hoI hosl q2 q4
      have HxI := Lib.hid hoI; have Hxs := Lib.hid hosl; have Hxl := Lib.hid q2; have Hq3 := Lib.hid q3; have Hcol := Lib.hid q4; have HaT := Lib.hid haT
      obtain ⟨o1, o2, o3, o5⟩ := HRc.out wr HOr.out
      clear hai ham hPB hat haT q1 q2 q3 q4 hoI hosl hx hlt hi o1 o3
      go_upto_region 22 with (first
        | (go_at_call 15; refine HC2.out.mono ?_; go_loud (
            rintro e wC ⟨rC, rfl, hrC, hbC⟩
            have HBC := Lib.hid (below_ext HBr.out hbC); have HXC := Lib.hid (below_ext HBx.out hbC); have HOC := Lib.hid (HOr.out.ext hbC); have HRC := Lib.hid hrC
            have HZC : Hid ((wC.alloc ZO).heap[wC.heap.size]? = some (.cells obZ.cells.toArray 36 (0, 0))) := cb_one wC ZO _ _ rfl
            clear hbC hrC HBr HBx HOr HC2 c5 o2 o5))
        | (have _g := HZC.out; refine wpList_store_ob (hgd := rfl) 36 (.tmp 15) (.tmp 95) rfl wC.heap.size rC rfl rfl 36 _ HZC.out rfl ob_sz ?_; go_loud (
            intro wD hcD hgD hzD
            have hbD : Below wC.heap.size wC wD := (b_al (w := wC) ZO).grown hgD.out (by rw [World.size_alloc]; omega) (fun k hk => by injection hk; omega)
            have HBD := Lib.hid (below_ext HBC.out hbD); have HXD := Lib.hid (below_ext HXC.out hbD); have HOD := Lib.hid (HOC.out.ext hbD); have HRD := Lib.hid (HRC.out.ext hbD); have HED := Lib.hid hcD
            clear hbD hgD hzD HBC HXC HOC HRC HZC)))
      generalize wC.heap.size = gE at *
      have e5 := (ob_cell HED.out).2.2.2.2.2
      obtain ⟨eo, en, ec, hev⟩ : ∃ a b c, rC.pv = .slice a b c := ⟨_, _, _, rfl⟩
      have hen : en = pn := by
        obtain ⟨_, _, he, _⟩ := HRD.out.path.shape
        rw [hev] at he
        injection he with _ e2 _
        rw [e2, Hxl.out, ← HPN.out]
      subst hen
      rw [hev] at e5
      obtain ⟨-, -, -, o5⟩ := HRc.out wD HOD.out
      have v1 : decide ((en : Int) = (en : Int)) = true := by simp
      have v2 : decide ((en : Int) < (q : Int)) = false := decide_eq_false (by have := Hq3.out; have := HPN.out; omega)
      have v3 : decide (en < q) = false := decide_eq_false (by have := Hq3.out; have := HPN.out; omega)
      clear hev hcD
      go_upto_region 24 with fail
      clear e5 o5 v1 v2 v3
      have HW1 := Lib.hid (fun W (hW : Below w.heap.size w W) => way_any p r k a l.length S q W (HR.out.ext hW) HI.out Hk.out (by have := HkS.out; have := HS8.out; omega) (by have := HaT.out; have := HT8.out; omega) (by have := HT8.out; omega) (by have := HS8.out; omega) Hq3.out Hpl.out (HLd.out.ext hW))
      have HW2 := Lib.hid (fun W (hW : Below wD.heap.size wD W) => way_any x rC k a l.length S q W (HRD.out.ext hW) HxI.out Hxs.out (by have := HkS.out; have := HS8.out; omega) (by have := HaT.out; have := HT8.out; omega) (by have := HT8.out; omega) (by have := HS8.out; omega) (by rw [Hxl.out]; exact Hq3.out) (by rw [Hxl.out]; exact Hpl.out) (HLd.out.ext (below_ext HBD.out hW)))
      have J := Lib.hid (Below.refl wD.heap.size wD).drew
      have JO := Lib.hid (HOD.out.ext J.out); have JE := Lib.hid (HED.out.ext J.out)
      refine wp_region_held_drew (S := fun w' => w'.rangeAt w.heap.size 0 r.cells ∧ w'.rangeAt gE 0 rC.cells) (by kernel_rfl) ⟨cb_rng JO.out, cb_rng JE.out⟩ (fun hHeld => ?_)
      generalize wD.drew = wE at *
      refine take_dst (some 115) (i := 0) (v := r.v) rfl rfl (by kernel_rfl) (by kernel_rfl) (by kernel_rfl) (fun _ _ _ h => h) (yieldsIf_load_mid (by rfl) 36 _ rfl w.heap.size 0 rfl r.cells _ (fun wS hSw => by obtain ⟨s1, s2⟩ := hSw; exact s1) Tryd.underlying36 rfl (by rw [ob_len]; exact ob_sz)) (by assumption) ?restW0
      try simp only [Act.put, List.setIfInBounds_toArray, List.set_cons_zero, List.set_cons_succ]
      refine take_dst (some 116) (i := 1) (v := ?vW1) rfl rfl (by kernel_rfl) (by kernel_rfl) (by kernel_rfl) (fun _ _ _ h => h) (Or.inl ⟨by rfl, fun wS hSw => ?hyW1⟩) (by assumption) ?restW1
      case hyW1 => (obtain ⟨s1, s2⟩ := hSw; go_simp; first | done | with_reducible rfl)
      try simp only [Act.put, List.setIfInBounds_toArray, List.set_cons_zero, List.set_cons_succ]
      refine take_dst (some 117) (i := 2) (v := ?vW2) rfl rfl (by kernel_rfl) (by kernel_rfl) (by kernel_rfl) (fun _ _ _ h => h) (Or.inl ⟨by rfl, fun wS hSw => ?hyW2⟩) (by assumption) ?restW2
      case hyW2 => (obtain ⟨s1, s2⟩ := hSw; go_simp; first | done | with_reducible rfl)
      try simp only [Act.put, List.setIfInBounds_toArray, List.set_cons_zero, List.set_cons_succ]
      refine take_dst (some 118) (i := 3) (v := ?vW3) rfl rfl (by kernel_rfl) (by kernel_rfl) (by kernel_rfl) (fun _ _ _ h => h) (Or.inl ⟨by rfl, fun wS hSw => ?hyW3⟩) (by assumption) ?restW3
      case hyW3 => (obtain ⟨s1, s2⟩ := hSw; go_simp; first | done | with_reducible rfl)
      try simp only [Act.put, List.setIfInBounds_toArray, List.set_cons_zero, List.set_cons_succ]
      refine take_dst (some 119) (i := 4) (v := ?vW4) rfl rfl (by kernel_rfl) (by kernel_rfl) (by kernel_rfl) (fun _ _ _ h => h) (Or.inl ⟨by rfl, fun wS hSw => ?hyW4⟩) (by assumption) ?restW4
      case hyW4 => (obtain ⟨s1, s2⟩ := hSw; go_simp; first | done | with_reducible rfl)
      try simp only [Act.put, List.setIfInBounds_toArray, List.set_cons_zero, List.set_cons_succ]
      refine take_dst (some 121) (i := 6) (v := rC.v) rfl rfl (by kernel_rfl) (by kernel_rfl) (by kernel_rfl) (fun _ _ _ h => h) (yieldsIf_load_mid (by rfl) 36 _ rfl gE 0 rfl rC.cells _ (fun wS hSw => by obtain ⟨s1, s2⟩ := hSw; exact s2) Tryd.underlying36 rfl (by rw [ob_len]; exact ob_sz)) (by assumption) ?restW6
      try simp only [Act.put, List.setIfInBounds_toArray, List.set_cons_zero, List.set_cons_succ]
      refine take_dst (some 122) (i := 7) (v := ?vW7) rfl rfl (by kernel_rfl) (by kernel_rfl) (by kernel_rfl) (fun _ _ _ h => h) (Or.inl ⟨by rfl, fun wS hSw => ?hyW7⟩) (by assumption) ?restW7
      case hyW7 => (obtain ⟨s1, s2⟩ := hSw; go_simp; first | done | with_reducible rfl)
      try simp only [Act.put, List.setIfInBounds_toArray, List.set_cons_zero, List.set_cons_succ]
      refine take_dst (some 123) (i := 8) (v := ?vW8) rfl rfl (by kernel_rfl) (by kernel_rfl) (by kernel_rfl) (fun _ _ _ h => h) (Or.inl ⟨by rfl, fun wS hSw => ?hyW8⟩) (by assumption) ?restW8
      case hyW8 => (obtain ⟨s1, s2⟩ := hSw; go_simp; first | done | with_reducible rfl)
      try simp only [Act.put, List.setIfInBounds_toArray, List.set_cons_zero, List.set_cons_succ]
      refine take_dst (some 124) (i := 9) (v := ?vW9) rfl rfl (by kernel_rfl) (by kernel_rfl) (by kernel_rfl) (fun _ _ _ h => h) (Or.inl ⟨by rfl, fun wS hSw => ?hyW9⟩) (by assumption) ?restW9
      case hyW9 => (obtain ⟨s1, s2⟩ := hSw; go_simp; first | done | with_reducible rfl)
      try simp only [Act.put, List.setIfInBounds_toArray, List.set_cons_zero, List.set_cons_succ]
      refine take_dst (some 125) (i := 10) (v := ?vW10) rfl rfl (by kernel_rfl) (by kernel_rfl) (by kernel_rfl) (fun _ _ _ h => h) (Or.inl ⟨by rfl, fun wS hSw => ?hyW10⟩) (by assumption) ?restW10
      case hyW10 => (obtain ⟨s1, s2⟩ := hSw; go_simp; first | done | with_reducible rfl)
      try simp only [Act.put, List.setIfInBounds_toArray, List.set_cons_zero, List.set_cons_succ]
      refine wpAnyH_ready (rs := [5]) (by kernel_rfl) (by simp) ?_
      refine AllReadyH.cons rfl (fun K hK => ?_) AllReadyH.nil
      go_simp
      refine (HW1.out wE (below_ext HBD.out J.out)).mono ?_
      rintro e wF ⟨vF, rfl, hvF, hbF⟩
      have JF := Lib.hid (below_ext J.out hbF); have JOF := Lib.hid (JO.out.ext hbF); have JEF := Lib.hid (JE.out.ext hbF); have HvF := Lib.hid hvF.rd
      clear hvF hbF J JO JE
      refine hK.out _ _ ⟨cb_rng JOF.out, cb_rng JEF.out⟩ (fun hHeld => ?_)
      clear hK K
      try simp only [Act.put, List.setIfInBounds_toArray, List.set_cons_zero, List.set_cons_succ]
      refine wpAnyH_ready (rs := [11]) (by kernel_rfl) (by simp) ?_
      refine AllReadyH.cons rfl (fun K hK => ?_) AllReadyH.nil
      go_simp
      refine (HW2.out wF JF.out).mono ?_
      rintro e wG ⟨vG, rfl, hvG, hbG⟩
      have JG := Lib.hid (below_ext JF.out hbG); have JOG := Lib.hid (JOF.out.ext hbG); have JEG := Lib.hid (JEF.out.ext hbG); have HvFG := Lib.hid (HvF.out.ext hbG); have HvG := Lib.hid hvG.rd
      clear hvG hbG JF JOF JEF HvF
      refine hK.out _ _ ⟨cb_rng JOG.out, cb_rng JEG.out⟩ (fun hHeld => ?_)
      clear hK K
      try simp only [Act.put, List.setIfInBounds_toArray, List.set_cons_zero, List.set_cons_succ]
      refine wpAnyH_ready (rs := [12]) (by kernel_rfl) (by simp) ?_
      refine AllReadyH.cons rfl (fun K hK => ?_) AllReadyH.nil
      have hcall := Lib.hid (collide_any _ _ vF vG wG HvFG.out HvG.out (ways_tags (by rw [Hk.out, Hxs.out]) Hxl.out.symm) (way_len p a l.length S q Hpl.out) (way_small p a l.length S q) (way_small x a l.length S q) (HLd.out.ext (below_ext HBD.out JG.out)))
      rw [Hcol.out] at hcall
      go_simp
      refine hcall.out.mono ?_
      rintro e wH ⟨rfl, hbH⟩
      have JH := Lib.hid (below_ext JG.out hbH); have JOH := Lib.hid (JOG.out.ext hbH); have JEH := Lib.hid (JEG.out.ext hbH)
      clear hbH hcall JG JOG JEG HvFG HvG
      refine hK.out _ _ ⟨cb_rng JOH.out, cb_rng JEH.out⟩ (fun hHeld => ?_)
      clear hK K
      try simp only [Act.put, List.setIfInBounds_toArray, List.set_cons_zero, List.set_cons_succ]
      refine take_dst (some 128) (i := 13) (v := ?vW13) rfl rfl (by kernel_rfl) (by kernel_rfl) (by kernel_rfl) (fun _ _ _ h => h) (Or.inl ⟨by rfl, fun wS hSw => ?hyW13⟩) (by assumption) ?restW13
      case hyW13 => (obtain ⟨s1, s2⟩ := hSw; go_simp; first | done | with_reducible rfl)
      try simp only [Act.put, List.setIfInBounds_toArray, List.set_cons_zero, List.set_cons_succ]
      refine wpAnyH_done (by kernel_rfl) ?_ _
      go_wp2_with fail
      go_roundw
      case rel => exact ⟨⟨i + 1, by go_num, by rw [HM.out]; exact Him.out, JOH.out, below_ext HXD.out JH.out⟩⟩
      case measure => simp [natOf]; have := Him.out; omega
end Go.Proofs.YtbonebmboolemaaDoor
