/- CommitmentOpenSpec, walked (printed by gen36b.py). -/
import Derived.Test.YtbonebmboolemaaDoorK40
namespace Go.Proofs.YtbonebmboolemaaDoor
open Go.RowKit
structure OsS (p q : Opn) (d D : Dg) (r r17 r19 : Ob) (g17 g19 g21 : Nat) (w W : World) : Prop where
  x : CB W g17 36 r17.cells
  xR : OpR W q r17
  y : CB W g19 36 r19.cells
  yR : OpR W q r19
  d : CB W w.heap.size 29 (bcells d.1)
  o : CB W (w.heap.size + 1) 36 r.cells
  oR : OpR W p r
  own : CB W g21 29 (bcells D.1)
  b : Below w.heap.size w W
theorem OsS.ext {p q : Opn} {d D : Dg} {r r17 r19 : Ob} {g17 g19 g21 : Nat} {w W W' : World} (h : OsS p q d D r r17 r19 g17 g19 g21 w W) (hb : Below W.heap.size W W') : OsS p q d D r r17 r19 g17 g19 g21 w W' :=
  ⟨h.x.ext hb, h.xR.ext hb, h.y.ext hb, h.yR.ext hb, h.d.ext hb, h.o.ext hb, h.oR.ext hb, h.own.ext hb, below_ext h.b hb⟩
set_option maxRecDepth 100000 in
set_option maxHeartbeats 8000000 in
theorem openSpec36_walk (l : List Tab) (v : Value) (a s : Int) (d : Dg) (air tables slots : Int) (p : Opn) (r : Ob) (w : World) (hl : TabsAt w l v) (hr : OpR w p r) (hLd : Laid w) :
    Calls Tryd.prog 4 #[v, .int .i64 a, .int .i64 s, dv d.1, .int .i64 air, .int .i64 tables, .int .i64 slots, r.v] w (TruePost w) := by
  have hb0 : Below w.heap.size w ((w.alloc (bD d)).alloc (bO r)) := (b_al (w := w) (bD d)).alloc (b_al (w := w) (bD d)).size _
  have hc0 : CB ((w.alloc (bD d)).alloc (bO r)) (w.heap.size + 1) 36 r.cells := by
    have := cb_one (w.alloc (bD d)) (bO r) 36 r.cells rfl
    rwa [World.size_alloc] at this
  have hd0 : CB ((w.alloc (bD d)).alloc (bO r)) w.heap.size 29 (bcells d.1) := (cb_one w (bD d) _ _ rfl).alloc _
  have HL0 := Lib.hid (hl.ext hb0); have HR0 := Lib.hid (hr.ext hb0); have HB0 := Lib.hid hb0; have HO0 := Lib.hid hc0; have HD0 := Lib.hid hd0
  have HLd0 := Lib.hid (hLd.ext hb0)
  have Hdl := Lib.hid d.2
  obtain ⟨po, pn, pc, hpv⟩ : ∃ a b c, r.pv = .slice a b c := ⟨_, _, _, rfl⟩
  have hpn : pn = p.path.length := by
    obtain ⟨_, _, he, _⟩ := hr.path.shape
    rw [hpv] at he
    injection he with _ e2 _
  have HPV := Lib.hid hpv; have HPN := Lib.hid hpn
  obtain ⟨oa, cap, rfl, hlc, hlm⟩ := hl.shape
  clear hb0 hc0 hd0 hl hr hLd hlc hlm hpv hpn
  change Calls Tryd.prog 4 #[_, _, _, .agg (bcells d.1).toArray, _, _, _, .agg r.cells.toArray] w _
  go_enter Tryd.func4, Tryd.ntmps4
  go_upto_region 1 with fail
  change Code.wp _ _ _ _ ((w.alloc (bD d)).alloc (bO r))
  generalize (w.alloc (bD d)).alloc (bO r) = w0 at *
  go_upto_region 3 with (go_at_call 9; refine (sane36_any w0 HLd0.out).mono ?_; rintro e w1 ⟨rfl, hb1⟩)
  have HB1 := Lib.hid (below_ext HB0.out hb1); have HL1 := Lib.hid (HL0.out.ext hb1); have HR1 := Lib.hid (HR0.out.ext hb1); have HO1 := Lib.hid (HO0.out.ext hb1); have HD1 := Lib.hid (HD0.out.ext hb1); have HLd1 := Lib.hid (HLd0.out.ext hb1)
  clear hb1 HB0 HL0 HR0 HO0 HD0 HLd0
  have HF := Lib.hid (few_any l _ w1 HL1.out)
  have c5 := (ob_cell HO1.out).2.2.2.2.2
  rw [HPV.out] at c5
  by_cases hf : fewT l = true
  case neg =>
    have hf' : fewT l = false := by simpa using hf
    rw [hf'] at HF
    clear hf hf'
    go_wp2_with (go_at_call 10; refine HF.out.mono ?_; rintro e w2 ⟨rfl, rfl⟩)
    go_ret
    exact ⟨rfl, HB1.out⟩
  case pos =>
  rw [hf] at HF
  clear hf
  by_cases hp : 20 < pn
  case pos =>
    have t1 : decide ((20 : Int) < (pn : Int)) = true := decide_eq_true (by omega)
    have t1' : decide (20 < pn) = true := decide_eq_true hp
    go_wp2_with (go_at_call 10; refine HF.out.mono ?_; rintro e w2 ⟨rfl, rfl⟩)
    go_ret
    exact ⟨rfl, HB1.out⟩
  case neg =>
  have t1 : decide ((20 : Int) < (pn : Int)) = false := decide_eq_false (by omega)
  have t1' : decide (20 < pn) = false := decide_eq_false hp
  have Hpl : Hid (p.path.length ≤ 64) := by show _ ≤ _; rw [← HPN.out]; omega
  clear hp
  go_upto_region 5 with (go_at_call 10; refine HF.out.mono ?_; rintro e w2 ⟨rfl, rfl⟩)
  clear c5
  have HC1 := Lib.hid (open_any l a s _ w1 HL1.out HLd1.out)
  obtain ⟨q, hq⟩ : ∃ q, openO l a s = q := ⟨_, rfl⟩
  obtain ⟨z, hz⟩ : ∃ z, openE l a s = z := ⟨_, rfl⟩
  obtain ⟨D, hD⟩ : ∃ D, commitD l = D := ⟨_, rfl⟩
  obtain ⟨zc, hzc⟩ : ∃ z, commitE l = z := ⟨_, rfl⟩
  have hql : q.path.length ≤ 64 := by rw [← hq]; have := open_len l a s; omega
  have Hql := Lib.hid hql; have HQ := Lib.hid hq; have HZ0 := Lib.hid hz; have HDD := Lib.hid hD; have HZc := Lib.hid hzc
  have HDl := Lib.hid D.2
  clear hq hz hD hzc hql
  go_upto_region 8 with (first
    | (go_at_call 15; refine HC1.out.mono ?_; go_loud (
        rintro e w2 ⟨r17, rfl, hr2, hb2⟩
        rw [HZ0.out]
        rw [HQ.out] at hr2
        have HB2 := Lib.hid (below_ext HB1.out hb2); have HL2 := Lib.hid (HL1.out.ext hb2); have HR2 := Lib.hid (HR1.out.ext hb2); have HO2 := Lib.hid (HO1.out.ext hb2); have HD2 := Lib.hid (HD1.out.ext hb2); have HLd2 := Lib.hid (HLd1.out.ext hb2); have HX2 := Lib.hid hr2
        have HZ : Hid ((w2.alloc ZO).heap[w2.heap.size]? = some (.cells obZ.cells.toArray 36 (0, 0))) := cb_one w2 ZO _ _ rfl
        clear hb2 hr2 HB1 HL1 HR1 HO1 HD1 HLd1 HC1))
    | ((refine wpList_store_ob (hgd := rfl) 36 (.tmp 17) (.tmp 39) rfl w2.heap.size r17 rfl rfl 36 _ HZ.out rfl ob_sz ?_); go_loud (
        intro w3 hc3 hg3 hz3
        have hb3 : Below w2.heap.size w2 w3 := (b_al (w := w2) ZO).grown hg3.out (by rw [World.size_alloc]; omega) (fun k hk => by injection hk; omega)
        have HB3 := Lib.hid (below_ext HB2.out hb3); have HL3 := Lib.hid (HL2.out.ext hb3); have HR3 := Lib.hid (HR2.out.ext hb3); have HO3 := Lib.hid (HO2.out.ext hb3); have HD3 := Lib.hid (HD2.out.ext hb3); have HLd3 := Lib.hid (HLd2.out.ext hb3); have HX3 := Lib.hid (HX2.out.ext hb3)
        have HC2 := Lib.hid (ropen_any l a s _ w3 HL3.out)
        clear hb3 hg3 hz3 HB2 HL2 HR2 HO2 HD2 HLd2 HX2 HZ))
    | (go_at_call 16; refine HC2.out.mono ?_; go_loud (
        rintro e w4 ⟨r19, rfl, hr4, hb4⟩
        rw [HZ0.out]
        rw [HQ.out] at hr4
        have HB4 := Lib.hid (below_ext HB3.out hb4); have HL4 := Lib.hid (HL3.out.ext hb4); have HR4 := Lib.hid (HR3.out.ext hb4); have HO4 := Lib.hid (HO3.out.ext hb4); have HD4 := Lib.hid (HD3.out.ext hb4); have HLd4 := Lib.hid (HLd3.out.ext hb4); have HX4 := Lib.hid (HX3.out.ext hb4); have HY4 := Lib.hid hr4
        have HG4 : Hid (CB w4 w2.heap.size 36 r17.cells) := hc3.out.ext hb4
        have HZ4 : Hid ((w4.alloc ZO).heap[w4.heap.size]? = some (.cells obZ.cells.toArray 36 (0, 0))) := cb_one w4 ZO _ _ rfl
        clear hb4 hr4 hc3 HB3 HL3 HR3 HO3 HD3 HLd3 HX3 HC2))
    | ((refine wpList_store_ob (hgd := rfl) 36 (.tmp 19) (.tmp 46) rfl w4.heap.size r19 rfl rfl 36 _ HZ4.out rfl ob_sz ?_); go_loud (
        intro w5 hc5 hg5 hz5
        have hb5 : Below w4.heap.size w4 w5 := (b_al (w := w4) ZO).grown hg5.out (by rw [World.size_alloc]; omega) (fun k hk => by injection hk; omega)
        have HB5 := Lib.hid (below_ext HB4.out hb5); have HL5 := Lib.hid (HL4.out.ext hb5); have HR5 := Lib.hid (HR4.out.ext hb5); have HO5 := Lib.hid (HO4.out.ext hb5); have HD5 := Lib.hid (HD4.out.ext hb5); have HLd5 := Lib.hid (HLd4.out.ext hb5); have HX5 := Lib.hid (HX4.out.ext hb5); have HY5 := Lib.hid (HY4.out.ext hb5); have HG5 := Lib.hid (HG4.out.ext hb5)
        have HC3 := Lib.hid (rcommit_any l _ w5 HL5.out)
        rw [HDD.out, HZc.out] at HC3
        clear hb5 hg5 hz5 HB4 HL4 HR4 HO4 HD4 HLd4 HX4 HY4 HG4 HZ4))
    | (go_at_call 14; refine HC3.out.mono ?_; go_loud (
        rintro e w6 ⟨rfl, hb6⟩
        have HB6 := Lib.hid (below_ext HB5.out hb6); have HR6 := Lib.hid (HR5.out.ext hb6); have HO6 := Lib.hid (HO5.out.ext hb6); have HD6 := Lib.hid (HD5.out.ext hb6); have HLd6 := Lib.hid (HLd5.out.ext hb6); have HX6 := Lib.hid (HX5.out.ext hb6); have HY6 := Lib.hid (HY5.out.ext hb6); have HG6 := Lib.hid (HG5.out.ext hb6)
        have HH6 : Hid (CB w6 w4.heap.size 36 r19.cells) := hc5.out.ext hb6
        have HZ6 : Hid ((w6.alloc ZD).heap[w6.heap.size]? = some (.cells (bcells dgZ.1).toArray 29 (0, 0))) := cb_one w6 ZD _ _ rfl
        clear hb6 hc5 HB5 HL5 HR5 HO5 HD5 HLd5 HX5 HY5 HG5 HC3))
    | ((refine wpList_store_d (hgd := rfl) 29 (.tmp 21) (.tmp 51) rfl w6.heap.size D.1 HDl.out rfl rfl 29 _ HZ6.out rfl dig_sz ?_); go_loud (
        intro w7 hc7 hg7 hz7
        have hb7 : Below w6.heap.size w6 w7 := (b_al (w := w6) ZD).grown hg7.out (by rw [World.size_alloc]; omega) (fun k hk => by injection hk; omega)
        have HS : Hid (OsS p q d D r r17 r19 w2.heap.size w4.heap.size w6.heap.size w w7) := ⟨HG6.out.ext hb7, HX6.out.ext hb7, HH6.out.ext hb7, HY6.out.ext hb7, HD6.out.ext hb7, HO6.out.ext hb7, HR6.out.ext hb7, hc7.out, below_ext HB6.out hb7⟩
        have HLd7 := Lib.hid (HLd6.out.ext hb7)
        clear hb7 hg7 hz7 hc7 HB6 HR6 HO6 HD6 HLd6 HX6 HY6 HG6 HH6 HZ6)))
  generalize w2.heap.size = g17 at *
  generalize w4.heap.size = g19 at *
  generalize w6.heap.size = g21 at *
  clear HPV HPN HQ HZ0 HDD HZc HF
  obtain ⟨e1, he1⟩ : ∃ e, verE d air tables slots p = e := ⟨_, rfl⟩
  obtain ⟨e2, he2⟩ : ∃ e, verE D air tables slots q = e := ⟨_, rfl⟩
  obtain ⟨e3, he3⟩ : ∃ e, verE D air tables slots p = e := ⟨_, rfl⟩
  have HLw : Hid (∀ W, Below w7.heap.size w7 W → Laid W) := fun W h => HLd7.out.ext h
  have HV1 : Hid (∀ W, OsS p q d D r r17 r19 g17 g19 g21 w W → Laid W → Calls Tryd.prog 18 #[dv d.1, .int .i64 air, .int .i64 tables, .int .i64 slots, r.v] W fun e w' => e = .returned (.int .i64 e1) ∧ Below W.heap.size W w') := fun W h hL => by rw [← he1]; exact verify_any d air tables slots p r W h.oR Hpl.out hL
  have HV2 : Hid (∀ W, OsS p q d D r r17 r19 g17 g19 g21 w W → Laid W → Calls Tryd.prog 19 #[dv d.1, .int .i64 air, .int .i64 tables, .int .i64 slots, r.v] W fun e w' => e = .returned (.int .i64 e1) ∧ Below W.heap.size W w') := fun W h hL => by rw [← he1]; exact rverify_any d air tables slots p r W h.oR
  have HV3 : Hid (∀ W, OsS p q d D r r17 r19 g17 g19 g21 w W → Laid W → Calls Tryd.prog 18 #[dv D.1, .int .i64 air, .int .i64 tables, .int .i64 slots, r19.v] W fun e w' => e = .returned (.int .i64 e2) ∧ Below W.heap.size W w') := fun W h hL => by rw [← he2]; exact verify_any D air tables slots q r19 W h.yR Hql.out hL
  have HV4 : Hid (∀ W, OsS p q d D r r17 r19 g17 g19 g21 w W → Laid W → Calls Tryd.prog 19 #[dv D.1, .int .i64 air, .int .i64 tables, .int .i64 slots, r19.v] W fun e w' => e = .returned (.int .i64 e2) ∧ Below W.heap.size W w') := fun W h hL => by rw [← he2]; exact rverify_any D air tables slots q r19 W h.yR
  have HV5 : Hid (∀ W, OsS p q d D r r17 r19 g17 g19 g21 w W → Laid W → Calls Tryd.prog 18 #[dv D.1, .int .i64 air, .int .i64 tables, .int .i64 slots, r.v] W fun e w' => e = .returned (.int .i64 e3) ∧ Below W.heap.size W w') := fun W h hL => by rw [← he3]; exact verify_any D air tables slots p r W h.oR Hpl.out hL
  have HV6 : Hid (∀ W, OsS p q d D r r17 r19 g17 g19 g21 w W → Laid W → Calls Tryd.prog 19 #[dv D.1, .int .i64 air, .int .i64 tables, .int .i64 slots, r.v] W fun e w' => e = .returned (.int .i64 e3) ∧ Below W.heap.size W w') := fun W h hL => by rw [← he3]; exact rverify_any D air tables slots p r W h.oR
  clear he1 he2 he3
  have K0 := Lib.hid (HS.out.ext (Below.refl w7.heap.size w7).drew)
  have M0 := Lib.hid (HLd7.out.ext (Below.refl w7.heap.size w7).drew)
  refine wp_region_held_drew (S := fun w' => w'.rangeAt g17 0 r17.cells ∧ w'.rangeAt g19 0 r19.cells ∧ w'.rangeAt w.heap.size 0 (bcells d.1) ∧ w'.rangeAt (w.heap.size + 1) 0 r.cells ∧ w'.rangeAt g21 0 (bcells D.1)) (by kernel_rfl) ⟨cb_rng0 K0.out.x, cb_rng0 K0.out.y, cb_rng0 K0.out.d, cb_rng0 K0.out.o, cb_rng0 K0.out.own⟩ (fun hHeld => ?_)
  clear HS HLd7 HLw
  generalize w7.drew = u0 at *
  refine take_dst (some 53) (i := 0) (v := r17.v) rfl rfl (by kernel_rfl) (by kernel_rfl) (by kernel_rfl) (fun _ _ _ h => h) (yieldsIf_load_mid (by rfl) 36 _ rfl g17 0 rfl r17.cells _ (fun wS hSw => by obtain ⟨s1, s2, s3, s4, s5⟩ := hSw; exact s1) Tryd.underlying36 rfl (by rw [ob_len]; exact ob_sz)) (by assumption) ?restQ0
  try simp only [Act.put, List.setIfInBounds_toArray, List.set_cons_zero, List.set_cons_succ]
  refine take_dst (some 54) (i := 1) (v := r19.v) rfl rfl (by kernel_rfl) (by kernel_rfl) (by kernel_rfl) (fun _ _ _ h => h) (yieldsIf_load_mid (by rfl) 36 _ rfl g19 0 rfl r19.cells _ (fun wS hSw => by obtain ⟨s1, s2, s3, s4, s5⟩ := hSw; exact s2) Tryd.underlying36 rfl (by rw [ob_len]; exact ob_sz)) (by assumption) ?restQ1
  try simp only [Act.put, List.setIfInBounds_toArray, List.set_cons_zero, List.set_cons_succ]
  refine wpAnyH_ready (rs := [2]) (by kernel_rfl) (by simp) ?_
  refine AllReadyH.cons rfl (fun K hK => ?_) AllReadyH.nil
  go_simp
  refine (sameop_any q r17 r19 u0 K0.out.xR K0.out.yR).mono ?_
  rintro e u1 ⟨rfl, hb1⟩
  have K1 := Lib.hid (K0.out.ext hb1); have M1 := Lib.hid (M0.out.ext hb1)
  clear hb1 K0 M0
  refine hK.out _ _ ⟨cb_rng0 K1.out.x, cb_rng0 K1.out.y, cb_rng0 K1.out.d, cb_rng0 K1.out.o, cb_rng0 K1.out.own⟩ (fun hHeld => ?_)
  clear hK K
  try simp only [Act.put, List.setIfInBounds_toArray, List.set_cons_zero, List.set_cons_succ]
  refine take_dst (some 56) (i := 3) (v := ?vQ3) rfl rfl (by kernel_rfl) (by kernel_rfl) (by kernel_rfl) (fun _ _ _ h => h) (Or.inl ⟨by rfl, fun wS hSw => ?hyQ3⟩) (by assumption) ?restQ3
  case hyQ3 => (obtain ⟨s1, s2, s3, s4, s5⟩ := hSw; go_simp; first | done | with_reducible rfl)
  try simp only [Act.put, List.setIfInBounds_toArray, List.set_cons_zero, List.set_cons_succ]
  refine take_dst (some 57) (i := 4) (v := ?vQ4) rfl rfl (by kernel_rfl) (by kernel_rfl) (by kernel_rfl) (fun _ _ _ h => h) (Or.inl ⟨by rfl, fun wS hSw => ?hyQ4⟩) (by assumption) ?restQ4
  case hyQ4 => (obtain ⟨s1, s2, s3, s4, s5⟩ := hSw; go_simp; first | done | with_reducible rfl)
  try simp only [Act.put, List.setIfInBounds_toArray, List.set_cons_zero, List.set_cons_succ]
  refine take_dst (some 58) (i := 5) (v := ?vQ5) rfl rfl (by kernel_rfl) (by kernel_rfl) (by kernel_rfl) (fun _ _ _ h => h) (Or.inl ⟨by rfl, fun wS hSw => ?hyQ5⟩) (by assumption) ?restQ5
  case hyQ5 => (obtain ⟨s1, s2, s3, s4, s5⟩ := hSw; go_simp; first | done | with_reducible rfl)
  try simp only [Act.put, List.setIfInBounds_toArray, List.set_cons_zero, List.set_cons_succ]
  refine take_dst (some 59) (i := 6) (v := ?vQ6) rfl rfl (by kernel_rfl) (by kernel_rfl) (by kernel_rfl) (fun _ _ _ h => h) (Or.inl ⟨by rfl, fun wS hSw => ?hyQ6⟩) (by assumption) ?restQ6
  case hyQ6 => (obtain ⟨s1, s2, s3, s4, s5⟩ := hSw; go_simp; first | done | with_reducible rfl)
  try simp only [Act.put, List.setIfInBounds_toArray, List.set_cons_zero, List.set_cons_succ]
  refine take_dst (some 60) (i := 7) (v := ?vQ7) rfl rfl (by kernel_rfl) (by kernel_rfl) (by kernel_rfl) (fun _ _ _ h => h) (Or.inl ⟨by rfl, fun wS hSw => ?hyQ7⟩) (by assumption) ?restQ7
  case hyQ7 => (obtain ⟨s1, s2, s3, s4, s5⟩ := hSw; go_simp; first | done | with_reducible rfl)
  try simp only [Act.put, List.setIfInBounds_toArray, List.set_cons_zero, List.set_cons_succ]
  refine take_dst (some 61) (i := 8) (v := ?vQ8) rfl rfl (by kernel_rfl) (by kernel_rfl) (by kernel_rfl) (fun _ _ _ h => h) (Or.inl ⟨by rfl, fun wS hSw => ?hyQ8⟩) (by assumption) ?restQ8
  case hyQ8 => (obtain ⟨s1, s2, s3, s4, s5⟩ := hSw; go_simp; first | done | with_reducible rfl)
  try simp only [Act.put, List.setIfInBounds_toArray, List.set_cons_zero, List.set_cons_succ]
  refine take_dst (some 62) (i := 9) (v := dv d.1) rfl rfl (by kernel_rfl) (by kernel_rfl) (by kernel_rfl) (fun _ _ _ h => h) (yieldsIf_load_mid (by rfl) 29 _ rfl w.heap.size 0 rfl (bcells d.1) _ (fun wS hSw => by obtain ⟨s1, s2, s3, s4, s5⟩ := hSw; exact s3) Tryd.underlying29 rfl (by rw [bcells_length, Hdl.out]; exact dig_sz)) (by assumption) ?restQ9
  try simp only [Act.put, List.setIfInBounds_toArray, List.set_cons_zero, List.set_cons_succ]
  refine take_dst (some 63) (i := 10) (v := ?vQ10) rfl rfl (by kernel_rfl) (by kernel_rfl) (by kernel_rfl) (fun _ _ _ h => h) (Or.inl ⟨by rfl, fun wS hSw => ?hyQ10⟩) (by assumption) ?restQ10
  case hyQ10 => (obtain ⟨s1, s2, s3, s4, s5⟩ := hSw; go_simp; first | done | with_reducible rfl)
  try simp only [Act.put, List.setIfInBounds_toArray, List.set_cons_zero, List.set_cons_succ]
  refine take_dst (some 64) (i := 11) (v := ?vQ11) rfl rfl (by kernel_rfl) (by kernel_rfl) (by kernel_rfl) (fun _ _ _ h => h) (Or.inl ⟨by rfl, fun wS hSw => ?hyQ11⟩) (by assumption) ?restQ11
  case hyQ11 => (obtain ⟨s1, s2, s3, s4, s5⟩ := hSw; go_simp; first | done | with_reducible rfl)
  try simp only [Act.put, List.setIfInBounds_toArray, List.set_cons_zero, List.set_cons_succ]
  refine take_dst (some 65) (i := 12) (v := ?vQ12) rfl rfl (by kernel_rfl) (by kernel_rfl) (by kernel_rfl) (fun _ _ _ h => h) (Or.inl ⟨by rfl, fun wS hSw => ?hyQ12⟩) (by assumption) ?restQ12
  case hyQ12 => (obtain ⟨s1, s2, s3, s4, s5⟩ := hSw; go_simp; first | done | with_reducible rfl)
  try simp only [Act.put, List.setIfInBounds_toArray, List.set_cons_zero, List.set_cons_succ]
  refine take_dst (some 66) (i := 13) (v := r.v) rfl rfl (by kernel_rfl) (by kernel_rfl) (by kernel_rfl) (fun _ _ _ h => h) (yieldsIf_load_mid (by rfl) 36 _ rfl (w.heap.size + 1) 0 rfl r.cells _ (fun wS hSw => by obtain ⟨s1, s2, s3, s4, s5⟩ := hSw; exact s4) Tryd.underlying36 rfl (by rw [ob_len]; exact ob_sz)) (by assumption) ?restQ13
  try simp only [Act.put, List.setIfInBounds_toArray, List.set_cons_zero, List.set_cons_succ]
  refine take_dst (some 68) (i := 15) (v := dv d.1) rfl rfl (by kernel_rfl) (by kernel_rfl) (by kernel_rfl) (fun _ _ _ h => h) (yieldsIf_load_mid (by rfl) 29 _ rfl w.heap.size 0 rfl (bcells d.1) _ (fun wS hSw => by obtain ⟨s1, s2, s3, s4, s5⟩ := hSw; exact s3) Tryd.underlying29 rfl (by rw [bcells_length, Hdl.out]; exact dig_sz)) (by assumption) ?restQ15
  try simp only [Act.put, List.setIfInBounds_toArray, List.set_cons_zero, List.set_cons_succ]
  refine take_dst (some 69) (i := 16) (v := ?vQ16) rfl rfl (by kernel_rfl) (by kernel_rfl) (by kernel_rfl) (fun _ _ _ h => h) (Or.inl ⟨by rfl, fun wS hSw => ?hyQ16⟩) (by assumption) ?restQ16
  case hyQ16 => (obtain ⟨s1, s2, s3, s4, s5⟩ := hSw; go_simp; first | done | with_reducible rfl)
  try simp only [Act.put, List.setIfInBounds_toArray, List.set_cons_zero, List.set_cons_succ]
  refine take_dst (some 70) (i := 17) (v := ?vQ17) rfl rfl (by kernel_rfl) (by kernel_rfl) (by kernel_rfl) (fun _ _ _ h => h) (Or.inl ⟨by rfl, fun wS hSw => ?hyQ17⟩) (by assumption) ?restQ17
  case hyQ17 => (obtain ⟨s1, s2, s3, s4, s5⟩ := hSw; go_simp; first | done | with_reducible rfl)
  try simp only [Act.put, List.setIfInBounds_toArray, List.set_cons_zero, List.set_cons_succ]
  refine take_dst (some 71) (i := 18) (v := ?vQ18) rfl rfl (by kernel_rfl) (by kernel_rfl) (by kernel_rfl) (fun _ _ _ h => h) (Or.inl ⟨by rfl, fun wS hSw => ?hyQ18⟩) (by assumption) ?restQ18
  case hyQ18 => (obtain ⟨s1, s2, s3, s4, s5⟩ := hSw; go_simp; first | done | with_reducible rfl)
  try simp only [Act.put, List.setIfInBounds_toArray, List.set_cons_zero, List.set_cons_succ]
  refine take_dst (some 72) (i := 19) (v := r.v) rfl rfl (by kernel_rfl) (by kernel_rfl) (by kernel_rfl) (fun _ _ _ h => h) (yieldsIf_load_mid (by rfl) 36 _ rfl (w.heap.size + 1) 0 rfl r.cells _ (fun wS hSw => by obtain ⟨s1, s2, s3, s4, s5⟩ := hSw; exact s4) Tryd.underlying36 rfl (by rw [ob_len]; exact ob_sz)) (by assumption) ?restQ19
  try simp only [Act.put, List.setIfInBounds_toArray, List.set_cons_zero, List.set_cons_succ]
  refine wpAnyH_ready (rs := [14]) (by kernel_rfl) (by simp) ?_
  refine AllReadyH.cons rfl (fun K hK => ?_) AllReadyH.nil
  go_simp
  refine (HV1.out u1 K1.out M1.out).mono ?_
  rintro e u2 ⟨rfl, hb2⟩
  have K2 := Lib.hid (K1.out.ext hb2); have M2 := Lib.hid (M1.out.ext hb2)
  clear hb2 K1 M1
  refine hK.out _ _ ⟨cb_rng0 K2.out.x, cb_rng0 K2.out.y, cb_rng0 K2.out.d, cb_rng0 K2.out.o, cb_rng0 K2.out.own⟩ (fun hHeld => ?_)
  clear hK K
  try simp only [Act.put, List.setIfInBounds_toArray, List.set_cons_zero, List.set_cons_succ]
  refine wpAnyH_ready (rs := [20]) (by kernel_rfl) (by simp) ?_
  refine AllReadyH.cons rfl (fun K hK => ?_) AllReadyH.nil
  go_simp
  refine (HV2.out u2 K2.out M2.out).mono ?_
  rintro e u3 ⟨rfl, hb3⟩
  have K3 := Lib.hid (K2.out.ext hb3); have M3 := Lib.hid (M2.out.ext hb3)
  clear hb3 K2 M2
  refine hK.out _ _ ⟨cb_rng0 K3.out.x, cb_rng0 K3.out.y, cb_rng0 K3.out.d, cb_rng0 K3.out.o, cb_rng0 K3.out.own⟩ (fun hHeld => ?_)
  clear hK K
  try simp only [Act.put, List.setIfInBounds_toArray, List.set_cons_zero, List.set_cons_succ]
  refine take_dst (some 74) (i := 21) (v := ?vQ21) rfl rfl (by kernel_rfl) (by kernel_rfl) (by kernel_rfl) (fun _ _ _ h => h) (Or.inl ⟨by rfl, fun wS hSw => ?hyQ21⟩) (by assumption) ?restQ21
  case hyQ21 => (obtain ⟨s1, s2, s3, s4, s5⟩ := hSw; go_simp; first | done | with_reducible rfl)
  try simp only [Act.put, List.setIfInBounds_toArray, List.set_cons_zero, List.set_cons_succ]
  refine take_dst (some 75) (i := 22) (v := ?vQ22) rfl rfl (by kernel_rfl) (by kernel_rfl) (by kernel_rfl) (fun _ _ _ h => h) (Or.inl ⟨by rfl, fun wS hSw => ?hyQ22⟩) (by assumption) ?restQ22
  case hyQ22 => (obtain ⟨s1, s2, s3, s4, s5⟩ := hSw; go_simp; first | done | with_reducible rfl)
  try simp only [Act.put, List.setIfInBounds_toArray, List.set_cons_zero, List.set_cons_succ]
  refine take_dst (some 76) (i := 23) (v := ?vQ23) rfl rfl (by kernel_rfl) (by kernel_rfl) (by kernel_rfl) (fun _ _ _ h => h) (Or.inl ⟨by rfl, fun wS hSw => ?hyQ23⟩) (by assumption) ?restQ23
  case hyQ23 => (obtain ⟨s1, s2, s3, s4, s5⟩ := hSw; go_simp; first | done | with_reducible rfl)
  try simp only [Act.put, List.setIfInBounds_toArray, List.set_cons_zero, List.set_cons_succ]
  refine take_dst (some 77) (i := 24) (v := dv D.1) rfl rfl (by kernel_rfl) (by kernel_rfl) (by kernel_rfl) (fun _ _ _ h => h) (yieldsIf_load_mid (by rfl) 29 _ rfl g21 0 rfl (bcells D.1) _ (fun wS hSw => by obtain ⟨s1, s2, s3, s4, s5⟩ := hSw; exact s5) Tryd.underlying29 rfl (by rw [bcells_length, HDl.out]; exact dig_sz)) (by assumption) ?restQ24
  try simp only [Act.put, List.setIfInBounds_toArray, List.set_cons_zero, List.set_cons_succ]
  refine take_dst (some 78) (i := 25) (v := ?vQ25) rfl rfl (by kernel_rfl) (by kernel_rfl) (by kernel_rfl) (fun _ _ _ h => h) (Or.inl ⟨by rfl, fun wS hSw => ?hyQ25⟩) (by assumption) ?restQ25
  case hyQ25 => (obtain ⟨s1, s2, s3, s4, s5⟩ := hSw; go_simp; first | done | with_reducible rfl)
  try simp only [Act.put, List.setIfInBounds_toArray, List.set_cons_zero, List.set_cons_succ]
  refine take_dst (some 79) (i := 26) (v := ?vQ26) rfl rfl (by kernel_rfl) (by kernel_rfl) (by kernel_rfl) (fun _ _ _ h => h) (Or.inl ⟨by rfl, fun wS hSw => ?hyQ26⟩) (by assumption) ?restQ26
  case hyQ26 => (obtain ⟨s1, s2, s3, s4, s5⟩ := hSw; go_simp; first | done | with_reducible rfl)
  try simp only [Act.put, List.setIfInBounds_toArray, List.set_cons_zero, List.set_cons_succ]
  refine take_dst (some 80) (i := 27) (v := ?vQ27) rfl rfl (by kernel_rfl) (by kernel_rfl) (by kernel_rfl) (fun _ _ _ h => h) (Or.inl ⟨by rfl, fun wS hSw => ?hyQ27⟩) (by assumption) ?restQ27
  case hyQ27 => (obtain ⟨s1, s2, s3, s4, s5⟩ := hSw; go_simp; first | done | with_reducible rfl)
  try simp only [Act.put, List.setIfInBounds_toArray, List.set_cons_zero, List.set_cons_succ]
  refine take_dst (some 81) (i := 28) (v := r19.v) rfl rfl (by kernel_rfl) (by kernel_rfl) (by kernel_rfl) (fun _ _ _ h => h) (yieldsIf_load_mid (by rfl) 36 _ rfl g19 0 rfl r19.cells _ (fun wS hSw => by obtain ⟨s1, s2, s3, s4, s5⟩ := hSw; exact s2) Tryd.underlying36 rfl (by rw [ob_len]; exact ob_sz)) (by assumption) ?restQ28
  try simp only [Act.put, List.setIfInBounds_toArray, List.set_cons_zero, List.set_cons_succ]
  refine take_dst (some 83) (i := 30) (v := dv D.1) rfl rfl (by kernel_rfl) (by kernel_rfl) (by kernel_rfl) (fun _ _ _ h => h) (yieldsIf_load_mid (by rfl) 29 _ rfl g21 0 rfl (bcells D.1) _ (fun wS hSw => by obtain ⟨s1, s2, s3, s4, s5⟩ := hSw; exact s5) Tryd.underlying29 rfl (by rw [bcells_length, HDl.out]; exact dig_sz)) (by assumption) ?restQ30
  try simp only [Act.put, List.setIfInBounds_toArray, List.set_cons_zero, List.set_cons_succ]
  refine take_dst (some 84) (i := 31) (v := ?vQ31) rfl rfl (by kernel_rfl) (by kernel_rfl) (by kernel_rfl) (fun _ _ _ h => h) (Or.inl ⟨by rfl, fun wS hSw => ?hyQ31⟩) (by assumption) ?restQ31
  case hyQ31 => (obtain ⟨s1, s2, s3, s4, s5⟩ := hSw; go_simp; first | done | with_reducible rfl)
  try simp only [Act.put, List.setIfInBounds_toArray, List.set_cons_zero, List.set_cons_succ]
  refine take_dst (some 85) (i := 32) (v := ?vQ32) rfl rfl (by kernel_rfl) (by kernel_rfl) (by kernel_rfl) (fun _ _ _ h => h) (Or.inl ⟨by rfl, fun wS hSw => ?hyQ32⟩) (by assumption) ?restQ32
  case hyQ32 => (obtain ⟨s1, s2, s3, s4, s5⟩ := hSw; go_simp; first | done | with_reducible rfl)
  try simp only [Act.put, List.setIfInBounds_toArray, List.set_cons_zero, List.set_cons_succ]
  refine take_dst (some 86) (i := 33) (v := ?vQ33) rfl rfl (by kernel_rfl) (by kernel_rfl) (by kernel_rfl) (fun _ _ _ h => h) (Or.inl ⟨by rfl, fun wS hSw => ?hyQ33⟩) (by assumption) ?restQ33
  case hyQ33 => (obtain ⟨s1, s2, s3, s4, s5⟩ := hSw; go_simp; first | done | with_reducible rfl)
  try simp only [Act.put, List.setIfInBounds_toArray, List.set_cons_zero, List.set_cons_succ]
  refine take_dst (some 87) (i := 34) (v := r19.v) rfl rfl (by kernel_rfl) (by kernel_rfl) (by kernel_rfl) (fun _ _ _ h => h) (yieldsIf_load_mid (by rfl) 36 _ rfl g19 0 rfl r19.cells _ (fun wS hSw => by obtain ⟨s1, s2, s3, s4, s5⟩ := hSw; exact s2) Tryd.underlying36 rfl (by rw [ob_len]; exact ob_sz)) (by assumption) ?restQ34
  try simp only [Act.put, List.setIfInBounds_toArray, List.set_cons_zero, List.set_cons_succ]
  refine wpAnyH_ready (rs := [29]) (by kernel_rfl) (by simp) ?_
  refine AllReadyH.cons rfl (fun K hK => ?_) AllReadyH.nil
  go_simp
  refine (HV3.out u3 K3.out M3.out).mono ?_
  rintro e u4 ⟨rfl, hb4⟩
  have K4 := Lib.hid (K3.out.ext hb4); have M4 := Lib.hid (M3.out.ext hb4)
  clear hb4 K3 M3
  refine hK.out _ _ ⟨cb_rng0 K4.out.x, cb_rng0 K4.out.y, cb_rng0 K4.out.d, cb_rng0 K4.out.o, cb_rng0 K4.out.own⟩ (fun hHeld => ?_)
  clear hK K
  try simp only [Act.put, List.setIfInBounds_toArray, List.set_cons_zero, List.set_cons_succ]
  refine wpAnyH_ready (rs := [35]) (by kernel_rfl) (by simp) ?_
  refine AllReadyH.cons rfl (fun K hK => ?_) AllReadyH.nil
  go_simp
  refine (HV4.out u4 K4.out M4.out).mono ?_
  rintro e u5 ⟨rfl, hb5⟩
  have K5 := Lib.hid (K4.out.ext hb5); have M5 := Lib.hid (M4.out.ext hb5)
  clear hb5 K4 M4
  refine hK.out _ _ ⟨cb_rng0 K5.out.x, cb_rng0 K5.out.y, cb_rng0 K5.out.d, cb_rng0 K5.out.o, cb_rng0 K5.out.own⟩ (fun hHeld => ?_)
  clear hK K
  try simp only [Act.put, List.setIfInBounds_toArray, List.set_cons_zero, List.set_cons_succ]
  refine take_dst (some 89) (i := 36) (v := ?vQ36) rfl rfl (by kernel_rfl) (by kernel_rfl) (by kernel_rfl) (fun _ _ _ h => h) (Or.inl ⟨by rfl, fun wS hSw => ?hyQ36⟩) (by assumption) ?restQ36
  case hyQ36 => (obtain ⟨s1, s2, s3, s4, s5⟩ := hSw; go_simp; first | done | with_reducible rfl)
  try simp only [Act.put, List.setIfInBounds_toArray, List.set_cons_zero, List.set_cons_succ]
  refine take_dst (some 90) (i := 37) (v := ?vQ37) rfl rfl (by kernel_rfl) (by kernel_rfl) (by kernel_rfl) (fun _ _ _ h => h) (Or.inl ⟨by rfl, fun wS hSw => ?hyQ37⟩) (by assumption) ?restQ37
  case hyQ37 => (obtain ⟨s1, s2, s3, s4, s5⟩ := hSw; go_simp; first | done | with_reducible rfl)
  try simp only [Act.put, List.setIfInBounds_toArray, List.set_cons_zero, List.set_cons_succ]
  refine take_dst (some 91) (i := 38) (v := ?vQ38) rfl rfl (by kernel_rfl) (by kernel_rfl) (by kernel_rfl) (fun _ _ _ h => h) (Or.inl ⟨by rfl, fun wS hSw => ?hyQ38⟩) (by assumption) ?restQ38
  case hyQ38 => (obtain ⟨s1, s2, s3, s4, s5⟩ := hSw; go_simp; first | done | with_reducible rfl)
  try simp only [Act.put, List.setIfInBounds_toArray, List.set_cons_zero, List.set_cons_succ]
  refine take_dst (some 92) (i := 39) (v := dv D.1) rfl rfl (by kernel_rfl) (by kernel_rfl) (by kernel_rfl) (fun _ _ _ h => h) (yieldsIf_load_mid (by rfl) 29 _ rfl g21 0 rfl (bcells D.1) _ (fun wS hSw => by obtain ⟨s1, s2, s3, s4, s5⟩ := hSw; exact s5) Tryd.underlying29 rfl (by rw [bcells_length, HDl.out]; exact dig_sz)) (by assumption) ?restQ39
  try simp only [Act.put, List.setIfInBounds_toArray, List.set_cons_zero, List.set_cons_succ]
  refine take_dst (some 93) (i := 40) (v := ?vQ40) rfl rfl (by kernel_rfl) (by kernel_rfl) (by kernel_rfl) (fun _ _ _ h => h) (Or.inl ⟨by rfl, fun wS hSw => ?hyQ40⟩) (by assumption) ?restQ40
  case hyQ40 => (obtain ⟨s1, s2, s3, s4, s5⟩ := hSw; go_simp; first | done | with_reducible rfl)
  try simp only [Act.put, List.setIfInBounds_toArray, List.set_cons_zero, List.set_cons_succ]
  refine take_dst (some 94) (i := 41) (v := ?vQ41) rfl rfl (by kernel_rfl) (by kernel_rfl) (by kernel_rfl) (fun _ _ _ h => h) (Or.inl ⟨by rfl, fun wS hSw => ?hyQ41⟩) (by assumption) ?restQ41
  case hyQ41 => (obtain ⟨s1, s2, s3, s4, s5⟩ := hSw; go_simp; first | done | with_reducible rfl)
  try simp only [Act.put, List.setIfInBounds_toArray, List.set_cons_zero, List.set_cons_succ]
  refine take_dst (some 95) (i := 42) (v := ?vQ42) rfl rfl (by kernel_rfl) (by kernel_rfl) (by kernel_rfl) (fun _ _ _ h => h) (Or.inl ⟨by rfl, fun wS hSw => ?hyQ42⟩) (by assumption) ?restQ42
  case hyQ42 => (obtain ⟨s1, s2, s3, s4, s5⟩ := hSw; go_simp; first | done | with_reducible rfl)
  try simp only [Act.put, List.setIfInBounds_toArray, List.set_cons_zero, List.set_cons_succ]
  refine take_dst (some 96) (i := 43) (v := r.v) rfl rfl (by kernel_rfl) (by kernel_rfl) (by kernel_rfl) (fun _ _ _ h => h) (yieldsIf_load_mid (by rfl) 36 _ rfl (w.heap.size + 1) 0 rfl r.cells _ (fun wS hSw => by obtain ⟨s1, s2, s3, s4, s5⟩ := hSw; exact s4) Tryd.underlying36 rfl (by rw [ob_len]; exact ob_sz)) (by assumption) ?restQ43
  try simp only [Act.put, List.setIfInBounds_toArray, List.set_cons_zero, List.set_cons_succ]
  refine take_dst (some 98) (i := 45) (v := dv D.1) rfl rfl (by kernel_rfl) (by kernel_rfl) (by kernel_rfl) (fun _ _ _ h => h) (yieldsIf_load_mid (by rfl) 29 _ rfl g21 0 rfl (bcells D.1) _ (fun wS hSw => by obtain ⟨s1, s2, s3, s4, s5⟩ := hSw; exact s5) Tryd.underlying29 rfl (by rw [bcells_length, HDl.out]; exact dig_sz)) (by assumption) ?restQ45
  try simp only [Act.put, List.setIfInBounds_toArray, List.set_cons_zero, List.set_cons_succ]
  refine take_dst (some 99) (i := 46) (v := ?vQ46) rfl rfl (by kernel_rfl) (by kernel_rfl) (by kernel_rfl) (fun _ _ _ h => h) (Or.inl ⟨by rfl, fun wS hSw => ?hyQ46⟩) (by assumption) ?restQ46
  case hyQ46 => (obtain ⟨s1, s2, s3, s4, s5⟩ := hSw; go_simp; first | done | with_reducible rfl)
  try simp only [Act.put, List.setIfInBounds_toArray, List.set_cons_zero, List.set_cons_succ]
  refine take_dst (some 100) (i := 47) (v := ?vQ47) rfl rfl (by kernel_rfl) (by kernel_rfl) (by kernel_rfl) (fun _ _ _ h => h) (Or.inl ⟨by rfl, fun wS hSw => ?hyQ47⟩) (by assumption) ?restQ47
  case hyQ47 => (obtain ⟨s1, s2, s3, s4, s5⟩ := hSw; go_simp; first | done | with_reducible rfl)
  try simp only [Act.put, List.setIfInBounds_toArray, List.set_cons_zero, List.set_cons_succ]
  refine take_dst (some 101) (i := 48) (v := ?vQ48) rfl rfl (by kernel_rfl) (by kernel_rfl) (by kernel_rfl) (fun _ _ _ h => h) (Or.inl ⟨by rfl, fun wS hSw => ?hyQ48⟩) (by assumption) ?restQ48
  case hyQ48 => (obtain ⟨s1, s2, s3, s4, s5⟩ := hSw; go_simp; first | done | with_reducible rfl)
  try simp only [Act.put, List.setIfInBounds_toArray, List.set_cons_zero, List.set_cons_succ]
  refine take_dst (some 102) (i := 49) (v := r.v) rfl rfl (by kernel_rfl) (by kernel_rfl) (by kernel_rfl) (fun _ _ _ h => h) (yieldsIf_load_mid (by rfl) 36 _ rfl (w.heap.size + 1) 0 rfl r.cells _ (fun wS hSw => by obtain ⟨s1, s2, s3, s4, s5⟩ := hSw; exact s4) Tryd.underlying36 rfl (by rw [ob_len]; exact ob_sz)) (by assumption) ?restQ49
  try simp only [Act.put, List.setIfInBounds_toArray, List.set_cons_zero, List.set_cons_succ]
  refine wpAnyH_ready (rs := [44]) (by kernel_rfl) (by simp) ?_
  refine AllReadyH.cons rfl (fun K hK => ?_) AllReadyH.nil
  go_simp
  refine (HV5.out u5 K5.out M5.out).mono ?_
  rintro e u6 ⟨rfl, hb6⟩
  have K6 := Lib.hid (K5.out.ext hb6); have M6 := Lib.hid (M5.out.ext hb6)
  clear hb6 K5 M5
  refine hK.out _ _ ⟨cb_rng0 K6.out.x, cb_rng0 K6.out.y, cb_rng0 K6.out.d, cb_rng0 K6.out.o, cb_rng0 K6.out.own⟩ (fun hHeld => ?_)
  clear hK K
  try simp only [Act.put, List.setIfInBounds_toArray, List.set_cons_zero, List.set_cons_succ]
  refine wpAnyH_ready (rs := [50]) (by kernel_rfl) (by simp) ?_
  refine AllReadyH.cons rfl (fun K hK => ?_) AllReadyH.nil
  go_simp
  refine (HV6.out u6 K6.out M6.out).mono ?_
  rintro e u7 ⟨rfl, hb7⟩
  have K7 := Lib.hid (K6.out.ext hb7); have M7 := Lib.hid (M6.out.ext hb7)
  clear hb7 K6 M6
  refine hK.out _ _ ⟨cb_rng0 K7.out.x, cb_rng0 K7.out.y, cb_rng0 K7.out.d, cb_rng0 K7.out.o, cb_rng0 K7.out.own⟩ (fun hHeld => ?_)
  clear hK K
  try simp only [Act.put, List.setIfInBounds_toArray, List.set_cons_zero, List.set_cons_succ]
  refine take_dst (some 104) (i := 51) (v := ?vQ51) rfl rfl (by kernel_rfl) (by kernel_rfl) (by kernel_rfl) (fun _ _ _ h => h) (Or.inl ⟨by rfl, fun wS hSw => ?hyQ51⟩) (by assumption) ?restQ51
  case hyQ51 => (obtain ⟨s1, s2, s3, s4, s5⟩ := hSw; go_simp; first | done | with_reducible rfl)
  try simp only [Act.put, List.setIfInBounds_toArray, List.set_cons_zero, List.set_cons_succ]
  refine take_dst (some 105) (i := 52) (v := ?vQ52) rfl rfl (by kernel_rfl) (by kernel_rfl) (by kernel_rfl) (fun _ _ _ h => h) (Or.inl ⟨by rfl, fun wS hSw => ?hyQ52⟩) (by assumption) ?restQ52
  case hyQ52 => (obtain ⟨s1, s2, s3, s4, s5⟩ := hSw; go_simp; first | done | with_reducible rfl)
  try simp only [Act.put, List.setIfInBounds_toArray, List.set_cons_zero, List.set_cons_succ]
  refine take_dst (some 16) (i := 53) (v := ?vQ53) rfl rfl (by kernel_rfl) (by kernel_rfl) (by kernel_rfl) (fun _ _ _ h => h) (Or.inl ⟨by rfl, fun wS hSw => ?hyQ53⟩) (by assumption) ?restQ53
  case hyQ53 => (obtain ⟨s1, s2, s3, s4, s5⟩ := hSw; go_simp; first | done | with_reducible rfl)
  try simp only [Act.put, List.setIfInBounds_toArray, List.set_cons_zero, List.set_cons_succ]
  refine wpAnyH_done (by kernel_rfl) ?_ _
  go_wp2_with fail
  go_ret
  exact ⟨rfl, K7.out.b⟩
end Go.Proofs.YtbonebmboolemaaDoor
