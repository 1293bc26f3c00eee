/- CommitmentRefuses, walked (printed by gen36f.py). -/
import Derived.Test.YtbonebmboolemaaDoorK40
namespace Go.Proofs.YtbonebmboolemaaDoor
open Go.RowKit
theorem ob_set36 (r : Ob) (a : Option Addr) (n c : Nat) : r.cells.set 36 (.slice a n c) = Ob.cells ⟨r.air, r.fl, r.slot, r.cost, r.salt, a, n, c⟩ := by
  have h : (bcells r.salt.1 ++ [r.pv]).set 32 (.slice a n c) = bcells r.salt.1 ++ [.slice a n c] := by
    have hl : (bcells r.salt.1).length = 32 := by rw [bcells_length, r.salt.2]
    rw [List.set_append_right _ _ (by omega), hl]; rfl
  show _ :: _ :: _ :: _ :: (bcells r.salt.1 ++ [r.pv]).set 32 (.slice a n c) = _
  rw [h]; rfl
structure RfRel (d : Dg) (r : Ob) (w : World) (g9 g11 : Nat) (vi : Value) (wr : World) : Prop where
  h : ∃ i : Nat, vi = .int .i64 (i : Int) ∧ i ≤ 7 ∧ CB wr g9 29 (bcells d.1) ∧ CB wr g11 36 r.cells ∧ Below w.heap.size w wr
theorem cb_two {w : World} {g : Nat} {t u : TypeId} {cs ds : List Value} (h : CB w g t cs) (k : CB w g u ds) (hne : t ≠ u) : False := by
  unfold CB at h k
  rw [h] at k
  injection k with k
  injection k with _ k _
  exact hne k
theorem verE_two (d : Dg) (air t s : Int) (p : Opn) : verE d air t s p = 0 ∧ verB d air t s p = true ∨ verE d air t s p = 360 := by
  unfold verE
  cases h : verB d air t s p
  · exact .inr rfl
  · exact .inl ⟨rfl, rfl⟩
set_option maxRecDepth 100000 in
set_option maxHeartbeats 16000000 in
theorem refuses36_walk (l : List Tab) (v : Value) (a s bb : Int) (w : World) (hl : TabsAt w l v) (hby : 0 ≤ bb ∧ bb ≤ 255) (hLd : Laid w) :
    Calls Tryd.prog 7 #[v, .int .i64 a, .int .i64 s, .int .u8 bb] w (TruePost w) := by
  have HL := Lib.hid hl; have HLd := Lib.hid hLd
  obtain ⟨oa, cap, rfl, hlc, hlm⟩ := hl.shape
  obtain ⟨hby0, hby1⟩ := hby
  clear hl hLd
  go_enter Tryd.func7, Tryd.ntmps7
  go_upto_region 3 with (go_at_call 9; refine (sane36_any w HLd.out).mono ?_; rintro e w1 ⟨rfl, hb1⟩)
  have HB1 := Lib.hid hb1
  have HF := Lib.hid (few_any l _ w1 (HL.out.ext HB1.out))
  clear hb1
  by_cases hf : fewT l = true
  case neg =>
    have hf' : fewT l = false := by simpa using hf
    rw [hf'] at HF
    clear hf hf'
    go_wp2_with (go_at_call 10; refine HF.out.mono ?_; rintro e w2 ⟨rfl, rfl⟩)
    go_ret
    exact ⟨rfl, HB1.out⟩
  case pos =>
  rw [hf] at HF
  have hf10 : l.length ≤ 10 := by unfold fewT at hf; simp only [Bool.and_eq_true, decide_eq_true_eq] at hf; exact hf.2
  have bl : (l.length : Int) ≤ 10 := by omega
  clear hf hf10 hlc hlm
  have HC1 := Lib.hid (commit_any l _ w1 (HL.out.ext HB1.out) (HLd.out.ext HB1.out))
  obtain ⟨d, hd⟩ : ∃ d, commitD l = d := ⟨_, rfl⟩
  rw [hd] at HC1
  have HD := Lib.hid hd
  have Hdl := Lib.hid d.2
  obtain ⟨q, hq⟩ : ∃ q, openO l a s = q := ⟨_, rfl⟩
  have HQ := Lib.hid hq
  clear hd hq
  by_cases hob : openB l a s = true
  case neg =>
    have HOe := Lib.hid (open_no hob).2
    obtain ⟨z, hz⟩ : ∃ z, commitE l = z := ⟨_, rfl⟩
    rw [hz] at HC1
    clear hob hz
    by_cases hz0 : z = 0
    · subst hz0
      go_wp2_with (first
        | (go_at_call 10; refine HF.out.mono ?_; rintro e w2 ⟨rfl, rfl⟩)
        | (go_at_call 13; refine HC1.out.mono ?_; go_loud (
            rintro e w2 ⟨rfl, hb2⟩
            have HB2 := Lib.hid (below_ext HB1.out hb2)
            have HZ : Hid ((w2.alloc ZD).heap[w2.heap.size]? = some (.cells (bcells dgZ.1).toArray 29 (0, 0))) := cb_one w2 ZD _ _ rfl
            clear hb2 HC1))
        | ((refine wpList_store_d (hgd := rfl) 29 (.tmp 9) (.tmp 30) rfl w2.heap.size d.1 Hdl.out rfl rfl 29 _ HZ.out rfl dig_sz ?_); go_loud (
            intro w3 hc3 hg3 hz3
            have hb3 : Below w2.heap.size w2 w3 := (b_al (w := w2) ZD).grown hg3.out (by rw [World.size_alloc]; omega) (fun k hk => by injection hk; omega)
            have HB3 := Lib.hid (below_ext HB2.out hb3)
            have HC2 := Lib.hid (open_any l a s _ w3 (HL.out.ext HB3.out) (HLd.out.ext HB3.out))
            unfold OpenPost at HC2
            rw [HOe.out, HQ.out] at HC2
            clear hb3 hg3 hz3 HB2 HZ))
        | (go_at_call 15; refine HC2.out.mono ?_; go_loud (
            rintro e w4 ⟨r4, rfl, hr4, hb4⟩
            have HB4 := Lib.hid (below_ext HB3.out hb4)
            have HD4 : Hid (CB w4 w2.heap.size 29 (bcells d.1)) := hc3.out.ext hb4
            have HR4 := Lib.hid hr4
            have HZ4 : Hid ((w4.alloc ZO).heap[w4.heap.size]? = some (.cells obZ.cells.toArray 36 (0, 0))) := cb_one w4 ZO _ _ rfl
            clear hb4 hr4 hc3 HB3 HC2))
        | ((refine wpList_store_ob (hgd := rfl) 36 (.tmp 11) (.tmp 37) rfl w4.heap.size r4 rfl rfl 36 _ HZ4.out rfl ob_sz ?_); go_loud (
            intro w5 hc5 hg5 hz5
            have hb5 : Below w4.heap.size w4 w5 := (b_al (w := w4) ZO).grown hg5.out (by rw [World.size_alloc]; omega) (fun k hk => by injection hk; omega)
            have HB5 := Lib.hid (below_ext HB4.out hb5); have HD5 := Lib.hid (HD4.out.ext hb5); have HR5 := Lib.hid (HR4.out.ext hb5)
            clear hb5 hg5 hz5 HB4 HD4 HR4 HZ4)))
      go_ret
      exact ⟨rfl, HB5.out⟩
    · have tz : decide (z = 0) = false := decide_eq_false hz0
      go_wp2_with (first
        | (go_at_call 10; refine HF.out.mono ?_; rintro e w2 ⟨rfl, rfl⟩)
        | (go_at_call 13; refine HC1.out.mono ?_; go_loud (
            rintro e w2 ⟨rfl, hb2⟩
            have HB2 := Lib.hid (below_ext HB1.out hb2)
            have HZ : Hid ((w2.alloc ZD).heap[w2.heap.size]? = some (.cells (bcells dgZ.1).toArray 29 (0, 0))) := cb_one w2 ZD _ _ rfl
            clear hb2 HC1))
        | ((refine wpList_store_d (hgd := rfl) 29 (.tmp 9) (.tmp 30) rfl w2.heap.size d.1 Hdl.out rfl rfl 29 _ HZ.out rfl dig_sz ?_); go_loud (
            intro w3 hc3 hg3 hz3
            have hb3 : Below w2.heap.size w2 w3 := (b_al (w := w2) ZD).grown hg3.out (by rw [World.size_alloc]; omega) (fun k hk => by injection hk; omega)
            have HB3 := Lib.hid (below_ext HB2.out hb3)
            have HC2 := Lib.hid (open_any l a s _ w3 (HL.out.ext HB3.out) (HLd.out.ext HB3.out))
            unfold OpenPost at HC2
            rw [HOe.out, HQ.out] at HC2
            clear hb3 hg3 hz3 HB2 HZ))
        | (go_at_call 15; refine HC2.out.mono ?_; go_loud (
            rintro e w4 ⟨r4, rfl, hr4, hb4⟩
            have HB4 := Lib.hid (below_ext HB3.out hb4)
            have HD4 : Hid (CB w4 w2.heap.size 29 (bcells d.1)) := hc3.out.ext hb4
            have HR4 := Lib.hid hr4
            have HZ4 : Hid ((w4.alloc ZO).heap[w4.heap.size]? = some (.cells obZ.cells.toArray 36 (0, 0))) := cb_one w4 ZO _ _ rfl
            clear hb4 hr4 hc3 HB3 HC2))
        | ((refine wpList_store_ob (hgd := rfl) 36 (.tmp 11) (.tmp 37) rfl w4.heap.size r4 rfl rfl 36 _ HZ4.out rfl ob_sz ?_); go_loud (
            intro w5 hc5 hg5 hz5
            have hb5 : Below w4.heap.size w4 w5 := (b_al (w := w4) ZO).grown hg5.out (by rw [World.size_alloc]; omega) (fun k hk => by injection hk; omega)
            have HB5 := Lib.hid (below_ext HB4.out hb5); have HD5 := Lib.hid (HD4.out.ext hb5); have HR5 := Lib.hid (HR4.out.ext hb5)
            clear hb5 hg5 hz5 HB4 HD4 HR4 HZ4)))
      go_ret
      exact ⟨rfl, HB5.out⟩
  case pos =>
  obtain ⟨i0, k0, t, c, ha, hs, ht, hc, hv, hlen⟩ := open_parts hob
  obtain ⟨-, hoo1, hoe1⟩ := open_yes hv ht hc
  have hoo : openO l a s = ⟨t.air, t.fl, (k0 : Int), c, t.salt, pathD (leavesT t) k0 ++ pathD (digestsT l) i0⟩ := by rw [ha, hs]; exact hoo1
  have hoe : openE l a s = 0 := by rw [ha, hs]; exact hoe1
  clear hoo1 hoe1
  have HOe := Lib.hid hoe
  have hce : commitE l = 0 := by unfold commitE; rw [if_pos hv]
  rw [hce] at HC1
  have hl1 := valid_len hv
  obtain ⟨tz, htz⟩ : ∃ t, l[0]? = some t := ⟨_, List.getElem?_eq_getElem (by omega)⟩
  obtain ⟨b, off, rz, rfl, hbz, helz, hrz⟩ := HL.out.el htz
  rw [Nat.zero_mul, Nat.add_zero] at helz
  obtain ⟨zc1, -, zc3⟩ := el_tb helz
  rw [gd htz] at hlen
  have hair : t.air = tz.air := by have := (valid_at hv ht).2.1; rw [gd htz] at this; exact this
  obtain ⟨zo, zm, zc, hzv⟩ : ∃ a b c, rz.cv = .slice a b c := ⟨_, _, _, rfl⟩
  have hzm : zm = t.costs.length := by
    obtain ⟨_, _, he, _⟩ := hrz.cs.shape
    rw [hzv] at he
    injection he with _ e2 _
    rw [e2, hlen]
  subst hzm
  rw [hrz.air, ← hair] at zc1
  rw [hzv] at zc3
  have hok := (valid_at hv ht).1
  unfold okT knownB at hok
  simp only [Bool.and_eq_true, decide_eq_true_eq] at hok
  obtain ⟨⟨⟨⟨⟨⟨k1, k2⟩, -⟩, -⟩, k5⟩, k6⟩, -⟩ := hok
  obtain ⟨ta, hta⟩ : ∃ x, t.air = x := ⟨_, rfl⟩
  obtain ⟨S, hS⟩ : ∃ x, t.costs.length = x := ⟨_, rfl⟩
  have Hver : Hid (verB d ta l.length S q = true) := by
    show _ = _
    rw [← HD.out, ← HQ.out, ← hta, ← hS, ha, hs]
    exact open_ver hv ht hc
  have Hqa : Hid (q.air = ta) := by show _ = _; rw [← HQ.out, hoo]; exact hta
  have Hqs : Hid (q.slot = (k0 : Int) ∧ k0 < S) := ⟨by rw [← HQ.out, hoo], by have := (List.getElem?_eq_some_iff.1 hc).1; omega⟩
  have Hql : Hid (q.path.length ≤ 6) := by show _ ≤ _; rw [← HQ.out]; exact open_len l a s
  rw [hta] at zc1 k1 k2
  rw [hS] at zc3 k5 k6
  have Z1 := Lib.hid zc1; have Z3 := Lib.hid zc3
  have b0 : (0 : Int) < (l.length : Int) := by omega
  have b0' : 0 < l.length := by omega
  have bT : (l.length : Int) ≤ 8 := by omega
  have bS : (S : Int) ≤ 8 := by omega
  clear hob hoe hce hl1 ht hc hv hlen hair htz hbz helz hrz zc1 zc3 hzv hoo hta hS ha hs
  go_upto_region 9 with (first
    | (go_at_call 10; refine HF.out.mono ?_; rintro e w2 ⟨rfl, rfl⟩)
    | (go_at_call 13; refine HC1.out.mono ?_; go_loud (
        rintro e w2 ⟨rfl, hb2⟩
        have HB2 := Lib.hid (below_ext HB1.out hb2)
        have HZ : Hid ((w2.alloc ZD).heap[w2.heap.size]? = some (.cells (bcells dgZ.1).toArray 29 (0, 0))) := cb_one w2 ZD _ _ rfl
        clear hb2 HC1))
    | ((refine wpList_store_d (hgd := rfl) 29 (.tmp 9) (.tmp 30) rfl w2.heap.size d.1 Hdl.out rfl rfl 29 _ HZ.out rfl dig_sz ?_); go_loud (
        intro w3 hc3 hg3 hz3
        have hb3 : Below w2.heap.size w2 w3 := (b_al (w := w2) ZD).grown hg3.out (by rw [World.size_alloc]; omega) (fun k hk => by injection hk; omega)
        have HB3 := Lib.hid (below_ext HB2.out hb3)
        have HC2 := Lib.hid (open_any l a s _ w3 (HL.out.ext HB3.out) (HLd.out.ext HB3.out))
        unfold OpenPost at HC2
        rw [HOe.out, HQ.out] at HC2
        clear hb3 hg3 hz3 HB2 HZ))
    | (go_at_call 15; refine HC2.out.mono ?_; go_loud (
        rintro e w4 ⟨r4, rfl, hr4, hb4⟩
        have HB4 := Lib.hid (below_ext HB3.out hb4)
        have HD4 : Hid (CB w4 w2.heap.size 29 (bcells d.1)) := hc3.out.ext hb4
        have HR4 := Lib.hid hr4
        have HZ4 : Hid ((w4.alloc ZO).heap[w4.heap.size]? = some (.cells obZ.cells.toArray 36 (0, 0))) := cb_one w4 ZO _ _ rfl
        clear hb4 hr4 hc3 HB3 HC2))
    | ((refine wpList_store_ob (hgd := rfl) 36 (.tmp 11) (.tmp 37) rfl w4.heap.size r4 rfl rfl 36 _ HZ4.out rfl ob_sz ?_); go_loud (
        intro w5 hc5 hg5 hz5
        have hb5 : Below w4.heap.size w4 w5 := (b_al (w := w4) ZO).grown hg5.out (by rw [World.size_alloc]; omega) (fun k hk => by injection hk; omega)
        have HB5 := Lib.hid (below_ext HB4.out hb5); have HD5 := Lib.hid (HD4.out.ext hb5); have HR5 := Lib.hid (HR4.out.ext hb5)
        clear hb5 hg5 hz5 HB4 HD4 HR4 HZ4)))
  generalize w2.heap.size = g9 at *
  generalize w4.heap.size = g11 at *
  have z1 := cell_ext HB5.out Z1.out; have z3 := cell_ext HB5.out Z3.out
  go_quiet (fail)
  have K5 : Hid (Below w.heap.size w (w5.drewN nq)) := below_drewN2 HB5.out nq
  have KD5 : Hid (CB (w5.drewN nq) g9 29 (bcells d.1)) := HD5.out
  have KO5 : Hid (CB (w5.drewN nq) g11 36 r4.cells) := hc5.out
  have HRw : Hid (∀ W, Below (w5.drewN nq).heap.size (w5.drewN nq) W → OpR W q r4) := fun W h => (HR5.out.ext (below_drewN2 (Below.refl _ _) nq)).ext h
  clear z1 z3 HB5 HD5 hc5 HR5 Z1 Z3 HF
  generalize w5.drewN nq = w6 at *
  have HRp : Hid (∀ W, CB W g11 36 r4.cells → W.cell? ⟨g11, 36, none⟩ = some (.slice r4.oa r4.n r4.cap)) := fun W h => (ob_cell h).2.2.2.2.2
  clear HL
  generalize l.length = T at *
  go_wp2_with fail
  go_loopw [58] (fun vi wr => RfRel d r4 w6 g9 g11 vi wr) (fun vi _ => 7 - natOf vi)
  case atStart => exact ⟨⟨0, rfl, by omega, KD5.out, KO5.out, Below.refl _ _⟩⟩
  case round =>
    obtain ⟨i, rfl, hi, hd, ho, hb⟩ := hrel.h
    have HDr := Lib.hid hd; have HOr := Lib.hid ho; have HBr := Lib.hid hb; have HBw := Lib.hid (below_ext K5.out hb)
    have HRr := Lib.hid (HRw.out wr hb)
    clear hrel hd ho hb KD5 KO5
    have hcase : i = 7 ∨ i = 0 ∨ i = 1 ∨ i = 2 ∨ i = 3 ∨ i = 4 ∨ i = 5 ∨ i = 6 := by omega
    have HGr : Hid (g11 < wr.heap.size) := HOr.out.lt
    have HBr' := HBr
    have HZ17 : Hid ((wr.alloc ZO).heap[wr.heap.size]? = some (.cells obZ.cells.toArray 36 (0, 0))) := cb_one wr ZO _ _ rfl
    rcases hcase with rfl | rfl | rfl | rfl | rfl | rfl | rfl | rfl
    · go_wp2_with fail
      go_ret
      exact ⟨rfl, HBw.out⟩
    · go_wp2_with (first
      | (with_reducible refine wpList_load_ob (hgd := rfl) 36 (.tmp 11) rfl g11 r4 rfl 36 _ HOr.out Tryd.underlying36 rfl ob_sz ?_)
      | ((have _hg := HZ17.out; refine wpList_store_ob (hgd := rfl) 36 (.tmp 17) (.tmp 61) rfl wr.heap.size r4 rfl rfl 36 _ HZ17.out rfl ob_sz ?_); go_loud (
          intro w7 hc7 hg7 hz7
          have hb7 : Below wr.heap.size wr w7 := (b_al (w := wr) ZO).grown hg7.out (by rw [World.size_alloc]; omega) (fun k hk => by injection hk; omega)
          have HB7 := Lib.hid (below_ext HBr.out hb7); have HD7 := Lib.hid (HDr.out.ext hb7); have HO7 := Lib.hid (HOr.out.ext hb7); have HR7 := Lib.hid (HRr.out.ext hb7)
          have HDE := HD7; have HOE := HO7
          have HV := Lib.hid (verify_any d (ta + 1 + bb) T S q r4 w7 HR7.out (by have := Hql.out; omega) (HLd.out.ext (below_ext K5.out HB7.out)))
          unfold VerPost at HV
          rw [verE_no (pre_air (by rw [Hqa.out]; omega))] at HV
          clear hb7 hg7 hz7 HZ17 HBr HDr HOr HRr))
      | (with_reducible refine wpList_load_d (hgd := rfl) 29 (.tmp 9) rfl g9 d.1 Hdl.out rfl 29 _ HDE.out Tryd.underlying29 rfl dig_sz ?_)
      | (with_reducible refine wpList_load_ob (hgd := rfl) 36 (.tmp 17) rfl wr.heap.size r4 rfl 36 _ hc7.out Tryd.underlying36 rfl ob_sz ?_)
      | (go_at_call 18; refine HV.out.mono ?_; go_loud (
          rintro e w9 ⟨rfl, hb9⟩
          have HB9 := Lib.hid (below_ext HB7.out hb9); have HD9 := Lib.hid (HDE.out.ext hb9); have HO9 := Lib.hid (HOE.out.ext hb9)
          clear hb9 HV)))
      go_roundw
      case rel => exact ⟨⟨1, by go_num, by omega, HD9.out, HO9.out, HB9.out⟩⟩
      case measure => simp [natOf]
    · obtain ⟨zd, hzd⟩ : ∃ z : Dg, dgZ = z := ⟨_, rfl⟩
      have hbz0 := dg_built0
      rw [hzd] at hbz0
      have hbz := Lib.hid hbz0
      clear hbz0 hzd
      have Hn : Hid (r4.n = q.path.length) := by
        obtain ⟨_, _, he, _⟩ := HRr.out.path.shape
        injection he with _ e2 _
      go_upto_region 31 with (first
      | (with_reducible refine wpList_load_ob (hgd := rfl) 36 (.tmp 11) rfl g11 r4 rfl 36 _ HOr.out Tryd.underlying36 rfl ob_sz ?_)
      | ((have _hg := HZ17.out; refine wpList_store_ob (hgd := rfl) 36 (.tmp 17) (.tmp 61) rfl wr.heap.size r4 rfl rfl 36 _ HZ17.out rfl ob_sz ?_); go_loud (
          intro w7 hc7 hg7 hz7
          have hb7 : Below wr.heap.size wr w7 := (b_al (w := wr) ZO).grown hg7.out (by rw [World.size_alloc]; omega) (fun k hk => by injection hk; omega)
          have HB7 := Lib.hid (below_ext HBr.out hb7); have HD7 := Lib.hid (HDr.out.ext hb7); have HO7 := Lib.hid (HOr.out.ext hb7); have HR7 := Lib.hid (HRr.out.ext hb7)
          have c36 := HRp.out w7 HO7.out
          have hg11 : g11 < w7.heap.size := HO7.out.lt
          have hg17 : wr.heap.size < w7.heap.size := hc7.out.lt
          have AL := b_al (w := w7) (.cells #[] 29)
          have KW := Lib.hid (OwnK.made (K := digK) 29 w7.heap.size w7 (Nat.le_refl _))
          have HBs : Hid (w7.heap.size ≤ (w7.alloc (.cells #[] 29)).heap.size) := AL.size
          have KS : Hid (Src Tryd.prog 32 34 (.slice r4.oa r4.n r4.cap) r4.n (digK.flat q.path) (w7.alloc (.cells #[] 29))) := by
            have hp := (HR7.out.ext AL).path
            change LsAt digK _ _ q.path (.slice r4.oa r4.n r4.cap) at hp
            rw [Hn.out] at hp ⊢
            exact hp.src Tryd.underlying34
          have HB8 := Lib.hid (below_ext HB7.out AL); have HD8 := Lib.hid (HD7.out.ext AL); have HO8 := Lib.hid (HO7.out.ext AL); have HC8 := Lib.hid (hc7.out.ext AL)
          have Hg17 := Lib.hid hg17; have HW7 : Hid (wr.heap.size ≤ w7.heap.size) := Nat.le_of_lt hg17
          have hgD : Hid (g9 < w7.heap.size) := HD7.out.lt
          have HG11 := Lib.hid hg11
          have HW6 : Hid (w6.heap.size ≤ w7.heap.size) := HB7.out.size
          have hn6 : r4.n ≤ 6 := by have := Hn.out; have := Hql.out; omega
          clear AL hg17
          clear hb7 hg7 hz7 HZ17 HBr HDr HOr HRr))
      | (at_builtin; go_loud (
          refine wpList_append_x (e := 29) (z := .agg (bcells dgZ.1).toArray) (size := 32) (bytes := 32) Tryd.underlying34 dig_info2 rfl rfl (.tmp 75) (.tmp 77) rfl w7.heap.size _ 0 (digK.flat []) rfl KW.out _ r4.n (digK.flat q.path) rfl KS.out (by have := Hql.out; have := Hn.out; unfold maxLen; omega) (by have := Hql.out; have := Hn.out; omega) HBs.out ?_
          intro v9 w9 ho9 hg9 hn9
          have KW9 : Hid (OwnK digK 29 w9 w7.heap.size v9 q.path) := OwnK.append (K := digK) (a := []) ho9 (by rw [Hn.out]; simp)
          obtain ⟨o9, c9, he9, _⟩ := KW9.out.rd.shape
          subst he9
          have HB9 := Lib.hid (below_ownK HB8.out KW.out hg9 HW6.out); have HD9 := Lib.hid (HD8.out.own KW.out hg9 hgD.out); have HO9 := Lib.hid (HO8.out.own KW.out hg9 HG11.out); have HC9 := Lib.hid (HC8.out.own KW.out hg9 Hg17.out)
          have KX : Hid (Src Tryd.prog 32 34 (.slice (some ⟨w9.heap.size, 0, none⟩) 1 1) 1 (digK.flat [zd]) (w9.alloc (bD zd))) := src_el (K := digK) (a := zd) Tryd.underlying34 (cb_one w9 _ _ _ rfl)
          have KWA := Lib.hid (KW9.out.alloc (bD zd)); have HBA := Lib.hid (below_ext HB9.out (b_al (bD zd))); have HDA := Lib.hid (HD9.out.ext (b_al (bD zd))); have HOA := Lib.hid (HO9.out.ext (b_al (bD zd))); have HCA := Lib.hid (HC9.out.ext (b_al (bD zd)))
          replace HBs : Hid (w7.heap.size ≤ (w9.alloc (bD zd)).heap.size) := Nat.le_trans HBs.out (Nat.le_trans hg9.size (b_al (w := w9) (bD zd)).size)
          clear ho9 hg9 hn9 KW KS HB8 HD8 HO8 HC8 c36 hg11 KW9 HB9 HD9 HO9 HC9 hn6))
      | (have _hg := hbz.out; refine wpList_built (by rfl) 29 #[] rfl (bcells zd.1) [] rfl hbz.out ?_)
      | (have _hg := hbz.out; refine wpList_bs rfl (.tmp 79) rfl zd rfl ?_)
      | (at_builtin; go_loud (
          refine wpList_append_x (e := 29) (z := .agg (bcells dgZ.1).toArray) (size := 32) (bytes := 32) Tryd.underlying34 dig_info2 rfl rfl (.tmp 78) (.tmp 80) rfl w7.heap.size _ q.path.length (digK.flat q.path) rfl KWA.out _ 1 (digK.flat [zd]) rfl KX.out (by have := Hql.out; have := Hn.out; unfold maxLen; omega) (by have := Hql.out; have := Hn.out; omega) HBs.out ?_
          intro vE wE hoE hgE hnE
          have KWE : Hid (OwnK digK 29 wE w7.heap.size vE (q.path ++ [zd])) := OwnK.append (K := digK) hoE (by simp)
          obtain ⟨oE, cE, heE, _⟩ := KWE.out.rd.shape
          rw [List.length_append, List.length_singleton] at heE
          subst heE
          replace hgE : (w9.alloc (bD zd)).grownBy wE (Value.slice o9 q.path.length c9).ownBlock := hgE
          have HBF := Lib.hid (below_ownK HBA.out KWA.out hgE HW6.out); have HDF := Lib.hid (HDA.out.own KWA.out hgE hgD.out); have HOF := Lib.hid (HOA.out.own KWA.out hgE HG11.out); have HCF := Lib.hid (HCA.out.own KWA.out hgE Hg17.out)
          have cF : wE.cell? ⟨wr.heap.size, 36, none⟩ = some (.slice r4.oa r4.n r4.cap) := (ob_cell HCF.out).2.2.2.2.2
          have fF : wE.frozen? ⟨wr.heap.size, 36, none⟩ = false := HCF.out.frozen 36
          clear hoE hgE hnE KX KWA HBA HDA HOA HCA hbz)))
      have hcE : CB (wE.setCell ⟨wr.heap.size, 36, none⟩ (.slice oE (q.path.length + 1) cE)) wr.heap.size 36 (Ob.cells ⟨r4.air, r4.fl, r4.slot, r4.cost, r4.salt, oE, q.path.length + 1, cE⟩) := by
        rw [← ob_set36]; exact HCF.out.set 36 _
      have HCE := Lib.hid hcE
      have HDE := Lib.hid (HDF.out.far (p := ⟨wr.heap.size, 36, none⟩) (by intro e; have := HDF.out; rw [show g9 = wr.heap.size from e] at this; exact cb_two this HCF.out (by decide)) (.slice oE (q.path.length + 1) cE))
      have HOE := Lib.hid (HOF.out.far (p := ⟨wr.heap.size, 36, none⟩) (by have := HGr.out; show g11 ≠ wr.heap.size; omega) (.slice oE (q.path.length + 1) cE))
      have HBE := Lib.hid (HBF.out.setCell (p := ⟨wr.heap.size, 36, none⟩) (by have := HBr'.out.size; show w6.heap.size ≤ wr.heap.size; exact this) (.slice oE (q.path.length + 1) cE))
      have hpE : LsAt digK (wE.setCell ⟨wr.heap.size, 36, none⟩ (.slice oE (q.path.length + 1) cE)).heap.size (wE.setCell ⟨wr.heap.size, 36, none⟩ (.slice oE (q.path.length + 1) cE)) (q.path ++ [zd]) (.slice oE (q.path.length + 1) cE) := (KWE.out.far2 (S := wr.heap.size) (KWE.out.far Hg17.out) _).rd
      have hrE : OpR (wE.setCell ⟨wr.heap.size, 36, none⟩ (.slice oE (q.path.length + 1) cE)) ⟨q.air, q.fl, q.slot, q.cost, q.salt, q.path ++ [zd]⟩ ⟨r4.air, r4.fl, r4.slot, r4.cost, r4.salt, oE, q.path.length + 1, cE⟩ := ⟨HR7.out.air, HR7.out.fl, HR7.out.slot, HR7.out.cost, HR7.out.salt, hpE⟩
      have HV := Lib.hid (verify_any d ta T S ⟨q.air, q.fl, q.slot, q.cost, q.salt, q.path ++ [zd]⟩ _ _ hrE (by show (q.path ++ [zd]).length ≤ 64; rw [List.length_append, List.length_singleton]; have := Hql.out; omega) (HLd.out.ext (below_ext K5.out HBE.out)))
      unfold VerPost at HV
      clear hcE hpE hrE cF fF KWE HBF HDF HOF HCF Hg17 HW7 hgD HG11 HW6 HR7 hc7 HB7 HD7 HO7 HBs
      generalize wE.setCell ⟨wr.heap.size, 36, none⟩ (.slice oE (q.path.length + 1) cE) = wF at *
      rcases verE_two d ta T S ⟨q.air, q.fl, q.slot, q.cost, q.salt, q.path ++ [zd]⟩ with ⟨hz, hvb⟩ | hz
      · have hTn : ¬ (T = 1 ∨ T = 2 ∨ T = 4 ∨ T = 8) := fun h => by
          have := ver_other (d' := d) (air' := ta) h Hver.out (p := ⟨q.air, q.fl, q.slot, q.cost, q.salt, q.path ++ [zd]⟩) rfl (by show (q.path ++ [zd]).length ≠ q.path.length; rw [List.length_append, List.length_singleton]; omega)
          rw [this] at hvb; cases hvb
        rw [hz] at HV
        clear hz hvb
        have u1 : decide ((T : Int) = 1) = false := decide_eq_false (by omega)
        have u2 : decide ((T : Int) = 2) = false := decide_eq_false (by omega)
        have u4 : decide ((T : Int) = 4) = false := decide_eq_false (by omega)
        have u8 : decide ((T : Int) = 8) = false := decide_eq_false (by omega)
        have w1 : decide (T = 1) = false := decide_eq_false (by omega)
        have w2' : decide (T = 2) = false := decide_eq_false (by omega)
        have w4 : decide (T = 4) = false := decide_eq_false (by omega)
        have w8' : decide (T = 8) = false := decide_eq_false (by omega)
        have n1 : ((T : Int) == 1) = false := beq_false_of_ne (by omega)
        have n2 : ((T : Int) == 2) = false := beq_false_of_ne (by omega)
        have n4 : ((T : Int) == 4) = false := beq_false_of_ne (by omega)
        have n8 : ((T : Int) == 8) = false := beq_false_of_ne (by omega)
        clear hTn
        go_wp2_with (first
        | (with_reducible refine wpList_load_d (hgd := rfl) 29 (.tmp 9) rfl g9 d.1 Hdl.out rfl 29 _ HDE.out Tryd.underlying29 rfl dig_sz ?_)
        | (with_reducible refine wpList_load_ob (hgd := rfl) 36 (.tmp 17) rfl wr.heap.size ⟨r4.air, r4.fl, r4.slot, r4.cost, r4.salt, oE, q.path.length + 1, cE⟩ rfl 36 _ HCE.out Tryd.underlying36 rfl ob_sz ?_)
        | (go_at_call 18; refine HV.out.mono ?_; go_loud (
            rintro e w9 ⟨rfl, hb9⟩
            have HB9 := Lib.hid (below_ext HBE.out hb9); have HD9 := Lib.hid (HDE.out.ext hb9); have HO9 := Lib.hid (HOE.out.ext hb9)
            clear hb9 HV)))
        go_roundw
        case rel => exact ⟨⟨2, by go_num, by omega, HD9.out, HO9.out, HB9.out⟩⟩
        case measure => simp [natOf]
      · rw [hz] at HV
        clear hz
        go_wp2_with (first
        | (with_reducible refine wpList_load_d (hgd := rfl) 29 (.tmp 9) rfl g9 d.1 Hdl.out rfl 29 _ HDE.out Tryd.underlying29 rfl dig_sz ?_)
        | (with_reducible refine wpList_load_ob (hgd := rfl) 36 (.tmp 17) rfl wr.heap.size ⟨r4.air, r4.fl, r4.slot, r4.cost, r4.salt, oE, q.path.length + 1, cE⟩ rfl 36 _ HCE.out Tryd.underlying36 rfl ob_sz ?_)
        | (go_at_call 18; refine HV.out.mono ?_; go_loud (
            rintro e w9 ⟨rfl, hb9⟩
            have HB9 := Lib.hid (below_ext HBE.out hb9); have HD9 := Lib.hid (HDE.out.ext hb9); have HO9 := Lib.hid (HOE.out.ext hb9)
            clear hb9 HV)))
        go_roundw
        case rel => exact ⟨⟨2, by go_num, by omega, HD9.out, HO9.out, HB9.out⟩⟩
        case measure => simp [natOf]
    · have Hn : Hid (r4.n = q.path.length) := by
        obtain ⟨_, _, he, _⟩ := HRr.out.path.shape
        injection he with _ e2 _
      by_cases hq0 : q.path = []
      · have hn0 : r4.n = 0 := by rw [Hn.out, hq0]; rfl
        have Hn0 := Lib.hid hn0
        clear hq0 hn0
        go_wp2_with (first
        | (with_reducible refine wpList_load_ob (hgd := rfl) 36 (.tmp 11) rfl g11 r4 rfl 36 _ HOr.out Tryd.underlying36 rfl ob_sz ?_)
        | ((have _hg := HZ17.out; refine wpList_store_ob (hgd := rfl) 36 (.tmp 17) (.tmp 61) rfl wr.heap.size r4 rfl rfl 36 _ HZ17.out rfl ob_sz ?_); go_loud (
            intro w7 hc7 hg7 hz7
            have hb7 : Below wr.heap.size wr w7 := (b_al (w := wr) ZO).grown hg7.out (by rw [World.size_alloc]; omega) (fun k hk => by injection hk; omega)
            have HB7 := Lib.hid (below_ext HBr.out hb7); have HD7 := Lib.hid (HDr.out.ext hb7); have HO7 := Lib.hid (HOr.out.ext hb7); have HR7 := Lib.hid (HRr.out.ext hb7)
            have c36 : w7.cell? ⟨g11, 36, none⟩ = some (.slice r4.oa 0 r4.cap) := by have := HRp.out w7 HO7.out; rw [Hn0.out] at this; exact this
            clear hb7 hg7 hz7 HZ17 HBr HDr HOr HRr)))
        go_roundw
        case rel => exact ⟨⟨3, by go_num, by omega, HD7.out, HO7.out, HB7.out⟩⟩
        case measure => simp [natOf]
      obtain ⟨pb, po, pc, hpe, hlc, hcm⟩ := LsAt.some_at HRr.out.path hq0
      obtain ⟨m, hm⟩ : ∃ m, q.path.length = m + 1 := ⟨q.path.length - 1, by have := List.length_pos_iff.2 hq0; omega⟩
      have hoa : r4.oa = some ⟨pb, po, none⟩ ∧ r4.n = m + 1 ∧ r4.cap = pc := by
        injection hpe with e1 e2 e3
        exact ⟨e1, by rw [e2, hm], e3⟩
      obtain ⟨d1, d2, d3⟩ := hoa
      obtain ⟨L, hL⟩ : ∃ L, q.path.length = L := ⟨_, rfl⟩
      have Hd1 := Lib.hid d1; have Hd2 : Hid (r4.n = L) := by show _ = _; rw [d2, ← hm, hL]
      have Hd3 := Lib.hid d3
      have l1 : (1 : Int) ≤ (L : Int) := by omega
      have l1' : 1 ≤ L := by omega
      have l2 : (L : Int) - 1 = (m : Int) := by omega
      have l3 : L - 1 = m := by omega
      have l4 : (L : Int) ≤ (pc : Int) := by omega
      have l5 : (L : Int) ≤ 64 := by have := Hql.out; omega
      have l0 : decide ((L : Int) = 0) = false := decide_eq_false (by omega)
      have l0' : decide (L = 0) = false := decide_eq_false (by omega)
      have l0'' : ((L : Int) == 0) = false := beq_false_of_ne (by omega)
      have Hm := Lib.hid hm; have HL2 := Lib.hid hL
      have hps : LsAt digK wr.heap.size wr q.path (.slice (some ⟨pb, po, none⟩) q.path.length pc) := by have := HRr.out.path; rw [hpe] at this; exact this
      obtain ⟨oa2, hoa2⟩ : ∃ o, (if pc = 1 then some ⟨pb, po, none⟩ else some (⟨pb, po + 32, none⟩ : Addr)) = o := ⟨_, rfl⟩
      have hpd : LsAt digK wr.heap.size wr (q.path.drop 1) (.slice oa2 m (pc - 1)) := by
        refine hps.dropG (by omega) (by omega) rfl ?_
        rw [← hoa2]
        by_cases h1 : pc = 1
        · rw [if_pos h1, if_pos h1]
        · rw [if_neg h1, if_neg h1]; rfl
      have HPD := Lib.hid hpd
      clear hq0 hpe hlc d1 d2 d3 hm hL hps hpd
      by_cases hp1 : pc = 1
      · have k1 : (pc = 1) = True := by simp [hp1]
        rw [if_pos hp1] at hoa2
        subst hoa2
        have e0 : pc - 1 = 0 := by omega
        rw [e0] at HPD
        clear e0
        go_upto_region 31 with (first
        | (with_reducible refine wpList_load_ob (hgd := rfl) 36 (.tmp 11) rfl g11 r4 rfl 36 _ HOr.out Tryd.underlying36 rfl ob_sz ?_)
        | ((have _hg := HZ17.out; refine wpList_store_ob (hgd := rfl) 36 (.tmp 17) (.tmp 61) rfl wr.heap.size r4 rfl rfl 36 _ HZ17.out rfl ob_sz ?_); go_loud (
            intro w7 hc7 hg7 hz7
            have hb7 : Below wr.heap.size wr w7 := (b_al (w := wr) ZO).grown hg7.out (by rw [World.size_alloc]; omega) (fun k hk => by injection hk; omega)
            have HB7 := Lib.hid (below_ext HBr.out hb7); have HD7 := Lib.hid (HDr.out.ext hb7); have HO7 := Lib.hid (HOr.out.ext hb7); have HR7 := Lib.hid (HRr.out.ext hb7)
            have c36 : w7.cell? ⟨g11, 36, none⟩ = some (.slice (some ⟨pb, po, none⟩) L pc) := by have := HRp.out w7 HO7.out; rw [Hd1.out, Hd2.out, Hd3.out] at this; exact this
            have c7 : w7.cell? ⟨wr.heap.size, 36, none⟩ = some (.slice r4.oa r4.n r4.cap) := (ob_cell hc7.out).2.2.2.2.2
            have f7 : w7.frozen? ⟨wr.heap.size, 36, none⟩ = false := hc7.out.frozen 36
            have hc8 : CB (w7.setCell ⟨wr.heap.size, 36, none⟩ (.slice (some ⟨pb, po, none⟩) m 0)) wr.heap.size 36 (Ob.cells ⟨r4.air, r4.fl, r4.slot, r4.cost, r4.salt, (some ⟨pb, po, none⟩), m, 0⟩) := by rw [← ob_set36]; exact hc7.out.set 36 _
            have hb8 : Below wr.heap.size wr (w7.setCell ⟨wr.heap.size, 36, none⟩ (.slice (some ⟨pb, po, none⟩) m 0)) := hb7.setCell (p := ⟨wr.heap.size, 36, none⟩) (Nat.le_refl _) _
            have HC8 := Lib.hid hc8
            have HB8 := Lib.hid (below_ext HBr.out hb8); have HDE := Lib.hid (HDr.out.ext hb8); have HOE := Lib.hid (HOr.out.ext hb8)
            have HR8 : Hid (OpR (w7.setCell ⟨wr.heap.size, 36, none⟩ (.slice (some ⟨pb, po, none⟩) m 0)) ⟨q.air, q.fl, q.slot, q.cost, q.salt, q.path.drop 1⟩ ⟨r4.air, r4.fl, r4.slot, r4.cost, r4.salt, (some ⟨pb, po, none⟩), m, 0⟩) := by
              have hq := HRr.out.ext hb8
              exact ⟨hq.air, hq.fl, hq.slot, hq.cost, hq.salt, HPD.out.ext hb8⟩
            have HV := Lib.hid (verify_any d ta T S ⟨q.air, q.fl, q.slot, q.cost, q.salt, q.path.drop 1⟩ ⟨r4.air, r4.fl, r4.slot, r4.cost, r4.salt, (some ⟨pb, po, none⟩), m, 0⟩ _ HR8.out (by have := Hql.out; show (q.path.drop 1).length ≤ 64; rw [List.length_drop]; omega) (HLd.out.ext (below_ext K5.out HB8.out)))
            unfold VerPost at HV
            clear hc8 hb8
            clear hb7 hg7 hz7 HZ17 HBr HDr HOr HRr)))
        change Code.wp _ _ _ _ (w7.setCell ⟨wr.heap.size, 36, none⟩ (.slice (some ⟨pb, po, none⟩) m 0))
        clear c36 c7 f7 hc7
        generalize (w7.setCell ⟨wr.heap.size, 36, none⟩ (.slice (some ⟨pb, po, none⟩) m 0)) = w8 at *
        rcases verE_two d ta T S ⟨q.air, q.fl, q.slot, q.cost, q.salt, q.path.drop 1⟩ with ⟨hz, hvb⟩ | hz
        · have hTn : ¬ (T = 1 ∨ T = 2 ∨ T = 4 ∨ T = 8) := fun h => by
            have := ver_other (d' := d) (air' := ta) h Hver.out (p := ⟨q.air, q.fl, q.slot, q.cost, q.salt, q.path.drop 1⟩) rfl (by show (q.path.drop 1).length ≠ q.path.length; rw [List.length_drop, Hm.out]; omega)
            rw [this] at hvb; cases hvb
          rw [hz] at HV
          clear hz hvb
          have u1 : decide ((T : Int) = 1) = false := decide_eq_false (by omega)
          have u2 : decide ((T : Int) = 2) = false := decide_eq_false (by omega)
          have u4 : decide ((T : Int) = 4) = false := decide_eq_false (by omega)
          have u8 : decide ((T : Int) = 8) = false := decide_eq_false (by omega)
          have w1 : decide (T = 1) = false := decide_eq_false (by omega)
          have w2' : decide (T = 2) = false := decide_eq_false (by omega)
          have w4 : decide (T = 4) = false := decide_eq_false (by omega)
          have w8' : decide (T = 8) = false := decide_eq_false (by omega)
          have n1 : ((T : Int) == 1) = false := beq_false_of_ne (by omega)
          have n2 : ((T : Int) == 2) = false := beq_false_of_ne (by omega)
          have n4 : ((T : Int) == 4) = false := beq_false_of_ne (by omega)
          have n8 : ((T : Int) == 8) = false := beq_false_of_ne (by omega)
          clear hTn
          go_wp2_with (first
          | (with_reducible refine wpList_load_d (hgd := rfl) 29 (.tmp 9) rfl g9 d.1 Hdl.out rfl 29 _ HDE.out Tryd.underlying29 rfl dig_sz ?_)
          | (with_reducible refine wpList_load_ob (hgd := rfl) 36 (.tmp 17) rfl wr.heap.size ⟨r4.air, r4.fl, r4.slot, r4.cost, r4.salt, (some ⟨pb, po, none⟩), m, 0⟩ rfl 36 _ HC8.out Tryd.underlying36 rfl ob_sz ?_)
          | (go_at_call 18; refine HV.out.mono ?_; go_loud (
              rintro e w9 ⟨rfl, hb9⟩
              have HB9 := Lib.hid (below_ext HB8.out hb9); have HD9 := Lib.hid (HDE.out.ext hb9); have HO9 := Lib.hid (HOE.out.ext hb9)
              clear hb9 HV)))
          go_roundw
          case rel => exact ⟨⟨3, by go_num, by omega, HD9.out, HO9.out, HB9.out⟩⟩
          case measure => simp [natOf]
        · rw [hz] at HV
          clear hz
          go_wp2_with (first
          | (with_reducible refine wpList_load_d (hgd := rfl) 29 (.tmp 9) rfl g9 d.1 Hdl.out rfl 29 _ HDE.out Tryd.underlying29 rfl dig_sz ?_)
          | (with_reducible refine wpList_load_ob (hgd := rfl) 36 (.tmp 17) rfl wr.heap.size ⟨r4.air, r4.fl, r4.slot, r4.cost, r4.salt, (some ⟨pb, po, none⟩), m, 0⟩ rfl 36 _ HC8.out Tryd.underlying36 rfl ob_sz ?_)
          | (go_at_call 18; refine HV.out.mono ?_; go_loud (
              rintro e w9 ⟨rfl, hb9⟩
              have HB9 := Lib.hid (below_ext HB8.out hb9); have HD9 := Lib.hid (HDE.out.ext hb9); have HO9 := Lib.hid (HOE.out.ext hb9)
              clear hb9 HV)))
          go_roundw
          case rel => exact ⟨⟨3, by go_num, by omega, HD9.out, HO9.out, HB9.out⟩⟩
          case measure => simp [natOf]
      · have k1 : (pc = 1) = False := by simp [hp1]
        rw [if_neg hp1] at hoa2
        subst hoa2
        go_upto_region 31 with (first
        | (with_reducible refine wpList_load_ob (hgd := rfl) 36 (.tmp 11) rfl g11 r4 rfl 36 _ HOr.out Tryd.underlying36 rfl ob_sz ?_)
        | ((have _hg := HZ17.out; refine wpList_store_ob (hgd := rfl) 36 (.tmp 17) (.tmp 61) rfl wr.heap.size r4 rfl rfl 36 _ HZ17.out rfl ob_sz ?_); go_loud (
            intro w7 hc7 hg7 hz7
            have hb7 : Below wr.heap.size wr w7 := (b_al (w := wr) ZO).grown hg7.out (by rw [World.size_alloc]; omega) (fun k hk => by injection hk; omega)
            have HB7 := Lib.hid (below_ext HBr.out hb7); have HD7 := Lib.hid (HDr.out.ext hb7); have HO7 := Lib.hid (HOr.out.ext hb7); have HR7 := Lib.hid (HRr.out.ext hb7)
            have c36 : w7.cell? ⟨g11, 36, none⟩ = some (.slice (some ⟨pb, po, none⟩) L pc) := by have := HRp.out w7 HO7.out; rw [Hd1.out, Hd2.out, Hd3.out] at this; exact this
            have c7 : w7.cell? ⟨wr.heap.size, 36, none⟩ = some (.slice r4.oa r4.n r4.cap) := (ob_cell hc7.out).2.2.2.2.2
            have f7 : w7.frozen? ⟨wr.heap.size, 36, none⟩ = false := hc7.out.frozen 36
            have hc8 : CB (w7.setCell ⟨wr.heap.size, 36, none⟩ (.slice (some ⟨pb, po + 32, none⟩) m (pc - 1))) wr.heap.size 36 (Ob.cells ⟨r4.air, r4.fl, r4.slot, r4.cost, r4.salt, (some ⟨pb, po + 32, none⟩), m, (pc - 1)⟩) := by rw [← ob_set36]; exact hc7.out.set 36 _
            have hb8 : Below wr.heap.size wr (w7.setCell ⟨wr.heap.size, 36, none⟩ (.slice (some ⟨pb, po + 32, none⟩) m (pc - 1))) := hb7.setCell (p := ⟨wr.heap.size, 36, none⟩) (Nat.le_refl _) _
            have HC8 := Lib.hid hc8
            have HB8 := Lib.hid (below_ext HBr.out hb8); have HDE := Lib.hid (HDr.out.ext hb8); have HOE := Lib.hid (HOr.out.ext hb8)
            have HR8 : Hid (OpR (w7.setCell ⟨wr.heap.size, 36, none⟩ (.slice (some ⟨pb, po + 32, none⟩) m (pc - 1))) ⟨q.air, q.fl, q.slot, q.cost, q.salt, q.path.drop 1⟩ ⟨r4.air, r4.fl, r4.slot, r4.cost, r4.salt, (some ⟨pb, po + 32, none⟩), m, (pc - 1)⟩) := by
              have hq := HRr.out.ext hb8
              exact ⟨hq.air, hq.fl, hq.slot, hq.cost, hq.salt, HPD.out.ext hb8⟩
            have HV := Lib.hid (verify_any d ta T S ⟨q.air, q.fl, q.slot, q.cost, q.salt, q.path.drop 1⟩ ⟨r4.air, r4.fl, r4.slot, r4.cost, r4.salt, (some ⟨pb, po + 32, none⟩), m, (pc - 1)⟩ _ HR8.out (by have := Hql.out; show (q.path.drop 1).length ≤ 64; rw [List.length_drop]; omega) (HLd.out.ext (below_ext K5.out HB8.out)))
            unfold VerPost at HV
            clear hc8 hb8
            clear hb7 hg7 hz7 HZ17 HBr HDr HOr HRr)))
        change Code.wp _ _ _ _ (w7.setCell ⟨wr.heap.size, 36, none⟩ (.slice (some ⟨pb, po + 32, none⟩) m (pc - 1)))
        clear c36 c7 f7 hc7
        generalize (w7.setCell ⟨wr.heap.size, 36, none⟩ (.slice (some ⟨pb, po + 32, none⟩) m (pc - 1))) = w8 at *
        rcases verE_two d ta T S ⟨q.air, q.fl, q.slot, q.cost, q.salt, q.path.drop 1⟩ with ⟨hz, hvb⟩ | hz
        · have hTn : ¬ (T = 1 ∨ T = 2 ∨ T = 4 ∨ T = 8) := fun h => by
            have := ver_other (d' := d) (air' := ta) h Hver.out (p := ⟨q.air, q.fl, q.slot, q.cost, q.salt, q.path.drop 1⟩) rfl (by show (q.path.drop 1).length ≠ q.path.length; rw [List.length_drop, Hm.out]; omega)
            rw [this] at hvb; cases hvb
          rw [hz] at HV
          clear hz hvb
          have u1 : decide ((T : Int) = 1) = false := decide_eq_false (by omega)
          have u2 : decide ((T : Int) = 2) = false := decide_eq_false (by omega)
          have u4 : decide ((T : Int) = 4) = false := decide_eq_false (by omega)
          have u8 : decide ((T : Int) = 8) = false := decide_eq_false (by omega)
          have w1 : decide (T = 1) = false := decide_eq_false (by omega)
          have w2' : decide (T = 2) = false := decide_eq_false (by omega)
          have w4 : decide (T = 4) = false := decide_eq_false (by omega)
          have w8' : decide (T = 8) = false := decide_eq_false (by omega)
          have n1 : ((T : Int) == 1) = false := beq_false_of_ne (by omega)
          have n2 : ((T : Int) == 2) = false := beq_false_of_ne (by omega)
          have n4 : ((T : Int) == 4) = false := beq_false_of_ne (by omega)
          have n8 : ((T : Int) == 8) = false := beq_false_of_ne (by omega)
          clear hTn
          go_wp2_with (first
          | (with_reducible refine wpList_load_d (hgd := rfl) 29 (.tmp 9) rfl g9 d.1 Hdl.out rfl 29 _ HDE.out Tryd.underlying29 rfl dig_sz ?_)
          | (with_reducible refine wpList_load_ob (hgd := rfl) 36 (.tmp 17) rfl wr.heap.size ⟨r4.air, r4.fl, r4.slot, r4.cost, r4.salt, (some ⟨pb, po + 32, none⟩), m, (pc - 1)⟩ rfl 36 _ HC8.out Tryd.underlying36 rfl ob_sz ?_)
          | (go_at_call 18; refine HV.out.mono ?_; go_loud (
              rintro e w9 ⟨rfl, hb9⟩
              have HB9 := Lib.hid (below_ext HB8.out hb9); have HD9 := Lib.hid (HDE.out.ext hb9); have HO9 := Lib.hid (HOE.out.ext hb9)
              clear hb9 HV)))
          go_roundw
          case rel => exact ⟨⟨3, by go_num, by omega, HD9.out, HO9.out, HB9.out⟩⟩
          case measure => simp [natOf]
        · rw [hz] at HV
          clear hz
          go_wp2_with (first
          | (with_reducible refine wpList_load_d (hgd := rfl) 29 (.tmp 9) rfl g9 d.1 Hdl.out rfl 29 _ HDE.out Tryd.underlying29 rfl dig_sz ?_)
          | (with_reducible refine wpList_load_ob (hgd := rfl) 36 (.tmp 17) rfl wr.heap.size ⟨r4.air, r4.fl, r4.slot, r4.cost, r4.salt, (some ⟨pb, po + 32, none⟩), m, (pc - 1)⟩ rfl 36 _ HC8.out Tryd.underlying36 rfl ob_sz ?_)
          | (go_at_call 18; refine HV.out.mono ?_; go_loud (
              rintro e w9 ⟨rfl, hb9⟩
              have HB9 := Lib.hid (below_ext HB8.out hb9); have HD9 := Lib.hid (HDE.out.ext hb9); have HO9 := Lib.hid (HOE.out.ext hb9)
              clear hb9 HV)))
          go_roundw
          case rel => exact ⟨⟨3, by go_num, by omega, HD9.out, HO9.out, HB9.out⟩⟩
          case measure => simp [natOf]
    · go_upto_region 31 with (first
      | (with_reducible refine wpList_load_ob (hgd := rfl) 36 (.tmp 11) rfl g11 r4 rfl 36 _ HOr.out Tryd.underlying36 rfl ob_sz ?_)
      | ((have _hg := HZ17.out; refine wpList_store_ob (hgd := rfl) 36 (.tmp 17) (.tmp 61) rfl wr.heap.size r4 rfl rfl 36 _ HZ17.out rfl ob_sz ?_); go_loud (
          intro w7 hc7 hg7 hz7
          have hb7 : Below wr.heap.size wr w7 := (b_al (w := wr) ZO).grown hg7.out (by rw [World.size_alloc]; omega) (fun k hk => by injection hk; omega)
          have HB7 := Lib.hid (below_ext HBr.out hb7); have HD7 := Lib.hid (HDr.out.ext hb7); have HO7 := Lib.hid (HOr.out.ext hb7); have HR7 := Lib.hid (HRr.out.ext hb7)
          have c7 : w7.cell? ⟨wr.heap.size, 2, none⟩ = some (.int .i64 r4.slot) := hc7.out.cell 2
          have f7 : w7.frozen? ⟨wr.heap.size, 2, none⟩ = false := hc7.out.frozen 2
          have hc8 : CB (w7.setCell ⟨wr.heap.size, 2, none⟩ (.int .i64 ((S : Int) + bb))) wr.heap.size 36 (Ob.cells ⟨r4.air, r4.fl, (S : Int) + bb, r4.cost, r4.salt, r4.oa, r4.n, r4.cap⟩) := hc7.out.set 2 (.int .i64 ((S : Int) + bb))
          have hgl := Lib.hid HOr.out.lt
          have hb8 : Below wr.heap.size wr (w7.setCell ⟨wr.heap.size, 2, none⟩ (.int .i64 ((S : Int) + bb))) := hb7.setCell (p := ⟨wr.heap.size, 2, none⟩) (Nat.le_refl _) _
          have HC8 := Lib.hid hc8
          have HB8 := Lib.hid (below_ext HBr.out hb8); have HDE := Lib.hid (HDr.out.ext hb8); have HOE := Lib.hid (HOr.out.ext hb8)
          have HR8 : Hid (OpR (w7.setCell ⟨wr.heap.size, 2, none⟩ (.int .i64 ((S : Int) + bb))) ⟨q.air, q.fl, (S : Int) + bb, q.cost, q.salt, q.path⟩ ⟨r4.air, r4.fl, (S : Int) + bb, r4.cost, r4.salt, r4.oa, r4.n, r4.cap⟩) := by
            have hq := HRr.out.ext hb8
            exact ⟨hq.air, hq.fl, rfl, hq.cost, hq.salt, hq.path⟩
          have HV := Lib.hid (verify_any d ta T S ⟨q.air, q.fl, (S : Int) + bb, q.cost, q.salt, q.path⟩ ⟨r4.air, r4.fl, (S : Int) + bb, r4.cost, r4.salt, r4.oa, r4.n, r4.cap⟩ _ HR8.out (by have := Hql.out; show q.path.length ≤ 64; omega) (HLd.out.ext (below_ext K5.out HB8.out)))
          unfold VerPost at HV
          rw [verE_no (pre_slot (by show (S : Int) ≤ (S : Int) + bb; omega))] at HV
          clear hc8 hb8
          clear hb7 hg7 hz7 HZ17 HBr HDr HOr HRr)))
      change Code.wp _ _ _ _ (w7.setCell ⟨wr.heap.size, 2, none⟩ (.int .i64 ((S : Int) + bb)))
      clear c7 f7 hc7
      generalize w7.setCell ⟨wr.heap.size, 2, none⟩ (.int .i64 ((S : Int) + bb)) = w8 at *
      go_wp2_with (first
      | (with_reducible refine wpList_load_d (hgd := rfl) 29 (.tmp 9) rfl g9 d.1 Hdl.out rfl 29 _ HDE.out Tryd.underlying29 rfl dig_sz ?_)
      | (with_reducible refine wpList_load_ob (hgd := rfl) 36 (.tmp 17) rfl wr.heap.size ⟨r4.air, r4.fl, (S : Int) + bb, r4.cost, r4.salt, r4.oa, r4.n, r4.cap⟩ rfl 36 _ HC8.out Tryd.underlying36 rfl ob_sz ?_)
      | (go_at_call 18; refine HV.out.mono ?_; go_loud (
          rintro e w9 ⟨rfl, hb9⟩
          have HB9 := Lib.hid (below_ext HB8.out hb9); have HD9 := Lib.hid (HDE.out.ext hb9); have HO9 := Lib.hid (HOE.out.ext hb9)
          clear hb9 HV)))
      go_roundw
      case rel => exact ⟨⟨4, by go_num, by omega, HD9.out, HO9.out, HB9.out⟩⟩
      case measure => simp [natOf]
    · go_upto_region 31 with (first
      | (with_reducible refine wpList_load_ob (hgd := rfl) 36 (.tmp 11) rfl g11 r4 rfl 36 _ HOr.out Tryd.underlying36 rfl ob_sz ?_)
      | ((have _hg := HZ17.out; refine wpList_store_ob (hgd := rfl) 36 (.tmp 17) (.tmp 61) rfl wr.heap.size r4 rfl rfl 36 _ HZ17.out rfl ob_sz ?_); go_loud (
          intro w7 hc7 hg7 hz7
          have hb7 : Below wr.heap.size wr w7 := (b_al (w := wr) ZO).grown hg7.out (by rw [World.size_alloc]; omega) (fun k hk => by injection hk; omega)
          have HB7 := Lib.hid (below_ext HBr.out hb7); have HD7 := Lib.hid (HDr.out.ext hb7); have HO7 := Lib.hid (HOr.out.ext hb7); have HR7 := Lib.hid (HRr.out.ext hb7)
          have c7 : w7.cell? ⟨wr.heap.size, 3, none⟩ = some (.int .i64 r4.cost) := hc7.out.cell 3
          have f7 : w7.frozen? ⟨wr.heap.size, 3, none⟩ = false := hc7.out.frozen 3
          have hc8 : CB (w7.setCell ⟨wr.heap.size, 3, none⟩ (.int .i64 (-2 - bb))) wr.heap.size 36 (Ob.cells ⟨r4.air, r4.fl, r4.slot, -2 - bb, r4.salt, r4.oa, r4.n, r4.cap⟩) := hc7.out.set 3 (.int .i64 (-2 - bb))
          have hgl := Lib.hid HOr.out.lt
          have hb8 : Below wr.heap.size wr (w7.setCell ⟨wr.heap.size, 3, none⟩ (.int .i64 (-2 - bb))) := hb7.setCell (p := ⟨wr.heap.size, 3, none⟩) (Nat.le_refl _) _
          have HC8 := Lib.hid hc8
          have HB8 := Lib.hid (below_ext HBr.out hb8); have HDE := Lib.hid (HDr.out.ext hb8); have HOE := Lib.hid (HOr.out.ext hb8)
          have HR8 : Hid (OpR (w7.setCell ⟨wr.heap.size, 3, none⟩ (.int .i64 (-2 - bb))) ⟨q.air, q.fl, q.slot, -2 - bb, q.salt, q.path⟩ ⟨r4.air, r4.fl, r4.slot, -2 - bb, r4.salt, r4.oa, r4.n, r4.cap⟩) := by
            have hq := HRr.out.ext hb8
            exact ⟨hq.air, hq.fl, hq.slot, rfl, hq.salt, hq.path⟩
          have HV := Lib.hid (verify_any d ta T S ⟨q.air, q.fl, q.slot, -2 - bb, q.salt, q.path⟩ ⟨r4.air, r4.fl, r4.slot, -2 - bb, r4.salt, r4.oa, r4.n, r4.cap⟩ _ HR8.out (by have := Hql.out; show q.path.length ≤ 64; omega) (HLd.out.ext (below_ext K5.out HB8.out)))
          unfold VerPost at HV
          rw [verE_no (pre_cost (by show -2 - bb < -1; omega))] at HV
          clear hc8 hb8
          clear hb7 hg7 hz7 HZ17 HBr HDr HOr HRr)))
      change Code.wp _ _ _ _ (w7.setCell ⟨wr.heap.size, 3, none⟩ (.int .i64 (-2 - bb)))
      clear c7 f7 hc7
      generalize w7.setCell ⟨wr.heap.size, 3, none⟩ (.int .i64 (-2 - bb)) = w8 at *
      go_wp2_with (first
      | (with_reducible refine wpList_load_d (hgd := rfl) 29 (.tmp 9) rfl g9 d.1 Hdl.out rfl 29 _ HDE.out Tryd.underlying29 rfl dig_sz ?_)
      | (with_reducible refine wpList_load_ob (hgd := rfl) 36 (.tmp 17) rfl wr.heap.size ⟨r4.air, r4.fl, r4.slot, -2 - bb, r4.salt, r4.oa, r4.n, r4.cap⟩ rfl 36 _ HC8.out Tryd.underlying36 rfl ob_sz ?_)
      | (go_at_call 18; refine HV.out.mono ?_; go_loud (
          rintro e w9 ⟨rfl, hb9⟩
          have HB9 := Lib.hid (below_ext HB8.out hb9); have HD9 := Lib.hid (HDE.out.ext hb9); have HO9 := Lib.hid (HOE.out.ext hb9)
          clear hb9 HV)))
      go_roundw
      case rel => exact ⟨⟨5, by go_num, by omega, HD9.out, HO9.out, HB9.out⟩⟩
      case measure => simp [natOf]
    · go_wp2_with (first
      | (with_reducible refine wpList_load_ob (hgd := rfl) 36 (.tmp 11) rfl g11 r4 rfl 36 _ HOr.out Tryd.underlying36 rfl ob_sz ?_)
      | ((have _hg := HZ17.out; refine wpList_store_ob (hgd := rfl) 36 (.tmp 17) (.tmp 61) rfl wr.heap.size r4 rfl rfl 36 _ HZ17.out rfl ob_sz ?_); go_loud (
          intro w7 hc7 hg7 hz7
          have hb7 : Below wr.heap.size wr w7 := (b_al (w := wr) ZO).grown hg7.out (by rw [World.size_alloc]; omega) (fun k hk => by injection hk; omega)
          have HB7 := Lib.hid (below_ext HBr.out hb7); have HD7 := Lib.hid (HDr.out.ext hb7); have HO7 := Lib.hid (HOr.out.ext hb7); have HR7 := Lib.hid (HRr.out.ext hb7)
          have HDE := HD7; have HOE := HO7
          have HV := Lib.hid (verify_any d ta (9 + bb) S q r4 w7 HR7.out (by have := Hql.out; omega) (HLd.out.ext (below_ext K5.out HB7.out)))
          unfold VerPost at HV
          rw [verE_no (pre_tables (by omega))] at HV
          clear hb7 hg7 hz7 HZ17 HBr HDr HOr HRr))
      | (with_reducible refine wpList_load_d (hgd := rfl) 29 (.tmp 9) rfl g9 d.1 Hdl.out rfl 29 _ HDE.out Tryd.underlying29 rfl dig_sz ?_)
      | (with_reducible refine wpList_load_ob (hgd := rfl) 36 (.tmp 17) rfl wr.heap.size r4 rfl 36 _ hc7.out Tryd.underlying36 rfl ob_sz ?_)
      | (go_at_call 18; refine HV.out.mono ?_; go_loud (
          rintro e w9 ⟨rfl, hb9⟩
          have HB9 := Lib.hid (below_ext HB7.out hb9); have HD9 := Lib.hid (HDE.out.ext hb9); have HO9 := Lib.hid (HOE.out.ext hb9)
          clear hb9 HV)))
      go_roundw
      case rel => exact ⟨⟨6, by go_num, by omega, HD9.out, HO9.out, HB9.out⟩⟩
      case measure => simp [natOf]
    · go_wp2_with (first
      | (with_reducible refine wpList_load_ob (hgd := rfl) 36 (.tmp 11) rfl g11 r4 rfl 36 _ HOr.out Tryd.underlying36 rfl ob_sz ?_)
      | ((have _hg := HZ17.out; refine wpList_store_ob (hgd := rfl) 36 (.tmp 17) (.tmp 61) rfl wr.heap.size r4 rfl rfl 36 _ HZ17.out rfl ob_sz ?_); go_loud (
          intro w7 hc7 hg7 hz7
          have hb7 : Below wr.heap.size wr w7 := (b_al (w := wr) ZO).grown hg7.out (by rw [World.size_alloc]; omega) (fun k hk => by injection hk; omega)
          have HB7 := Lib.hid (below_ext HBr.out hb7); have HD7 := Lib.hid (HDr.out.ext hb7); have HO7 := Lib.hid (HOr.out.ext hb7); have HR7 := Lib.hid (HRr.out.ext hb7)
          have HDE := HD7; have HOE := HO7
          have HV := Lib.hid (verify_any d ta T (9 + bb) q r4 w7 HR7.out (by have := Hql.out; omega) (HLd.out.ext (below_ext K5.out HB7.out)))
          unfold VerPost at HV
          rw [verE_no (pre_slots (by omega))] at HV
          clear hb7 hg7 hz7 HZ17 HBr HDr HOr HRr))
      | (with_reducible refine wpList_load_d (hgd := rfl) 29 (.tmp 9) rfl g9 d.1 Hdl.out rfl 29 _ HDE.out Tryd.underlying29 rfl dig_sz ?_)
      | (with_reducible refine wpList_load_ob (hgd := rfl) 36 (.tmp 17) rfl wr.heap.size r4 rfl 36 _ hc7.out Tryd.underlying36 rfl ob_sz ?_)
      | (go_at_call 18; refine HV.out.mono ?_; go_loud (
          rintro e w9 ⟨rfl, hb9⟩
          have HB9 := Lib.hid (below_ext HB7.out hb9); have HD9 := Lib.hid (HDE.out.ext hb9); have HO9 := Lib.hid (HOE.out.ext hb9)
          clear hb9 HV)))
      go_roundw
      case rel => exact ⟨⟨7, by go_num, by omega, HD9.out, HO9.out, HB9.out⟩⟩
      case measure => simp [natOf]
end Go.Proofs.YtbonebmboolemaaDoor
