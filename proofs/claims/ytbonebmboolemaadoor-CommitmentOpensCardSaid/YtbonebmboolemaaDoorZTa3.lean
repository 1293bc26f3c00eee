/- CommitmentOpens, walked. -/
import Derived.Test.YtbonebmboolemaaDoorK40
namespace Go.Proofs.YtbonebmboolemaaDoor
open Go.RowKit
theorem neq_dg (l : List UInt8) (hl : l.length = 32) (w : World) :
    (binOp .neq 29 (.agg (bcells l).toArray) (.agg (bcells l).toArray)).run Tryd.prog w = .ok (.bool false) w := by
  have := neq_dv l l hl hl w
  unfold dv at this
  rw [this]; simp
structure OpRel (l : List Tab) (d : Dg) (w : World) (gd : Nat) (vi : Value) (wr : World) : Prop where
  h : ∃ i : Nat, vi = .int .i64 (i : Int) ∧ i ≤ l.length ∧ CB wr gd 29 (bcells d.1) ∧ Below w.heap.size w wr
structure OqRel (n : Nat) (d : Dg) (r : Tb) (w : World) (gd g8 : Nat) (vi : Value) (wr : World) : Prop where
  h : ∃ k : Nat, vi = .int .i64 (k : Int) ∧ k ≤ n ∧ CB wr gd 29 (bcells d.1) ∧ CB wr g8 31 r.cells ∧ Below w.heap.size w wr
set_option maxRecDepth 100000 in
set_option maxHeartbeats 8000000 in
theorem opens36_walk (l : List Tab) (v : Value) (w : World) (hl : TabsAt w l v) (hLd : Laid w) : Calls Tryd.prog 5 #[v] w (TruePost w) := by
  have HL := Lib.hid hl; have HLd := Lib.hid hLd
  obtain ⟨oa, cap, rfl, hlc, hlm⟩ := hl.shape
  clear hl hLd
  go_enter Tryd.func5, Tryd.ntmps5
  go_upto_region 3 with (go_at_call 9; refine (sane36_any w HLd.out).mono ?_; rintro e w1 ⟨rfl, hb1⟩)
  have HB1 := Lib.hid hb1
  have HF := Lib.hid (few_any l _ w1 (HL.out.ext HB1.out))
  clear hb1
  by_cases hf : fewT l = true
  case neg =>
    have hf' : fewT l = false := by simpa using hf
    rw [hf'] at HF
    clear hf hf'
    go_wp2_with (go_at_call 10; refine HF.out.mono ?_; rintro e w2 ⟨rfl, rfl⟩)
    go_ret
    exact ⟨rfl, HB1.out⟩
  case pos =>
  rw [hf] at HF
  have hf10 : l.length ≤ 10 := by unfold fewT at hf; simp only [Bool.and_eq_true, decide_eq_true_eq] at hf; exact hf.2
  have bl : (l.length : Int) ≤ 10 := by omega
  clear hf hf10 hlc hlm
  have HC1 := Lib.hid (commit_any l _ w1 (HL.out.ext HB1.out) (HLd.out.ext HB1.out))
  obtain ⟨d, hd⟩ : ∃ d, commitD l = d := ⟨_, rfl⟩
  rw [hd] at HC1
  have HD := Lib.hid hd
  have Hdl := Lib.hid d.2
  clear hd
  by_cases hv : validT l = true
  case neg =>
    have hce : commitE l = 360 := by unfold commitE; rw [if_neg hv]
    rw [hce] at HC1
    have hob : ¬ openB l 0 0 = true := by
      intro h
      obtain ⟨_, _, _, _, _, _, _, _, h2, _⟩ := open_parts h
      exact hv h2
    have HOb := Lib.hid hob
    clear hv hce hob
    go_wp2_with (first
      | (go_at_call 10; refine HF.out.mono ?_; rintro e w2 ⟨rfl, rfl⟩)
      | (go_at_call 13; refine HC1.out.mono ?_; go_loud (
          rintro e w2 ⟨rfl, hb2⟩
          have HB2 := Lib.hid (below_ext HB1.out hb2)
          have HZ : Hid ((w2.alloc ZD).heap[w2.heap.size]? = some (.cells (bcells dgZ.1).toArray 29 (0, 0))) := cb_one w2 ZD _ _ rfl
          clear hb2 HC1))
      | ((refine wpList_store_d (hgd := rfl) 29 (.tmp 3) (.tmp 21) rfl w2.heap.size d.1 Hdl.out rfl rfl 29 _ HZ.out rfl dig_sz ?_); go_loud (
          intro w3 hc3 hg3 hz3
          have hb3 : Below w2.heap.size w2 w3 := (b_al (w := w2) ZD).grown hg3.out (by rw [World.size_alloc]; omega) (fun k hk => by injection hk; omega)
          have HB3 := Lib.hid (below_ext HB2.out hb3)
          have HC2 := Lib.hid (open_any_no l 0 0 _ w3 (HL.out.ext HB3.out) HOb.out)
          clear hb3 hg3 hz3 hc3 HB2 HZ))
      | (go_at_call 15; refine HC2.out.mono ?_; go_loud (
          rintro e w4 ⟨r4, rfl, hr4, hb4⟩
          rw [(open_no HOb.out).2]
          have HB4 := Lib.hid (below_ext HB3.out hb4)
          have HZ4 : Hid ((w4.alloc ZO).heap[w4.heap.size]? = some (.cells obZ.cells.toArray 36 (0, 0))) := cb_one w4 ZO _ _ rfl
          clear hb4 hr4 HB3 HC2))
      | ((refine wpList_store_ob (hgd := rfl) 36 (.tmp 5) (.tmp 28) rfl w4.heap.size r4 rfl rfl 36 _ HZ4.out rfl ob_sz ?_); go_loud (
          intro w5 hc5 hg5 hz5
          have hb5 : Below w4.heap.size w4 w5 := (b_al (w := w4) ZO).grown hg5.out (by rw [World.size_alloc]; omega) (fun k hk => by injection hk; omega)
          have HB5 := Lib.hid (below_ext HB4.out hb5)
          clear hb5 hg5 hz5 hc5 HB4 HZ4)))
    go_ret
    exact ⟨rfl, HB5.out⟩
  case pos =>
  have hce : commitE l = 0 := by unfold commitE; rw [if_pos hv]
  rw [hce] at HC1
  have HV := Lib.hid hv
  clear hv hce
  go_upto_region 9 with (first
    | (go_at_call 10; refine HF.out.mono ?_; rintro e w2 ⟨rfl, rfl⟩)
    | (go_at_call 13; refine HC1.out.mono ?_; go_loud (
        rintro e w2 ⟨rfl, hb2⟩
        have HB2 := Lib.hid (below_ext HB1.out hb2)
        have HZ : Hid ((w2.alloc ZD).heap[w2.heap.size]? = some (.cells (bcells dgZ.1).toArray 29 (0, 0))) := cb_one w2 ZD _ _ rfl
        clear hb2 HC1))
    | ((refine wpList_store_d (hgd := rfl) 29 (.tmp 3) (.tmp 21) rfl w2.heap.size d.1 Hdl.out rfl rfl 29 _ HZ.out rfl dig_sz ?_); go_loud (
        intro w3 hc3 hg3 hz3
        have hb3 : Below w2.heap.size w2 w3 := (b_al (w := w2) ZD).grown hg3.out (by rw [World.size_alloc]; omega) (fun k hk => by injection hk; omega)
        have HB3 := Lib.hid (below_ext HB2.out hb3)
        clear hb3 hg3 hz3 HB2 HZ)))
  generalize w2.heap.size = gd at *
  clear HF
  go_wp2_with fail
  go_loopw [35] (fun vi wr => OpRel l d w gd vi wr) (fun vi _ => l.length - natOf vi)
  case atStart => exact ⟨⟨0, rfl, by omega, hc3.out, HB3.out⟩⟩
  case round =>
    obtain ⟨i, rfl, hi, hc, hb⟩ := hrel.h
    have HDr := Lib.hid hc; have HBr := Lib.hid hb
    clear hrel hc hb hc3 HB3
    by_cases hlt : i < l.length
    case neg =>
      obtain rfl : i = l.length := by omega
      have tj : decide ((l.length : Int) < (l.length : Int)) = false := by simp
      go_wp2_with fail
      go_ret
      exact ⟨rfl, HBr.out⟩
    case pos =>
    have tj : decide ((i : Int) < (l.length : Int)) = true := by simp; omega
    have tj' : decide (i < l.length) = true := by simp; omega
    have kb : (i : Int) < (l.length : Int) := by omega
    have Hil := Lib.hid hlt
    obtain ⟨t, ht⟩ : ∃ t, l[i]? = some t := ⟨_, List.getElem?_eq_getElem hlt⟩
    obtain ⟨b, off, r, rfl, hbb, hel, hr⟩ := HL.out.el ht
    have HG : Hid (wr.rangeAt b (off + i * 35) r.cells) := fun j u hu => cell_ext HBr.out (el_rng hel j u hu)
    have HT := Lib.hid hr; have Ht := Lib.hid ht
    have hn8 : (t.costs.length : Int) ≤ 64 := by have := (valid_tabI HV.out t (List.mem_of_getElem? ht)).few; omega
    have HZ : Hid ((wr.alloc ZT).heap[wr.heap.size]? = some (.cells (Tb.cells ⟨0, 0, none, 0, 0, dgZ⟩).toArray 31 (0, 0))) := cb_one wr ZT _ _ rfl
    obtain ⟨xo, xn, xc, hcv⟩ : ∃ a b c, r.cv = .slice a b c := ⟨_, _, _, rfl⟩
    have hcs := hr.cs
    rw [hcv] at hcs
    have hxn : xn = t.costs.length := by
      obtain ⟨_, _, he, _⟩ := hcs.shape
      injection he with _ e2 _
    subst hxn
    have HCV := Lib.hid hcv; have HCS := Lib.hid hcs
    clear hbb hel hr ht hlt hi hcv hcs
    go_upto_region 12 with (first
      | (with_reducible refine wpList_load_mid rfl 31 (.tmp 38) rfl b (off + i * 35) rfl r.cells _ HG.out Tryd.underlying31 rfl (by rw [tb_len]; exact tb_sz) ?_)
      | ((refine wpList_store_tb (hgd := rfl) 31 (.tmp 8) (.tmp 39) rfl wr.heap.size r rfl rfl 31 _ HZ.out rfl tb_sz ?_); go_loud (
          intro w4 hc4 hg4 hz4
          have hb4 : Below wr.heap.size wr w4 := (b_al (w := wr) ZT).grown hg4.out (by rw [World.size_alloc]; omega) (fun k hk => by injection hk; omega)
          have HB4 := Lib.hid (below_ext HBr.out hb4); have HD4 := Lib.hid (HDr.out.ext hb4)
          clear hb4 hg4 hz4 HZ HG HBr HDr)))
    generalize wr.heap.size = g8 at *
    have c2 := (tb_cell hc4.out).2.2
    rw [HCV.out] at c2
    generalize wr = wr0 at *
    go_wp2_with fail
    clear c2
    go_loopw [43] (fun vi wr => OqRel t.costs.length d r w gd g8 vi wr) (fun vi _ => t.costs.length - natOf vi)
    case atStart => exact ⟨⟨0, rfl, by omega, HD4.out, hc4.out, HB4.out⟩⟩
    case round =>
      obtain ⟨k, rfl, hk, hd, hc8, hb⟩ := hrel.h
      have HDr := Lib.hid hd; have HBr := Lib.hid hb; have H8r := Lib.hid hc8
      clear hrel hd hc8 hb hc4 HD4 HB4
      by_cases hkt : k < t.costs.length
      case neg =>
        obtain rfl : k = t.costs.length := by omega
        have tk : decide ((t.costs.length : Int) < (t.costs.length : Int)) = false := by simp
        go_wp2_with fail
        go_roundw
        case rel => exact ⟨⟨i + 1, by go_num, by have := Hil.out; omega, HDr.out, HBr.out⟩⟩
        case measure => simp [natOf]; have := Hil.out; omega
      case pos =>
      have tk : decide ((k : Int) < (t.costs.length : Int)) = true := by simp; omega
      have tk' : decide (k < t.costs.length) = true := by simp; omega
      have kk : (k : Int) < (t.costs.length : Int) := by omega
      have Hkt := Lib.hid hkt
      obtain ⟨c, hc⟩ : ∃ c, t.costs[k]? = some c := ⟨_, List.getElem?_eq_getElem hkt⟩
      obtain ⟨cb, co, rfl, _, hat⟩ := (HCS.out.ext HBr.out).at hkt
      have c5 := hat k c hc 0 _ rfl
      have c5 : wr.cell? ⟨cb, co + k, none⟩ = some (.int .i64 c) := by simpa [nuK] using c5
      have Hc := Lib.hid hc
      obtain ⟨-, hoo, hoe⟩ := open_yes HV.out Ht.out hc
      have hve : verE d t.air (l.length : Int) (t.costs.length : Int) (openO l i k) = 0 := by
        unfold verE
        rw [← HD.out]
        exact if_pos (open_ver HV.out Ht.out hc)
      have HC2 := Lib.hid (open_any l i k _ wr (HL.out.ext HBr.out) (HLd.out.ext HBr.out))
      unfold OpenPost at HC2
      rw [hoe] at HC2
      obtain ⟨q, hq⟩ : ∃ q, openO l i k = q := ⟨_, rfl⟩
      rw [hq] at HC2 hve hoo
      have Hve := Lib.hid hve; have Hoo := Lib.hid hoo
      have Hql : Hid (q.path.length ≤ 64) := by show _ ≤ _; rw [← hq]; have := open_len l i k; omega
      clear hat hc hoo hoe hve hq hkt hk
      go_upto_region 16 with (first
        | (go_at_call 15; refine HC2.out.mono ?_; go_loud (
            rintro e w5 ⟨r5, rfl, hr5, hb5⟩
            have HB5 := Lib.hid (below_ext HBr.out hb5); have HD5 := Lib.hid (HDr.out.ext hb5); have H85 := Lib.hid (H8r.out.ext hb5); have HR5 := Lib.hid hr5
            have HZ5 : Hid ((w5.alloc ZO).heap[w5.heap.size]? = some (.cells obZ.cells.toArray 36 (0, 0))) := cb_one w5 ZO _ _ rfl
            clear hb5 hr5 HBr HDr H8r HC2 c5))
        | ((refine wpList_store_ob (hgd := rfl) 36 (.tmp 11) (.tmp 53) rfl w5.heap.size r5 rfl rfl 36 _ HZ5.out rfl ob_sz ?_); go_loud (
            intro w6 hc6 hg6 hz6
            have hb6 : Below w5.heap.size w5 w6 := (b_al (w := w5) ZO).grown hg6.out (by rw [World.size_alloc]; omega) (fun k hk => by injection hk; omega)
            have HB6 := Lib.hid (below_ext HB5.out hb6); have HD6 := Lib.hid (HD5.out.ext hb6); have H86 := Lib.hid (H85.out.ext hb6); have HR6 := Lib.hid (HR5.out.ext hb6)
            clear hb6 hg6 hz6 HB5 HD5 H85 HR5 HZ5)))
      generalize w5.heap.size = g11 at *
      obtain ⟨t0, t1, t2⟩ := tb_cell H86.out
      have t3 := tb_salt H86.out
      obtain ⟨o0, o1, o2, o3, o4, -⟩ := ob_cell hc6.out
      obtain ⟨n0, n1, n2, n3, n4, -⟩ := HR6.out
      have hT := HT.out
      rw [hT.air] at t0; rw [hT.fl] at t1; rw [HCV.out] at t2; rw [hT.salt] at t3
      rw [n0, Hoo.out] at o0; rw [n1, Hoo.out] at o1; rw [n2, Hoo.out] at o2; rw [n3, Hoo.out] at o3; rw [n4, Hoo.out] at o4
      change w6.cell? ⟨g11, 0, none⟩ = some (.int .i64 t.air) at o0
      change w6.cell? ⟨g11, 1, none⟩ = some (.int .i64 t.fl) at o1
      change w6.cell? ⟨g11, 2, none⟩ = some (.int .i64 (k : Int)) at o2
      change w6.cell? ⟨g11, 3, none⟩ = some (.int .i64 c) at o3
      change w6.rangeAt g11 4 (bcells t.salt.1) at o4
      have HV6 := Lib.hid (verify_any d t.air l.length t.costs.length q r5 w6 HR6.out Hql.out (HLd.out.ext HB6.out))
      unfold VerPost at HV6
      rw [Hve.out] at HV6
      obtain ⟨ta, hta⟩ : ∃ x, t.air = x := ⟨_, rfl⟩
      obtain ⟨tf, htf⟩ : ∃ x, t.fl = x := ⟨_, rfl⟩
      obtain ⟨ts, hts⟩ : ∃ x, t.salt = x := ⟨_, rfl⟩
      rw [hta] at t0 o0 HV6
      rw [htf] at t1 o1
      rw [hts] at t3 o4
      have Hsl := Lib.hid ts.2
      have HO4 := Lib.hid o4; have HT3 := Lib.hid t3
      have hgd := fun (a1 a2 : Operand) (W : World) => gd_dv .neq a1 a2 ts.1 ts.1 W
      have hne : ∀ W, (binOp .neq 29 (.agg (bcells ts.1).toArray) (.agg (bcells ts.1).toArray)).run Tryd.prog W = .ok (.bool false) W := fun W => neq_dg ts.1 Hsl.out W
      clear n0 n1 n2 n3 n4 hT hta htf hts o4 t3
      go_wp2_with (first
        | (refine wpList_load_midg (by rfl) 29 (.tmp 84) rfl g11 4 rfl (bcells ts.1) _ HO4.out Tryd.underlying29 rfl (by rw [bcells_length, Hsl.out]; exact dig_sz) ?_)
        | (refine wpList_load_midg (by rfl) 29 (.tmp 86) rfl g8 3 rfl (bcells ts.1) _ HT3.out Tryd.underlying29 rfl (by rw [bcells_length, Hsl.out]; exact dig_sz) ?_)
        | (refine wpList_load_dg (by rfl) 29 (.tmp 3) rfl gd d.1 Hdl.out rfl 29 _ HD6.out Tryd.underlying29 rfl dig_sz ?_)
        | (refine wpList_load_cbg (by rfl) 36 (.tmp 11) rfl g11 r5.cells rfl 36 _ hc6.out Tryd.underlying36 rfl (by rw [ob_len]; exact ob_sz) ?_)
        | (go_at_call 18; refine HV6.out.mono ?_; go_loud (
            rintro e w7 ⟨rfl, hb7⟩
            have HB7 := Lib.hid (below_ext HB6.out hb7); have HD7 := Lib.hid (HD6.out.ext hb7); have H87 := Lib.hid (H86.out.ext hb7)
            clear hb7 HV6 HB6 HD6 H86 HR6 t0 t1 t2 o0 o1 o2 o3)))
      go_roundw
      case rel => exact ⟨⟨k + 1, by go_num, by have := Hkt.out; omega, HD7.out, H87.out, HB7.out⟩⟩
      case measure => simp [natOf]; have := Hkt.out; omega
end Go.Proofs.YtbonebmboolemaaDoor
