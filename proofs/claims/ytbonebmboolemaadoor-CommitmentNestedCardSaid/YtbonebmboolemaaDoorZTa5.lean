/- CommitmentNested, walked. -/
import Derived.Test.YtbonebmboolemaaDoorK40
import Derived.Test.YtbonebmboolemaaDoorZThd
namespace Go.Proofs.YtbonebmboolemaaDoor
open Go.RowKit
structure NoRel (l : List Tab) (d : Dg) (w : World) (g3 : Nat) (vl vi : Value) (wr : World) : Prop where
  h : ∃ i : Nat, vi = .int .i64 (i : Int) ∧ i ≤ l.length ∧ OwnK digK 29 wr (g3 + 1) vl ((digestsT l).take i) ∧ CB wr g3 29 (bcells d.1) ∧ Below w.heap.size w wr
structure NiRel (t : Tab) (w0 : World) (vl vi : Value) (wr : World) : Prop where
  h : ∃ k : Nat, vi = .int .i64 (k : Int) ∧ k ≤ t.costs.length ∧ OwnK digK 29 wr w0.heap.size vl ((leavesT t).take k) ∧ Below w0.heap.size w0 wr
set_option maxRecDepth 100000 in
set_option maxHeartbeats 16000000 in
theorem nested36_walk (l : List Tab) (v : Value) (w : World) (hl : TabsAt w l v) (hLd : Laid w) : Calls Tryd.prog 8 #[v] w (TruePost w) := by
  have HL := Lib.hid hl; have HLd := Lib.hid hLd
  obtain ⟨oa, cap, rfl, hlc, hlm⟩ := hl.shape
  clear hl hLd
  go_enter Tryd.func8, Tryd.ntmps8
  go_upto_region 3 with (go_at_call 9; refine (sane36_any w HLd.out).mono ?_; rintro e w1 ⟨rfl, hb1⟩)
  have HB1 := Lib.hid hb1
  have HF := Lib.hid (few_any l _ w1 (HL.out.ext HB1.out))
  clear hb1
  by_cases hf : fewT l = true
  case neg =>
    have hf' : fewT l = false := by simpa using hf
    rw [hf'] at HF
    clear hf hf'
    go_wp2_with (go_at_call 10; refine HF.out.mono ?_; rintro e w2 ⟨rfl, rfl⟩)
    go_ret
    exact ⟨rfl, HB1.out⟩
  case pos =>
  rw [hf] at HF
  have hf10 : l.length ≤ 10 := by unfold fewT at hf; simp only [Bool.and_eq_true, decide_eq_true_eq] at hf; exact hf.2
  have bl : (l.length : Int) ≤ 10 := by omega
  clear hf hf10 hlc hlm
  have HC1 := Lib.hid (commit_any l _ w1 (HL.out.ext HB1.out) (HLd.out.ext HB1.out))
  obtain ⟨d, hd⟩ : ∃ d, commitD l = d := ⟨_, rfl⟩
  rw [hd] at HC1
  have HD := Lib.hid hd
  have Hdl := Lib.hid d.2
  clear hd
  by_cases hv : validT l = true
  case neg =>
    have hce : commitE l = 360 := by unfold commitE; rw [if_neg hv]
    have hdz : d = dgZ := by rw [← HD.out]; unfold commitD; rw [if_neg hv]
    rw [hce] at HC1
    have hbz0 := dg_built0
    rw [← hdz] at hbz0
    have hbz := Lib.hid hbz0
    have hgd : ∀ (a1 a2 : Operand) (W : World), (eqGuard .eql 29 a1 a2 (dv d.1) (.agg (bcells d.1).toArray)).run Tryd.prog W = .ok () W := fun a1 a2 W => gd_dv .eql a1 a2 d.1 d.1 W
    have heq : ∀ W, (binOp .eql 29 (dv d.1) (.agg (bcells d.1).toArray)).run Tryd.prog W = .ok (.bool true) W := fun W => by
      have := eql_dv d.1 d.1 Hdl.out Hdl.out W
      unfold dv at this ⊢
      rw [this]; simp
    clear hv hce hdz hbz0
    go_wp2_with (first
      | (go_at_call 10; refine HF.out.mono ?_; rintro e w2 ⟨rfl, rfl⟩)
      | (go_at_call 13; refine HC1.out.mono ?_; go_loud (
          rintro e w2 ⟨rfl, hb2⟩
          have HB2 := Lib.hid (below_ext HB1.out hb2)
          have HZ : Hid ((w2.alloc ZD).heap[w2.heap.size]? = some (.cells (bcells dgZ.1).toArray 29 (0, 0))) := cb_one w2 ZD _ _ rfl
          clear hb2 HC1))
      | ((refine wpList_store_d (hgd := rfl) 29 (.tmp 3) (.tmp 19) rfl w2.heap.size d.1 Hdl.out rfl rfl 29 _ HZ.out rfl dig_sz ?_); go_loud (
          intro w3 hc3 hg3 hz3
          have hb3 : Below w2.heap.size w2 w3 := (b_al (w := w2) ZD).grown hg3.out (by rw [World.size_alloc]; omega) (fun k hk => by injection hk; omega)
          have HB3 := Lib.hid (below_ext HB2.out hb3)
          clear hb3 hg3 hz3 HB2 HZ))
      | (with_reducible refine wpList_load_d (hgd := rfl) 29 (.tmp 3) rfl w2.heap.size d.1 Hdl.out rfl 29 _ hc3.out Tryd.underlying29 rfl dig_sz ?_)
      | (refine wpList_built (by rfl) 29 #[] rfl (bcells d.1) [] rfl hbz.out ?_))
    go_ret
    exact ⟨rfl, HB3.out⟩
  case pos =>
  have hce : commitE l = 0 := by unfold commitE; rw [if_pos hv]
  have hdt : treeD (digestsT l) = d := by rw [← HD.out]; unfold commitD; rw [if_pos hv]
  rw [hce] at HC1
  have HV := Lib.hid hv; have HDT := Lib.hid hdt
  have Hdl64 : Hid ((digestsT l).length ≤ 64) := by show _ ≤ _; rw [digestsT_len]; have := valid_len hv; omega
  clear hv hce hdt
  go_upto_region 8 with (first
    | (go_at_call 10; refine HF.out.mono ?_; rintro e w2 ⟨rfl, rfl⟩)
    | (go_at_call 13; refine HC1.out.mono ?_; go_loud (
        rintro e w2 ⟨rfl, hb2⟩
        have HB2 := Lib.hid (below_ext HB1.out hb2)
        have HZ : Hid ((w2.alloc ZD).heap[w2.heap.size]? = some (.cells (bcells dgZ.1).toArray 29 (0, 0))) := cb_one w2 ZD _ _ rfl
        clear hb2 HC1))
    | ((refine wpList_store_d (hgd := rfl) 29 (.tmp 3) (.tmp 19) rfl w2.heap.size d.1 Hdl.out rfl rfl 29 _ HZ.out rfl dig_sz ?_); go_loud (
        intro w3 hc3 hg3 hz3
        have hb3 : Below w2.heap.size w2 w3 := (b_al (w := w2) ZD).grown hg3.out (by rw [World.size_alloc]; omega) (fun k hk => by injection hk; omega)
        have HB3 := Lib.hid (below_ext HB2.out hb3)
        have Hg3 : Hid (w.heap.size ≤ w2.heap.size) := HB2.out.size
        clear hb3 hg3 hz3 HB2 HZ)))
  generalize w2.heap.size = g3 at *
  clear HF
  go_wp2_with fail
  go_loopw [5, 28] (fun vl vi wr => NoRel l d w g3 vl vi wr) (fun _ vi _ => l.length - natOf vi)
  case atStart => exact ⟨⟨0, rfl, by omega, OwnK.nil _ _ _, hc3.out, HB3.out⟩⟩
  case round =>
    obtain ⟨i, rfl, hi, ho, hc, hb⟩ := hrel.h
    have HP := Lib.hid ho; have HDr := Lib.hid hc; have HBr := Lib.hid hb
    obtain ⟨op, cp, rfl, _⟩ := ho.rd.shape
    clear hrel ho hc hb hc3 HB3
    by_cases hlt : i < l.length
    case neg =>
      obtain rfl : i = l.length := by omega
      have tj : decide ((l.length : Int) < (l.length : Int)) = false := by simp
      have hall : (digestsT l).take l.length = digestsT l := List.take_of_length_le (by rw [digestsT_len]; exact Nat.le_refl _)
      rw [hall] at HP ⊢
      have HTr := Lib.hid (tree_is (w := wr) Hdl64.out HP.out.rd (HLd.out.ext HBr.out))
      have hgd := fun (a1 a2 : Operand) (W : World) => gd_dv .eql a1 a2 d.1 d.1 W
      have heq : ∀ W, (binOp .eql 29 (dv d.1) (dv d.1)).run Tryd.prog W = .ok (.bool true) W := fun W => by rw [eql_dv _ _ Hdl.out Hdl.out]; simp
      rw [HDT.out] at HTr
      clear hall hlt hi
      -- the end
      go_upto_region 20 with fail
      have KB := Lib.hid HBr.out.drew
      have KD : Hid (CB wr.drew g3 29 (bcells d.1)) := HDr.out
      have KT := Lib.hid (tree_is (w := wr.drew) Hdl64.out (HP.out.ext (Below.refl wr.heap.size wr).drew).rd (HLd.out.ext HBr.out.drew))
      rw [HDT.out] at KT
      refine wp_region_held_drew (S := fun w' => w'.rangeAt g3 0 (bcells d.1)) (by kernel_rfl) (cb_rng0 KD.out) (fun hHeld => ?_)
      clear HBr HDr HP HTr
      generalize wr.drew = w5 at *
      refine take_dst (some 61) (i := 0) (v := dv d.1) rfl rfl (by kernel_rfl) (by kernel_rfl) (by kernel_rfl) (fun _ _ _ h => h) (yieldsIf_load_mid (by rfl) 29 _ rfl g3 0 rfl (bcells d.1) _ (fun wS hSw => by exact hSw) Tryd.underlying29 rfl (by rw [bcells_length, Hdl.out]; exact dig_sz)) (by assumption) ?restE0
      try simp only [Act.put, List.setIfInBounds_toArray, List.set_cons_zero, List.set_cons_succ]
      refine take_dst (some 62) (i := 1) (v := ?vE1) rfl rfl (by kernel_rfl) (by kernel_rfl) (by kernel_rfl) (fun _ _ _ h => h) (Or.inl ⟨by rfl, fun wS hSw => ?hyE1⟩) (by assumption) ?restE1
      case hyE1 => (obtain s1 := hSw; go_simp; first | done | with_reducible rfl)
      try simp only [Act.put, List.setIfInBounds_toArray, List.set_cons_zero, List.set_cons_succ]
      refine wpAnyH_ready (rs := [2]) (by kernel_rfl) (by simp) ?_
      refine AllReadyH.cons rfl (fun K hK => ?_) AllReadyH.nil
      go_simp
      refine KT.out.mono ?_
      rintro e w6 ⟨rfl, hb6⟩
      have KB6 := Lib.hid (below_ext KB.out hb6); have KD6 := Lib.hid (KD.out.ext hb6)
      clear hb6 KB KD KT
      refine hK.out _ _ (cb_rng0 KD6.out) (fun hHeld => ?_)
      clear hK K
      try simp only [Act.put, List.setIfInBounds_toArray, List.set_cons_zero, List.set_cons_succ]
      refine take_dst (some 64) (i := 3) (v := ?vE3) rfl rfl (by kernel_rfl) (by kernel_rfl) (by kernel_rfl) (fun _ _ _ h => h) (Or.inl ⟨by rfl, fun wS hSw => ?hyE3⟩) (by assumption) ?restE3
      case hyE3 => (obtain s1 := hSw; go_simp; first | done | with_reducible rfl)
      try simp only [Act.put, List.setIfInBounds_toArray, List.set_cons_zero, List.set_cons_succ]
      refine take_dst (some 2) (i := 4) (v := ?vE4) rfl rfl (by kernel_rfl) (by kernel_rfl) (by kernel_rfl) (fun _ _ _ h => h) (Or.inl ⟨by rfl, fun wS hSw => ?hyE4⟩) (by assumption) ?restE4
      case hyE4 => (obtain s1 := hSw; go_simp; first | done | with_reducible rfl)
      try simp only [Act.put, List.setIfInBounds_toArray, List.set_cons_zero, List.set_cons_succ]
      refine wpAnyH_done (by kernel_rfl) ?_ _
      go_wp2_with fail
      go_ret
      exact ⟨rfl, KB6.out⟩
    case pos =>
    have tj : decide ((i : Int) < (l.length : Int)) = true := by simp; omega
    have tj' : decide (i < l.length) = true := by simp; omega
    have kb : (i : Int) < (l.length : Int) := by omega
    have Hil := Lib.hid hlt
    obtain ⟨t, ht⟩ : ∃ t, l[i]? = some t := ⟨_, List.getElem?_eq_getElem hlt⟩
    obtain ⟨b, off, r, rfl, hbb, hel, hr⟩ := HL.out.el ht
    have HG : Hid (wr.rangeAt b (off + i * 35) r.cells) := fun j u hu => cell_ext HBr.out (el_rng hel j u hu)
    have hti := valid_tabI HV.out t (List.mem_of_getElem? ht)
    have HTI := Lib.hid hti
    have hn8 : (t.costs.length : Int) ≤ 64 := by have := hti.few; omega
    have HZ : Hid ((wr.alloc ZT).heap[wr.heap.size]? = some (.cells (Tb.cells ⟨0, 0, none, 0, 0, dgZ⟩).toArray 31 (0, 0))) := cb_one wr ZT _ _ rfl
    obtain ⟨xo, xn, xc, hcv⟩ : ∃ a b c, r.cv = .slice a b c := ⟨_, _, _, rfl⟩
    have hcs := hr.cs
    rw [hcv] at hcs
    have hxn : xn = t.costs.length := by
      obtain ⟨_, _, he, _⟩ := hcs.shape
      injection he with _ e2 _
    subst hxn
    have HCV := Lib.hid hcv; have HCS := Lib.hid hcs; have HRR := Lib.hid hr
    have hts := Lib.hid (take_snocI (digestsT_at ht))
    obtain ⟨p, hp⟩ : ∃ p, (digestsT l).take i = p := ⟨_, rfl⟩
    have hpl : p.length ≤ 64 := by rw [← hp, List.length_take]; have := Hdl64.out; omega
    rw [hp] at HP hts ⊢
    have Hpl := Lib.hid hpl
    have Hlv : Hid ((leavesT t).length ≤ 64) := by show _ ≤ _; rw [leavesT_len]; exact hti.few
    clear hbb hel hr ht hlt hi hcv hcs hti hp hpl
    go_upto_region 12 with (first
      | (with_reducible refine wpList_load_mid rfl 31 (.tmp 30) rfl b (off + i * 35) rfl r.cells _ HG.out Tryd.underlying31 rfl (by rw [tb_len]; exact tb_sz) ?_)
      | ((refine wpList_store_tb (hgd := rfl) 31 (.tmp 7) (.tmp 31) rfl wr.heap.size r rfl rfl 31 _ HZ.out rfl tb_sz ?_); go_loud (
          intro w4 hc4 hg4 hz4
          have hb4 : Below wr.heap.size wr w4 := (b_al (w := wr) ZT).grown hg4.out (by rw [World.size_alloc]; omega) (fun k hk => by injection hk; omega)
          have HB4 := Lib.hid (below_ext HBr.out hb4); have HD4 := Lib.hid (HDr.out.ext hb4); have HP4 := Lib.hid (HP.out.ext hb4)
          clear hb4 hg4 hz4 HZ HG HBr HDr HP)))
    generalize wr.heap.size = g7 at *
    have c2 := (tb_cell hc4.out).2.2
    rw [HCV.out] at c2
    generalize wr = wr0 at *
    go_wp2_with fail
    clear c2
    go_loopw [8, 35] (fun vl vi wr => NiRel t w4 vl vi wr) (fun _ vi _ => t.costs.length - natOf vi)
    case atStart => exact ⟨⟨0, rfl, by omega, OwnK.nil _ _ _, Below.refl _ _⟩⟩
    case round =>
      obtain ⟨k, rfl, hk, ho, hb⟩ := hrel.h
      have HQ := Lib.hid ho; have HW := Lib.hid hb
      obtain ⟨oq, cq, rfl, _⟩ := ho.rd.shape
      clear hrel ho hb
      have HBr := Lib.hid (below_ext HB4.out HW.out); have HDr := Lib.hid (HD4.out.ext HW.out); have HPr := Lib.hid (HP4.out.ext HW.out); have H7r : Hid (CB wr g7 31 r.cells) := hc4.out.ext HW.out
      by_cases hkt : k < t.costs.length
      case neg =>
        obtain rfl : k = t.costs.length := by omega
        have tk : decide ((t.costs.length : Int) < (t.costs.length : Int)) = false := by simp
        have hall : (leavesT t).take t.costs.length = leavesT t := List.take_of_length_le (by rw [leavesT_len]; exact Nat.le_refl _)
        rw [hall] at HQ ⊢
        have HTr := Lib.hid (tree_is (w := wr) Hlv.out HQ.out.rd (HLd.out.ext HBr.out))
        obtain ⟨x, hx⟩ : ∃ x, treeD (leavesT t) = x := ⟨_, rfl⟩
        rw [hx] at HTr hts
        clear hall hkt hk hx HQ
        go_wp2_with (first
          | (go_at_call 25; refine HTr.out.mono ?_; go_loud (
              rintro e w6 ⟨rfl, hb6⟩
              have KX : Hid (Src Tryd.prog 32 34 (.slice (some ⟨w6.heap.size, 0, none⟩) 1 1) 1 (digK.flat [x]) (w6.alloc (bD x))) := src_el (K := digK) (a := x) Tryd.underlying34 (cb_one w6 _ _ _ rfl)
              have KP6 := Lib.hid ((HPr.out.ext hb6).alloc (bD x)); have KB6 := Lib.hid (below_ext (below_ext HBr.out hb6) (b_al (bD x))); have KD6 := Lib.hid ((HDr.out.ext hb6).ext (b_al (bD x)))
              clear hb6 HTr HBr HDr HPr H7r HW))
          | (with_reducible refine wpList_bs rfl (.tmp 57) rfl x rfl ?_)
          | (at_builtin; (refine wpList_append_x (e := 29) (z := .agg (bcells dgZ.1).toArray) (size := 32) (bytes := 32) Tryd.underlying34 dig_info2 rfl rfl (.tmp 55) (.tmp 58) rfl (g3 + 1) _ p.length (digK.flat p) rfl KP6.out _ 1 (digK.flat [x]) rfl KX.out (by have := Hpl.out; unfold maxLen; omega) (by have := Hpl.out; omega) KD6.out.lt ?_); go_loud (
              intro v7 w7 ho7 hg7 hn7
              have KP7 : Hid (OwnK digK 29 w7 (g3 + 1) v7 (p ++ [x])) := OwnK.append (K := digK) ho7 (by simp)
              have KB7 := Lib.hid (below_ownK KB6.out KP6.out hg7 (Nat.le_succ_of_le Hg3.out))
              have KD7 := Lib.hid (KD6.out.own KP6.out hg7 (Nat.lt_succ_self _))
              clear ho7 hg7 hn7 KX KP6 KB6 KD6)))
        go_roundw
        case rel => exact ⟨⟨i + 1, by go_num, by have := Hil.out; omega, by rw [hts.out]; exact KP7.out, KD7.out, KB7.out⟩⟩
        case measure => simp [natOf]; have := Hil.out; omega
      case pos =>
      have tk : decide ((k : Int) < (t.costs.length : Int)) = true := by simp; omega
      have tk' : decide (k < t.costs.length) = true := by simp; omega
      have kk : (k : Int) < (t.costs.length : Int) := by omega
      have Hkt := Lib.hid hkt
      obtain ⟨c, hc⟩ : ∃ c, t.costs[k]? = some c := ⟨_, List.getElem?_eq_getElem hkt⟩
      obtain ⟨cb, co, rfl, _, hat⟩ := (HCS.out.ext HBr.out).at hkt
      have c5 := hat k c hc 0 _ rfl
      have c5 : wr.cell? ⟨cb, co + k, none⟩ = some (.int .i64 c) := by simpa [nuK] using c5
      obtain ⟨t0, t1, -⟩ := tb_cell H7r.out
      have t3 := tb_salt H7r.out
      rw [HRR.out.air] at t0; rw [HRR.out.fl] at t1; rw [HRR.out.salt] at t3
      have hlx := leavesT_at hc
      have hIo : OpI ⟨t.air, t.fl, (k : Int), c, t.salt, []⟩ := ⟨HTI.out.air, HTI.out.fl, (show I64 ((k : Nat) : Int) by unfold I64; omega), HTI.out.cs c (List.mem_of_getElem? hc)⟩
      obtain ⟨ta, hta⟩ : ∃ x, t.air = x := ⟨_, rfl⟩
      obtain ⟨tf, htf⟩ : ∃ x, t.fl = x := ⟨_, rfl⟩
      obtain ⟨ts, hts2⟩ : ∃ x, t.salt = x := ⟨_, rfl⟩
      rw [hta, htf, hts2] at hlx hIo
      rw [hta] at t0; rw [htf] at t1; rw [hts2] at t3
      have HH := Lib.hid (hashed_any ⟨ta, tf, (k : Int), c, ts, []⟩ ⟨ta, tf, (k : Int), c, ts, none, 0, 0⟩ wr ⟨rfl, rfl, rfl, rfl, rfl, .inl ⟨rfl, _, _, rfl⟩⟩ hIo)
      have hbu := Lib.hid (ob_built5 ta tf (k : Int) c ts)
      obtain ⟨RO, hRO⟩ : ∃ RO : Ob, RO = ⟨ta, tf, (k : Int), c, ts, none, 0, 0⟩ := ⟨_, rfl⟩
      rw [← hRO] at HH hbu
      have HxT : Hid (tagged costT (hashedX ⟨ta, tf, (k : Int), c, ts, []⟩) = (leafX ts [ta, tf, (k : Int), c]).1) := rfl
      have hhl : (hashedX ⟨ta, tf, (k : Int), c, ts, []⟩).length ≤ 1000 := by
        unfold hashedX
        have := enc_most [ta, tf, (k : Int), c] (by simp)
        rw [List.length_append, ts.2]; show 32 + (enc (lsI [ta, tf, (k : Int), c])).length ≤ 1000; omega
      obtain ⟨hx, hhx⟩ : ∃ y, hashedX ⟨ta, tf, (k : Int), c, ts, []⟩ = y := ⟨_, rfl⟩
      rw [hhx] at HH HxT hhl
      obtain ⟨x, hxx⟩ : ∃ x, leafX ts [ta, tf, (k : Int), c] = x := ⟨_, rfl⟩
      rw [hxx] at HxT hlx
      have Hhl := Lib.hid hhl
      have hts3 := Lib.hid (take_snocI hlx)
      obtain ⟨q, hq⟩ : ∃ q, (leavesT t).take k = q := ⟨_, rfl⟩
      have hql : q.length ≤ 64 := by rw [← hq, List.length_take]; have := Hlv.out; omega
      rw [hq] at HQ hts3 ⊢
      have Hql := Lib.hid hql; have Hts := Lib.hid ts.2; have HT3 := Lib.hid t3
      clear hat hc hlx hIo hta htf hts2 hRO hhl hhx hxx hq hql t3 hkt hk
      go_wp2_with (first
        | (with_reducible refine wpList_load_mid rfl 29 (.tmp 47) rfl g7 3 rfl (bcells ts.1) _ HT3.out Tryd.underlying29 rfl (by rw [bcells_length, Hts.out]; exact dig_sz) ?_)
        | (refine wpList_built (by rfl) 36 #[(0, .tmp 42), (1, .tmp 44), (2, .tmp 45), (3, .tmp 46), (4, .tmp 48)] rfl RO.cells _ rfl hbu.out ?_)
        | (go_at_call 24; refine HH.out.mono ?_; go_loud (
            rintro e w6 ⟨v6, rfl, hv6, hb6⟩
            have HW6 := Lib.hid (below_ext HW.out hb6); have HQ6 := Lib.hid (HQ.out.ext hb6)
            have HTg := Lib.hid (tagged_any ⟨#[99, 111, 115, 116]⟩ v6 hx w6 (by decide) (by have := Hhl.out; omega) hv6 (HLd.out.ext (below_ext HBr.out hb6)))
            clear hv6 hb6 HH HW HQ t0 t1 c5))
        | (go_at_call 23; refine HTg.out.mono ?_; go_loud (
            rintro e w7 ⟨rfl, hb7⟩
            rw [show tagged (ByteArray.data ⟨#[99, 111, 115, 116]⟩).toList hx = x.1 from HxT.out]
            have KX : Hid (Src Tryd.prog 32 34 (.slice (some ⟨w7.heap.size, 0, none⟩) 1 1) 1 (digK.flat [x]) (w7.alloc (bD x))) := src_el (K := digK) (a := x) Tryd.underlying34 (cb_one w7 _ _ _ rfl)
            have KQ7 := Lib.hid ((HQ6.out.ext hb7).alloc (bD x)); have KW7 := Lib.hid (below_ext (below_ext HW6.out hb7) (b_al (bD x)))
            clear hb7 HTg HW6 HQ6))
        | (with_reducible refine wpList_bs rfl (.tmp 51) rfl x rfl ?_)
        | (at_builtin; (refine wpList_append_x (e := 29) (z := .agg (bcells dgZ.1).toArray) (size := 32) (bytes := 32) Tryd.underlying34 dig_info2 rfl rfl (.tmp 40) (.tmp 52) rfl w4.heap.size _ q.length (digK.flat q) rfl KQ7.out _ 1 (digK.flat [x]) rfl KX.out (by have := Hql.out; unfold maxLen; omega) (by have := Hql.out; omega) KW7.out.size ?_); go_loud (
            intro v8 w8 ho8 hg8 hn8
            have KQ8 : Hid (OwnK digK 29 w8 w4.heap.size v8 (q ++ [x])) := OwnK.append (K := digK) ho8 (by simp)
            have KW8 := Lib.hid (below_ownK KW7.out KQ7.out hg8 (Nat.le_refl _))
            clear ho8 hg8 hn8 KX KQ7 KW7)))
      go_roundw
      case rel => exact ⟨⟨k + 1, by go_num, by have := Hkt.out; omega, by rw [hts3.out]; exact KQ8.out, KW8.out⟩⟩
      case measure => simp [natOf]; have := Hkt.out; omega
end Go.Proofs.YtbonebmboolemaaDoor
