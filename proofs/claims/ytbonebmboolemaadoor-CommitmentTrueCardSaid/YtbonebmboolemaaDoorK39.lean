/- Merged: Ton Tsp Tsn. -/
import Derived.Test.YtbonebmboolemaaDoorK31
import Derived.Test.YtbonebmboolemaaDoorK34
import Derived.Test.YtbonebmboolemaaDoorK38
/- commitment's Open (printed by gen36o.py). -/
namespace Go.Proofs.YtbonebmboolemaaDoor
open Go.RowKit
set_option maxRecDepth 100000 in
set_option maxHeartbeats 4000000 in
theorem open_any_no (l : List Tab) (a s : Int) (v : Value) (w : World) (hl : TabsAt w l v) (h : ¬ openB l a s = true) :
    Calls Tryd.prog 15 #[v, .int .i64 a, .int .i64 s] w (OpenPost l a s w) := by
  obtain ⟨ho, he⟩ := open_no h
  have HE := Lib.hid he
  have HO := Lib.hid ho
  have HB := Lib.hid (b_al (w := w) ZO)
  have H6 : Hid (CB (w.alloc ZO) w.heap.size 36 obZ.cells) := cb_one w _ _ _ rfl
  have HV := Lib.hid (valid_any l v _ (hl.ext HB.out))
  have HL := Lib.hid hl
  obtain ⟨oa, cap, rfl, hlc, hlm⟩ := hl.shape
  have bl : (l.length : Int) ≤ 9223372036854775807 := by omega
  have HP : Hid (∀ (w2 w7 : World), Below w.heap.size w w2 → w2.grownBy w7 (some w.heap.size) → OpenPost l a s w (.returned (.tuple #[obZ.v, .int .i64 360])) w7) := fun w2 w7 hb hg =>
    ⟨obZ, by rw [HE.out], by rw [HO.out]; exact ⟨rfl, rfl, rfl, rfl, rfl, .inl ⟨rfl, _, _, rfl⟩⟩, hb.grown hg hb.size (fun k hk => by injection hk; omega)⟩
  clear hl hlc hlm ho he
  by_cases hv : validT l = true
  case neg =>
    have hv' : validT l = false := by simpa using hv
    rw [hv'] at HV
    clear hv hv' h
    go_enter Tryd.func15, Tryd.ntmps15
    go_upto_region 1 with fail
    change Code.wp _ _ _ _ (w.alloc ZO)
    generalize w.alloc ZO = w0 at *
    go_upto_region 2 with (go_at_call 31; refine HV.out.mono ?_; go_loud (
          rintro e w2 ⟨rfl, hb2⟩
          have HB2 := Lib.hid (below_ext HB.out hb2)
          have HX : Hid (w2.heap[w.heap.size]? = some (.cells obZ.cells.toArray 36 (0, 0))) := H6.out.ext hb2
          have HX2 : Hid (CB w2 w.heap.size 36 obZ.cells) := HX.out
          clear hb2 HB H6))
    go_wp2_with (first
      | (with_reducible refine wpList_load_ob (hgd := rfl) 36 (.tmp 6) rfl w.heap.size obZ rfl 36 _ HX2.out Tryd.underlying36 rfl ob_sz ?_)
      | (refine wpList_store_ob (hgd := rfl) 36 (.tmp 6) (.tmp 39) rfl w.heap.size obZ rfl rfl 36 _ HX.out rfl ob_sz ?_; intro w7 hc7 hg7 hz7))
    refine bodyPost_ret (v := .tuple #[obZ.v, .int .i64 360]) (results_row2 rfl _ _ w.heap.size 36 obZ.cells.toArray (0, 0) _ (.int .i64 360) rfl rfl hc7.out Tryd.underlying36 rfl (by rw [List.size_toArray, ob_len]; exact ob_sz)) rfl ?_
    exact HP.out w2 w7 HB2.out hg7.out
  rw [hv] at HV
  by_cases ha : a < 0
  · have b1 : decide (a < 0) = true := decide_eq_true ha
    clear h
    go_enter Tryd.func15, Tryd.ntmps15
    go_upto_region 1 with fail
    change Code.wp _ _ _ _ (w.alloc ZO)
    generalize w.alloc ZO = w0 at *
    go_upto_region 2 with (go_at_call 31; refine HV.out.mono ?_; go_loud (
          rintro e w2 ⟨rfl, hb2⟩
          have HB2 := Lib.hid (below_ext HB.out hb2)
          have HX : Hid (w2.heap[w.heap.size]? = some (.cells obZ.cells.toArray 36 (0, 0))) := H6.out.ext hb2
          have HX2 : Hid (CB w2 w.heap.size 36 obZ.cells) := HX.out
          clear hb2 HB H6))
    go_wp2_with (first
      | (with_reducible refine wpList_load_ob (hgd := rfl) 36 (.tmp 6) rfl w.heap.size obZ rfl 36 _ HX2.out Tryd.underlying36 rfl ob_sz ?_)
      | (refine wpList_store_ob (hgd := rfl) 36 (.tmp 6) (.tmp 39) rfl w.heap.size obZ rfl rfl 36 _ HX.out rfl ob_sz ?_; intro w7 hc7 hg7 hz7))
    refine bodyPost_ret (v := .tuple #[obZ.v, .int .i64 360]) (results_row2 rfl _ _ w.heap.size 36 obZ.cells.toArray (0, 0) _ (.int .i64 360) rfl rfl hc7.out Tryd.underlying36 rfl (by rw [List.size_toArray, ob_len]; exact ob_sz)) rfl ?_
    exact HP.out w2 w7 HB2.out hg7.out
  have b1 : decide (a < 0) = false := decide_eq_false ha
  by_cases ha2 : (l.length : Int) ≤ a
  · have b2 : decide ((l.length : Int) ≤ a) = true := decide_eq_true ha2
    clear h
    go_enter Tryd.func15, Tryd.ntmps15
    go_upto_region 1 with fail
    change Code.wp _ _ _ _ (w.alloc ZO)
    generalize w.alloc ZO = w0 at *
    go_upto_region 2 with (go_at_call 31; refine HV.out.mono ?_; go_loud (
          rintro e w2 ⟨rfl, hb2⟩
          have HB2 := Lib.hid (below_ext HB.out hb2)
          have HX : Hid (w2.heap[w.heap.size]? = some (.cells obZ.cells.toArray 36 (0, 0))) := H6.out.ext hb2
          have HX2 : Hid (CB w2 w.heap.size 36 obZ.cells) := HX.out
          clear hb2 HB H6))
    go_wp2_with (first
      | (with_reducible refine wpList_load_ob (hgd := rfl) 36 (.tmp 6) rfl w.heap.size obZ rfl 36 _ HX2.out Tryd.underlying36 rfl ob_sz ?_)
      | (refine wpList_store_ob (hgd := rfl) 36 (.tmp 6) (.tmp 39) rfl w.heap.size obZ rfl rfl 36 _ HX.out rfl ob_sz ?_; intro w7 hc7 hg7 hz7))
    refine bodyPost_ret (v := .tuple #[obZ.v, .int .i64 360]) (results_row2 rfl _ _ w.heap.size 36 obZ.cells.toArray (0, 0) _ (.int .i64 360) rfl rfl hc7.out Tryd.underlying36 rfl (by rw [List.size_toArray, ob_len]; exact ob_sz)) rfl ?_
    exact HP.out w2 w7 HB2.out hg7.out
  have b2 : decide ((l.length : Int) ≤ a) = false := decide_eq_false ha2
  by_cases hs : s < 0
  · have b3 : decide (s < 0) = true := decide_eq_true hs
    clear h
    go_enter Tryd.func15, Tryd.ntmps15
    go_upto_region 1 with fail
    change Code.wp _ _ _ _ (w.alloc ZO)
    generalize w.alloc ZO = w0 at *
    go_upto_region 2 with (go_at_call 31; refine HV.out.mono ?_; go_loud (
          rintro e w2 ⟨rfl, hb2⟩
          have HB2 := Lib.hid (below_ext HB.out hb2)
          have HX : Hid (w2.heap[w.heap.size]? = some (.cells obZ.cells.toArray 36 (0, 0))) := H6.out.ext hb2
          have HX2 : Hid (CB w2 w.heap.size 36 obZ.cells) := HX.out
          clear hb2 HB H6))
    go_wp2_with (first
      | (with_reducible refine wpList_load_ob (hgd := rfl) 36 (.tmp 6) rfl w.heap.size obZ rfl 36 _ HX2.out Tryd.underlying36 rfl ob_sz ?_)
      | (refine wpList_store_ob (hgd := rfl) 36 (.tmp 6) (.tmp 39) rfl w.heap.size obZ rfl rfl 36 _ HX.out rfl ob_sz ?_; intro w7 hc7 hg7 hz7))
    refine bodyPost_ret (v := .tuple #[obZ.v, .int .i64 360]) (results_row2 rfl _ _ w.heap.size 36 obZ.cells.toArray (0, 0) _ (.int .i64 360) rfl rfl hc7.out Tryd.underlying36 rfl (by rw [List.size_toArray, ob_len]; exact ob_sz)) rfl ?_
    exact HP.out w2 w7 HB2.out hg7.out
  have b3 : decide (s < 0) = false := decide_eq_false hs
  have hl1 := valid_len hv
  obtain ⟨tz, htz⟩ : ∃ t, l[0]? = some t := ⟨_, List.getElem?_eq_getElem (by omega)⟩
  obtain ⟨b, off, rz, rfl, hbz, helz, hrz⟩ := HL.out.el htz
  rw [Nat.zero_mul, Nat.add_zero] at helz
  obtain ⟨-, -, zc3⟩ := el_tb helz
  obtain ⟨za, zf, zo, zm, zc, zs⟩ := rz
  have hzm : zm = tz.costs.length := by
    obtain ⟨_, _, he, _⟩ := hrz.cs.shape
    injection he with _ e2 _
  have hs2 : (zm : Int) ≤ s := by
    rw [hzm]
    refine Classical.byContradiction fun hn => h ?_
    unfold openB
    simp only [Bool.and_eq_true, decide_eq_true_eq, gd htz]
    exact ⟨⟨⟨⟨hv, by omega⟩, by omega⟩, by omega⟩, by omega⟩
  have b4 : decide ((zm : Int) ≤ s) = true := decide_eq_true hs2
  have b0 : (0 : Int) < (l.length : Int) := by omega
  have b0' : 0 < l.length := by omega
  have Z3 : Hid (w.cell? ⟨b, off + 2, none⟩ = some (.slice zo zm zc)) := zc3
  clear h hv hl1 htz hbz helz hrz zc3 hzm
  · skip
    go_enter Tryd.func15, Tryd.ntmps15
    go_upto_region 1 with fail
    change Code.wp _ _ _ _ (w.alloc ZO)
    generalize w.alloc ZO = w0 at *
    go_upto_region 2 with (go_at_call 31; refine HV.out.mono ?_; go_loud (
          rintro e w2 ⟨rfl, hb2⟩
          have HB2 := Lib.hid (below_ext HB.out hb2)
          have HX : Hid (w2.heap[w.heap.size]? = some (.cells obZ.cells.toArray 36 (0, 0))) := H6.out.ext hb2
          have HX2 : Hid (CB w2 w.heap.size 36 obZ.cells) := HX.out
          have z3 := cell_ext HB2.out Z3.out
          clear hb2 HB H6))
    go_wp2_with (first
      | (with_reducible refine wpList_load_ob (hgd := rfl) 36 (.tmp 6) rfl w.heap.size obZ rfl 36 _ HX2.out Tryd.underlying36 rfl ob_sz ?_)
      | (refine wpList_store_ob (hgd := rfl) 36 (.tmp 6) (.tmp 39) rfl w.heap.size obZ rfl rfl 36 _ HX.out rfl ob_sz ?_; intro w7 hc7 hg7 hz7))
    refine bodyPost_ret (v := .tuple #[obZ.v, .int .i64 360]) (results_row2 rfl _ _ w.heap.size 36 obZ.cells.toArray (0, 0) _ (.int .i64 360) rfl rfl hc7.out Tryd.underlying36 rfl (by rw [List.size_toArray, ob_len]; exact ob_sz)) rfl ?_
    exact HP.out w2 w7 HB2.out hg7.out
set_option maxRecDepth 100000 in
set_option maxHeartbeats 8000000 in
theorem open_any_yes (l : List Tab) (i k : Nat) (t : Tab) (c : Int) (v : Value) (w : World) (hl : TabsAt w l v) (hv : validT l = true) (ht : l[i]? = some t) (hc : t.costs[k]? = some c) (hLd : Laid w) :
    Calls Tryd.prog 15 #[v, .int .i64 (i : Int), .int .i64 (k : Int)] w (OpenPost l i k w) := by
  obtain ⟨-, ho, he⟩ := open_yes hv ht hc
  have HE := Lib.hid he
  have HO := Lib.hid ho
  have HB := Lib.hid (b_al (w := w) ZO)
  have H6 : Hid (CB (w.alloc ZO) w.heap.size 36 obZ.cells) := cb_one w _ _ _ rfl
  have HV := Lib.hid (valid_any l v _ (hl.ext HB.out))
  rw [hv] at HV
  have HL := Lib.hid hl
  have HLd := Lib.hid hLd
  obtain ⟨oa, cap, rfl, hlc, hlm⟩ := hl.shape
  have bl : (l.length : Int) ≤ 9223372036854775807 := by omega
  have hil := (List.getElem?_eq_some_iff.1 ht).1
  have hkl := (List.getElem?_eq_some_iff.1 hc).1
  have hl1 := valid_len hv
  obtain ⟨tz, htz⟩ : ∃ t, l[0]? = some t := ⟨_, List.getElem?_eq_getElem (by omega)⟩
  have hlz : t.costs.length = tz.costs.length := by have := (valid_at hv ht).2.2.1; rw [gd htz] at this; exact this
  have hti := valid_tabI hv t (List.mem_of_getElem? ht)
  obtain ⟨b, off, rz, rfl, hbz, helz, hrz⟩ := hl.el htz
  rw [Nat.zero_mul, Nat.add_zero] at helz
  obtain ⟨-, -, zc3⟩ := el_tb helz
  obtain ⟨za, zf, zo, zm, zc, zs⟩ := rz
  have hzm : zm = tz.costs.length := by
    obtain ⟨_, _, he, _⟩ := hrz.cs.shape
    injection he with _ e2 _
  obtain ⟨b', off', r, heq, hbr, hel, hr⟩ := hl.el ht
  obtain ⟨rfl, rfl⟩ : b = b' ∧ off = off' := by injection heq with he; injection he with h1 h2 _; exact ⟨h1, h2⟩
  have b1 : decide ((i : Int) < 0) = false := by simp
  have b2 : decide ((l.length : Int) ≤ (i : Int)) = false := by simp; omega
  have b2' : decide (l.length ≤ i) = false := by simp; omega
  have b3 : decide ((k : Int) < 0) = false := by simp
  have b4 : decide ((zm : Int) ≤ (k : Int)) = false := by simp; omega
  have b4' : decide (zm ≤ k) = false := by simp; omega
  have b0 : (0 : Int) < (l.length : Int) := by omega
  have b0' : 0 < l.length := by omega
  have bi : (i : Int) < (l.length : Int) := by omega
  have bk : (k : Int) < (t.costs.length : Int) := by omega
  have Z3 : Hid (w.cell? ⟨b, off + 2, none⟩ = some (.slice zo zm zc)) := zc3
  have HR := Lib.hid hr
  have HTI := Lib.hid hti
  have HRg : Hid (w.rangeAt b (off + i * 35) r.cells) := el_rng hel
  have Hlv : Hid ((leavesT t).length ≤ 64) := by show _ ≤ _; rw [leavesT_len]; exact hti.few
  have Hkv : Hid (k < (leavesT t).length) := by show _ < _; rw [leavesT_len]; exact hkl
  have Hdl : Hid ((digestsT l).length ≤ 64) := by show _ ≤ _; rw [digestsT_len]; omega
  have Hdi : Hid (i < (digestsT l).length) := by show _ < _; rw [digestsT_len]; exact hil
  have Hvt := Lib.hid (valid_tabI hv)
  have H64 : Hid (l.length ≤ 64) := by show _ ≤ _; omega
  obtain ⟨lv, hlv⟩ : ∃ x, leavesT t = x := ⟨_, rfl⟩
  obtain ⟨dg, hdg⟩ : ∃ x, digestsT l = x := ⟨_, rfl⟩
  obtain ⟨p1, hp1⟩ : ∃ x, pathD lv k = x := ⟨_, rfl⟩
  obtain ⟨p2, hp2⟩ : ∃ x, pathD dg i = x := ⟨_, rfl⟩
  have Hp1 : Hid (p1.length ≤ 100) := by show _ ≤ _; rw [← hp1, pathD_len lv.length lv rfl]; have := firsts_len lv.length k; have := Hlv.out; rw [hlv] at this; omega
  have Hp2 : Hid (p2.length ≤ 100) := by show _ ≤ _; rw [← hp2, pathD_len dg.length dg rfl]; have := firsts_len dg.length i; have := Hdl.out; rw [hdg] at this; omega
  have HLV := Lib.hid hlv; have HDG := Lib.hid hdg; have HP1 := Lib.hid hp1; have HP2 := Lib.hid hp2
  have hra := hr.air; have hrf := hr.fl; have hsa := hr.salt
  obtain ⟨xa, xf, xo, xm, xc, xs⟩ := r
  change xa = t.air at hra; change xf = t.fl at hrf; change xs = t.salt at hsa
  obtain ⟨cb, co, hxo, hxm, hcell⟩ : ∃ cb co, xo = some ⟨cb, co, none⟩ ∧ xm = t.costs.length ∧ w.cell? ⟨cb, co + k, none⟩ = some (.int .i64 c) := by
    have hcs := hr.cs
    change LsAt nuK w.heap.size w t.costs (.slice xo xm xc) at hcs
    obtain ⟨_, _, he, _⟩ := hcs.shape
    injection he with h1 h2 h3
    subst h2 h1 h3
    obtain ⟨cb, co, e, _, hat⟩ := hcs.at hkl
    exact ⟨cb, co, e, rfl, by have := hat k c hc 0 _ rfl; simpa [nuK] using this⟩
  subst hxo hxm
  have C5 := Lib.hid hcell
  have HCB : Hid (cb < w.heap.size) := World.block_lt_of_cell? w _ hcell
  have HXA := Lib.hid hra; have HXF := Lib.hid hrf; have HXS := Lib.hid hsa
  have Hsl : Hid (xs.1.length = 32) := xs.2
  obtain ⟨R0, hR0⟩ : ∃ R : Tb, R = ⟨xa, xf, some ⟨cb, co, none⟩, t.costs.length, xc, xs⟩ := ⟨_, rfl⟩
  have HR0 := Lib.hid hR0
  rw [← hR0] at HR HRg
  clear hl hlc hlm hv ht hc ho he hil hkl hl1 htz hlz hti hbz helz hrz zc3 hzm hbr hel hr hlv hdg hp1 hp2 hra hrf hsa hcell hR0 heq hLd
  go_enter Tryd.func15, Tryd.ntmps15
  go_upto_region 1 with fail
  change Code.wp _ _ _ _ (w.alloc ZO)
  generalize w.alloc ZO = w0 at *
  go_upto_region 6 with (first
    | (go_at_call 31; refine HV.out.mono ?_; go_loud (
        rintro e w2 ⟨rfl, hb2⟩
        have HB2 := Lib.hid (below_ext HB.out hb2)
        have z3 := cell_ext HB2.out Z3.out
        have HO2 := Lib.hid (H6.out.ext hb2)
        have HRg2 : Hid (w2.rangeAt b (off + i * 35) R0.cells) := fun j u hu => cell_ext HB2.out (HRg.out j u hu)
        have HZ : Hid ((w2.alloc ZT).heap[w2.heap.size]? = some (.cells (Tb.cells ⟨0, 0, none, 0, 0, dgZ⟩).toArray 31 (0, 0))) := cb_one w2 ZT _ _ rfl
        clear hb2 HB H6 HV))
    | (with_reducible refine wpList_load_mid rfl 31 (.tmp 42) rfl b (off + i * 35) rfl R0.cells _ HRg2.out Tryd.underlying31 rfl (by rw [tb_len]; exact tb_sz) ?_)
    | ((refine wpList_store_tb (hgd := rfl) 31 (.tmp 8) (.tmp 43) rfl w2.heap.size R0 rfl rfl 31 _ HZ.out rfl tb_sz ?_); go_loud (
        intro w3 hc3 hg3 hz3
        have hb3 : Below w2.heap.size w2 w3 := (b_al (w := w2) ZT).grown hg3.out (by rw [World.size_alloc]; omega) (fun k hk => by injection hk; omega)
        have HB3 := Lib.hid (below_ext HB2.out hb3); have HO3 := Lib.hid (HO2.out.ext hb3)
        have HLv := Lib.hid (listed_any t R0 w3 (HR.out.ext HB3.out) HTI.out (HLd.out.ext HB3.out))
        rw [HLV.out] at HLv
        have HW2 : Hid (w.heap.size < w2.heap.size) := HO2.out.lt
        clear hb3 hg3 hz3 HZ HRg2 HB2 HO2))
    | (with_reducible refine wpList_load_tb (hgd := rfl) 31 (.tmp 8) rfl w2.heap.size R0 rfl 31 _ hc3.out Tryd.underlying31 rfl tb_sz ?_)
    | (go_at_call 37; refine HLv.out.mono ?_; go_loud (
        rintro e w4 ⟨v4, rfl, ho4, hb4⟩
        have HB4 := Lib.hid (below_ext HB3.out hb4); have HO4 := Lib.hid (HO3.out.ext hb4)
        have HT4 : Hid (CB w4 w2.heap.size 31 R0.cells) := hc3.out.ext hb4
        have HPa := Lib.hid (path_any lv v4 k w4 ho4.rd (by rw [← HLV.out]; exact Hlv.out) (by rw [← HLV.out]; exact Hkv.out) (HLd.out.ext HB4.out))
        clear ho4 hb4 HB3 HO3 hc3 HLv))
    | (go_at_call 36; refine HPa.out.mono ?_; go_loud (
        rintro e w5 ⟨v5, rfl, ho5, hb5⟩
        rw [HP1.out] at ho5
        have HB5 := Lib.hid (below_ext HB4.out hb5); have HO5 := Lib.hid (HO4.out.ext hb5); have HT5 := Lib.hid (HT4.out.ext hb5)
        have HQ1 := Lib.hid ho5.rd
        obtain ⟨q1, n1, rfl, _⟩ := ho5.rd.shape
        have HDi := Lib.hid (digests_any l _ w5 (HL.out.ext HB5.out) Hvt.out H64.out (HLd.out.ext HB5.out))
        rw [HDG.out] at HDi
        clear ho5 hb5 HB4 HO4 HT4 HPa))
    | (go_at_call 32; refine HDi.out.mono ?_; go_loud (
        rintro e w6 ⟨v6, rfl, ho6, hb6⟩
        have HB6 := Lib.hid (below_ext HB5.out hb6); have HO6 := Lib.hid (HO5.out.ext hb6); have HT6 := Lib.hid (HT5.out.ext hb6)
        have HQ6 := Lib.hid (HQ1.out.ext hb6)
        have HPb := Lib.hid (path_any dg v6 i w6 ho6.rd (by rw [← HDG.out]; exact Hdl.out) (by rw [← HDG.out]; exact Hdi.out) (HLd.out.ext HB6.out))
        clear ho6 hb6 HB5 HO5 HT5 HQ1 HDi))
    | (go_at_call 36; refine HPb.out.mono ?_; go_loud (
        rintro e w7 ⟨v7, rfl, ho7, hb7⟩
        rw [HP2.out] at ho7
        have HB7 := Lib.hid (below_ext HB6.out hb7); have HO7 := Lib.hid (HO6.out.ext hb7); have HT7 := Lib.hid (HT6.out.ext hb7)
        have HQ7 := Lib.hid (HQ6.out.ext hb7)
        have HS7 := Lib.hid ho7.rd
        obtain ⟨q2, n2, rfl, _⟩ := ho7.rd.shape
        clear ho7 hb7 HB6 HO6 HT6 HQ6 HPb)))
  clear z3
  generalize w2.heap.size = gt at *
  have f1 := (tb_cell HT7.out).1; have f2 := (tb_cell HT7.out).2.1; have f3 := (tb_cell HT7.out).2.2
  have f4 := tb_salt HT7.out
  have f5 := cell_ext HB7.out C5.out
  rw [HR0.out] at f1 f2 f3 f4
  change w7.cell? ⟨gt, 0, none⟩ = some (.int .i64 xa) at f1
  change w7.cell? ⟨gt, 1, none⟩ = some (.int .i64 xf) at f2
  change w7.cell? ⟨gt, 2, none⟩ = some (.slice (some ⟨cb, co, none⟩) t.costs.length xc) at f3
  change w7.rangeAt gt 3 (bcells xs.1) at f4
  have F1 := Lib.hid f1; have F2 := Lib.hid f2; have F3 := Lib.hid f3; have F4 := Lib.hid f4; have F5 := Lib.hid f5
  clear f1 f2 f3 f4 f5
  have KB := Lib.hid HB7.out.drew; have KO := Lib.hid (HO7.out.ext (Below.refl w7.heap.size w7).drew); have KQ := Lib.hid (HQ7.out.ext (Below.refl w7.heap.size w7).drew); have KS := Lib.hid (HS7.out.ext (Below.refl w7.heap.size w7).drew)
  have d1 := Lib.hid (cell_ext (Below.refl w7.heap.size w7).drew F1.out)
  have d2 := Lib.hid (cell_ext (Below.refl w7.heap.size w7).drew F2.out)
  have d3 := Lib.hid (cell_ext (Below.refl w7.heap.size w7).drew F3.out)
  have d5 := Lib.hid (cell_ext (Below.refl w7.heap.size w7).drew F5.out)
  have d4 : Hid (w7.drew.rangeAt gt 3 (bcells xs.1)) := F4.out
  refine wp_region_held_drew (S := fun w' => w'.cell? ⟨gt, 0, none⟩ = some (.int .i64 xa) ∧ w'.cell? ⟨gt, 1, none⟩ = some (.int .i64 xf) ∧ w'.cell? ⟨gt, 2, none⟩ = some (.slice (some ⟨cb, co, none⟩) t.costs.length xc) ∧ w'.rangeAt gt 3 (bcells xs.1) ∧ w'.cell? ⟨cb, co + k, none⟩ = some (.int .i64 c)) (by kernel_rfl) ⟨d1.out, d2.out, d3.out, d4.out, d5.out⟩ (fun hHeld => ?_)
  clear HB7 HO7 HQ7 HS7 HT7 F1 F2 F3 F4 F5
  generalize w7.drew = w8 at *
  refine take_dst (some 58) (i := 0) (v := ?vL0) rfl rfl (by kernel_rfl) (by kernel_rfl) (by kernel_rfl) (fun _ _ _ h => h) (Or.inl ⟨by rfl, fun wS hSw => ?hyL0⟩) (by assumption) ?restL0
  case hyL0 => (obtain ⟨s1, s2, s3, s4, s5⟩ := hSw; go_simp; first | done | with_reducible rfl)
  try simp only [Act.put, List.setIfInBounds_toArray, List.set_cons_zero, List.set_cons_succ]
  refine take_dst (some 59) (i := 1) (v := ?vL1) rfl rfl (by kernel_rfl) (by kernel_rfl) (by kernel_rfl) (fun _ _ _ h => h) (Or.inl ⟨by rfl, fun wS hSw => ?hyL1⟩) (by assumption) ?restL1
  case hyL1 => (obtain ⟨s1, s2, s3, s4, s5⟩ := hSw; go_simp; first | done | with_reducible rfl)
  try simp only [Act.put, List.setIfInBounds_toArray, List.set_cons_zero, List.set_cons_succ]
  refine take_dst (some 60) (i := 2) (v := ?vL2) rfl rfl (by kernel_rfl) (by kernel_rfl) (by kernel_rfl) (fun _ _ _ h => h) (Or.inl ⟨by rfl, fun wS hSw => ?hyL2⟩) (by assumption) ?restL2
  case hyL2 => (obtain ⟨s1, s2, s3, s4, s5⟩ := hSw; go_simp; first | done | with_reducible rfl)
  try simp only [Act.put, List.setIfInBounds_toArray, List.set_cons_zero, List.set_cons_succ]
  refine take_dst (some 61) (i := 3) (v := ?vL3) rfl rfl (by kernel_rfl) (by kernel_rfl) (by kernel_rfl) (fun _ _ _ h => h) (Or.inl ⟨by rfl, fun wS hSw => ?hyL3⟩) (by assumption) ?restL3
  case hyL3 => (obtain ⟨s1, s2, s3, s4, s5⟩ := hSw; go_simp; first | done | with_reducible rfl)
  try simp only [Act.put, List.setIfInBounds_toArray, List.set_cons_zero, List.set_cons_succ]
  refine take_dst (some 62) (i := 4) (v := ?vL4) rfl rfl (by kernel_rfl) (by kernel_rfl) (by kernel_rfl) (fun _ _ _ h => h) (Or.inl ⟨by rfl, fun wS hSw => ?hyL4⟩) (by assumption) ?restL4
  case hyL4 => (obtain ⟨s1, s2, s3, s4, s5⟩ := hSw; go_simp; first | done | with_reducible rfl)
  try simp only [Act.put, List.setIfInBounds_toArray, List.set_cons_zero, List.set_cons_succ]
  refine take_dst (some 63) (i := 5) (v := ?vL5) rfl rfl (by kernel_rfl) (by kernel_rfl) (by kernel_rfl) (fun _ _ _ h => h) (Or.inl ⟨by rfl, fun wS hSw => ?hyL5⟩) (by assumption) ?restL5
  case hyL5 => (obtain ⟨s1, s2, s3, s4, s5⟩ := hSw; go_simp; first | done | with_reducible rfl)
  try simp only [Act.put, List.setIfInBounds_toArray, List.set_cons_zero, List.set_cons_succ]
  refine take_dst (some 64) (i := 6) (v := ?vL6) rfl rfl (by kernel_rfl) (by kernel_rfl) (by kernel_rfl) (fun _ _ _ h => h) (Or.inl ⟨by rfl, fun wS hSw => ?hyL6⟩) (by assumption) ?restL6
  case hyL6 => (obtain ⟨s1, s2, s3, s4, s5⟩ := hSw; go_simp; first | done | with_reducible rfl)
  try simp only [Act.put, List.setIfInBounds_toArray, List.set_cons_zero, List.set_cons_succ]
  refine take_dst (some 65) (i := 7) (v := ?vL7) rfl rfl (by kernel_rfl) (by kernel_rfl) (by kernel_rfl) (fun _ _ _ h => h) (Or.inl ⟨by rfl, fun wS hSw => ?hyL7⟩) (by assumption) ?restL7
  case hyL7 => (obtain ⟨s1, s2, s3, s4, s5⟩ := hSw; go_simp; first | done | with_reducible rfl)
  try simp only [Act.put, List.setIfInBounds_toArray, List.set_cons_zero, List.set_cons_succ]
  refine take_dst (some 66) (i := 8) (v := ?vL8) rfl rfl (by kernel_rfl) (by kernel_rfl) (by kernel_rfl) (fun _ _ _ h => h) (Or.inl ⟨by rfl, fun wS hSw => ?hyL8⟩) (by assumption) ?restL8
  case hyL8 => (obtain ⟨s1, s2, s3, s4, s5⟩ := hSw; go_simp; first | done | with_reducible rfl)
  try simp only [Act.put, List.setIfInBounds_toArray, List.set_cons_zero, List.set_cons_succ]
  refine take_dst (some 67) (i := 9) (v := ?vL9) rfl rfl (by kernel_rfl) (by kernel_rfl) (by kernel_rfl) (fun _ _ _ h => h) (Or.inl ⟨by rfl, fun wS hSw => ?hyL9⟩) (by assumption) ?restL9
  case hyL9 => (obtain ⟨s1, s2, s3, s4, s5⟩ := hSw; go_simp; first | done | with_reducible rfl)
  try simp only [Act.put, List.setIfInBounds_toArray, List.set_cons_zero, List.set_cons_succ]
  refine take_dst (some 68) (i := 10) (v := ?vL10) rfl rfl (by kernel_rfl) (by kernel_rfl) (by kernel_rfl) (fun _ _ _ h => h) (Or.inl ⟨by rfl, fun wS hSw => ?hyL10⟩) (by assumption) ?restL10
  case hyL10 => (obtain ⟨s1, s2, s3, s4, s5⟩ := hSw; go_simp; first | done | with_reducible rfl)
  try simp only [Act.put, List.setIfInBounds_toArray, List.set_cons_zero, List.set_cons_succ]
  refine take_dst (some 69) (i := 11) (v := dv xs.1) rfl rfl (by kernel_rfl) (by kernel_rfl) (by kernel_rfl) (fun _ _ _ h => h) (yieldsIf_load_mid (by rfl) 29 _ rfl gt 3 rfl (bcells xs.1) _ (fun wS hSw => by obtain ⟨s1, s2, s3, s4, s5⟩ := hSw; exact s4) Tryd.underlying29 rfl (by rw [bcells_length, Hsl.out]; exact dig_sz)) (by assumption) ?restL11
  try simp only [Act.put, List.setIfInBounds_toArray, List.set_cons_zero, List.set_cons_succ]
  refine take_dst (some 70) (i := 12) (v := ?vL12) rfl rfl (by kernel_rfl) (by kernel_rfl) (by kernel_rfl) (fun _ _ _ h => h) (Or.inl ⟨by rfl, fun wS hSw => ?hyL12⟩) (by assumption) ?restL12
  case hyL12 => (obtain ⟨s1, s2, s3, s4, s5⟩ := hSw; go_simp; first | done | with_reducible rfl)
  try simp only [Act.put, List.setIfInBounds_toArray, List.set_cons_zero, List.set_cons_succ]
  refine take_dst (some 71) (i := 13) (v := ?vL13) rfl rfl (by kernel_rfl) (by kernel_rfl) (by kernel_rfl) (fun _ _ _ h => h) (Or.inl ⟨by rfl, fun wS hSw => ?hyL13⟩) (by assumption) ?restL13
  case hyL13 => (obtain ⟨s1, s2, s3, s4, s5⟩ := hSw; go_simp; first | done | with_reducible rfl)
  try simp only [Act.put, List.setIfInBounds_toArray, List.set_cons_zero, List.set_cons_succ]
  refine wpAnyH_ready (rs := [14]) (by kernel_rfl) (by simp) ?_
  refine AllReadyH.cons rfl (fun K hK => ?_) AllReadyH.nil
  go_simp
  have AL := b_al (w := w8) (.cells #[.slice q1 p1.length n1, .slice q2 p2.length n2] 34)
  have KB9 := Lib.hid (below_ext KB.out AL); have KO9 := Lib.hid (KO.out.ext AL); have KQ9 := KQ.out.ext AL; have KS9 := KS.out.ext AL
  have hcc : CB (w8.alloc (.cells #[.slice q1 p1.length n1, .slice q2 p2.length n2] 34)) w8.heap.size 34 [.slice q1 p1.length n1, .slice q2 p2.length n2] := cb_one w8 _ _ _ rfl
  have HCC := Lib.hid (dconcat2 w8.heap.size _ _ p1 p2 (w8.alloc (.cells #[.slice q1 p1.length n1, .slice q2 p2.length n2] 34)) (hcc.cell 0) (hcc.cell 1) KQ9 KS9 (by have := Hp1.out; have := Hp2.out; omega))
  have e1 := Lib.hid (cell_ext AL d1.out)
  have e2 := Lib.hid (cell_ext AL d2.out)
  have e3 := Lib.hid (cell_ext AL d3.out)
  have e5 := Lib.hid (cell_ext AL d5.out)
  have e4 : Hid ((w8.alloc (.cells #[.slice q1 p1.length n1, .slice q2 p2.length n2] 34)).rangeAt gt 3 (bcells xs.1)) := fun i u hu => cell_ext AL (d4.out i u hu)
  have HLt : Hid (w.heap.size < (w8.alloc (.cells #[.slice q1 p1.length n1, .slice q2 p2.length n2] 34)).heap.size) := KO9.out.lt
  clear AL KB KO KQ KS KQ9 KS9 hcc d1 d2 d3 d4 d5
  refine hK.out _ _ ⟨e1.out, e2.out, e3.out, e4.out, e5.out⟩ (fun hHeld => ?_)
  clear hK K
  try simp only [Act.put, List.setIfInBounds_toArray, List.set_cons_zero, List.set_cons_succ]
  generalize w8.alloc (.cells #[.slice q1 p1.length n1, .slice q2 p2.length n2] 34) = w9 at *
  refine wpAnyH_ready (rs := [15]) (by kernel_rfl) (by simp) ?_
  refine AllReadyH.cons rfl (fun K hK => ?_) AllReadyH.nil
  go_simp
  refine HCC.out.mono ?_
  rintro e w10 ⟨v10, rfl, ho10, hb10⟩
  have KB10 := Lib.hid (below_ext KB9.out hb10); have KO10 := Lib.hid (KO9.out.ext hb10); have KV10 := Lib.hid ho10.rd
  obtain ⟨q3, n3, he3, _⟩ := ho10.rd.shape
  obtain ⟨m3, hm3⟩ : ∃ m, (p1 ++ p2).length = m := ⟨_, rfl⟩
  rw [hm3] at he3
  subst he3
  clear hm3
  have HV2 := Lib.hid ho10
  have g1 := Lib.hid (cell_ext hb10 e1.out)
  have g2 := Lib.hid (cell_ext hb10 e2.out)
  have g3 := Lib.hid (cell_ext hb10 e3.out)
  have g5 := Lib.hid (cell_ext hb10 e5.out)
  have g4 : Hid (w10.rangeAt gt 3 (bcells xs.1)) := fun i u hu => cell_ext hb10 (e4.out i u hu)
  clear hb10 ho10 HCC KB9 KO9 e1 e2 e3 e4 e5
  refine hK.out _ _ ⟨g1.out, g2.out, g3.out, g4.out, g5.out⟩ (fun hHeld => ?_)
  clear hK K
  try simp only [Act.put, List.setIfInBounds_toArray, List.set_cons_zero, List.set_cons_succ]
  obtain ⟨RB, hRB⟩ : ∃ RB : Ob, RB = ⟨xa, xf, (k : Int), c, xs, q3, m3, n3⟩ := ⟨_, rfl⟩
  refine take_dst (some 74) (i := 16) (v := RB.v) rfl rfl (by kernel_rfl) (by kernel_rfl) (by kernel_rfl) (fun _ _ _ h => h) (yields_build_seq (by rfl) 36 _ rfl RB.cells ob_places ob_zero _ ?hps (ob_seq RB) (ob_flat RB) (ob_len _)) (by assumption) ?restB
  case hps => (rw [hRB]; simp; refine ⟨?_, ?_, ?_, ?_, ?_, ?_⟩ <;> rfl)
  try simp only [Act.put, List.setIfInBounds_toArray, List.set_cons_zero, List.set_cons_succ]
  obtain ⟨z1, z2, z3⟩ := setRow_ob (r := RB) KO10.out
  refine wpAnyH_ready (rs := [17]) (by kernel_rfl) (by simp) ?_
  refine AllReadyH.cons rfl (fun K hK => ?_) AllReadyH.nil
  rw [if_pos (by rfl)]
  refine wp_store_row 36 (.tmp 6) (.tmp 74) rfl w.heap.size RB.cells.toArray rfl rfl 36 obZ.cells.toArray KO10.out (by rw [List.size_toArray, ob_len]; exact ob_sz) (by rw [List.size_toArray, List.size_toArray, ob_len, ob_len]) (ob_all RB) ?_
  have n1 : gt ≠ w.heap.size := by have := HW2.out; omega
  have n2 : cb ≠ w.heap.size := by have := HCB.out; omega
  refine hK.out _ _ ⟨cell_apart z2 n1 g1.out, cell_apart z2 n1 g2.out, cell_apart z2 n1 g3.out, fun i u hu => cell_apart z2 n1 (g4.out i u hu), cell_apart z2 n2 g5.out⟩ (fun hHeld => ?_)
  clear hK K
  try simp only [Act.put, List.setIfInBounds_toArray]
  refine take_dst (some 7) (i := 18) (v := ?vL18) rfl rfl (by kernel_rfl) (by kernel_rfl) (by kernel_rfl) (fun _ _ _ h => h) (Or.inl ⟨by rfl, fun wS hSw => ?hyL18⟩) (by assumption) ?restL18
  case hyL18 => (obtain ⟨s1, s2, s3, s4, s5⟩ := hSw; go_simp; first | done | with_reducible rfl)
  try simp only [Act.put]
  refine wpAnyH_done (by kernel_rfl) ?_ _
  have HBE : Hid (Below w.heap.size w (w10.setRow w.heap.size RB.cells.toArray)) := KB10.out.grown z2 KB10.out.size (fun q e => by injection e; omega)
  have HVE : Hid (LsAt digK (w10.setRow w.heap.size RB.cells.toArray).heap.size (w10.setRow w.heap.size RB.cells.toArray) (p1 ++ p2) (.slice q3 m3 n3)) := (HV2.out.keepR z2 (.inr (HV2.out.far HLt.out))).rd
  have HZ1 := Lib.hid z1
  generalize w10.setRow w.heap.size RB.cells.toArray = wE at *
  clear z1 z2 z3 g1 g2 g3 g4 g5 hHeld KB10 KO10
  go_wp2_with fail
  refine bodyPost_ret (v := .tuple #[RB.v, .int .i64 0]) (results_row2 rfl _ _ w.heap.size 36 RB.cells.toArray (0, 0) _ (.int .i64 0) rfl rfl HZ1.out Tryd.underlying36 rfl (by rw [List.size_toArray, ob_len]; exact ob_sz)) rfl ?_
  refine ⟨RB, by rw [HE.out], ?_, HBE.out⟩
  rw [HO.out, HLV.out, HDG.out, HP1.out, HP2.out]
  subst hRB
  exact ⟨HXA.out, HXF.out, rfl, rfl, HXS.out, HVE.out⟩
end Go.Proofs.YtbonebmboolemaaDoor
/- the law's examples, plain. -/
namespace Go.Proofs.YtbonebmboolemaaDoor
open Go.RowKit
theorem two_valid : validT twoT = true := by kernel_rfl
theorem half3 : halfN 3 = 2 := half_of (j := 1) (by decide) (by decide)
theorem half2 : halfN 2 = 1 := half_of (j := 0) (by decide) (by decide)
theorem firsts1 : firsts 1 0 = [] := firsts_one 0 (Nat.le_refl 1)
theorem firsts2a : firsts 2 0 = [true] := by rw [firsts_lt (by decide) (by rw [half2]; decide), half2, firsts1]
theorem firsts2b : firsts 2 1 = [false] := by
  rw [firsts_ge (by decide) (by rw [half2]; decide), half2]
  show false :: firsts 1 0 = [false]
  rw [firsts1]
theorem firsts3 : firsts 3 0 = [true, true] := by rw [firsts_lt (by decide) (by rw [half3]; decide), half3, firsts2a]
def tab0 : Tab := ⟨0, 0, [4], dgZ⟩
theorem one_valid : validT [tab0] = true := by kernel_rfl
def opTwo : Opn := ⟨3, 9, 0, 7, dgOf 2, pathD (leavesT tab2) 0 ++ pathD (digestsT twoT) 1⟩
theorem two_open : openO twoT 1 0 = opTwo ∧ openE twoT 1 0 = 0 := by
  obtain ⟨_, h1, h2⟩ := open_yes (i := 1) (k := 0) (t := tab2) (c := 7) two_valid rfl rfl
  exact ⟨h1, h2⟩
theorem two_len : opTwo.path.length = 3 := by
  show (pathD (leavesT tab2) 0 ++ pathD (digestsT twoT) 1).length = 3
  rw [List.length_append, pathD_len 3 _ (by rw [leavesT_len]; rfl), pathD_len 2 _ (by rw [digestsT_len]; rfl), firsts3, firsts2b]; rfl
theorem two_bad : ¬ openB twoT 0 8 = true := by
  have : openB twoT 0 8 = false := by kernel_rfl
  rw [this]; simp
theorem two_commit : commitE twoT = 0 := by unfold commitE; rw [if_pos two_valid]
theorem nil_commit : commitE [] = 360 ∧ commitD [] = dgZ := by
  have h : ¬ validT [] = true := by simp [validT]
  unfold commitE commitD; rw [if_neg h, if_neg h]; exact ⟨rfl, rfl⟩
theorem one_open : openO [tab0] 0 0 = ⟨0, 0, 0, 4, dgZ, []⟩ ∧ openE [tab0] 0 0 = 0 := by
  obtain ⟨_, h1, h2⟩ := open_yes (i := 0) (k := 0) (t := tab0) (c := 4) one_valid rfl rfl
  refine ⟨?_, h2⟩
  have e1 : pathD (leavesT tab0) 0 = [] := pathD_one 0 (by rw [leavesT_len]; decide)
  have e2 : pathD (digestsT [tab0]) 0 = [] := pathD_one 0 (by rw [digestsT_len]; decide)
  rw [e1, e2] at h1
  exact h1
theorem two_ver : verB (commitD twoT) 3 2 3 opTwo = true := by
  have := open_ver (i := 1) (k := 0) (t := tab2) (c := 7) two_valid rfl rfl
  rw [show openO twoT ((1 : Nat) : Int) ((0 : Nat) : Int) = opTwo from two_open.1] at this
  exact this
theorem two_pre : preV 3 2 3 opTwo = true := by have := two_ver; unfold verB at this; rw [Bool.and_eq_true] at this; exact this.1
def opOther : Opn := ⟨3, 4096, 0, 7, dgOf 2, opTwo.path⟩
theorem other_pre : preV 3 2 3 opOther = false := by
  have h : knownB 3 4096 = false := by decide
  unfold preV
  rw [show knownB opOther.air opOther.fl = false from h]
  simp
def opZero : Opn := ⟨0, 0, 0, 0, dgZ, []⟩
theorem zero_pre : preV 0 1 1 opZero = true := by decide
theorem zero_ver : verE dgZ 0 1 1 opZero = 360 := by
  unfold verE
  rw [if_neg]
  unfold verB
  intro h
  rw [Bool.and_eq_true] at h
  obtain ⟨k, a, hk, ha, h1, h2, h3⟩ := found_parts h.2
  have hk0 : k = 0 := by have : k ≤ 0 := hk; omega
  have ha0 : a = 0 := by have : a < 1 := ha; omega
  subst hk0 ha0
  have e1 : opZero.path.take 0 = [] := rfl
  have e2 : opZero.path.drop 0 = [] := rfl
  rw [e1, e2] at h3
  have r1 : riseD (ownD opZero) (1 : Int).toNat opZero.slot.toNat [] = leafD (ownD opZero) := rise_one (by decide)
  rw [r1] at h3
  have r2 : riseD (leafD (ownD opZero)) (1 : Int).toNat 0 [] = leafD (leafD (ownD opZero)) := rise_one (by decide)
  rw [r2] at h3
  exact zero_no (congrArg Subtype.val h3)
def tabBad (s : Dg) : Tab := ⟨3, 5, [-2], s⟩
theorem bad_ck : ckT (tabBad (dgOf 1)) = 360 := by kernel_rfl
theorem empty_ck : ckT ⟨0, 0, [], dgZ⟩ = 360 := by kernel_rfl
theorem tab1_ck : ckT tab1 = 0 := by kernel_rfl
theorem tb_built0 : Tryd.prog.built 31 [] = some (Tb.cells ⟨0, 0, none, 0, 0, dgZ⟩).toArray := by kernel_rfl
theorem tb_built1 (n : Nat) : Tryd.prog.built 31 [(2, .slice (some ⟨n, 0, none⟩) 1 1)] = some (Tb.cells ⟨0, 0, some ⟨n, 0, none⟩, 1, 1, dgZ⟩).toArray := by kernel_rfl
theorem dg_built0 : Tryd.prog.built 29 [] = some (bcells dgZ.1).toArray := by kernel_rfl
theorem ob_built0 : Tryd.prog.built 36 [] = some obZ.cells.toArray := by kernel_rfl
section
variable {P : Program} {w : World} {ops : Array Oper} {rest : List Oper} {o : Oper} {a : Act} {Q : Exit → Act → World → Prop}
/-- a load of a whole block behind a guard that lets it through -/
theorem wpList_load_cbg (hw : Region.wanted o (yielded ops a.tmps) = true) (ty : TypeId) (x : Operand) (ho : o.op = .load ty x) (g : Nat) (cs : List Value) (hx : a.eval x = .pointer (some ⟨g, 0, none⟩))
    (t : TypeId) (d : TypeDesc) (hg : CB w g t cs) (hu : P.underlying ty = some d) (hd : (match d with | .struct _ | .array _ _ => true | _ => false) = true) (hi : (P.info? ty).map (·.size) = some cs.length)
    (h : wpList P ops Q rest (a.put o.dst (.agg cs.toArray)) w) : wpList P ops Q (o :: rest) a w := by
  unfold wpList
  rw [if_pos hw]
  left
  exact wp_load_row ty x ho g hx t cs.toArray (0, 0) d hg hu hd (by rw [List.size_toArray]; exact hi) h
end
/-- what the examples hold -/
structure SnS (w : World) (v1 : Value) (gD g4 g10 : Nat) (r4 r10 : Ob) (W : World) : Prop where
  t : TabsAt W twoT v1
  d : CB W gD 29 (bcells (commitD twoT).1)
  o : CB W g4 36 r4.cells
  oR : OpR W opTwo r4
  one : CB W g10 36 r10.cells
  oneR : OpR W ⟨0, 0, 0, 4, dgZ, []⟩ r10
  b : Below w.heap.size w W
theorem SnS.ext {w W W' : World} {v1 : Value} {gD g4 g10 : Nat} {r4 r10 : Ob} (h : SnS w v1 gD g4 g10 r4 r10 W) (hb : Below W.heap.size W W') : SnS w v1 gD g4 g10 r4 r10 W' :=
  ⟨h.t.ext hb, h.d.ext hb, h.o.ext hb, h.oR.ext hb, h.one.ext hb, h.oneR.ext hb, below_ext h.b hb⟩
end Go.Proofs.YtbonebmboolemaaDoor
/- sane: the law's examples hold. -/
namespace Go.Proofs.YtbonebmboolemaaDoor
open Go.RowKit
theorem nil_tabs (W : World) : TabsAt W [] (.slice none 0 0) := ⟨[], .inl ⟨rfl, _, _, rfl⟩, rfl, fun i t r ht _ => by simp at ht⟩
theorem int_info1 : ((Tryd.prog.info? 3).bind fun i => i.zero.map fun _ => i.size) = some 1 := by kernel_rfl
section
variable {P : Program} {w : World} {ops : Array Oper} {rest : List Oper} {o : Oper} {a : Act} {Q : Exit → Act → World → Prop}
/-- a slice literal: the new block, by name -/
theorem wpList_bslice_new (hw : Region.wanted o (yielded ops a.tmps) = true) (t e : TypeId) (len : Nat) (parts : Array (Nat × Operand)) (ho : o.op = .buildSlice t len parts) (cells : List Value) (size : Nat) (hu : P.underlying t = some (.slice e)) (hie : ((P.info? e).bind fun i => i.zero.map fun _ => i.size) = some size)
    (hsmall : len * size ≤ 2 ^ 24) (hpos : 0 < len * size) (ps : List (Nat × Value)) (hps : (parts.toList.map fun (i, x) => (i, a.eval x)) = ps) (hs : SeqP (fun i => some (i * size, size)) 0 ps) (hc : flatC ps = cells) (hn : cells.length = len * size)
    (h : ∀ w', Hid (CB w' w.heap.size e cells) → Hid (Below w.heap.size w w') → wpList P ops Q rest (a.put o.dst (.slice (some ⟨w.heap.size, 0, none⟩) len len)) w') : wpList P ops Q (o :: rest) a w :=
  wpList_bslice_seq hw t e len parts ho cells size hu hie hsmall hpos ps hps hs hc hn (h _ (cb_one w _ _ _ rfl) (b_al _))
end
set_option maxRecDepth 100000 in
set_option maxHeartbeats 16000000 in
theorem sane36_any (w : World) (hLd : Laid w) : Calls Tryd.prog 9 #[] w fun e w' => e = .returned (.bool true) ∧ Below w.heap.size w w' := by
  have HLd := Lib.hid hLd
  have HDl := Lib.hid (commitD twoT).2
  clear hLd
  go_enter Tryd.func9, Tryd.ntmps9
  go_upto_region 2 with (go_at_call 26; refine (two_any w).mono ?_; go_loud (rintro e w1 ⟨v1, rfl, ht1, hb1⟩))
  have HT1 := Lib.hid ht1; have HB1 := Lib.hid hb1
  obtain ⟨oa, cap, hv1, hcap, _⟩ := ht1.shape
  change v1 = .slice oa 2 cap at hv1
  subst hv1
  obtain ⟨b, off, r1, rfl, hbw, hel, hr1⟩ := ht1.el (i := 0) (t := tab1) rfl
  rw [Nat.zero_mul, Nat.add_zero] at hel
  have HE1 := Lib.hid hel; have HR1 := Lib.hid hr1
  clear ht1 hb1 hcap hel hr1 hbw
  -- Commit(two)
  have HC1 := Lib.hid (commit_any twoT _ w1 HT1.out (HLd.out.ext HB1.out))
  rw [two_commit] at HC1
  obtain ⟨D, hD⟩ : ∃ D, commitD twoT = D := ⟨_, rfl⟩
  rw [hD] at HC1 HDl
  have HDD := Lib.hid hD
  clear hD
  go_upto_region 3 with (first
    | (go_at_call 13; refine HC1.out.mono ?_; go_loud (
        rintro e w2 ⟨rfl, hb2⟩
        have HB2 := Lib.hid (below_ext HB1.out hb2); have HT2 := Lib.hid (HT1.out.ext hb2)
        have HZ : Hid ((w2.alloc ZD).heap[w2.heap.size]? = some (.cells (bcells dgZ.1).toArray 29 (0, 0))) := cb_one w2 ZD _ _ rfl
        clear hb2 HB1 HT1 HC1))
    | ((refine wpList_store_d (hgd := rfl) 29 (.tmp 2) (.tmp 18) rfl w2.heap.size D.1 HDl.out rfl rfl 29 _ HZ.out rfl dig_sz ?_); go_loud (
        intro w3 hc3 hg3 hz3
        have hb3 : Below w2.heap.size w2 w3 := (b_al (w := w2) ZD).grown hg3.out (by rw [World.size_alloc]; omega) (fun k hk => by injection hk; omega)
        have HB3 := Lib.hid (below_ext HB2.out hb3); have HT3 := Lib.hid (HT2.out.ext hb3)
        clear hb3 hg3 hz3 HB2 HT2 HZ)))
  generalize w2.heap.size = gD at *
  -- Open(two, 1, 0)
  have HC2 := Lib.hid (open_any_yes twoT 1 0 tab2 7 _ w3 HT3.out two_valid rfl rfl (HLd.out.ext HB3.out))
  go_upto_region 4 with (first
    | (go_at_call 15; refine HC2.out.mono ?_; go_loud (
        rintro e w4 ⟨r4, rfl, hr4, hb4⟩
        rw [show openE twoT ((1 : Nat) : Int) ((0 : Nat) : Int) = 0 from two_open.2]
        rw [show openO twoT ((1 : Nat) : Int) ((0 : Nat) : Int) = opTwo from two_open.1] at hr4
        have HB4 := Lib.hid (below_ext HB3.out hb4); have HT4 := Lib.hid (HT3.out.ext hb4); have HD4 : Hid (CB w4 gD 29 (bcells D.1)) := hc3.out.ext hb4
        have HR4 := Lib.hid hr4
        have HZ : Hid ((w4.alloc ZO).heap[w4.heap.size]? = some (.cells obZ.cells.toArray 36 (0, 0))) := cb_one w4 ZO _ _ rfl
        clear hb4 hr4 HB3 HT3 hc3 HC2))
    | ((refine wpList_store_ob (hgd := rfl) 36 (.tmp 4) (.tmp 23) rfl w4.heap.size r4 rfl rfl 36 _ HZ.out rfl ob_sz ?_); go_loud (
        intro w5 hc5 hg5 hz5
        have hb5 : Below w4.heap.size w4 w5 := (b_al (w := w4) ZO).grown hg5.out (by rw [World.size_alloc]; omega) (fun k hk => by injection hk; omega)
        have HB5 := Lib.hid (below_ext HB4.out hb5); have HT5 := Lib.hid (HT4.out.ext hb5); have HD5 := Lib.hid (HD4.out.ext hb5); have HR5 := Lib.hid (HR4.out.ext hb5)
        clear hb5 hg5 hz5 HB4 HT4 HD4 HR4 HZ)))
  generalize w4.heap.size = g4 at *
  -- Commit(nil)
  have HC3 := Lib.hid (commit_any [] (.slice none 0 0) w5 (nil_tabs w5) (HLd.out.ext HB5.out))
  rw [nil_commit.1, nil_commit.2] at HC3
  have Hzl : Hid (dgZ.1.length = 32) := dgZ.2
  go_upto_region 5 with (first
    | (go_at_call 13; refine HC3.out.mono ?_; go_loud (
        rintro e w6 ⟨rfl, hb6⟩
        have HB6 := Lib.hid (below_ext HB5.out hb6); have HT6 := Lib.hid (HT5.out.ext hb6); have HD6 := Lib.hid (HD5.out.ext hb6); have HR6 := Lib.hid (HR5.out.ext hb6); have HO6 : Hid (CB w6 g4 36 r4.cells) := hc5.out.ext hb6
        have HZ : Hid ((w6.alloc ZD).heap[w6.heap.size]? = some (.cells (bcells dgZ.1).toArray 29 (0, 0))) := cb_one w6 ZD _ _ rfl
        clear hb6 HB5 HT5 HD5 HR5 hc5 HC3))
    | ((refine wpList_store_d (hgd := rfl) 29 (.tmp 6) (.tmp 27) rfl w6.heap.size dgZ.1 Hzl.out rfl rfl 29 _ HZ.out rfl dig_sz ?_); go_loud (
        intro w7 hc7 hg7 hz7
        have hb7 : Below w6.heap.size w6 w7 := (b_al (w := w6) ZD).grown hg7.out (by rw [World.size_alloc]; omega) (fun k hk => by injection hk; omega)
        have HB7 := Lib.hid (below_ext HB6.out hb7); have HT7 := Lib.hid (HT6.out.ext hb7); have HD7 := Lib.hid (HD6.out.ext hb7); have HR7 := Lib.hid (HR6.out.ext hb7); have HO7 := Lib.hid (HO6.out.ext hb7)
        clear hb7 hg7 hz7 hc7 HB6 HT6 HD6 HR6 HO6 HZ)))
  generalize w6.heap.size = g6 at *
  -- Open(two, 0, 8)
  have HC4 := Lib.hid (open_any_no twoT 0 8 _ w7 HT7.out two_bad)
  go_upto_region 6 with (first
    | (go_at_call 15; refine HC4.out.mono ?_; go_loud (
        rintro e w8 ⟨r8, rfl, hr8, hb8⟩
        rw [(open_no two_bad).2]
        have HB8 := Lib.hid (below_ext HB7.out hb8); have HT8 := Lib.hid (HT7.out.ext hb8); have HD8 := Lib.hid (HD7.out.ext hb8); have HR8 := Lib.hid (HR7.out.ext hb8); have HO8 := Lib.hid (HO7.out.ext hb8)
        have HZ : Hid ((w8.alloc ZO).heap[w8.heap.size]? = some (.cells obZ.cells.toArray 36 (0, 0))) := cb_one w8 ZO _ _ rfl
        clear hb8 hr8 HB7 HT7 HD7 HR7 HO7 HC4))
    | ((refine wpList_store_ob (hgd := rfl) 36 (.tmp 8) (.tmp 32) rfl w8.heap.size r8 rfl rfl 36 _ HZ.out rfl ob_sz ?_); go_loud (
        intro w9 hc9 hg9 hz9
        have hb9 : Below w8.heap.size w8 w9 := (b_al (w := w8) ZO).grown hg9.out (by rw [World.size_alloc]; omega) (fun k hk => by injection hk; omega)
        have HB9 := Lib.hid (below_ext HB8.out hb9); have HT9 := Lib.hid (HT8.out.ext hb9); have HD9 := Lib.hid (HD8.out.ext hb9); have HR9 := Lib.hid (HR8.out.ext hb9); have HO9 := Lib.hid (HO8.out.ext hb9)
        clear hb9 hg9 hz9 hc9 HB8 HT8 HD8 HR8 HO8 HZ)))
  generalize w8.heap.size = g8 at *
  -- Open of one table
  obtain ⟨T0, hT0⟩ : ∃ T0 : Tb, T0 = ⟨0, 0, some ⟨w9.heap.size, 0, none⟩, 1, 1, dgZ⟩ := ⟨_, rfl⟩
  have HT0 := Lib.hid hT0
  have hb9 := Lib.hid (tb_built1 w9.heap.size)
  rw [← hT0] at hb9
  clear hT0
  go_upto_region 7 with (first
    | ((refine wpList_bslice_new (by rfl) 27 3 1 #[(0, .const (.int .i64 4))] rfl [.int .i64 4] 1 Tryd.underlying27 int_info1 (by decide) (by decide) [(0, .int .i64 4)] rfl ⟨rfl, trivial⟩ rfl rfl ?_); go_loud (
        intro wA hcA hbA
        have HBA := Lib.hid (below_ext HB9.out hbA.out); have HTA := Lib.hid (HT9.out.ext hbA.out); have HDA := Lib.hid (HD9.out.ext hbA.out); have HRA := Lib.hid (HR9.out.ext hbA.out); have HOA := Lib.hid (HO9.out.ext hbA.out)
        clear HB9 HT9 HD9 HR9 HO9 hbA))
    | (refine wpList_built (by rfl) 31 #[(2, .tmp 35)] rfl T0.cells _ rfl hb9.out ?_)
    | ((refine wpList_bslice_new (by rfl) 22 31 1 #[(0, .tmp 36)] rfl (tbK.flat [T0]) 35 Tryd.underlying22 tb_info (by decide) (by decide) _ rfl (one_seq T0) (one_flat T0) (by rw [EK.flat_len]; rfl) ?_); go_loud (
        intro wB hcB hbB
        have HBB := Lib.hid (below_ext HBA.out hbB.out); have HTB := Lib.hid (HTA.out.ext hbB.out); have HDB := Lib.hid (HDA.out.ext hbB.out); have HRB := Lib.hid (HRA.out.ext hbB.out); have HOB := Lib.hid (HOA.out.ext hbB.out)
        have HXB : Hid (TabsAt wB [tab0] (.slice (some ⟨wA.heap.size, 0, none⟩) 1 1)) := by
          refine ⟨[T0], ls_block (K := tbK) 1 hcB.out rfl (by unfold maxLen; omega), rfl, fun i t r ht hr => ?_⟩
          match i, ht, hr with
          | 0, ht, hr =>
            injection ht with ht; injection hr with hr; subst ht hr
            rw [HT0.out]
            exact ⟨rfl, rfl, rfl, ls_block (K := nuK) 1 (hcA.out.ext hbB.out) rfl (by unfold maxLen; omega)⟩
          | i + 1, ht, _ => simp at ht
        have HC5 := Lib.hid (open_any_yes [tab0] 0 0 tab0 4 _ wB HXB.out one_valid rfl rfl (HLd.out.ext HBB.out))
        clear HBA HTA HDA HRA HOA hbB hcB hcA))
    | (go_at_call 15; refine HC5.out.mono ?_; go_loud (
        rintro e w10 ⟨r10, rfl, hr10, hb10⟩
        rw [show openE [tab0] ((0 : Nat) : Int) ((0 : Nat) : Int) = 0 from one_open.2]
        rw [show openO [tab0] ((0 : Nat) : Int) ((0 : Nat) : Int) = ⟨0, 0, 0, 4, dgZ, []⟩ from one_open.1] at hr10
        have HB10 := Lib.hid (below_ext HBB.out hb10); have HT10 := Lib.hid (HTB.out.ext hb10); have HD10 := Lib.hid (HDB.out.ext hb10); have HR10 := Lib.hid (HRB.out.ext hb10); have HO10 := Lib.hid (HOB.out.ext hb10)
        have HS10 := Lib.hid hr10
        have HZ : Hid ((w10.alloc ZO).heap[w10.heap.size]? = some (.cells obZ.cells.toArray 36 (0, 0))) := cb_one w10 ZO _ _ rfl
        clear hb10 hr10 HBB HTB HDB HRB HOB HXB HC5))
    | ((refine wpList_store_ob (hgd := rfl) 36 (.tmp 10) (.tmp 39) rfl w10.heap.size r10 rfl rfl 36 _ HZ.out rfl ob_sz ?_); go_loud (
        intro w11 hc11 hg11 hz11
        have hb11 : Below w10.heap.size w10 w11 := (b_al (w := w10) ZO).grown hg11.out (by rw [World.size_alloc]; omega) (fun k hk => by injection hk; omega)
        have HSN : Hid (SnS w (.slice (some ⟨b, off, none⟩) 2 cap) gD g4 w10.heap.size r4 r10 w11) := ⟨HT10.out.ext hb11, by rw [HDD.out]; exact HD10.out.ext hb11, HO10.out.ext hb11, HR10.out.ext hb11, hc11.out, HS10.out.ext hb11, below_ext HB10.out hb11⟩
        clear hb11 hg11 hz11 hc11 HB10 HT10 HD10 HR10 HO10 HS10 HZ)))
  generalize w10.heap.size = g10 at *
  clear hb9 HT0
  -- bad
  obtain ⟨b', off', rt, he, _, hel, hrt⟩ := HSN.out.t.el (i := 0) (t := tab1) rfl
  obtain ⟨rfl, rfl⟩ : b = b' ∧ off = off' := by injection he with he; injection he with h1 h2 _; exact ⟨h1, h2⟩
  rw [Nat.zero_mul, Nat.add_zero] at hel
  have HRG : Hid (w11.rangeAt b off rt.cells) := el_rng hel
  have HRT := Lib.hid hrt
  have HZt : Hid ((w11.alloc ZT).heap[w11.heap.size]? = some (.cells (Tb.cells ⟨0, 0, none, 0, 0, dgZ⟩).toArray 31 (0, 0))) := cb_one w11 ZT _ _ rfl
  clear he hel hrt HE1 HR1
  go_upto_region 8 with (first
    | (with_reducible refine wpList_load_mid rfl 31 (.tmp 42) rfl b off rfl rt.cells _ HRG.out Tryd.underlying31 rfl (by rw [tb_len]; exact tb_sz) ?_)
    | ((refine wpList_store_tb (hgd := rfl) 31 (.tmp 12) (.tmp 43) rfl w11.heap.size rt rfl rfl 31 _ HZt.out rfl tb_sz ?_); go_loud (
        intro w12 hc12 hg12 hz12
        have hb12 : Below w11.heap.size w11 w12 := (b_al (w := w11) ZT).grown hg12.out (by rw [World.size_alloc]; omega) (fun k hk => by injection hk; omega)
        have HB12 := Lib.hid hb12
        clear hb12 hg12 hz12 HZt)))
  obtain ⟨g12, hg12⟩ : ∃ g, w11.heap.size = g := ⟨_, rfl⟩
  have HG12 := Lib.hid hg12
  rw [hg12] at hc12 ⊢
  clear hg12
  obtain ⟨ta, tn, tc, htv⟩ : ∃ a b c, rt.cv = .slice a b c := ⟨_, _, _, rfl⟩
  have HTv := Lib.hid htv
  clear htv
  go_upto_region 9 with ((refine wpList_bslice_new (by rfl) 27 3 1 #[(0, .const (.int .i64 (-2)))] rfl [.int .i64 (-2)] 1 Tryd.underlying27 int_info1 (by decide) (by decide) [(0, .int .i64 (-2))] rfl ⟨rfl, trivial⟩ rfl rfl ?_); go_loud (
        intro w13 hcN hbN
        have hc13 := hc12.out.ext hbN.out
        have c2 := (tb_cell hc13).2.2
        rw [HTv.out] at c2
        have z2 : w13.frozen? ⟨g12, 2, none⟩ = false := hc13.frozen 2
        have HC13 := Lib.hid hc13
        have HB13 := Lib.hid (below_ext HB12.out hbN.out)
        clear hbN hc13 hc12 HB12))
  generalize w12.heap.size = gN at *
  have hgN : g12 ≠ gN := by
    intro e
    have h1 := HC13.out.cell 0
    rw [e, hcN.out.cell 0] at h1
    have h2 := HC13.out.cell 3
    rw [e, hcN.out.cell 3] at h2
    have : rt.cells[3]? = none := h2.symm
    rw [List.getElem?_eq_none_iff, tb_len] at this
    omega
  obtain ⟨TB, hTB⟩ : ∃ TB : Tb, TB = ⟨rt.air, rt.fl, some ⟨gN, 0, none⟩, 1, 1, rt.salt⟩ := ⟨_, rfl⟩
  have hc14 : CB (w13.setCell ⟨g12, 2, none⟩ (.slice (some ⟨gN, 0, none⟩) 1 1)) g12 31 TB.cells := by
    have := HC13.out.set 2 (.slice (some ⟨gN, 0, none⟩) 1 1)
    rw [hTB]; exact this
  have hcN4 : CB (w13.setCell ⟨g12, 2, none⟩ (.slice (some ⟨gN, 0, none⟩) 1 1)) gN 3 [.int .i64 (-2)] := hcN.out.far (fun e => hgN e.symm) _
  have hb14 : Below w11.heap.size w11 (w13.setCell ⟨g12, 2, none⟩ (.slice (some ⟨gN, 0, none⟩) 1 1)) := HB13.out.setCell (p := ⟨g12, 2, none⟩) (by show _ ≤ g12; rw [HG12.out]; exact Nat.le_refl _) _
  have hr14 : TabR (w13.setCell ⟨g12, 2, none⟩ (.slice (some ⟨gN, 0, none⟩) 1 1)) (tabBad (dgOf 1)) TB := by
    rw [hTB]
    exact ⟨HRT.out.air, HRT.out.fl, HRT.out.salt, ls_block (K := nuK) 1 hcN4 rfl (by unfold maxLen; omega)⟩
  have HC14 := Lib.hid hc14; have HB14 := Lib.hid hb14; have HR14 := Lib.hid hr14
  have HS14 := Lib.hid (HSN.out.ext hb14)
  clear hc14 hcN4 hb14 hr14 hTB hgN hcN HC13 HB13 c2 z2
  generalize w13.setCell ⟨g12, 2, none⟩ (.slice (some ⟨gN, 0, none⟩) 1 1) = w14 at *
  -- other
  have HZo : Hid ((w14.alloc ZO).heap[w14.heap.size]? = some (.cells obZ.cells.toArray 36 (0, 0))) := cb_one w14 ZO _ _ rfl
  have HO14 := Lib.hid HS14.out.o
  go_upto_region 10 with (first
    | (with_reducible refine wpList_load_ob (hgd := rfl) 36 (.tmp 4) rfl g4 r4 rfl 36 _ HO14.out Tryd.underlying36 rfl ob_sz ?_)
    | ((refine wpList_store_ob (hgd := rfl) 36 (.tmp 13) (.tmp 46) rfl w14.heap.size r4 rfl rfl 36 _ HZo.out rfl ob_sz ?_); go_loud (
        intro w15 hc15 hg15 hz15
        have hb15 : Below w14.heap.size w14 w15 := (b_al (w := w14) ZO).grown hg15.out (by rw [World.size_alloc]; omega) (fun k hk => by injection hk; omega)
        have HB15 := Lib.hid hb15
        have c1 := (ob_cell hc15.out).2.1
        have z1 : w15.frozen? ⟨w14.heap.size, 1, none⟩ = false := hc15.out.frozen 1
        clear hb15 hg15 hz15 HZo)))
  obtain ⟨g13, hg13⟩ : ∃ g, w14.heap.size = g := ⟨_, rfl⟩
  have HG13 := Lib.hid hg13
  rw [hg13] at hc15 c1 z1 ⊢
  clear hg13
  obtain ⟨r13, h13⟩ : ∃ r : Ob, r = ⟨r4.air, 4096, r4.slot, r4.cost, r4.salt, r4.oa, r4.n, r4.cap⟩ := ⟨_, rfl⟩
  go_upto_region 11 with fail
  have hc16 : CB (w15.setCell ⟨g13, 1, none⟩ (.int .i64 4096)) g13 36 r13.cells := by
    have := hc15.out.set 1 (.int .i64 4096)
    rw [h13]; exact this
  have hb16 : Below w14.heap.size w14 (w15.setCell ⟨g13, 1, none⟩ (.int .i64 4096)) := HB15.out.setCell (p := ⟨g13, 1, none⟩) (by show _ ≤ g13; rw [HG13.out]; exact Nat.le_refl _) _
  have HC16 := Lib.hid hc16
  have HT16 := Lib.hid (HC14.out.ext hb16)
  have HS16 := Lib.hid (HS14.out.ext hb16)
  have HR16 := Lib.hid (HR14.out.ext hb16)
  have HG16 : Hid ((w15.setCell ⟨g13, 1, none⟩ (.int .i64 4096)).rangeAt b off rt.cells) := fun j u hu => cell_ext (HB14.out.trans (hb16.mono HB14.out.size)) (HRG.out j u hu)
  have HRt16 := Lib.hid (HRT.out.ext (HB14.out.trans (hb16.mono HB14.out.size)))
  clear hc16 hb16 HC14 HR14 HB14 HB15 hc15 HS14 HSN HRG HRT HO14 c1 z1 HG12 HG13 HTv
  generalize w15.setCell ⟨g13, 1, none⟩ (.int .i64 4096) = w16 at *
  -- the comparisons
  have HLw : Hid (∀ W, Below w16.heap.size w16 W → Laid W) := fun W h => HLd.out.ext (below_ext HS16.out.b h)
  obtain ⟨q0, q1, q2, q3, q4, q5⟩ := ob_cell HS16.out.one
  obtain ⟨n1, n2, n3, n4, n5, n6⟩ := HS16.out.oneR
  obtain ⟨xo, xc, hx, _⟩ := n6.shape
  rw [n4] at q3; rw [hx] at q5
  change w16.cell? ⟨g10, 3, none⟩ = some (.int .i64 4) at q3
  change w16.cell? ⟨g10, 36, none⟩ = some (.slice xo 0 xc) at q5
  have HK1 := Lib.hid (check_any2 _ TB w16 HR16.out)
  rw [bad_ck] at HK1
  have hbz := Lib.hid tb_built0
  clear q0 q1 q2 q4 n1 n2 n3 n4 n5 n6 hx
  go_upto_region 13 with (first
    | (refine wpList_load_cbg (by rfl) 31 (.tmp 12) rfl g12 TB.cells rfl 31 _ HT16.out Tryd.underlying31 rfl (by rw [tb_len]; exact tb_sz) ?_)
    | (go_at_call 11; refine HK1.out.mono ?_; go_loud (
        rintro e w17 ⟨rfl, hb17⟩
        have HB17 := Lib.hid hb17
        have HK2 := Lib.hid (check_any2 ⟨0, 0, [], dgZ⟩ ⟨0, 0, none, 0, 0, dgZ⟩ w17 ⟨rfl, rfl, rfl, .inl ⟨rfl, _, _, rfl⟩⟩)
        rw [empty_ck] at HK2
        clear hb17 HK1 q3 q5))
    | (refine wpList_built (by rfl) 31 #[] rfl (Tb.cells ⟨0, 0, none, 0, 0, dgZ⟩) [] rfl hbz.out ?_)
    | (go_at_call 11; refine HK2.out.mono ?_; go_loud (
        rintro e w18 ⟨rfl, hb18⟩
        have HB18 := Lib.hid (below_ext HB17.out hb18)
        have HG18 : Hid (w18.rangeAt b off rt.cells) := fun j u hu => cell_ext HB18.out (HG16.out j u hu)
        have HK3 := Lib.hid (check_any2 _ rt w18 (HRt16.out.ext HB18.out))
        rw [tab1_ck] at HK3
        clear hb18 HK2 HB17))
    | (refine wpList_load_midg (by rfl) 31 (.tmp 89) rfl b off rfl rt.cells _ HG18.out Tryd.underlying31 rfl (by rw [tb_len]; exact tb_sz) ?_)
    | (go_at_call 11; refine HK3.out.mono ?_; go_loud (
        rintro e w19 ⟨rfl, hb19⟩
        have HB19 := Lib.hid (below_ext HB18.out hb19)
        clear hb19 HK3 HB18 HG18)))
  have HSE := Lib.hid (HS16.out.ext HB19.out)
  have HCE := Lib.hid (HC16.out.ext HB19.out)
  have hro : OpR w16 opOther r13 := by
    obtain ⟨k1, k2, k3, k4, k5, k6⟩ := HS16.out.oR
    rw [h13]
    exact ⟨k1, rfl, k3, k4, k5, k6⟩
  have HRO := Lib.hid (hro.ext HB19.out)
  have HLE := Lib.hid (HLw.out w19 HB19.out)
  clear HS16 HC16 hro h13 HT16 HR16 HG16 HRt16 HLw HB19 hbz
  obtain ⟨o0, o1, o2, o3, o4, o5⟩ := ob_cell HSE.out.o
  obtain ⟨k1, k2, k3, k4, k5, k6⟩ := HSE.out.oR
  obtain ⟨yo, yc, hy, _⟩ := k6.shape
  rw [two_len] at hy
  rw [k1] at o0; rw [k2] at o1; rw [k3] at o2; rw [k4] at o3; rw [k5] at o4; rw [hy] at o5
  change w19.cell? ⟨g4, 0, none⟩ = some (.int .i64 3) at o0
  change w19.cell? ⟨g4, 1, none⟩ = some (.int .i64 9) at o1
  change w19.cell? ⟨g4, 2, none⟩ = some (.int .i64 0) at o2
  change w19.cell? ⟨g4, 3, none⟩ = some (.int .i64 7) at o3
  change w19.rangeAt g4 4 (bcells (dgOf 2).1) at o4
  have hbd := Lib.hid dg_built2
  have hbd0 := Lib.hid dg_built0
  have hbo0 := Lib.hid ob_built0
  have Hsl := Lib.hid (dgOf 2).2
  obtain ⟨s2, hs2⟩ : ∃ s, dgOf 2 = s := ⟨_, rfl⟩
  rw [hs2] at o4 hbd Hsl
  have HO4 := Lib.hid o4
  have hgd := fun (a1 a2 : Operand) (W : World) => gd_dv .eql a1 a2 s2.1 s2.1 W
  have heq : ∀ W, (binOp .eql 29 (.agg (bcells s2.1).toArray) (.agg (bcells s2.1).toArray)).run Tryd.prog W = .ok (.bool true) W := fun W => by rw [eql_dg _ _ Hsl.out Hsl.out]; simp
  have HDc : Hid (CB w19 gD 29 (bcells D.1)) := by show CB _ _ _ _; rw [← HDD.out]; exact HSE.out.d
  have HOc := Lib.hid HSE.out.o
  have hv1 : verE D 3 ((2 : Nat) : Int) ((3 : Nat) : Int) opTwo = 0 := by rw [← HDD.out]; unfold verE; exact if_pos two_ver
  have HV1 := Lib.hid (verify_main D 3 2 3 0 opTwo r4 w19 HSE.out.oR two_pre rfl (by rw [two_len]; decide) HLE.out)
  unfold VerPost at HV1
  rw [hv1] at HV1
  clear k1 k2 k3 k4 k5 k6 hy o4 hs2 hv1
  go_wp2_with (first
    | (refine wpList_load_midg (by rfl) 29 (.tmp 113) rfl g4 4 rfl (bcells s2.1) _ HO4.out Tryd.underlying29 rfl (by rw [bcells_length, Hsl.out]; exact dig_sz) ?_)
    | (refine wpList_built (by rfl) 29 #[(0, .const (.int .u8 2))] rfl (bcells s2.1) [(0, .int .u8 2)] rfl hbd.out ?_)
    | (refine wpList_load_dg (by rfl) 29 (.tmp 2) rfl gD D.1 HDl.out rfl 29 _ HDc.out Tryd.underlying29 rfl dig_sz ?_)
    | (refine wpList_load_cbg (by rfl) 36 (.tmp 4) rfl g4 r4.cells rfl 36 _ HOc.out Tryd.underlying36 rfl (by rw [ob_len]; exact ob_sz) ?_)
    | (go_at_call 18; refine HV1.out.mono ?_; go_loud (
        rintro e w20 ⟨rfl, hb20⟩
        have HB20 := Lib.hid hb20
        have HDd := Lib.hid (HDc.out.ext hb20); have HCF := Lib.hid (HCE.out.ext hb20)
        have HV2 := Lib.hid (verify_no D 3 2 3 opOther r13 w20 (HRO.out.ext hb20) other_pre)
        unfold VerPost at HV2
        rw [verE_no other_pre] at HV2
        clear hb20 HV1 HDc HOc o0 o1 o2 o3 o5))
    | (refine wpList_load_dg (by rfl) 29 (.tmp 2) rfl gD D.1 HDl.out rfl 29 _ HDd.out Tryd.underlying29 rfl dig_sz ?_)
    | (refine wpList_load_cbg (by rfl) 36 (.tmp 13) rfl g13 r13.cells rfl 36 _ HCF.out Tryd.underlying36 rfl (by rw [ob_len]; exact ob_sz) ?_)
    | (go_at_call 18; refine HV2.out.mono ?_; go_loud (
        rintro e w21 ⟨rfl, hb21⟩
        have HB21 := Lib.hid (below_ext HB20.out hb21)
        have hzv : verE dgZ 0 ((1 : Nat) : Int) ((1 : Nat) : Int) opZero = 360 := zero_ver
        have HV3 := Lib.hid (verify_main dgZ 0 1 1 0 opZero obZ w21 ⟨rfl, rfl, rfl, rfl, rfl, .inl ⟨rfl, _, _, rfl⟩⟩ zero_pre rfl (by decide) (HLE.out.ext HB21.out))
        unfold VerPost at HV3
        rw [hzv] at HV3
        clear hb21 HV2 HDd HCF hzv))
    | (refine wpList_built (by rfl) 29 #[] rfl (bcells dgZ.1) [] rfl hbd0.out ?_)
    | (refine wpList_built (by rfl) 36 #[] rfl obZ.cells [] rfl hbo0.out ?_)
    | (go_at_call 18; refine HV3.out.mono ?_; go_loud (
        rintro e w22 ⟨rfl, hb22⟩
        have HB22 := Lib.hid (below_ext HB21.out hb22)
        clear hb22 HV3)))
  go_ret
  exact ⟨rfl, below_ext HSE.out.b HB22.out⟩
end Go.Proofs.YtbonebmboolemaaDoor
