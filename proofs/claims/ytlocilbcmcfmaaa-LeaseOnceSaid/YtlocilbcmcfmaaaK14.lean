/- Merged: Llc Lgp Lgg. -/
import Derived.Test.YtlocilbcmcfmaaaK13
import Derived.RegionTactic
/- LeaseFenced: the walk (printed by gen35f.py). -/
namespace Go.Proofs.Ytlocilbcmcfmaaa
open Go.RowKit
theorem fence_step {tk tk2 m s : Int} {l l2 : List Le} {c : Cm} {z : Le} (h : doR tk l c = .inr (tk2, l2)) (hz : getL l s = some z) (hm : m < z.tk) : ∃ z', getL l2 s = some z' ∧ m < z'.tk := by
  obtain ⟨x, hd⟩ := doR_did h
  have hg := doR_good h
  by_cases hs : s = c.sl
  · refine ⟨x, by rw [hd.oth, if_pos hs], ?_⟩
    have hzt := leB_tk (hg.le z (getL_mem hz).1)
    by_cases k3 : c.kd = 3
    · obtain ⟨y, hy, h2, h3, h4⟩ := hd.held (by omega)
      rw [← hs, hz] at hy
      injection hy with hy; subst hy
      rw [(h4 k3).2]; exact hm
    · rw [(hd.new k3).2]; show m < tk + 1; omega
  · exact ⟨z, by rw [hd.oth, if_neg hs]; exact hz, hm⟩
theorem fence_run {m s : Int} : ∀ (cs : List Cm) (st : StL) {z : Le}, getL st.2 s = some z → m < z.tk → ∃ z', getL (runF st cs).2 s = some z' ∧ m < z'.tk
  | [], st, z, hz, hm => ⟨z, hz, hm⟩
  | c :: r, st, z, hz, hm => by
    show ∃ z', getL (runF (stepS st c) r).2 s = some z' ∧ m < z'.tk
    cases h : doR st.1 st.2 c with
    | inl k => rw [(stepS_inl h).1]; exact fence_run r st hz hm
    | inr p =>
      rw [(stepS_inr h).1]
      obtain ⟨z', h1, h2⟩ := fence_step (tk2 := p.1) (l2 := p.2) h hz hm
      exact fence_run r p h1 h2
theorem fence_no {tk : Int} {l : List Le} {c : Cm} {z : Le} (hz : getL l c.sl = some z) (hm : c.tk < z.tk) : ∃ k, doR tk l c = .inl k := by
  cases h : doR tk l c with
  | inl k => exact ⟨k, rfl⟩
  | inr p =>
    obtain ⟨x, hd⟩ := doR_did (tk' := p.1) (l' := p.2) h
    by_cases k1 : c.kd = 1
    · have := hd.first k1; rw [hz] at this; cases this
    · obtain ⟨y, hy, h2, _⟩ := hd.held k1
      rw [hz] at hy; injection hy with hy; subst hy; omega
theorem runF_take {st : StL} {cs : List Cm} {k : Nat} {c : Cm} (h : cs[k]? = some c) : runF st (cs.take (k + 1)) = stepS (runF st (cs.take k)) c := by rw [take_snoc h]; exact runF_snoc _ _ _
theorem fen_own {w wr : World} {l : List Le} {v : Value} {i j : Nat} (h : OwnLe wr (w.heap.size + 1) v l) (a b : Value) : OwnLe ((wr.setCell ⟨w.heap.size, i, none⟩ a).setCell ⟨w.heap.size, j, none⟩ b).drew (w.heap.size + 1) v l :=
  ((h.far2 (own_far h (Nat.lt_succ_self _)) a).far2 (own_far h (Nat.lt_succ_self _)) b).ext (Below.refl _ _).drew
structure FenRel2 (cs : List Cm) (st : StL) (w : World) (Y H : Nat) (od : Cm) (y : Le) (i : Value) (wr : World) : Prop where
  h : ∃ (k : Nat) (v : Value), k ≤ cs.length ∧ i = .int .i64 k ∧ Below w.heap.size w wr ∧ CB wr Y 26 [.int .i64 (runF st (cs.take k)).1, v] ∧ OwnLe wr (w.heap.size + 1) v (runF st (cs.take k)).2 ∧ CB wr w.heap.size 33 od.cells ∧ CB wr H 36 y.cells
set_option maxRecDepth 100000 in
set_option maxHeartbeats 8000000 in
theorem fenced35_walk (bs : List Cm) (vb : Value) (az : List Cm) (va : Value) (slot ai fl : Int) (od : Cm) (w : World) (hb : LsAt cmK w.heap.size w bs vb) (hbw : ∀ x ∈ bs, CmW x) (ha : LsAt cmK w.heap.size w az va) (haw : ∀ x ∈ az, CmW x) (ho : CmW od) :
    Calls Try.prog 4 #[vb, va, .int .i64 slot, .int .i64 ai, .int .i64 fl, od.v] w fun e w' => e = .returned (.bool true) ∧ Below w.heap.size w w' := by
  obtain ⟨o1, c1, rfl, hlm1⟩ := hb.shape
  obtain ⟨o2, c2, rfl, hlm2⟩ := ha.shape
  have HLB := Lib.hid hb; have HWB := Lib.hid hbw; have HLA := Lib.hid ha; have HWA := Lib.hid haw; have HO := Lib.hid ho
  have bl1 : (bs.length : Int) ≤ 9223372036854775807 := by omega
  have bl2 : (az.length : Int) ≤ 9223372036854775807 := by omega
  clear hb ha hbw haw ho hlm1 hlm2
  have hcb0 : Hid (CB (w.alloc (.cells #[.int .i64 od.kd, .int .i64 od.sl, .int .i64 od.ai, .int .i64 od.fl, .int .i64 od.tk] 33)) w.heap.size 33 od.cells) := CB.new w _ _
  have hb0 := Lib.hid (b_al (w := w) (.cells #[.int .i64 od.kd, .int .i64 od.sl, .int .i64 od.ai, .int .i64 od.fl, .int .i64 od.tk] 33))
  change Calls Try.prog 4 #[.slice o1 bs.length c1, .slice o2 az.length c2, .int .i64 slot, .int .i64 ai, .int .i64 fl, .agg #[.int .i64 od.kd, .int .i64 od.sl, .int .i64 od.ai, .int .i64 od.fl, .int .i64 od.tk]] w _
  go_enter Try.func4, Try.ntmps4
  go_upto_region 1 with fail
  generalize w.alloc (.cells #[.int .i64 od.kd, .int .i64 od.sl, .int .i64 od.ai, .int .i64 od.fl, .int .i64 od.tk] 33) = w0 at *
  go_wp2_with fail
  refine (sane35_any _).mono ?_
  rintro e w1 ⟨rfl, hb1⟩
  have HB1 := Lib.hid (below_ext hb0.out hb1); have HC1 := Lib.hid (hcb0.out.ext hb1)
  clear hb1 hb0 hcb0
  by_cases h20 : bs.length ≤ 20 ∧ az.length ≤ 20
  case neg =>
    by_cases h1 : bs.length ≤ 20
    · have t1 : decide (20 < (bs.length : Int)) = false := by simp; omega
      have t2 : decide (20 < (az.length : Int)) = true := by simp; omega
      clear h20 h1
      go_wp2
      go_ret
      exact ⟨rfl, HB1.out⟩
    · have t1 : decide (20 < (bs.length : Int)) = true := by simp; omega
      clear h20 h1
      go_wp2
      go_ret
      exact ⟨rfl, HB1.out⟩
  case pos =>
  have H20 := Lib.hid h20
  have t1 : decide (20 < (bs.length : Int)) = false := by simp; omega
  have t2 : decide (20 < (az.length : Int)) = false := by simp; omega
  clear h20
  obtain ⟨st, hst⟩ : ∃ st, runS bs = st := ⟨_, rfl⟩
  have hsl : st.2.length ≤ 20 := by
    have h := runF_len bs (0, [])
    have := H20.out.1
    rw [← hst]; show (runF (0, []) bs).2.length ≤ 20
    simp only [List.length_nil] at h; omega
  obtain ⟨tk, l⟩ := st
  have Hsl := Lib.hid hsl
  have hel := errsF_len (0, []) bs
  have hrun := Lib.hid (run_is (w := w1) l.length bs.length (HLB.out.ext HB1.out) (by have := H20.out.1; omega) HWB.out hst rfl rfl hel)
  clear hst hel hsl
  go_upto_region 6 with (go_at_call 8; refine hrun.out.mono ?_; rintro e w2 ⟨ox, cx, oe, ce, rfl, hlx, hex, hb2⟩)
  have HB2 := Lib.hid (below_ext HB1.out hb2); have HC2 := Lib.hid (HC1.out.ext hb2); have HX2 := Lib.hid hlx
  clear hb2 hlx hex t1 t2 HB1 HC1 hrun
  have HB3 := Lib.hid (below_ext HB2.out (b_al (.cells #[.int .i64 tk, .slice ox l.length cx] 26)))
  have HC3 := Lib.hid (HC2.out.ext (b_al (.cells #[.int .i64 tk, .slice ox l.length cx] 26)))
  have HX3 := Lib.hid (HX2.out.ext (b_al (.cells #[.int .i64 tk, .slice ox l.length cx] 26)))
  have HBX3 : Hid (CB (w2.alloc (.cells #[.int .i64 tk, .slice ox l.length cx] 26)) w2.heap.size 26 [.int .i64 tk, .slice ox l.length cx]) := CB.new w2 _ _
  clear HB2 HC2 HX2
  generalize w2.alloc (.cells #[.int .i64 tk, .slice ox l.length cx] 26) = w3 at *
  generalize w2.heap.size = X at *
  have x0 : w3.cell? ⟨X, 0, none⟩ = some (.int .i64 tk) := HBX3.out.cell 0
  have x1 : w3.cell? ⟨X, 1, none⟩ = some (.slice ox l.length cx) := HBX3.out.cell 1
  obtain ⟨y, hy⟩ : ∃ y, (getL l slot).getD leZ = y := ⟨_, rfl⟩
  obtain ⟨ok, hok⟩ : ∃ b, (getL l slot).isSome = b := ⟨_, rfl⟩
  have hh := Lib.hid (holds_is (tk := tk) HX3.out hy hok)
  have HY := Lib.hid hy; have HOK := Lib.hid hok
  clear hy hok
  go_upto_region 7 with (go_at_call 11; refine hh.out.mono ?_; rintro e w4 ⟨rfl, hb4⟩)
  have HB4 := Lib.hid (below_ext HB3.out hb4); have HC4 := Lib.hid (HC3.out.ext hb4); have HX4 := Lib.hid (HX3.out.ext hb4); have HBX4 := Lib.hid (HBX3.out.ext hb4)
  clear hb4 HB3 HC3 HX3 HBX3 hh x0 x1
  have HB5 := Lib.hid (below_ext HB4.out (b_al (.cells #[.int .i64 y.sl, .int .i64 y.ai, .int .i64 y.fl, .int .i64 y.tk, .bool y.us] 36)))
  have HC5 := Lib.hid (HC4.out.ext (b_al (.cells #[.int .i64 y.sl, .int .i64 y.ai, .int .i64 y.fl, .int .i64 y.tk, .bool y.us] 36)))
  have HX5 := Lib.hid (HX4.out.ext (b_al (.cells #[.int .i64 y.sl, .int .i64 y.ai, .int .i64 y.fl, .int .i64 y.tk, .bool y.us] 36)))
  have HBX5 := Lib.hid (HBX4.out.ext (b_al (.cells #[.int .i64 y.sl, .int .i64 y.ai, .int .i64 y.fl, .int .i64 y.tk, .bool y.us] 36)))
  have HH5 : Hid (CB (w4.alloc (.cells #[.int .i64 y.sl, .int .i64 y.ai, .int .i64 y.fl, .int .i64 y.tk, .bool y.us] 36)) w4.heap.size 36 y.cells) := CB.new w4 _ _
  have HCH0 := Lib.hid HC4.out.lt
  clear HB4 HC4 HX4 HBX4
  generalize w4.alloc (.cells #[.int .i64 y.sl, .int .i64 y.ai, .int .i64 y.fl, .int .i64 y.tk, .bool y.us] 36) = w5 at *
  generalize w4.heap.size = H at *
  have x0 : w5.cell? ⟨X, 0, none⟩ = some (.int .i64 tk) := HBX5.out.cell 0
  have x1 : w5.cell? ⟨X, 1, none⟩ = some (.slice ox l.length cx) := HBX5.out.cell 1
  have h3 : w5.cell? ⟨H, 3, none⟩ = some (.int .i64 y.tk) := HH5.out.cell 3
  cases hd : doR tk l ⟨2, slot, ai, fl, y.tk⟩ with
  | inl k =>
    have hk : (k != 0) = true := by rw [bne_iff_ne]; have := doR_inl hd; omega
    have hcall := Lib.hid (do_inl (c := ⟨2, slot, ai, fl, y.tk⟩) HX5.out (by have := Hsl.out; omega) (show (Lit.int .i64 2).wf = true by decide) hd)
    clear hd
    go_upto_region 8 with (go_at_call 12; refine hcall.out.mono ?_; rintro e w6 ⟨rfl, hb6⟩)
    have HB6 := Lib.hid ((below_ext HB5.out hb6).alloc (below_ext HB5.out hb6).size (.cells #[.int .i64 0, .slice none 0 0] 26))
    clear hb6 x0 x1 h3 hcall
    generalize w6.alloc (.cells #[.int .i64 0, .slice none 0 0] 26) = w7 at *
    cases ok
    all_goals
      go_wp2
      go_ret
      exact ⟨rfl, HB6.out⟩
  | inr pr =>
    obtain ⟨tk2, l2⟩ := pr
    obtain ⟨x, hx⟩ := doR_did hd
    obtain ⟨y2, hy2, hy3, _⟩ := hx.held (by show ¬ (2 : Int) = 1; omega)
    have hy2 : getL l slot = some y2 := hy2
    obtain rfl : y2 = y := by have := HY.out; rw [hy2] at this; exact this
    obtain rfl : ok = true := by have := HOK.out; rw [hy2] at this; exact this.symm
    have hg := doR_good hd
    have hzt := leB_tk (hg.le y2 (getL_mem hy2).1)
    have hx2 : getL l2 slot = some x := by rw [hx.oth]; exact if_pos rfl
    have hxt : y2.tk < x.tk := by rw [(hx.new (by show ¬ (2 : Int) = 3; omega)).2]; show y2.tk < tk + 1; omega
    have Hx2 := Lib.hid hx2; have Hxt := Lib.hid hxt
    have Hl2 : Hid (l2.length ≤ 21) := by show _ ≤ _; have := hx.hi; have := Hsl.out; simp only at *; omega
    have hcall := Lib.hid (do_own (c := ⟨2, slot, ai, fl, y2.tk⟩) HX5.out (by have := Hsl.out; omega) (show (Lit.int .i64 2).wf = true by decide) hd)
    clear hd hx hy2 hy3 hg hzt hx2 hxt HY HOK
    go_upto_region 8 with (go_at_call 12; refine hcall.out.mono ?_; rintro e w6 ⟨oy, cy, rfl, hoy, hb6⟩)
    have HB6 := Lib.hid (below_ext HB5.out hb6); have HC6 := Lib.hid (HC5.out.ext hb6); have HY6 := Lib.hid (own_base hoy HC5.out.lt); have HH6 := Lib.hid (HH5.out.ext hb6)
    clear hb6 hoy HB5 HC5 HX5 HBX5 HH5 hcall x0 x1 h3
    have HB7 := Lib.hid (below_ext HB6.out (b_al (.cells #[.int .i64 tk2, .slice oy l2.length cy] 26)))
    have HC7 := Lib.hid (HC6.out.ext (b_al (.cells #[.int .i64 tk2, .slice oy l2.length cy] 26)))
    have HY7 := Lib.hid (HY6.out.ext (b_al (.cells #[.int .i64 tk2, .slice oy l2.length cy] 26)))
    have HH7 := Lib.hid (HH6.out.ext (b_al (.cells #[.int .i64 tk2, .slice oy l2.length cy] 26)))
    have HBY7 : Hid (CB (w6.alloc (.cells #[.int .i64 tk2, .slice oy l2.length cy] 26)) w6.heap.size 26 [.int .i64 tk2, .slice oy l2.length cy]) := CB.new w6 _ _
    have hHY := Lib.hid HH6.out.lt
    have hCY := Lib.hid HC6.out.lt
    have hwY := Lib.hid HB6.out.size
    have hCH := Lib.hid HCH0.out
    clear HB6 HC6 HY6 HH6
    generalize w6.alloc (.cells #[.int .i64 tk2, .slice oy l2.length cy] 26) = w7 at *
    generalize w6.heap.size = Y at *
    go_wp2_with fail
    have bl3 : (az.length : Int) ≤ 20 := by have := H20.out.2; omega
    go_loopw [19] (fun i wr => FenRel2 az (tk2, l2) w Y H od y2 i wr) (fun i _ => az.length - (intOf i).toNat)
    case atStart => exact ⟨⟨0, _, by omega, rfl, HB7.out, HBY7.out, HY7.out, HC7.out, HH7.out⟩⟩
    case round =>
      obtain ⟨k, v, hk, rfl, hb, hcb, hls, hcc, hch⟩ := hrel.h
      have HB := Lib.hid hb; have HYb := Lib.hid hcb; have HS := Lib.hid hls; have HCc := Lib.hid hcc; have HHc := Lib.hid hch
      clear hb hcb hls hcc hch HB7 HC7 HY7 HH7 HBY7
      obtain ⟨ov, cv, rfl, _⟩ := HS.out.rd.shape
      have hwr := Lib.hid HCc.out.lt
      have hlen1 : Hid ((runF (tk2, l2) (az.take k)).2.length ≤ 100) := by
        show _ ≤ _
        have h := runF_len (az.take k) (tk2, l2)
        have := H20.out.2
        have := Hl2.out
        rw [List.length_take] at h
        simp only at h; omega
      by_cases hlt : k < az.length
      case neg =>
        obtain rfl : k = az.length := by omega
        have tj : decide ((az.length : Int) < (az.length : Int)) = false := by simp
        have hte : Hid (az.take az.length = az) := List.take_of_length_le (Nat.le_refl _)
        rw [hte.out] at HYb HS hlen1
        obtain ⟨z, hz1, hz2⟩ := fence_run az (tk2, l2) Hx2.out Hxt.out
        have Hz1 := Lib.hid hz1
        generalize runF (tk2, l2) az = st at *
        obtain ⟨tk3, l3⟩ := st
        obtain ⟨k3, hk3⟩ := fence_no (tk := tk3) (l := l3) (c := ⟨od.kd, slot, od.ai, od.fl, y2.tk⟩) hz1 hz2
        have hne3 : (k3 != 0) = true := by rw [bne_iff_ne]; have := doR_inl hk3; omega
        have hzt : decide (y2.tk < z.tk) = true := decide_eq_true hz2
        have Hk3 := Lib.hid hk3
        clear hz1 hz2 hk3 hlt
        go_upto_region 16 with fail
        have p1 : wr.cell? ⟨w.heap.size, 1, none⟩ = some (.int .i64 od.sl) := HCc.out.cell 1
        have p4 : wr.cell? ⟨w.heap.size, 4, none⟩ = some (.int .i64 od.tk) := HCc.out.cell 4
        have hh3 : wr.cell? ⟨H, 3, none⟩ = some (.int .i64 y2.tk) := HHc.out.cell 3
        have f1 : wr.frozen? ⟨w.heap.size, 1, none⟩ = false := HCc.out.frozen _
        have f4 : wr.frozen? ⟨w.heap.size, 4, none⟩ = false := HCc.out.frozen _
        have HC9 : Hid (CB ((wr.setCell ⟨w.heap.size, 1, none⟩ (.int .i64 slot)).setCell ⟨w.heap.size, 4, none⟩ (.int .i64 y2.tk)).drew w.heap.size 33 [.int .i64 od.kd, .int .i64 slot, .int .i64 od.ai, .int .i64 od.fl, .int .i64 y2.tk]) := ((HCc.out.set 1 (.int .i64 slot)).set 4 (.int .i64 y2.tk)).ext (Below.refl _ _).drew
        have HB9 := Lib.hid ((HB.out.setCell (p := ⟨w.heap.size, 1, none⟩) (Nat.le_refl _) (.int .i64 slot)).setCell (p := ⟨w.heap.size, 4, none⟩) (Nat.le_refl _) (.int .i64 y2.tk)).drew
        have HY9 := Lib.hid (((HYb.out.far (p := ⟨w.heap.size, 1, none⟩) (Nat.ne_of_gt hCY.out) (.int .i64 slot)).far (p := ⟨w.heap.size, 4, none⟩) (Nat.ne_of_gt hCY.out) (.int .i64 y2.tk)).ext (Below.refl _ _).drew)
        have HH9 := Lib.hid (((HHc.out.far (p := ⟨w.heap.size, 1, none⟩) (Nat.ne_of_gt hCH.out) (.int .i64 slot)).far (p := ⟨w.heap.size, 4, none⟩) (Nat.ne_of_gt hCH.out) (.int .i64 y2.tk)).ext (Below.refl _ _).drew)
        have HS9 := Lib.hid (fen_own (i := 1) (j := 4) HS.out (.int .i64 slot) (.int .i64 y2.tk))
        go_region
        clear p1 p4 hh3 f1 f4
        generalize hw9 : ((wr.setCell ⟨w.heap.size, 1, none⟩ (.int .i64 slot)).setCell ⟨w.heap.size, 4, none⟩ (.int .i64 y2.tk)).drew = w9 at *
        clear hw9
        have c0 : w9.cell? ⟨w.heap.size, 0, none⟩ = some (.int .i64 od.kd) := HC9.out.cell 0
        have c1 : w9.cell? ⟨w.heap.size, 1, none⟩ = some (.int .i64 slot) := HC9.out.cell 1
        have c2 : w9.cell? ⟨w.heap.size, 2, none⟩ = some (.int .i64 od.ai) := HC9.out.cell 2
        have c3 : w9.cell? ⟨w.heap.size, 3, none⟩ = some (.int .i64 od.fl) := HC9.out.cell 3
        have c4 : w9.cell? ⟨w.heap.size, 4, none⟩ = some (.int .i64 y2.tk) := HC9.out.cell 4
        have v0 : w9.cell? ⟨Y, 0, none⟩ = some (.int .i64 tk3) := HY9.out.cell 0
        have v1 : w9.cell? ⟨Y, 1, none⟩ = some (.slice ov l3.length cv) := HY9.out.cell 1
        have hcall := Lib.hid (do_inl (c := ⟨od.kd, slot, od.ai, od.fl, y2.tk⟩) HS9.out.rd (by have := hlen1.out; omega) HO.out Hk3.out)
        go_upto_region 18 with (go_at_call 12; refine hcall.out.mono ?_; rintro e w10 ⟨rfl, hb10⟩)
        have HB10 := Lib.hid (below_ext (below_ext HB9.out hb10) (b_al (.cells #[.int .i64 0, .slice none 0 0] 26)))
        have HY10 := Lib.hid ((HY9.out.ext hb10).ext (b_al (.cells #[.int .i64 0, .slice none 0 0] 26)))
        have HH10 := Lib.hid ((HH9.out.ext hb10).ext (b_al (.cells #[.int .i64 0, .slice none 0 0] 26)))
        have HS10 := Lib.hid ((HS9.out.ext hb10).ext (b_al (.cells #[.int .i64 0, .slice none 0 0] 26)))
        have HZ10 : Hid (CB (w10.alloc (.cells #[.int .i64 0, .slice none 0 0] 26)) w10.heap.size 26 [.int .i64 0, .slice none 0 0]) := CB.new w10 _ _
        clear hb10 c0 c1 c2 c3 c4 v0 v1 hcall HB9 HY9 HH9 HS9 HC9
        generalize w10.alloc (.cells #[.int .i64 0, .slice none 0 0] 26) = w11 at *
        generalize w10.heap.size = Z at *
        have v0 : w11.cell? ⟨Y, 0, none⟩ = some (.int .i64 tk3) := HY10.out.cell 0
        have v1 : w11.cell? ⟨Y, 1, none⟩ = some (.slice ov l3.length cv) := HY10.out.cell 1
        have hcall := Lib.hid (holds_is (tk := tk3) (s := slot) (x := z) (b := true) HS10.out.rd (by rw [Hz1.out]; rfl) (by rw [Hz1.out]; rfl))
        go_upto_region 19 with (go_at_call 11; refine hcall.out.mono ?_; rintro e w12 ⟨rfl, hb12⟩)
        have HB12 := Lib.hid (below_ext (below_ext HB10.out hb12) (b_al (.cells #[.int .i64 z.sl, .int .i64 z.ai, .int .i64 z.fl, .int .i64 z.tk, .bool z.us] 36)))
        have HH12 := Lib.hid ((HH10.out.ext hb12).ext (b_al (.cells #[.int .i64 z.sl, .int .i64 z.ai, .int .i64 z.fl, .int .i64 z.tk, .bool z.us] 36)))
        have HZ12 := Lib.hid ((HZ10.out.ext hb12).ext (b_al (.cells #[.int .i64 z.sl, .int .i64 z.ai, .int .i64 z.fl, .int .i64 z.tk, .bool z.us] 36)))
        have HN12 : Hid (CB (w12.alloc (.cells #[.int .i64 z.sl, .int .i64 z.ai, .int .i64 z.fl, .int .i64 z.tk, .bool z.us] 36)) w12.heap.size 36 z.cells) := CB.new w12 _ _
        clear hb12 v0 v1 hcall HB10 HY10 HH10 HS10 HZ10
        generalize w12.alloc (.cells #[.int .i64 z.sl, .int .i64 z.ai, .int .i64 z.fl, .int .i64 z.tk, .bool z.us] 36) = w13 at *
        generalize w12.heap.size = V at *
        have n3 : w13.cell? ⟨V, 3, none⟩ = some (.int .i64 z.tk) := HN12.out.cell 3
        have hh3 : w13.cell? ⟨H, 3, none⟩ = some (.int .i64 y2.tk) := HH12.out.cell 3
        have q0 : w13.cell? ⟨Z, 0, none⟩ = some (.int .i64 0) := HZ12.out.cell 0
        have q1 : w13.cell? ⟨Z, 1, none⟩ = some (.slice none 0 0) := HZ12.out.cell 1
        have hcall : Hid (Calls Try.prog 13 #[.agg #[.int .i64 0, .slice none 0 0], .agg #[.int .i64 0, .slice none 0 0]] w13 fun e w' => e = .returned (.bool true) ∧ Below w13.heap.size w13 w') := same35_any 0 [] (.slice none 0 0) 0 [] (.slice none 0 0) w13 (LsAt.nil _ _ _ _) (LsAt.nil _ _ _ _)
        go_wp2_with (go_at_call 13; refine hcall.out.mono ?_; rintro e w14 ⟨rfl, hb14⟩)
        go_ret
        exact ⟨rfl, below_ext HB12.out hb14⟩
      case pos =>
      have tj : decide ((k : Int) < (az.length : Int)) = true := by simp; omega
      have tj' : decide (k < az.length) = true := by simp; omega
      have kb : (k : Int) < (az.length : Int) := by omega
      obtain ⟨c, hc⟩ : ∃ c, az[k]? = some c := ⟨_, List.getElem?_eq_getElem hlt⟩
      obtain ⟨b, off, rfl, _, hat⟩ := (HLA.out.ext HB.out).at hlt
      have hR := Lib.hid (runF_take (st := (tk2, l2)) hc)
      have hcw := Lib.hid (HWA.out c (List.mem_of_getElem? hc))
      have HF : Hid (FiveC wr b (off + k * 5) c) := fiveC_of (hat k c hc)
      clear hat hc
      generalize runF (tk2, l2) (az.take k) = st at *
      obtain ⟨tk3, l3⟩ := st
      go_upto_region 13 with fail
      cases hd : doR tk3 l3 c with
      | inl e0 =>
        obtain ⟨st1, _⟩ := stepS_inl (s := (tk3, l3)) hd
        have hst := Lib.hid st1
        have he0 : (e0 == 0) = false := by rw [beq_eq_false_iff_ne]; have := doR_inl hd; omega
        have Hd := Lib.hid hd
        clear hd st1
        go_cut [20, 21] (fun v5 v6 wx => CutD 0 [] e0 wr v5 v6 wx)
        case first =>
          refine wp_region_noPanic ?_
          have hbw := Lib.hid (Below.refl wr.heap.size wr)
          refine wp_region_held_drew (S := fun w' => w'.cell? ⟨Y, 0, none⟩ = some (.int .i64 tk3) ∧ w'.cell? ⟨Y, 1, none⟩ = some (.slice ov l3.length cv) ∧ w'.cell? ⟨b, off + k * 5, none⟩ = some (.int .i64 c.kd) ∧ w'.cell? ⟨b, off + k * 5 + 1, none⟩ = some (.int .i64 c.sl) ∧ w'.cell? ⟨b, off + k * 5 + 2, none⟩ = some (.int .i64 c.ai) ∧ w'.cell? ⟨b, off + k * 5 + 3, none⟩ = some (.int .i64 c.fl) ∧ w'.cell? ⟨b, off + k * 5 + 4, none⟩ = some (.int .i64 c.tk)) (by kernel_rfl) ⟨cell_ext hbw.out (HYb.out.cell 0), cell_ext hbw.out (HYb.out.cell 1), cell_ext hbw.out HF.out.1, cell_ext hbw.out HF.out.2.1, cell_ext hbw.out HF.out.2.2.1, cell_ext hbw.out HF.out.2.2.2.1, cell_ext hbw.out HF.out.2.2.2.2⟩ (fun hHeld => ?_)
          have hbd := Lib.hid hbw.out.drew
          generalize wr.drew = wd at *
          refine take_dst (some 71) (i := 0) (v := ?vIp0) rfl rfl (by kernel_rfl) (by kernel_rfl) (by kernel_rfl) (fun _ _ _ h => h) (Or.inl ⟨by rfl, fun wS hSw => ?hyIp0⟩) (by assumption) ?restIp0
          case hyIp0 => (obtain ⟨s0, s1, s2, s3, s4, s5, s6⟩ := hSw; go_simp; first | done | with_reducible rfl)
          try simp only [Act.put, List.setIfInBounds_toArray, List.set_cons_zero, List.set_cons_succ]
          refine take_dst (some 72) (i := 1) (v := ?vIp1) rfl rfl (by kernel_rfl) (by kernel_rfl) (by kernel_rfl) (fun _ _ _ h => h) (Or.inl ⟨by rfl, fun wS hSw => ?hyIp1⟩) (by assumption) ?restIp1
          case hyIp1 => (obtain ⟨s0, s1, s2, s3, s4, s5, s6⟩ := hSw; go_simp; first | done | with_reducible rfl)
          try simp only [Act.put, List.setIfInBounds_toArray, List.set_cons_zero, List.set_cons_succ]
          refine take_dst (some 73) (i := 2) (v := ?vIp2) rfl rfl (by kernel_rfl) (by kernel_rfl) (by kernel_rfl) (fun _ _ _ h => h) (Or.inl ⟨by rfl, fun wS hSw => ?hyIp2⟩) (by assumption) ?restIp2
          case hyIp2 => (obtain ⟨s0, s1, s2, s3, s4, s5, s6⟩ := hSw; go_simp; first | done | with_reducible rfl)
          try simp only [Act.put, List.setIfInBounds_toArray, List.set_cons_zero, List.set_cons_succ]
          refine take_dst (some 74) (i := 3) (v := ?vIp3) rfl rfl (by kernel_rfl) (by kernel_rfl) (by kernel_rfl) (fun _ _ _ h => h) (Or.inl ⟨by rfl, fun wS hSw => ?hyIp3⟩) (by assumption) ?restIp3
          case hyIp3 => (obtain ⟨s0, s1, s2, s3, s4, s5, s6⟩ := hSw; go_simp; first | done | with_reducible rfl)
          try simp only [Act.put, List.setIfInBounds_toArray, List.set_cons_zero, List.set_cons_succ]
          refine take_dst (some 75) (i := 4) (v := ?vIp4) rfl rfl (by kernel_rfl) (by kernel_rfl) (by kernel_rfl) (fun _ _ _ h => h) (Or.inl ⟨by rfl, fun wS hSw => ?hyIp4⟩) (by assumption) ?restIp4
          case hyIp4 => (obtain ⟨s0, s1, s2, s3, s4, s5, s6⟩ := hSw; go_simp; first | done | with_reducible rfl)
          try simp only [Act.put, List.setIfInBounds_toArray, List.set_cons_zero, List.set_cons_succ]
          refine wpAnyH_ready (rs := [5, 9]) (by kernel_rfl) (by simp) ?_
          refine AllReadyH.cons rfl (fun K hK => ?_) (AllReadyH.cons rfl (fun K hK => ?_) AllReadyH.nil)
          · go_simp
            refine (do_inl (HS.out.ext hbd.out).rd (by have := hlen1.out; simp only at *; omega) hcw.out Hd.out).mono ?_
            rintro e w7 ⟨rfl, hb7⟩
            have hb7x := Lib.hid (below_ext hbd.out hb7)
            clear hb7
            refine hK.out _ _ ⟨cell_ext hb7x.out (HYb.out.cell 0), cell_ext hb7x.out (HYb.out.cell 1), cell_ext hb7x.out HF.out.1, cell_ext hb7x.out HF.out.2.1, cell_ext hb7x.out HF.out.2.2.1, cell_ext hb7x.out HF.out.2.2.2.1, cell_ext hb7x.out HF.out.2.2.2.2⟩ (fun hHeldA => ?_)
            clear hK K
            try simp only [Act.put, List.setIfInBounds_toArray, List.set_cons_zero, List.set_cons_succ]
            refine take_dst (some 70) (i := 6) (v := ?vIx6) rfl rfl (by kernel_rfl) (by kernel_rfl) (by kernel_rfl) (fun _ _ _ h => h) (Or.inl ⟨by rfl, fun wS hSw => ?hyIx6⟩) (by assumption) ?restIx6
            case hyIx6 => (obtain ⟨s0, s1, s2, s3, s4, s5, s6⟩ := hSw; go_simp; first | done | with_reducible rfl)
            try simp only [Act.put, List.setIfInBounds_toArray, List.set_cons_zero, List.set_cons_succ]
            refine take_dst (some 77) (i := 7) (v := ?vIx7) rfl rfl (by kernel_rfl) (by kernel_rfl) (by kernel_rfl) (fun _ _ _ h => h) (Or.inl ⟨by rfl, fun wS hSw => ?hyIx7⟩) (by assumption) ?restIx7
            case hyIx7 => (obtain ⟨s0, s1, s2, s3, s4, s5, s6⟩ := hSw; go_simp; first | done | with_reducible rfl)
            try simp only [Act.put, List.setIfInBounds_toArray, List.set_cons_zero, List.set_cons_succ]
            refine take_dst (some 78) (i := 8) (v := ?vIx8) rfl rfl (by kernel_rfl) (by kernel_rfl) (by kernel_rfl) (fun _ _ _ h => h) (Or.inl ⟨by rfl, fun wS hSw => ?hyIx8⟩) (by assumption) ?restIx8
            case hyIx8 => (obtain ⟨s0, s1, s2, s3, s4, s5, s6⟩ := hSw; go_simp; first | done | with_reducible rfl)
            try simp only [Act.put, List.setIfInBounds_toArray, List.set_cons_zero, List.set_cons_succ]
            refine wpAnyH_ready (rs := [9]) (by kernel_rfl) (by simp) ?_
            refine AllReadyH.cons rfl (fun K hK => ?_) AllReadyH.nil
            go_simp
            have HE8 : Hid (CB (w7.alloc (.cells #[.int .i64 0, .slice none 0 0] 26)) w7.heap.size 26 [.int .i64 0, .slice none 0 0]) := CB.new w7 _ _
            have hb8 := Lib.hid (below_ext hb7x.out (b_al (.cells #[.int .i64 0, .slice none 0 0] 26)))
            have hEw := Lib.hid hb7x.out.size
            generalize hw8 : w7.alloc (.cells #[.int .i64 0, .slice none 0 0] 26) = w8 at *
            clear hw8
            skip
            clear hb7x
            generalize w7.heap.size = E at *
            refine hK.out _ _ ⟨cell_ext hb8.out (HYb.out.cell 0), cell_ext hb8.out (HYb.out.cell 1), cell_ext hb8.out HF.out.1, cell_ext hb8.out HF.out.2.1, cell_ext hb8.out HF.out.2.2.1, cell_ext hb8.out HF.out.2.2.2.1, cell_ext hb8.out HF.out.2.2.2.2⟩ (fun hHeldB => ?_)
            clear hK K
            try simp only [Act.put, List.setIfInBounds_toArray, List.set_cons_zero, List.set_cons_succ]
            refine wpAnyH_ready (rs := [10]) (by kernel_rfl) (by simp) ?_
            refine AllReadyH.cons rfl (fun K hK => ?_) AllReadyH.nil
            have y0 : w8.cell? ⟨E, 0, none⟩ = some (.int .i64 0) := HE8.out.cell 0
            have z0 : w8.frozen? ⟨E, 0, none⟩ = false := HE8.out.frozen _
            have y1 : w8.cell? ⟨E, 1, none⟩ = some (.slice none 0 0) := HE8.out.cell 1
            have z1 : w8.frozen? ⟨E, 1, none⟩ = false := HE8.out.frozen _
            go_simp
            have HE9 : Hid (CB ((w8.setCell ⟨E, 0, none⟩ (.int .i64 0)).setCell ⟨E, 1, none⟩ (.slice none 0 0)) E 26 [.int .i64 0, .slice none 0 0]) := ((HE8.out.set 0 (.int .i64 0)).set 1 (.slice none 0 0))
            have hb9 : Hid (Below wr.heap.size wr ((w8.setCell ⟨E, 0, none⟩ (.int .i64 0)).setCell ⟨E, 1, none⟩ (.slice none 0 0))) := ((hb8.out.setCell (p := ⟨E, 0, none⟩) hEw.out (.int .i64 0)).setCell (p := ⟨E, 1, none⟩) hEw.out (.slice none 0 0))
            generalize hw9 : ((w8.setCell ⟨E, 0, none⟩ (.int .i64 0)).setCell ⟨E, 1, none⟩ (.slice none 0 0)) = w9 at *
            clear hw9 y0 z0 y1 z1
            refine hK.out _ _ ⟨cell_ext hb9.out (HYb.out.cell 0), cell_ext hb9.out (HYb.out.cell 1), cell_ext hb9.out HF.out.1, cell_ext hb9.out HF.out.2.1, cell_ext hb9.out HF.out.2.2.1, cell_ext hb9.out HF.out.2.2.2.1, cell_ext hb9.out HF.out.2.2.2.2⟩ (fun hHeldZ => ?_)
            clear hK K
            try simp only [Act.put, List.setIfInBounds_toArray, List.set_cons_zero, List.set_cons_succ]
            refine take_dst (some 21) (i := 11) (v := ?vIAa11) rfl rfl (by kernel_rfl) (by kernel_rfl) (by kernel_rfl) (fun _ _ _ h => h) (Or.inl ⟨by rfl, fun wS hSw => ?hyIAa11⟩) (by assumption) ?restIAa11
            case hyIAa11 => (obtain ⟨s0, s1, s2, s3, s4, s5, s6⟩ := hSw; go_simp; first | done | with_reducible rfl)
            try simp only [Act.put, List.setIfInBounds_toArray, List.set_cons_zero, List.set_cons_succ]
            refine wpAnyH_done (by kernel_rfl) ?_ _
            refine NoPanic.normal ?_
            go_wp2_with fail
            go_meet
            exact ⟨E, none, 0, rfl, rfl, hb9.out, hEw.out, HE9.out, OwnK.nil _ _ _⟩
          · go_simp
            have HE6 : Hid (CB (wd.alloc (.cells #[.int .i64 0, .slice none 0 0] 26)) wd.heap.size 26 [.int .i64 0, .slice none 0 0]) := CB.new wd _ _
            have hba := Lib.hid (below_ext hbd.out (b_al (.cells #[.int .i64 0, .slice none 0 0] 26)))
            have hEw := Lib.hid hbd.out.size
            generalize hwa : wd.alloc (.cells #[.int .i64 0, .slice none 0 0] 26) = wa at *
            clear hwa
            clear hbd
            generalize wd.heap.size = E at *
            have HEl := Lib.hid HE6.out.lt
            refine hK.out _ _ ⟨cell_ext hba.out (HYb.out.cell 0), cell_ext hba.out (HYb.out.cell 1), cell_ext hba.out HF.out.1, cell_ext hba.out HF.out.2.1, cell_ext hba.out HF.out.2.2.1, cell_ext hba.out HF.out.2.2.2.1, cell_ext hba.out HF.out.2.2.2.2⟩ (fun hHeldA => ?_)
            clear hK K
            try simp only [Act.put, List.setIfInBounds_toArray, List.set_cons_zero, List.set_cons_succ]
            refine wpAnyH_ready (rs := [5]) (by kernel_rfl) (by simp) ?_
            refine AllReadyH.cons rfl (fun K hK => ?_) AllReadyH.nil
            go_simp
            refine (do_inl (HS.out.ext hba.out).rd (by have := hlen1.out; simp only at *; omega) hcw.out Hd.out).mono ?_
            rintro e w8 ⟨rfl, hb7⟩
            have hb8 := Lib.hid (below_ext hba.out hb7)
            have HE8 := Lib.hid (HE6.out.ext hb7)
            clear hb7
            refine hK.out _ _ ⟨cell_ext hb8.out (HYb.out.cell 0), cell_ext hb8.out (HYb.out.cell 1), cell_ext hb8.out HF.out.1, cell_ext hb8.out HF.out.2.1, cell_ext hb8.out HF.out.2.2.1, cell_ext hb8.out HF.out.2.2.2.1, cell_ext hb8.out HF.out.2.2.2.2⟩ (fun hHeldB => ?_)
            clear hK K
            try simp only [Act.put, List.setIfInBounds_toArray, List.set_cons_zero, List.set_cons_succ]
            refine take_dst (some 70) (i := 6) (v := ?vIy6) rfl rfl (by kernel_rfl) (by kernel_rfl) (by kernel_rfl) (fun _ _ _ h => h) (Or.inl ⟨by rfl, fun wS hSw => ?hyIy6⟩) (by assumption) ?restIy6
            case hyIy6 => (obtain ⟨s0, s1, s2, s3, s4, s5, s6⟩ := hSw; go_simp; first | done | with_reducible rfl)
            try simp only [Act.put, List.setIfInBounds_toArray, List.set_cons_zero, List.set_cons_succ]
            refine take_dst (some 77) (i := 7) (v := ?vIy7) rfl rfl (by kernel_rfl) (by kernel_rfl) (by kernel_rfl) (fun _ _ _ h => h) (Or.inl ⟨by rfl, fun wS hSw => ?hyIy7⟩) (by assumption) ?restIy7
            case hyIy7 => (obtain ⟨s0, s1, s2, s3, s4, s5, s6⟩ := hSw; go_simp; first | done | with_reducible rfl)
            try simp only [Act.put, List.setIfInBounds_toArray, List.set_cons_zero, List.set_cons_succ]
            refine take_dst (some 78) (i := 8) (v := ?vIy8) rfl rfl (by kernel_rfl) (by kernel_rfl) (by kernel_rfl) (fun _ _ _ h => h) (Or.inl ⟨by rfl, fun wS hSw => ?hyIy8⟩) (by assumption) ?restIy8
            case hyIy8 => (obtain ⟨s0, s1, s2, s3, s4, s5, s6⟩ := hSw; go_simp; first | done | with_reducible rfl)
            try simp only [Act.put, List.setIfInBounds_toArray, List.set_cons_zero, List.set_cons_succ]
            refine wpAnyH_ready (rs := [10]) (by kernel_rfl) (by simp) ?_
            refine AllReadyH.cons rfl (fun K hK => ?_) AllReadyH.nil
            have y0 : w8.cell? ⟨E, 0, none⟩ = some (.int .i64 0) := HE8.out.cell 0
            have z0 : w8.frozen? ⟨E, 0, none⟩ = false := HE8.out.frozen _
            have y1 : w8.cell? ⟨E, 1, none⟩ = some (.slice none 0 0) := HE8.out.cell 1
            have z1 : w8.frozen? ⟨E, 1, none⟩ = false := HE8.out.frozen _
            go_simp
            have HE9 : Hid (CB ((w8.setCell ⟨E, 0, none⟩ (.int .i64 0)).setCell ⟨E, 1, none⟩ (.slice none 0 0)) E 26 [.int .i64 0, .slice none 0 0]) := ((HE8.out.set 0 (.int .i64 0)).set 1 (.slice none 0 0))
            have hb9 : Hid (Below wr.heap.size wr ((w8.setCell ⟨E, 0, none⟩ (.int .i64 0)).setCell ⟨E, 1, none⟩ (.slice none 0 0))) := ((hb8.out.setCell (p := ⟨E, 0, none⟩) hEw.out (.int .i64 0)).setCell (p := ⟨E, 1, none⟩) hEw.out (.slice none 0 0))
            generalize hw9 : ((w8.setCell ⟨E, 0, none⟩ (.int .i64 0)).setCell ⟨E, 1, none⟩ (.slice none 0 0)) = w9 at *
            clear hw9 y0 z0 y1 z1
            refine hK.out _ _ ⟨cell_ext hb9.out (HYb.out.cell 0), cell_ext hb9.out (HYb.out.cell 1), cell_ext hb9.out HF.out.1, cell_ext hb9.out HF.out.2.1, cell_ext hb9.out HF.out.2.2.1, cell_ext hb9.out HF.out.2.2.2.1, cell_ext hb9.out HF.out.2.2.2.2⟩ (fun hHeldZ => ?_)
            clear hK K
            try simp only [Act.put, List.setIfInBounds_toArray, List.set_cons_zero, List.set_cons_succ]
            refine take_dst (some 21) (i := 11) (v := ?vIBa11) rfl rfl (by kernel_rfl) (by kernel_rfl) (by kernel_rfl) (fun _ _ _ h => h) (Or.inl ⟨by rfl, fun wS hSw => ?hyIBa11⟩) (by assumption) ?restIBa11
            case hyIBa11 => (obtain ⟨s0, s1, s2, s3, s4, s5, s6⟩ := hSw; go_simp; first | done | with_reducible rfl)
            try simp only [Act.put, List.setIfInBounds_toArray, List.set_cons_zero, List.set_cons_succ]
            refine wpAnyH_done (by kernel_rfl) ?_ _
            refine NoPanic.normal ?_
            go_wp2_with fail
            go_meet
            exact ⟨E, none, 0, rfl, rfl, hb9.out, hEw.out, HE9.out, OwnK.nil _ _ _⟩
        case rest =>
          obtain ⟨E1, o2, c2, rfl, rfl, hbc, hE, hcb, hO⟩ := hcut
          have HYc := Lib.hid (HYb.out.ext hbc); have HBw := Lib.hid (below_ext HB.out hbc); have HSc := Lib.hid (HS.out.ext hbc); have HCx := Lib.hid (HCc.out.ext hbc); have HHx := Lib.hid (HHc.out.ext hbc)
          clear hbc hcb hO hE HF HB HS
          go_wp2_with fail
          go_roundw
          case rel => exact ⟨⟨k + 1, _, by omega, by go_num, HBw.out, by rw [hR.out, hst.out]; exact HYc.out, by rw [hR.out, hst.out]; exact HSc.out, HCx.out, HHx.out⟩⟩
          case measure => simp [intOf]; omega
      | inr pr =>
        obtain ⟨tk4, l4⟩ := pr
        obtain ⟨st1, _⟩ := stepS_inr (s := (tk3, l3)) hd
        have hst := Lib.hid st1
        have Hd := Lib.hid hd
        clear hd st1
        go_cut [20, 21] (fun v5 v6 wx => CutD tk4 l4 0 wr v5 v6 wx)
        case first =>
          refine wp_region_noPanic ?_
          have hbw := Lib.hid (Below.refl wr.heap.size wr)
          refine wp_region_held_drew (S := fun w' => w'.cell? ⟨Y, 0, none⟩ = some (.int .i64 tk3) ∧ w'.cell? ⟨Y, 1, none⟩ = some (.slice ov l3.length cv) ∧ w'.cell? ⟨b, off + k * 5, none⟩ = some (.int .i64 c.kd) ∧ w'.cell? ⟨b, off + k * 5 + 1, none⟩ = some (.int .i64 c.sl) ∧ w'.cell? ⟨b, off + k * 5 + 2, none⟩ = some (.int .i64 c.ai) ∧ w'.cell? ⟨b, off + k * 5 + 3, none⟩ = some (.int .i64 c.fl) ∧ w'.cell? ⟨b, off + k * 5 + 4, none⟩ = some (.int .i64 c.tk)) (by kernel_rfl) ⟨cell_ext hbw.out (HYb.out.cell 0), cell_ext hbw.out (HYb.out.cell 1), cell_ext hbw.out HF.out.1, cell_ext hbw.out HF.out.2.1, cell_ext hbw.out HF.out.2.2.1, cell_ext hbw.out HF.out.2.2.2.1, cell_ext hbw.out HF.out.2.2.2.2⟩ (fun hHeld => ?_)
          have hbd := Lib.hid hbw.out.drew
          generalize wr.drew = wd at *
          refine take_dst (some 71) (i := 0) (v := ?vAp0) rfl rfl (by kernel_rfl) (by kernel_rfl) (by kernel_rfl) (fun _ _ _ h => h) (Or.inl ⟨by rfl, fun wS hSw => ?hyAp0⟩) (by assumption) ?restAp0
          case hyAp0 => (obtain ⟨s0, s1, s2, s3, s4, s5, s6⟩ := hSw; go_simp; first | done | with_reducible rfl)
          try simp only [Act.put, List.setIfInBounds_toArray, List.set_cons_zero, List.set_cons_succ]
          refine take_dst (some 72) (i := 1) (v := ?vAp1) rfl rfl (by kernel_rfl) (by kernel_rfl) (by kernel_rfl) (fun _ _ _ h => h) (Or.inl ⟨by rfl, fun wS hSw => ?hyAp1⟩) (by assumption) ?restAp1
          case hyAp1 => (obtain ⟨s0, s1, s2, s3, s4, s5, s6⟩ := hSw; go_simp; first | done | with_reducible rfl)
          try simp only [Act.put, List.setIfInBounds_toArray, List.set_cons_zero, List.set_cons_succ]
          refine take_dst (some 73) (i := 2) (v := ?vAp2) rfl rfl (by kernel_rfl) (by kernel_rfl) (by kernel_rfl) (fun _ _ _ h => h) (Or.inl ⟨by rfl, fun wS hSw => ?hyAp2⟩) (by assumption) ?restAp2
          case hyAp2 => (obtain ⟨s0, s1, s2, s3, s4, s5, s6⟩ := hSw; go_simp; first | done | with_reducible rfl)
          try simp only [Act.put, List.setIfInBounds_toArray, List.set_cons_zero, List.set_cons_succ]
          refine take_dst (some 74) (i := 3) (v := ?vAp3) rfl rfl (by kernel_rfl) (by kernel_rfl) (by kernel_rfl) (fun _ _ _ h => h) (Or.inl ⟨by rfl, fun wS hSw => ?hyAp3⟩) (by assumption) ?restAp3
          case hyAp3 => (obtain ⟨s0, s1, s2, s3, s4, s5, s6⟩ := hSw; go_simp; first | done | with_reducible rfl)
          try simp only [Act.put, List.setIfInBounds_toArray, List.set_cons_zero, List.set_cons_succ]
          refine take_dst (some 75) (i := 4) (v := ?vAp4) rfl rfl (by kernel_rfl) (by kernel_rfl) (by kernel_rfl) (fun _ _ _ h => h) (Or.inl ⟨by rfl, fun wS hSw => ?hyAp4⟩) (by assumption) ?restAp4
          case hyAp4 => (obtain ⟨s0, s1, s2, s3, s4, s5, s6⟩ := hSw; go_simp; first | done | with_reducible rfl)
          try simp only [Act.put, List.setIfInBounds_toArray, List.set_cons_zero, List.set_cons_succ]
          refine wpAnyH_ready (rs := [5, 9]) (by kernel_rfl) (by simp) ?_
          refine AllReadyH.cons rfl (fun K hK => ?_) (AllReadyH.cons rfl (fun K hK => ?_) AllReadyH.nil)
          · go_simp
            refine (do_own (HS.out.ext hbd.out).rd (by have := hlen1.out; simp only at *; omega) hcw.out Hd.out).mono ?_
            rintro e w7 ⟨o2, c2, rfl, hO7, hb7⟩
            have HO7 := Lib.hid hO7
            clear hO7
            have hb7x := Lib.hid (below_ext hbd.out hb7)
            have hbs := Lib.hid hbd.out.size
            clear hb7
            refine hK.out _ _ ⟨cell_ext hb7x.out (HYb.out.cell 0), cell_ext hb7x.out (HYb.out.cell 1), cell_ext hb7x.out HF.out.1, cell_ext hb7x.out HF.out.2.1, cell_ext hb7x.out HF.out.2.2.1, cell_ext hb7x.out HF.out.2.2.2.1, cell_ext hb7x.out HF.out.2.2.2.2⟩ (fun hHeldA => ?_)
            clear hK K
            try simp only [Act.put, List.setIfInBounds_toArray, List.set_cons_zero, List.set_cons_succ]
            refine take_dst (some 70) (i := 6) (v := ?vAx6) rfl rfl (by kernel_rfl) (by kernel_rfl) (by kernel_rfl) (fun _ _ _ h => h) (Or.inl ⟨by rfl, fun wS hSw => ?hyAx6⟩) (by assumption) ?restAx6
            case hyAx6 => (obtain ⟨s0, s1, s2, s3, s4, s5, s6⟩ := hSw; go_simp; first | done | with_reducible rfl)
            try simp only [Act.put, List.setIfInBounds_toArray, List.set_cons_zero, List.set_cons_succ]
            refine take_dst (some 77) (i := 7) (v := ?vAx7) rfl rfl (by kernel_rfl) (by kernel_rfl) (by kernel_rfl) (fun _ _ _ h => h) (Or.inl ⟨by rfl, fun wS hSw => ?hyAx7⟩) (by assumption) ?restAx7
            case hyAx7 => (obtain ⟨s0, s1, s2, s3, s4, s5, s6⟩ := hSw; go_simp; first | done | with_reducible rfl)
            try simp only [Act.put, List.setIfInBounds_toArray, List.set_cons_zero, List.set_cons_succ]
            refine take_dst (some 78) (i := 8) (v := ?vAx8) rfl rfl (by kernel_rfl) (by kernel_rfl) (by kernel_rfl) (fun _ _ _ h => h) (Or.inl ⟨by rfl, fun wS hSw => ?hyAx8⟩) (by assumption) ?restAx8
            case hyAx8 => (obtain ⟨s0, s1, s2, s3, s4, s5, s6⟩ := hSw; go_simp; first | done | with_reducible rfl)
            try simp only [Act.put, List.setIfInBounds_toArray, List.set_cons_zero, List.set_cons_succ]
            refine wpAnyH_ready (rs := [9]) (by kernel_rfl) (by simp) ?_
            refine AllReadyH.cons rfl (fun K hK => ?_) AllReadyH.nil
            go_simp
            have HE8 : Hid (CB (w7.alloc (.cells #[.int .i64 0, .slice none 0 0] 26)) w7.heap.size 26 [.int .i64 0, .slice none 0 0]) := CB.new w7 _ _
            have hb8 := Lib.hid (below_ext hb7x.out (b_al (.cells #[.int .i64 0, .slice none 0 0] 26)))
            have hEw := Lib.hid hb7x.out.size
            have HO8 := Lib.hid (HO7.out.alloc (.cells #[.int .i64 0, .slice none 0 0] 26))
            have hne : Hid ((.slice o2 l4.length c2 : Value).ownBlock ≠ some w7.heap.size) := fun e => by have := (HO7.out.lt _ e).2; omega
            generalize hw8 : w7.alloc (.cells #[.int .i64 0, .slice none 0 0] 26) = w8 at *
            clear hw8
            clear HO7
            clear hb7x
            generalize w7.heap.size = E at *
            refine hK.out _ _ ⟨cell_ext hb8.out (HYb.out.cell 0), cell_ext hb8.out (HYb.out.cell 1), cell_ext hb8.out HF.out.1, cell_ext hb8.out HF.out.2.1, cell_ext hb8.out HF.out.2.2.1, cell_ext hb8.out HF.out.2.2.2.1, cell_ext hb8.out HF.out.2.2.2.2⟩ (fun hHeldB => ?_)
            clear hK K
            try simp only [Act.put, List.setIfInBounds_toArray, List.set_cons_zero, List.set_cons_succ]
            refine wpAnyH_ready (rs := [10]) (by kernel_rfl) (by simp) ?_
            refine AllReadyH.cons rfl (fun K hK => ?_) AllReadyH.nil
            have y0 : w8.cell? ⟨E, 0, none⟩ = some (.int .i64 0) := HE8.out.cell 0
            have z0 : w8.frozen? ⟨E, 0, none⟩ = false := HE8.out.frozen _
            have y1 : w8.cell? ⟨E, 1, none⟩ = some (.slice none 0 0) := HE8.out.cell 1
            have z1 : w8.frozen? ⟨E, 1, none⟩ = false := HE8.out.frozen _
            go_simp
            have HE9 : Hid (CB ((w8.setCell ⟨E, 0, none⟩ (.int .i64 tk4)).setCell ⟨E, 1, none⟩ (.slice o2 l4.length c2)) E 26 [.int .i64 tk4, .slice o2 l4.length c2]) := ((HE8.out.set 0 (.int .i64 tk4)).set 1 (.slice o2 l4.length c2))
            have hb9 : Hid (Below wr.heap.size wr ((w8.setCell ⟨E, 0, none⟩ (.int .i64 tk4)).setCell ⟨E, 1, none⟩ (.slice o2 l4.length c2))) := ((hb8.out.setCell (p := ⟨E, 0, none⟩) hEw.out (.int .i64 tk4)).setCell (p := ⟨E, 1, none⟩) hEw.out (.slice o2 l4.length c2))
            have HO9 := Lib.hid ((HO8.out.far2 (i := 0) hne.out (.int .i64 tk4)).far2 (i := 1) hne.out (.slice o2 l4.length c2))
            generalize hw9 : ((w8.setCell ⟨E, 0, none⟩ (.int .i64 tk4)).setCell ⟨E, 1, none⟩ (.slice o2 l4.length c2)) = w9 at *
            clear hw9 y0 z0 y1 z1
            refine hK.out _ _ ⟨cell_ext hb9.out (HYb.out.cell 0), cell_ext hb9.out (HYb.out.cell 1), cell_ext hb9.out HF.out.1, cell_ext hb9.out HF.out.2.1, cell_ext hb9.out HF.out.2.2.1, cell_ext hb9.out HF.out.2.2.2.1, cell_ext hb9.out HF.out.2.2.2.2⟩ (fun hHeldZ => ?_)
            clear hK K
            try simp only [Act.put, List.setIfInBounds_toArray, List.set_cons_zero, List.set_cons_succ]
            refine take_dst (some 21) (i := 11) (v := ?vAAa11) rfl rfl (by kernel_rfl) (by kernel_rfl) (by kernel_rfl) (fun _ _ _ h => h) (Or.inl ⟨by rfl, fun wS hSw => ?hyAAa11⟩) (by assumption) ?restAAa11
            case hyAAa11 => (obtain ⟨s0, s1, s2, s3, s4, s5, s6⟩ := hSw; go_simp; first | done | with_reducible rfl)
            try simp only [Act.put, List.setIfInBounds_toArray, List.set_cons_zero, List.set_cons_succ]
            refine wpAnyH_done (by kernel_rfl) ?_ _
            refine NoPanic.normal ?_
            go_wp2_with fail
            go_meet
            exact ⟨E, o2, c2, rfl, rfl, hb9.out, hEw.out, HE9.out, own_base HO9.out hbs.out⟩
          · go_simp
            have HE6 : Hid (CB (wd.alloc (.cells #[.int .i64 0, .slice none 0 0] 26)) wd.heap.size 26 [.int .i64 0, .slice none 0 0]) := CB.new wd _ _
            have hba := Lib.hid (below_ext hbd.out (b_al (.cells #[.int .i64 0, .slice none 0 0] 26)))
            have hEw := Lib.hid hbd.out.size
            generalize hwa : wd.alloc (.cells #[.int .i64 0, .slice none 0 0] 26) = wa at *
            clear hwa
            clear hbd
            generalize wd.heap.size = E at *
            have HEl := Lib.hid HE6.out.lt
            refine hK.out _ _ ⟨cell_ext hba.out (HYb.out.cell 0), cell_ext hba.out (HYb.out.cell 1), cell_ext hba.out HF.out.1, cell_ext hba.out HF.out.2.1, cell_ext hba.out HF.out.2.2.1, cell_ext hba.out HF.out.2.2.2.1, cell_ext hba.out HF.out.2.2.2.2⟩ (fun hHeldA => ?_)
            clear hK K
            try simp only [Act.put, List.setIfInBounds_toArray, List.set_cons_zero, List.set_cons_succ]
            refine wpAnyH_ready (rs := [5]) (by kernel_rfl) (by simp) ?_
            refine AllReadyH.cons rfl (fun K hK => ?_) AllReadyH.nil
            go_simp
            refine (do_own (HS.out.ext hba.out).rd (by have := hlen1.out; simp only at *; omega) hcw.out Hd.out).mono ?_
            rintro e w8 ⟨o2, c2, rfl, hO7, hb7⟩
            have HO7 := Lib.hid hO7
            clear hO7
            have hb8 := Lib.hid (below_ext hba.out hb7)
            have hbs := Lib.hid hba.out.size
            have HE8 := Lib.hid (HE6.out.ext hb7)
            clear hb7
            have HO8 := Lib.hid HO7.out
            have hne : Hid ((.slice o2 l4.length c2 : Value).ownBlock ≠ some E) := fun e => by have := (HO7.out.lt _ e).1; have := HEl.out; omega
            refine hK.out _ _ ⟨cell_ext hb8.out (HYb.out.cell 0), cell_ext hb8.out (HYb.out.cell 1), cell_ext hb8.out HF.out.1, cell_ext hb8.out HF.out.2.1, cell_ext hb8.out HF.out.2.2.1, cell_ext hb8.out HF.out.2.2.2.1, cell_ext hb8.out HF.out.2.2.2.2⟩ (fun hHeldB => ?_)
            clear hK K
            try simp only [Act.put, List.setIfInBounds_toArray, List.set_cons_zero, List.set_cons_succ]
            refine take_dst (some 70) (i := 6) (v := ?vAy6) rfl rfl (by kernel_rfl) (by kernel_rfl) (by kernel_rfl) (fun _ _ _ h => h) (Or.inl ⟨by rfl, fun wS hSw => ?hyAy6⟩) (by assumption) ?restAy6
            case hyAy6 => (obtain ⟨s0, s1, s2, s3, s4, s5, s6⟩ := hSw; go_simp; first | done | with_reducible rfl)
            try simp only [Act.put, List.setIfInBounds_toArray, List.set_cons_zero, List.set_cons_succ]
            refine take_dst (some 77) (i := 7) (v := ?vAy7) rfl rfl (by kernel_rfl) (by kernel_rfl) (by kernel_rfl) (fun _ _ _ h => h) (Or.inl ⟨by rfl, fun wS hSw => ?hyAy7⟩) (by assumption) ?restAy7
            case hyAy7 => (obtain ⟨s0, s1, s2, s3, s4, s5, s6⟩ := hSw; go_simp; first | done | with_reducible rfl)
            try simp only [Act.put, List.setIfInBounds_toArray, List.set_cons_zero, List.set_cons_succ]
            refine take_dst (some 78) (i := 8) (v := ?vAy8) rfl rfl (by kernel_rfl) (by kernel_rfl) (by kernel_rfl) (fun _ _ _ h => h) (Or.inl ⟨by rfl, fun wS hSw => ?hyAy8⟩) (by assumption) ?restAy8
            case hyAy8 => (obtain ⟨s0, s1, s2, s3, s4, s5, s6⟩ := hSw; go_simp; first | done | with_reducible rfl)
            try simp only [Act.put, List.setIfInBounds_toArray, List.set_cons_zero, List.set_cons_succ]
            refine wpAnyH_ready (rs := [10]) (by kernel_rfl) (by simp) ?_
            refine AllReadyH.cons rfl (fun K hK => ?_) AllReadyH.nil
            have y0 : w8.cell? ⟨E, 0, none⟩ = some (.int .i64 0) := HE8.out.cell 0
            have z0 : w8.frozen? ⟨E, 0, none⟩ = false := HE8.out.frozen _
            have y1 : w8.cell? ⟨E, 1, none⟩ = some (.slice none 0 0) := HE8.out.cell 1
            have z1 : w8.frozen? ⟨E, 1, none⟩ = false := HE8.out.frozen _
            go_simp
            have HE9 : Hid (CB ((w8.setCell ⟨E, 0, none⟩ (.int .i64 tk4)).setCell ⟨E, 1, none⟩ (.slice o2 l4.length c2)) E 26 [.int .i64 tk4, .slice o2 l4.length c2]) := ((HE8.out.set 0 (.int .i64 tk4)).set 1 (.slice o2 l4.length c2))
            have hb9 : Hid (Below wr.heap.size wr ((w8.setCell ⟨E, 0, none⟩ (.int .i64 tk4)).setCell ⟨E, 1, none⟩ (.slice o2 l4.length c2))) := ((hb8.out.setCell (p := ⟨E, 0, none⟩) hEw.out (.int .i64 tk4)).setCell (p := ⟨E, 1, none⟩) hEw.out (.slice o2 l4.length c2))
            have HO9 := Lib.hid ((HO8.out.far2 (i := 0) hne.out (.int .i64 tk4)).far2 (i := 1) hne.out (.slice o2 l4.length c2))
            generalize hw9 : ((w8.setCell ⟨E, 0, none⟩ (.int .i64 tk4)).setCell ⟨E, 1, none⟩ (.slice o2 l4.length c2)) = w9 at *
            clear hw9 y0 z0 y1 z1
            refine hK.out _ _ ⟨cell_ext hb9.out (HYb.out.cell 0), cell_ext hb9.out (HYb.out.cell 1), cell_ext hb9.out HF.out.1, cell_ext hb9.out HF.out.2.1, cell_ext hb9.out HF.out.2.2.1, cell_ext hb9.out HF.out.2.2.2.1, cell_ext hb9.out HF.out.2.2.2.2⟩ (fun hHeldZ => ?_)
            clear hK K
            try simp only [Act.put, List.setIfInBounds_toArray, List.set_cons_zero, List.set_cons_succ]
            refine take_dst (some 21) (i := 11) (v := ?vABa11) rfl rfl (by kernel_rfl) (by kernel_rfl) (by kernel_rfl) (fun _ _ _ h => h) (Or.inl ⟨by rfl, fun wS hSw => ?hyABa11⟩) (by assumption) ?restABa11
            case hyABa11 => (obtain ⟨s0, s1, s2, s3, s4, s5, s6⟩ := hSw; go_simp; first | done | with_reducible rfl)
            try simp only [Act.put, List.setIfInBounds_toArray, List.set_cons_zero, List.set_cons_succ]
            refine wpAnyH_done (by kernel_rfl) ?_ _
            refine NoPanic.normal ?_
            go_wp2_with fail
            go_meet
            exact ⟨E, o2, c2, rfl, rfl, hb9.out, hEw.out, HE9.out, own_base HO9.out hbs.out⟩
        case rest =>
          obtain ⟨E1, o2, c2, rfl, rfl, hbc, hE, hcb, hO⟩ := hcut
          have HYc := Lib.hid (HYb.out.ext hbc); have HBw := Lib.hid (below_ext HB.out hbc); have HEc := Lib.hid hcb; have HOc := Lib.hid hO; have HCx := Lib.hid (HCc.out.ext hbc); have HHx := Lib.hid (HHc.out.ext hbc)
          have hYl := Lib.hid HYb.out.lt
          clear hbc hcb hO hE HF HB HS
          have g0 : wc.cell? ⟨E1, 0, none⟩ = some (.int .i64 tk4) := HEc.out.cell 0
          have g1 : wc.cell? ⟨E1, 1, none⟩ = some (.slice o2 l4.length c2) := HEc.out.cell 1
          have x0 : wc.cell? ⟨Y, 0, none⟩ = some (.int .i64 tk3) := HYc.out.cell 0
          have x1 : wc.cell? ⟨Y, 1, none⟩ = some (.slice ov l3.length cv) := HYc.out.cell 1
          have z0 : wc.frozen? ⟨Y, 0, none⟩ = false := HYc.out.frozen _
          have z1 : wc.frozen? ⟨Y, 1, none⟩ = false := HYc.out.frozen _
          have hne := Lib.hid (own_far HOc.out hYl.out)
          have HO8 := Lib.hid ((HOc.out.far2 (i := 0) hne.out (.int .i64 tk4)).far2 (i := 1) hne.out (.slice o2 l4.length c2))
          have HX8 := Lib.hid ((HYc.out.set 0 (.int .i64 tk4)).set 1 (.slice o2 l4.length c2))
          have HB8 := Lib.hid ((HBw.out.setCell (p := ⟨Y, 0, none⟩) hwY.out (.int .i64 tk4)).setCell (p := ⟨Y, 1, none⟩) hwY.out (.slice o2 l4.length c2))
          have HC8 := Lib.hid ((HCx.out.far (p := ⟨Y, 0, none⟩) (Nat.ne_of_lt hCY.out) (.int .i64 tk4)).far (p := ⟨Y, 1, none⟩) (Nat.ne_of_lt hCY.out) (.slice o2 l4.length c2))
          have HH8 := Lib.hid ((HHx.out.far (p := ⟨Y, 0, none⟩) (Nat.ne_of_lt hHY.out) (.int .i64 tk4)).far (p := ⟨Y, 1, none⟩) (Nat.ne_of_lt hHY.out) (.slice o2 l4.length c2))
          go_wp2_with fail
          go_roundw
          case rel => exact ⟨⟨k + 1, _, by omega, by go_num, HB8.out, by rw [hR.out, hst.out]; exact HX8.out, by rw [hR.out, hst.out]; exact own_base HO8.out hwr.out, HC8.out, HH8.out⟩⟩
          case measure => simp [intOf]; omega
end Go.Proofs.Ytlocilbcmcfmaaa
/- LeaseOnce: the plain law. -/
namespace Go.Proofs.Ytlocilbcmcfmaaa
open Go.RowKit
/-- the number of tokens given out ahead of command k, and the last one for a slot -/
def grN (cs : List Cm) (es : List Int) (s : Int) : Nat → Int × Int
  | 0 => (0, 0)
  | k + 1 => match cs[k]?, es[k]? with
    | some c, some e => if e = 0 ∧ c.kd ≠ 3 then ((grN cs es s k).1 + 1, if c.sl = s then (grN cs es s k).1 + 1 else (grN cs es s k).2) else grN cs es s k
    | _, _ => grN cs es s k
theorem grN_succ {cs : List Cm} {es : List Int} {s : Int} {k : Nat} {c : Cm} {e : Int} (h1 : cs[k]? = some c) (h2 : es[k]? = some e) : grN cs es s (k + 1) = if e = 0 ∧ c.kd ≠ 3 then ((grN cs es s k).1 + 1, if c.sl = s then (grN cs es s k).1 + 1 else (grN cs es s k).2) else grN cs es s k := by
  rw [grN]; rw [h1, h2]
theorem grN_bd (cs : List Cm) (es : List Int) (s : Int) : ∀ k : Nat, 0 ≤ (grN cs es s k).1 ∧ (grN cs es s k).1 ≤ k
  | 0 => by simp [grN]
  | k + 1 => by
    have ih := grN_bd cs es s k
    rw [grN]
    split
    · split
      · simp only; omega
      · omega
    · omega
theorem errsF_get : ∀ (cs : List Cm) (st : StL) (k : Nat) (c : Cm), cs[k]? = some c → (errsF st cs)[k]? = some (errS (runF st (cs.take k)) c)
  | [], _, _, _, h => by simp at h
  | d :: r, st, 0, c, h => by simp at h; subst h; rfl
  | d :: r, st, k + 1, c, h => by
    have := errsF_get r (stepS st d) k c (by simpa using h)
    rw [errsF, List.getElem?_cons_succ, this]; rfl
theorem step_good {st : StL} {c : Cm} (h : Good st.1 st.2) : Good (stepS st c).1 (stepS st c).2 := by
  cases hd : doR st.1 st.2 c with
  | inl k => rw [(stepS_inl hd).1]; exact h
  | inr p =>
    rw [(stepS_inr hd).1]
    obtain ⟨x, hx⟩ := doR_did (tk' := p.1) (l' := p.2) hd
    exact hx.good
theorem run_good : ∀ (cs : List Cm) (st : StL), Good st.1 st.2 → Good (runF st cs).1 (runF st cs).2
  | [], _, h => h
  | c :: r, st, h => run_good r (stepS st c) (step_good h)
theorem good_nil : Good 0 [] := ⟨by omega, by omega, (fun x h => by cases h), List.Pairwise.nil, List.Pairwise.nil⟩
theorem err_zero {st : StL} {c : Cm} (h : errS st c = 0) : ∃ p, doR st.1 st.2 c = .inr p ∧ stepS st c = p := by
  cases hd : doR st.1 st.2 c with
  | inl k => rw [(stepS_inl hd).2] at h; have := doR_inl hd; omega
  | inr p => exact ⟨p, rfl, (stepS_inr hd).1⟩
theorem err_nz {st : StL} {c : Cm} (h : errS st c ≠ 0) : stepS st c = st := by
  cases hd : doR st.1 st.2 c with
  | inl k => exact (stepS_inl hd).1
  | inr p => exact absurd (stepS_inr hd).2 h
/-- what was counted is the token, and the last one is the slot's -/
theorem gr_inv (cs : List Cm) (s : Int) : ∀ k, k ≤ cs.length → (grN cs (errsS cs) s k).1 = (runS (cs.take k)).1 ∧ (∀ z, getL (runS (cs.take k)).2 s = some z → (grN cs (errsS cs) s k).2 = z.tk)
  | 0, _ => ⟨rfl, fun z h => by cases h⟩
  | k + 1, hk => by
    obtain ⟨c, hc⟩ : ∃ c, cs[k]? = some c := ⟨_, List.getElem?_eq_getElem (by omega)⟩
    obtain ⟨i1, i2⟩ := gr_inv cs s k (by omega)
    have he := errsF_get cs (0, []) k c hc
    rw [grN_succ hc he, runS_take hc]
    show _ ∧ _
    by_cases h0 : errS (runF (0, []) (cs.take k)) c = 0
    · obtain ⟨p, hp, hs⟩ := err_zero h0
      obtain ⟨x, hx⟩ := doR_did (tk' := p.1) (l' := p.2) hp
      have hs' : stepS (runS (cs.take k)) c = p := hs
      rw [hs']
      by_cases k3 : c.kd = 3
      · rw [if_neg (fun h => h.2 k3)]
        obtain ⟨y, hy, h2, h3, h4⟩ := hx.held (by omega)
        refine ⟨by rw [i1]; exact (h4 k3).1.symm, fun z hz => ?_⟩
        rw [hx.oth] at hz
        by_cases hsl : s = c.sl
        · rw [if_pos hsl] at hz
          injection hz with hz
          have := i2 y (by rw [hsl]; exact hy)
          rw [this, ← hz, (h4 k3).2]
        · rw [if_neg hsl] at hz
          exact i2 z hz
      · rw [if_pos ⟨h0, k3⟩]
        obtain ⟨n1, n2⟩ := hx.new k3
        refine ⟨by simp only; rw [i1]; exact n1.symm, fun z hz => ?_⟩
        rw [hx.oth] at hz
        by_cases hsl : s = c.sl
        · rw [if_pos hsl] at hz
          injection hz with hz
          simp only
          rw [if_pos hsl.symm, i1, ← hz, n2]
        · rw [if_neg hsl] at hz
          simp only
          rw [if_neg (fun e => hsl e.symm)]
          exact i2 z hz
    · rw [if_neg (fun h => h0 h.1)]
      have : stepS (runS (cs.take k)) c = runS (cs.take k) := err_nz h0
      rw [this]
      exact ⟨i1, i2⟩
/-- a lease that was used stays as it is -/
theorem used_step {st : StL} {c : Cm} {s : Int} {z : Le} (hz : getL st.2 s = some z) (hu : z.us = true) : getL (stepS st c).2 s = some z ∧ (c.sl = s → errS st c ≠ 0) := by
  cases hd : doR st.1 st.2 c with
  | inl k => rw [(stepS_inl hd).1, (stepS_inl hd).2]; exact ⟨hz, fun _ => by have := doR_inl hd; omega⟩
  | inr p =>
    obtain ⟨x, hx⟩ := doR_did (tk' := p.1) (l' := p.2) hd
    have hsl : c.sl ≠ s := by
      intro e
      by_cases k1 : c.kd = 1
      · have := hx.first k1; rw [e, hz] at this; cases this
      · obtain ⟨y, hy, _, h3, _⟩ := hx.held k1
        rw [e, hz] at hy; injection hy with hy; rw [hy, h3] at hu; cases hu
    rw [(stepS_inr hd).1, hx.oth, if_neg (fun e => hsl e.symm)]
    exact ⟨hz, fun e => absurd e hsl⟩
theorem used_run {s : Int} {z : Le} (hu : z.us = true) : ∀ (cs : List Cm) (st : StL), getL st.2 s = some z → getL (runF st cs).2 s = some z
  | [], _, h => h
  | c :: r, st, h => used_run hu r (stepS st c) (used_step h hu).1
theorem take_split {cs : List Cm} {i j : Nat} (h : i ≤ j) : cs.take j = cs.take i ++ (cs.drop i).take (j - i) := by
  conv => lhs; rw [show j = i + (j - i) by omega]
  rw [List.take_add]
theorem run_split (cs : List Cm) {i j : Nat} (h : i ≤ j) : runS (cs.take j) = runF (runS (cs.take i)) ((cs.drop i).take (j - i)) := by
  rw [take_split h]; exact List.foldl_append
/-- what holds of a use that is performed -/
structure Used (cs : List Cm) (i : Nat) (c : Cm) : Prop where
  g : grN cs (errsS cs) c.sl i = ((grN cs (errsS cs) c.sl i).1, c.tk)
  one : 1 ≤ c.tk
  fin : ∀ j, i < j → ∃ z, getL (runS (cs.take j)).2 c.sl = some z ∧ z.us = true ∧ z.fl = c.fl ∧ z.tk = c.tk
theorem used_is {cs : List Cm} {i : Nat} {c : Cm} (hc : cs[i]? = some c) (h3 : c.kd = 3) (he : errS (runS (cs.take i)) c = 0) : Used cs i c := by
  have hi := (List.getElem?_eq_some_iff.1 hc).1
  obtain ⟨p, hp, hs⟩ := err_zero he
  obtain ⟨x, hx⟩ := doR_did (tk' := p.1) (l' := p.2) hp
  obtain ⟨y, hy, h2, _, h4⟩ := hx.held (by omega)
  have hg := doR_good hp
  have hyt := leB_tk (hg.le y (getL_mem hy).1)
  refine ⟨?_, by omega, fun j hj => ?_⟩
  · have := (gr_inv cs c.sl i (by omega)).2 y hy
    rw [← h2, ← this]
  · have h1 : getL (runS (cs.take (i + 1))).2 c.sl = some x := by
      rw [runS_take hc, hs, hx.oth, if_pos rfl]
    have hxu : x.us = true := by rw [(h4 h3).2]
    refine ⟨x, ?_, hxu, hx.fl, by rw [(h4 h3).2]; exact h2⟩
    rw [run_split cs (show i + 1 ≤ j by omega)]
    exact used_run hxu _ _ h1
theorem used_no {cs : List Cm} {i j : Nat} {c d : Cm} (hc : cs[i]? = some c) (h3 : c.kd = 3) (he : errS (runS (cs.take i)) c = 0) (hij : i < j) (hd : cs[j]? = some d) (hs : d.sl = c.sl) : errS (runS (cs.take j)) d ≠ 0 := by
  obtain ⟨z, hz, hu, _⟩ := (used_is hc h3 he).fin j hij
  exact (used_step (c := d) hz hu).2 hs
end Go.Proofs.Ytlocilbcmcfmaaa
/- LeaseOnce: greatest. -/
namespace Go.Proofs.Ytlocilbcmcfmaaa
open Go.RowKit
structure GrRel (cs : List Cm) (es : List Int) (s : Int) (n : Nat) (t l i : Value) : Prop where
  h : ∃ k : Nat, k ≤ n ∧ i = .int .i64 k ∧ t = .int .i64 (grN cs es s k).1 ∧ l = .int .i64 (grN cs es s k).2
set_option maxRecDepth 100000 in
set_option maxHeartbeats 4000000 in
theorem greatest_any (cs : List Cm) (es : List Int) (vc ve : Value) (n : Nat) (s : Int) (w : World) (hc : LsAt cmK w.heap.size w cs vc) (he : LsAt erK w.heap.size w es ve) (hn : n ≤ cs.length) (hne : n ≤ es.length) (h100 : n ≤ 1000) :
    Calls Try.prog 10 #[vc, ve, .int .i64 n, .int .i64 s] w fun e w' => e = .returned (.int .i64 (grN cs es s n).2) ∧ w = w' := by
  obtain ⟨oc, cc, rfl, hlm1⟩ := hc.shape
  obtain ⟨oe, ce, rfl, hlm2⟩ := he.shape
  have HC := Lib.hid hc; have HE := Lib.hid he
  have b1 : (cs.length : Int) ≤ 9223372036854775807 := by omega
  have b2 : (es.length : Int) ≤ 9223372036854775807 := by omega
  have b3 : (n : Int) ≤ 1000 := by omega
  have Hn := Lib.hid hn; have Hne := Lib.hid hne
  clear hc he hlm1 hlm2
  go_enter Try.func10, Try.ntmps10
  go_wp2_with fail
  go_loop [9, 10, 11] (fun t l i => GrRel cs es s n t l i) (fun _ _ i => n - (intOf i).toNat)
  case atStart => exact ⟨⟨0, by omega, rfl, rfl, rfl⟩⟩
  case round =>
    obtain ⟨k, hk, rfl, rfl, rfl⟩ := hrel.h
    clear hrel
    by_cases hlt : k < n
    · have hkc : k < cs.length := by have := Hn.out; omega
      have hke : k < es.length := by have := Hne.out; omega
      have t1 : decide ((k : Int) < (n : Int)) = true := by simp; omega
      have t2 : decide ((k : Int) < (cs.length : Int)) = true := by simp; omega
      have t3 : decide ((k : Int) < (es.length : Int)) = true := by simp; omega
      have t1' : decide (k < n) = true := by simp; omega
      have t2' : decide (k < cs.length) = true := by simp; omega
      have t3' : decide (k < es.length) = true := by simp; omega
      have k2 : (k : Int) < (cs.length : Int) := by omega
      have k3 : (k : Int) < (es.length : Int) := by omega
      obtain ⟨c, hc⟩ : ∃ c, cs[k]? = some c := ⟨_, List.getElem?_eq_getElem hkc⟩
      obtain ⟨e, he⟩ : ∃ e, es[k]? = some e := ⟨_, List.getElem?_eq_getElem hke⟩
      obtain ⟨b, off, rfl, _, hat⟩ := HC.out.at hkc
      obtain ⟨g, o2, rfl, _, hat2⟩ := HE.out.at hke
      obtain ⟨c0, c1, c2, c3, c4⟩ := fiveC_of (hat k c hc)
      have e0 := er_at (hat2 k e he)
      change w.cell? ⟨b, off + k * 5, none⟩ = _ at c0
      change w.cell? ⟨b, off + k * 5 + 1, none⟩ = _ at c1
      change w.cell? ⟨g, o2 + k * 1, none⟩ = _ at e0
      rw [Nat.mul_one] at e0
      have hst := Lib.hid (grN_succ (s := s) hc he)
      have hbd := grN_bd cs es s k
      clear hat hat2 hc he c2 c3 c4
      generalize grN cs es s k = p at *
      obtain ⟨t, l⟩ := p
      have bt0 : 0 ≤ t := hbd.1
      have bt1 : t ≤ 1000 := by have := hbd.2; simp only at this; omega
      clear hbd
      obtain ⟨q0, hq0⟩ : ∃ q, (e == 0) = q := ⟨_, rfl⟩
      obtain ⟨q1, hq1⟩ : ∃ q, (c.kd != 3) = q := ⟨_, rfl⟩
      obtain ⟨q2, hq2⟩ : ∃ q, (c.sl == s) = q := ⟨_, rfl⟩
      have Q0 := Lib.hid hq0; have Q1 := Lib.hid hq1; have Q2 := Lib.hid hq2
      cases q0
      case false =>
        have hst2 : Hid (grN cs es s (k + 1) = (t, l)) := by
          show _ = _
          rw [hst.out, if_neg (fun h => by have := Q0.out; rw [h.1] at this; simp at this)]
        clear hst
        go_wp2
        go_round
        case rel => exact ⟨⟨k + 1, by omega, by go_num, by rw [hst2.out], by rw [hst2.out]⟩⟩
        case measure => simp [intOf]; omega
      case true =>
      cases q1
      case false =>
        have hst2 : Hid (grN cs es s (k + 1) = (t, l)) := by
          show _ = _
          rw [hst.out, if_neg (fun h => by have := Q1.out; simp at this; exact h.2 this)]
        clear hst
        go_wp2
        go_round
        case rel => exact ⟨⟨k + 1, by omega, by go_num, by rw [hst2.out], by rw [hst2.out]⟩⟩
        case measure => simp [intOf]; omega
      case true =>
      have hst1 : Hid (grN cs es s (k + 1) = (t + 1, if c.sl = s then t + 1 else l)) := by
        show _ = _
        rw [hst.out, if_pos ⟨by simpa using Q0.out, by simpa using Q1.out⟩]
      clear hst
      cases q2
      case false =>
        have hst2 : Hid (grN cs es s (k + 1) = (t + 1, l)) := by
          show _ = _
          rw [hst1.out, if_neg (by simpa using Q2.out)]
        clear hst1
        go_wp2
        go_round
        case rel => exact ⟨⟨k + 1, by omega, by go_num, by rw [hst2.out], by rw [hst2.out]⟩⟩
        case measure => simp [intOf]; omega
      case true =>
        have hst2 : Hid (grN cs es s (k + 1) = (t + 1, t + 1)) := by
          show _ = _
          rw [hst1.out, if_pos (by simpa using Q2.out)]
        clear hst1
        go_wp2
        go_round
        case rel => exact ⟨⟨k + 1, by omega, by go_num, by rw [hst2.out], by rw [hst2.out]⟩⟩
        case measure => simp [intOf]; omega
    · obtain rfl : k = n := by omega
      have t1 : decide ((k : Int) < (k : Int)) = false := by simp
      obtain ⟨p, hp⟩ : ∃ p, grN cs es s k = p := ⟨_, rfl⟩
      rw [hp]
      have HP := Lib.hid hp
      clear hp
      go_wp2
      go_ret
      exact ⟨by rw [HP.out]; rfl, rfl⟩
end Go.Proofs.Ytlocilbcmcfmaaa
