/- LeaseOthers: the walk. -/
import Derived.Test.YtlocilbcmcfmaaaK11
import Derived.Test.YtlocilbcmcfmaaaK12
namespace Go.Proofs.Ytlocilbcmcfmaaa
open Go.RowKit
set_option maxRecDepth 100000 in
set_option maxHeartbeats 4000000 in
theorem others35_walk (tk : Int) (u : Value) (l : List Le) (c : Cm) (s : Int) (w : World) (hl : LesAt w.heap.size w l u) (hc : CmW c) :
    Calls Try.prog 6 #[.agg #[.int .i64 tk, u], c.v, .int .i64 s] w fun e w' => e = .returned (.bool true) ∧ Below w.heap.size w w' := by
  have HL := Lib.hid hl; have HC := Lib.hid hc
  obtain ⟨oa, cap, rfl, hlm⟩ := hl.shape
  have bl : (l.length : Int) ≤ 9223372036854775807 := by omega
  clear hl hc hlm
  have h0 : Hid (CB ((w.alloc (.cells #[.int .i64 tk, .slice oa l.length cap] 26)).alloc (.cells #[.int .i64 c.kd, .int .i64 c.sl, .int .i64 c.ai, .int .i64 c.fl, .int .i64 c.tk] 33)) w.heap.size 26 [.int .i64 tk, .slice oa l.length cap]) := (CB.new w _ _).alloc _
  have h1 : Hid (CB ((w.alloc (.cells #[.int .i64 tk, .slice oa l.length cap] 26)).alloc (.cells #[.int .i64 c.kd, .int .i64 c.sl, .int .i64 c.ai, .int .i64 c.fl, .int .i64 c.tk] 33)) (w.heap.size + 1) 33 c.cells) := cb_two w _ _ _
  have hB : Hid (Below w.heap.size w ((w.alloc (.cells #[.int .i64 tk, .slice oa l.length cap] 26)).alloc (.cells #[.int .i64 c.kd, .int .i64 c.sl, .int .i64 c.ai, .int .i64 c.fl, .int .i64 c.tk] 33))) := by
    refine Below.alloc ((Below.refl w.heap.size w).alloc (Nat.le_refl _) _) ?_ _; simp only [World.size_alloc]; omega
  change Calls Try.prog 6 #[.agg #[.int .i64 tk, .slice oa l.length cap], .agg #[.int .i64 c.kd, .int .i64 c.sl, .int .i64 c.ai, .int .i64 c.fl, .int .i64 c.tk], .int .i64 s] w _
  go_enter Try.func6, Try.ntmps6
  go_upto_region 1 with fail
  generalize (w.alloc (.cells #[.int .i64 tk, .slice oa l.length cap] 26)).alloc (.cells #[.int .i64 c.kd, .int .i64 c.sl, .int .i64 c.ai, .int .i64 c.fl, .int .i64 c.tk] 33) = w1 at *
  go_wp2_with fail
  refine (sane35_any _).mono ?_
  rintro e w2 ⟨rfl, hb2⟩
  have H0 := Lib.hid (h0.out.ext hb2); have H1 := Lib.hid (h1.out.ext hb2); have HB2 := Lib.hid (below_ext hB.out hb2)
  have HL2 := Lib.hid (HL.out.ext HB2.out)
  clear hb2 h0 h1 hB
  have a0 : w2.cell? ⟨w.heap.size, 0, none⟩ = some (.int .i64 tk) := H0.out.cell 0
  have a1 : w2.cell? ⟨w.heap.size, 1, none⟩ = some (.slice oa l.length cap) := H0.out.cell 1
  go_wp2_with fail
  refine (few35_any tk l _ w2 HL2.out).mono ?_
  rintro e w3 ⟨rfl, hb3⟩
  have HA3 := Lib.hid (H0.out.ext hb3); have HC3 := Lib.hid (H1.out.ext hb3); have HB3 := Lib.hid (below_ext HB2.out hb3)
  have HL3 := Lib.hid (HL.out.ext HB3.out)
  clear hb3 a0 a1 H0 H1 HB2 HL2
  by_cases h40 : l.length ≤ 40
  case neg =>
    rw [decide_eq_false h40]
    clear h40
    go_wp2
    go_ret
    exact ⟨rfl, HB3.out⟩
  case pos =>
  rw [decide_eq_true h40]
  have H40 := Lib.hid h40
  clear h40
  have a0 : w3.cell? ⟨w.heap.size, 0, none⟩ = some (.int .i64 tk) := HA3.out.cell 0
  have a1 : w3.cell? ⟨w.heap.size, 1, none⟩ = some (.slice oa l.length cap) := HA3.out.cell 1
  have c0 : w3.cell? ⟨w.heap.size + 1, 0, none⟩ = some (.int .i64 c.kd) := HC3.out.cell 0
  have c1 : w3.cell? ⟨w.heap.size + 1, 1, none⟩ = some (.int .i64 c.sl) := HC3.out.cell 1
  have c2 : w3.cell? ⟨w.heap.size + 1, 2, none⟩ = some (.int .i64 c.ai) := HC3.out.cell 2
  have c3 : w3.cell? ⟨w.heap.size + 1, 3, none⟩ = some (.int .i64 c.fl) := HC3.out.cell 3
  have c4 : w3.cell? ⟨w.heap.size + 1, 4, none⟩ = some (.int .i64 c.tk) := HC3.out.cell 4
  cases hd : doR tk l c with
  | inl k =>
    have hk : (k != 0) = true := by rw [bne_iff_ne]; have := doR_inl hd; omega
    have hcall := Lib.hid (do_inl HL3.out (by have := H40.out; omega) HC.out hd)
    clear hd
    go_wp2_with fail
    refine hcall.out.mono ?_
    rintro e w4 ⟨rfl, hb4⟩
    have HB4 := Lib.hid (below_ext HB3.out hb4)
    clear hb4 a0 a1 c0 c1 c2 c3 c4 hcall
    go_wp2
    go_ret
    exact ⟨rfl, HB4.out.alloc HB4.out.size _⟩
  | inr p =>
    obtain ⟨tk2, l2⟩ := p
    obtain ⟨x, hx⟩ := doR_did hd
    have Hdid := Lib.hid hx
    have hcall := Lib.hid (do_inr l2.length HL3.out (by have := H40.out; omega) HC.out hd rfl)
    clear hd hx
    go_wp2_with fail
    refine hcall.out.mono ?_
    rintro e w4 ⟨o2, cp2, rfl, hl4, hb4⟩
    have HB4 := Lib.hid (below_ext HB3.out hb4); have HL4 := Lib.hid hl4; have HA4 := Lib.hid (HA3.out.ext hb4); have HC4 := Lib.hid (HC3.out.ext hb4)
    clear hb4 a0 a1 c0 c1 c2 c3 c4 hcall hl4 HA3 HC3
    have HB5 := Lib.hid (below_ext HB4.out (b_al (.cells #[.int .i64 tk2, .slice o2 l2.length cp2] 26)))
    have HL5 := Lib.hid (HL4.out.ext (b_al (.cells #[.int .i64 tk2, .slice o2 l2.length cp2] 26)))
    have HA5 := Lib.hid (HA4.out.ext (b_al (.cells #[.int .i64 tk2, .slice o2 l2.length cp2] 26)))
    have HC5 := Lib.hid (HC4.out.ext (b_al (.cells #[.int .i64 tk2, .slice o2 l2.length cp2] 26)))
    have HY5 : Hid (CB (w4.alloc (.cells #[.int .i64 tk2, .slice o2 l2.length cp2] 26)) w4.heap.size 26 [.int .i64 tk2, .slice o2 l2.length cp2]) := CB.new w4 _ _
    go_upto_region 6 with fail
    clear HB4 HL4 HA4 HC4
    generalize w4.alloc (.cells #[.int .i64 tk2, .slice o2 l2.length cp2] 26) = w5 at *
    generalize w4.heap.size = Y at *
    have c1 : w5.cell? ⟨w.heap.size + 1, 1, none⟩ = some (.int .i64 c.sl) := HC5.out.cell 1
    by_cases hs : s = c.sl
    · have ts : (s == c.sl) = true := by rw [beq_iff_eq]; exact hs
      clear hs
      go_wp2
      go_ret
      exact ⟨rfl, HB5.out⟩
    · have ts : (s == c.sl) = false := by rw [beq_eq_false_iff_ne]; exact hs
      have hoth := Hdid.out.oth s
      rw [if_neg hs] at hoth
      have Hoth := Lib.hid hoth
      have b1 : (l.length : Int) ≤ (l2.length : Int) := by have := Hdid.out.lo; omega
      have b2 : (l2.length : Int) ≤ (l.length : Int) + 1 := by have := Hdid.out.hi; omega
      have b3 : (l.length : Int) ≤ 40 := by have := H40.out; omega
      clear hs hoth
      have a0 : w5.cell? ⟨w.heap.size, 0, none⟩ = some (.int .i64 tk) := HA5.out.cell 0
      have a1 : w5.cell? ⟨w.heap.size, 1, none⟩ = some (.slice oa l.length cap) := HA5.out.cell 1
      obtain ⟨y, hy⟩ : ∃ y, (getL l s).getD leZ = y := ⟨_, rfl⟩
      obtain ⟨b, hb⟩ : ∃ b, (getL l s).isSome = b := ⟨_, rfl⟩
      have hcall1 := Lib.hid (holds_is (tk := tk) (HL.out.ext HB5.out) hy hb)
      have HY := Lib.hid hy; have HBb := Lib.hid hb
      clear hy hb
      go_wp2_with fail
      refine hcall1.out.mono ?_
      rintro e w6 ⟨rfl, hb6⟩
      have HB6 := Lib.hid (below_ext (below_ext HB5.out hb6) (b_al (.cells #[.int .i64 y.sl, .int .i64 y.ai, .int .i64 y.fl, .int .i64 y.tk, .bool y.us] 36)))
      have HL6 := Lib.hid ((HL5.out.ext hb6).ext (b_al (.cells #[.int .i64 y.sl, .int .i64 y.ai, .int .i64 y.fl, .int .i64 y.tk, .bool y.us] 36)))
      have HA6 := Lib.hid ((HA5.out.ext hb6).ext (b_al (.cells #[.int .i64 y.sl, .int .i64 y.ai, .int .i64 y.fl, .int .i64 y.tk, .bool y.us] 36)))
      have HY6 := Lib.hid ((HY5.out.ext hb6).ext (b_al (.cells #[.int .i64 y.sl, .int .i64 y.ai, .int .i64 y.fl, .int .i64 y.tk, .bool y.us] 36)))
      have HE6 : Hid (CB (w6.alloc (.cells #[.int .i64 y.sl, .int .i64 y.ai, .int .i64 y.fl, .int .i64 y.tk, .bool y.us] 36)) w6.heap.size 36 y.cells) := CB.new w6 _ _
      go_upto_region 9 with fail
      clear hb6 a0 a1 c1 HB5 HL5 HA5 HY5 HC5 hcall1
      generalize w6.alloc (.cells #[.int .i64 y.sl, .int .i64 y.ai, .int .i64 y.fl, .int .i64 y.tk, .bool y.us] 36) = w7 at *
      generalize w6.heap.size = E1 at *
      have y0 : w7.cell? ⟨Y, 0, none⟩ = some (.int .i64 tk2) := HY6.out.cell 0
      have y1 : w7.cell? ⟨Y, 1, none⟩ = some (.slice o2 l2.length cp2) := HY6.out.cell 1
      have hcall2 := Lib.hid (holds_is (tk := tk2) (s := s) (x := y) (b := b) HL6.out (by rw [Hoth.out]; exact HY.out) (by rw [Hoth.out]; exact HBb.out))
      go_wp2_with fail
      refine hcall2.out.mono ?_
      rintro e w8 ⟨rfl, hb8⟩
      have HB8 := Lib.hid (below_ext (below_ext HB6.out hb8) (b_al (.cells #[.int .i64 y.sl, .int .i64 y.ai, .int .i64 y.fl, .int .i64 y.tk, .bool y.us] 36)))
      have HA8 := Lib.hid ((HA6.out.ext hb8).ext (b_al (.cells #[.int .i64 y.sl, .int .i64 y.ai, .int .i64 y.fl, .int .i64 y.tk, .bool y.us] 36)))
      have HY8 := Lib.hid ((HY6.out.ext hb8).ext (b_al (.cells #[.int .i64 y.sl, .int .i64 y.ai, .int .i64 y.fl, .int .i64 y.tk, .bool y.us] 36)))
      have HE8 := Lib.hid ((HE6.out.ext hb8).ext (b_al (.cells #[.int .i64 y.sl, .int .i64 y.ai, .int .i64 y.fl, .int .i64 y.tk, .bool y.us] 36)))
      have HF8 : Hid (CB (w8.alloc (.cells #[.int .i64 y.sl, .int .i64 y.ai, .int .i64 y.fl, .int .i64 y.tk, .bool y.us] 36)) w8.heap.size 36 y.cells) := CB.new w8 _ _
      go_upto_region 10 with fail
      clear hb8 y0 y1 HB6 HL6 HA6 HY6 HE6 hcall2
      generalize w8.alloc (.cells #[.int .i64 y.sl, .int .i64 y.ai, .int .i64 y.fl, .int .i64 y.tk, .bool y.us] 36) = w9 at *
      generalize w8.heap.size = E2 at *
      obtain ⟨p0, p1, p2, p3, p4⟩ := five_of (ElAt.of_cb (K := leK) (a := y) HE8.out)
      obtain ⟨q0, q1, q2, q3, q4⟩ := five_of (ElAt.of_cb (K := leK) (a := y) HF8.out)
      have a1 : w9.cell? ⟨w.heap.size, 1, none⟩ = some (.slice oa l.length cap) := HA8.out.cell 1
      have y1 : w9.cell? ⟨Y, 1, none⟩ = some (.slice o2 l2.length cp2) := HY8.out.cell 1
      have heq : ∀ w : World, (Op.equalIn 10000 36 (.agg #[.int .i64 y.sl, .int .i64 y.ai, .int .i64 y.fl, .int .i64 y.tk, .bool y.us]) (.agg #[.int .i64 y.sl, .int .i64 y.ai, .int .i64 y.fl, .int .i64 y.tk, .bool y.us])).run Try.prog w = .ok true w := fun w => by have := eq_le y y w; rw [decide_eq_true rfl] at this; exact this
      cases b
      all_goals
        go_wp2
        go_ret
        exact ⟨rfl, HB8.out⟩
end Go.Proofs.Ytlocilbcmcfmaaa
