/- SignEquation: the walk. -/
import Derived.Test.YtmhmenmkgbebcaaDoorSeq
namespace Go.Proofs.YtmhmenmkgbebcaaDoor
open Go.RowKit Go.Shelf
set_option maxRecDepth 100000 in
set_option maxHeartbeats 4000000 in
theorem signEquation_walk (P : Int) (v : Value) (l : List UInt8) (R S : Int) (w : World) (hb : BtsAt w.heap.size w l v) (hL : Laid w) :
    Calls Tryd.prog 7 #[.int .i64 P, v, .agg #[.int .i64 R, .int .i64 S]] w (TruePost w) := by
  have HL := Lib.hid hL; clear hL
  have HB := Lib.hid hb
  obtain ⟨oa, cap, rfl⟩ := hb.shape
  clear hb
  by_cases g0 : 1000 < l.length
  · have t0 : decide ((1000 : Int) < (l.length : Int)) = true := by simp; omega
    clear g0
    go_enter Tryd.func7, Tryd.ntmps7
    go_wp2_with fail
    refine (sane4_any _ (HL.out.ext ((Below.refl w.heap.size w).alloc (Nat.le_refl _) _))).mono ?_
    rintro e w1 ⟨rfl, hb1⟩
    go_wp2_with fail
    go_ret
    exact ⟨rfl, below_after hb1⟩
  have t0 : decide ((1000 : Int) < (l.length : Int)) = false := by simp; omega
  have gl0 : Hid (l.length ≤ 50000) := by show _ ≤ _; omega
  obtain ⟨c, hc⟩ : ∃ c, chalK R P l = c := ⟨_, rfl⟩
  have Hc := Lib.hid hc
  have Hcl : Hid (c < cQ) := by show _ < _; rw [← hc]; exact (scalF_lt _ _).2
  obtain ⟨e1, e2, e3, t, h1, h2, h3, h4⟩ := verE_ex P R S l
  obtain ⟨a, f, hB⟩ := basE_ex S
  obtain ⟨b, g, hX⟩ := expE_ex P c
  obtain ⟨d, i, hM⟩ := mulE_ex R b
  have hfin := eq_fin hc h1 h2 h3 h4 hB hX hM
  have H1 := Lib.hid h1; have H2 := Lib.hid h2; have H3 := Lib.hid h3; have H4 := Lib.hid h4; have HBe := Lib.hid hB; have HX := Lib.hid hX; have HM := Lib.hid hM
  obtain ⟨tf, htf⟩ : ∃ t, (f == 0) = t := ⟨_, rfl⟩
  obtain ⟨tg, htg⟩ : ∃ t, (g == 0) = t := ⟨_, rfl⟩
  obtain ⟨ti, hti⟩ : ∃ t, (i == 0) = t := ⟨_, rfl⟩
  obtain ⟨td, htd⟩ : ∃ t, (a == d) = t := ⟨_, rfl⟩
  rw [htf, htg, hti, htd] at hfin
  subst hfin
  clear hc h1 h2 h3 h4 hB hX hM g0
  have hcb0 : Hid (CB (w.alloc (.cells #[.int .i64 R, .int .i64 S] 30)) w.heap.size 30 [.int .i64 R, .int .i64 S]) := CB.new w _ _
  have hb0 := Lib.hid ((Below.refl w.heap.size w).alloc (Nat.le_refl _) (.cells #[.int .i64 R, .int .i64 S] 30))
  go_enter Tryd.func7, Tryd.ntmps7
  go_upto_region 1 with fail
  generalize w.alloc (.cells #[.int .i64 R, .int .i64 S] 30) = w0 at *
  go_wp2_with fail
  refine (sane4_any _ (HL.out.ext hb0.out)).mono ?_
  rintro e w1 ⟨rfl, hb⟩
  have hA1 := Lib.hid (CB.ext hcb0.out hb)
  have hb1 := below_ext hb0.out hb
  clear hb hcb0 hb0
  have a1 : w1.cell? ⟨w.heap.size, 1, none⟩ = some (.int .i64 S) := hA1.out.cell 1
  go_wp2_with fail
  refine (base_val S a f HBe _).mono ?_
  rintro e w2 ⟨rfl, hb⟩
  have hA2 := Lib.hid (CB.ext hA1.out hb)
  replace hb1 := below_ext hb1 hb; clear hb
  clear hA1 a1
  have a0 : w2.cell? ⟨w.heap.size, 0, none⟩ = some (.int .i64 R) := hA2.out.cell 0
  go_wp2_with fail
  refine (lchal_any P R _ l c _ gl0.out (HB.out.ext hb1) (HL.out.ext hb1) Hc).mono ?_
  rintro e w3 ⟨rfl, hb⟩
  have hA3 := Lib.hid (CB.ext hA2.out hb)
  replace hb1 := below_ext hb1 hb; clear hb
  clear hA2 a0
  go_wp2_with fail
  refine (exp_val P c b g Hcl HX _).mono ?_
  rintro e w4 ⟨rfl, hb⟩
  have hA4 := Lib.hid (CB.ext hA3.out hb)
  replace hb1 := below_ext hb1 hb; clear hb
  clear hA3
  have a0 : w4.cell? ⟨w.heap.size, 0, none⟩ = some (.int .i64 R) := hA4.out.cell 0
  go_wp2_with fail
  refine (mul_val R b d i HM _).mono ?_
  rintro e w5 ⟨rfl, hb⟩
  have hA5 := Lib.hid (CB.ext hA4.out hb)
  replace hb1 := below_ext hb1 hb; clear hb
  clear hA4 a0
  have a0 : w5.cell? ⟨w.heap.size, 0, none⟩ = some (.int .i64 R) := hA5.out.cell 0
  have a1 : w5.cell? ⟨w.heap.size, 1, none⟩ = some (.int .i64 S) := hA5.out.cell 1
  go_wp2_with fail
  refine (verify_any P R S e1 e2 e3 _ l _ _ gl0.out (HB.out.ext hb1) (HL.out.ext hb1) H1 H2 H3 H4).mono ?_
  rintro e w6 ⟨rfl, hb⟩
  replace hb1 := below_ext hb1 hb; clear hb
  clear a0 a1 hA5 H4
  cases tf <;> cases tg <;> cases ti
  all_goals
    go_wp2_with fail
    go_ret
    exact ⟨by simp, hb1⟩
end Go.Proofs.YtmhmenmkgbebcaaDoor
