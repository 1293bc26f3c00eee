/- SignVerifySpec: the walk. -/
import Derived.Test.YtmhmenmkgbebcaaDoorSlv
namespace Go.Proofs.YtmhmenmkgbebcaaDoor
open Go.RowKit Go.Shelf
set_option maxRecDepth 100000 in
set_option maxHeartbeats 4000000 in
theorem signVerifySpec_walk (P : Int) (v : Value) (l : List UInt8) (R S : Int) (w : World) (hb : BtsAt w.heap.size w l v) (hL : Laid w) :
    Calls Tryd.prog 5 #[.int .i64 P, v, .agg #[.int .i64 R, .int .i64 S]] w (TruePost w) := by
  have HL := Lib.hid hL; clear hL
  have HB := Lib.hid hb
  obtain ⟨oa, cap, rfl⟩ := hb.shape
  clear hb
  obtain ⟨e1, e2, e3, t, h1, h2, h3, h4⟩ := verE_ex P R S l
  have H1 := Lib.hid h1; have H2 := Lib.hid h2; have H3 := Lib.hid h3; have H4 := Lib.hid h4
  clear h1 h2 h3 h4
  have hcb0 : Hid (CB (w.alloc (.cells #[.int .i64 R, .int .i64 S] 30)) w.heap.size 30 [.int .i64 R, .int .i64 S]) := CB.new w _ _
  have hb0 := Lib.hid ((Below.refl w.heap.size w).alloc (Nat.le_refl _) (.cells #[.int .i64 R, .int .i64 S] 30))
  by_cases g0 : 1000 < l.length
  · have t0 : decide ((1000 : Int) < (l.length : Int)) = true := by simp; omega
    clear g0
    go_enter Tryd.func5, Tryd.ntmps5
    go_upto_region 1 with fail
    generalize w.alloc (.cells #[.int .i64 R, .int .i64 S] 30) = w0 at *
    go_wp2_with fail
    refine (sane4_any _ (HL.out.ext hb0.out)).mono ?_
    rintro e w1 ⟨rfl, hb⟩
    have hA1 := Lib.hid (CB.ext hcb0.out hb)
    have hb1 := below_ext hb0.out hb
    clear hb hcb0 hb0
    go_wp2_with fail
    go_quiet (fail)
    go_wp2
    go_ret
    exact ⟨rfl, below_drewN hb1 _⟩
  · have t0 : decide ((1000 : Int) < (l.length : Int)) = false := by simp; omega
    have gl0 : Hid (l.length ≤ 50000) := by show _ ≤ _; omega
    clear g0
    go_enter Tryd.func5, Tryd.ntmps5
    go_upto_region 1 with fail
    generalize w.alloc (.cells #[.int .i64 R, .int .i64 S] 30) = w0 at *
    go_wp2_with fail
    refine (sane4_any _ (HL.out.ext hb0.out)).mono ?_
    rintro e w1 ⟨rfl, hb⟩
    have hA1 := Lib.hid (CB.ext hcb0.out hb)
    have hb1 := below_ext hb0.out hb
    clear hb hcb0 hb0
    have hb1' := Lib.hid hb1
    have c0 : w1.cell? ⟨w.heap.size, 0, none⟩ = some (.int .i64 R) := hA1.out.cell 0
    have c1 : w1.cell? ⟨w.heap.size, 1, none⟩ = some (.int .i64 S) := hA1.out.cell 1
    have hbS := (Below.refl w1.heap.size w1).drew
    clear hb1
    go_wp2_with fail
    go_region_held3 (fun w' => w'.cell? ⟨w.heap.size, 0, none⟩ = some (.int .i64 R) ∧ w'.cell? ⟨w.heap.size, 1, none⟩ = some (.int .i64 S))
      (first
       | exact ⟨cell_ext hbS c0, cell_ext hbS c1⟩
       | go_keep)
      (first
       | (go_at_call 19; refine (verify_any P R S e1 e2 e3 _ l t _ gl0.out (HB.out.ext (below_ext hb1'.out hbS)) (HL.out.ext (below_ext hb1'.out hbS)) H1 H2 H3 H4).mono ?_; rintro e w7 ⟨rfl, hb7⟩; have hbS : Below w1.heap.size w1 w7 := by (first | exact below_ext hbS hb7 | exact below_undrew hb7))
       | (go_at_call 20; refine (rverify_val P R S e1 e2 e3 _ l t _ gl0.out (HB.out.ext (below_ext hb1'.out hbS)) H1 H2 H3 H4).mono ?_; rintro e w7 ⟨rfl, hb7⟩; have hbS : Below w1.heap.size w1 w7 := by (first | exact below_ext hbS hb7 | exact below_undrew hb7)))
    all_goals
      go_wp2
      go_ret
      exact ⟨by simp, below_ext hb1'.out hbS⟩
end Go.Proofs.YtmhmenmkgbebcaaDoor
