/- CodecSameSpec: the walk. -/
import Derived.Test.YtebedfcdbhgfdaaFew
namespace Go.Proofs.Ytebedfcdbhgfdaa
open Go.RowKit

theorem sameS_ext {w w' : World} (hb : Below w.heap.size w w') {T U : Nat} {a b c d a2 b2 c2 d2 : Value} (hc : C4 w T a b c d) (hc2 : C4 w U a2 b2 c2 d2) :
    w'.cell? ⟨T, 0, none⟩ = some a ∧ w'.cell? ⟨T, 1, none⟩ = some b ∧ w'.cell? ⟨T, 2, none⟩ = some c ∧ w'.cell? ⟨T, 3, none⟩ = some d ∧ w'.cell? ⟨U, 0, none⟩ = some a2 ∧ w'.cell? ⟨U, 1, none⟩ = some b2 ∧ w'.cell? ⟨U, 2, none⟩ = some c2 ∧ w'.cell? ⟨U, 3, none⟩ = some d2 :=
  ⟨cell_ext hb hc.c0, cell_ext hb hc.c1, cell_ext hb hc.c2, cell_ext hb hc.c3, cell_ext hb hc2.c0, cell_ext hb hc2.c1, cell_ext hb hc2.c2, cell_ext hb hc2.c3⟩
set_option maxRecDepth 100000 in
set_option maxHeartbeats 2000000 in
theorem sameSpec_walk (x : V) (u : Value) (y : V) (v : Value) (w : World) (hr : RdV w.heap.size w x u) (hr2 : RdV w.heap.size w y v) : Calls Try.prog 5 #[u, v] w (BoolPost true w) := by
  have HR := Lib.hid hr
  have HR2 := Lib.hid hr2
  obtain ⟨oa, cap, rfl, _⟩ := hr.form
  obtain ⟨ob, cap2, rfl, _⟩ := hr2.form
  clear hr hr2
  have hall : [x, y].all fewB = (fewB x && fewB y) := by simp
  have Hall := Lib.hid hall; clear hall
  cases hfx : (fewB x && fewB y) with
  | false =>
    go_enter Try.func5, Try.ntmps5
    go_wp2_with fail
    refine (sane_any _).mono ?_
    rintro e w1 ⟨rfl, hb1⟩
    obtain ⟨hc1, hd1, hB1⟩ := C4.of_two hb1
    obtain ⟨c0, c1, c2, c3⟩ := hc1
    obtain ⟨d0, d1, d2, d3⟩ := hd1
    go_wp2_with fail
    refine (fewl_any [x, y] _ _ _ (sl_two (HR.out.ext hB1) (HR2.out.ext hB1))).mono ?_
    rw [Hall.out, hfx]
    rintro e w2 ⟨rfl, hb2⟩
    go_wp2_with fail
    go_ret
    exact ⟨rfl, below_ext hB1 (below_after hb2)⟩
  | true =>
    have hf := Bool.and_eq_true_iff.1 hfx
    have hsx := few_sz hf.1
    have hsy := few_sz hf.2
    clear hf
    obtain ⟨s, hs⟩ : ∃ s, sm x y = s := ⟨_, rfl⟩
    have Hs := Lib.hid hs; clear hs
    go_enter Try.func5, Try.ntmps5
    go_wp2_with fail
    refine (sane_any _).mono ?_
    rintro e w1 ⟨rfl, hb1⟩
    obtain ⟨hc1, hd1, hB1⟩ := C4.of_two hb1
    have HC1 := Lib.hid hc1; have HD1 := Lib.hid hd1
    obtain ⟨c0, c1, c2, c3⟩ := hc1
    obtain ⟨d0, d1, d2, d3⟩ := hd1
    clear hb1
    go_wp2_with fail
    refine (fewl_any [x, y] _ _ _ (sl_two (HR.out.ext hB1) (HR2.out.ext hB1))).mono ?_
    rw [Hall.out, hfx]
    rintro e w2 ⟨rfl, hb2⟩
    have hB2 := below_ext hB1 (below_after hb2)
    have HC2 := Lib.hid (HC1.out.ext (below_after hb2))
    have HD2 := Lib.hid (HD1.out.ext (below_after hb2))
    have HX := Lib.hid (HR.out.ext hB2)
    have HY := Lib.hid (HR2.out.ext hB2)
    clear hB1 hb2 HC1 HD1 c0 c1 c2 c3 d0 d1 d2 d3
    have hS := sameS_ext ((Below.refl _ w2).drew) HC2.out HD2.out
    go_wp2_with fail
    cases s
    all_goals
      go_region_held3 (fun w' => w'.cell? ⟨w.heap.size, 0, none⟩ = some (.int .i64 x.kind) ∧ w'.cell? ⟨w.heap.size, 1, none⟩ = some (.int .i64 x.n) ∧ w'.cell? ⟨w.heap.size, 2, none⟩ = some (.string x.s) ∧ w'.cell? ⟨w.heap.size, 3, none⟩ = some (.slice oa x.l.length cap) ∧ w'.cell? ⟨w.heap.size + 1, 0, none⟩ = some (.int .i64 y.kind) ∧ w'.cell? ⟨w.heap.size + 1, 1, none⟩ = some (.int .i64 y.n) ∧ w'.cell? ⟨w.heap.size + 1, 2, none⟩ = some (.string y.s) ∧ w'.cell? ⟨w.heap.size + 1, 3, none⟩ = some (.slice ob y.l.length cap2))
        (first | go_keep | exact sameS_ext hbS HC2.out HD2.out)
        (first
         | (go_at_call 21; refine (same_any 60000 (by decide) x y hsx _ _ _ (by first | exact HX.out.ext hbS | exact HX.out.drew) (by first | exact HY.out.ext hbS | exact HY.out.drew)).mono ?_; rw [Hs.out]; rintro e w7 ⟨rfl, hb7⟩; have hbS : Below w2.heap.size w2 w7 := by first | exact below_ext hbS hb7 | exact below_undrew hb7)
         | (go_at_call 20; refine (rsame_any 60000 (by decide) x y hsx _ _ _ (by first | exact HX.out.ext hbS | exact HX.out.drew) (by first | exact HY.out.ext hbS | exact HY.out.drew)).mono ?_; rw [Hs.out]; rintro e w7 ⟨rfl, hb7⟩; have hbS : Below w2.heap.size w2 w7 := by first | exact below_ext hbS hb7 | exact below_undrew hb7)
         | (go_at_call 21; refine (same_any 60000 (by decide) x x hsx _ _ _ (by exact HX.out.ext hbS) (by exact HX.out.ext hbS)).mono ?_; rw [sm_refl]; rintro e w7 ⟨rfl, hb7⟩; have hbS : Below w2.heap.size w2 w7 := by exact below_ext hbS hb7)
         | (go_at_call 21; refine (same_any 60000 (by decide) y y hsy _ _ _ (by exact HY.out.ext hbS) (by exact HY.out.ext hbS)).mono ?_; rw [sm_refl]; rintro e w7 ⟨rfl, hb7⟩; have hbS : Below w2.heap.size w2 w7 := by exact below_ext hbS hb7))
    all_goals
      go_wp2
      go_ret
      exact ⟨rfl, below_ext hB2 hbS⟩
end Go.Proofs.Ytebedfcdbhgfdaa
