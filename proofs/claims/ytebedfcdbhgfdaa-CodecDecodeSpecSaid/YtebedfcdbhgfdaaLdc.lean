/- CodecDecodeSpec: the walk. -/
import Derived.Test.YtebedfcdbhgfdaaRrj
namespace Go.Proofs.Ytebedfcdbhgfdaa
open Go.RowKit

theorem rdecode_any (l : List UInt8) (hl : l.length ≤ 4000) (v : Value) (w : World) (hb : BtsAt w.heap.size w l v) : Calls Try.prog 19 #[v] w (DecRd (decF l) w) := by
  obtain ⟨oa, cap, rfl⟩ := hb.shape
  unfold decF
  cases hN : rdV 16 l with
  | none => exact rdecode_none l (by omega) oa cap w hb hN
  | some p =>
    obtain ⟨x, r⟩ := p
    cases r with
    | nil => exact rdecode_some l hl oa cap w hb x hN
    | cons c r => exact rdecode_junk l (by omega) oa cap w hb x (c :: r) hN (by simp)
set_option maxRecDepth 100000 in
set_option maxHeartbeats 4000000 in
theorem decodeSpec_walk (raw : List UInt8) (v : Value) (w : World) (hr2 : BtsAt w.heap.size w raw v) : Calls Try.prog 4 #[v] w (BoolPost true w) := by
  have HW := Lib.hid hr2
  obtain ⟨ob, cap2, rfl, hbc, hbm⟩ := hr2.form
  have hrl : raw.length ≤ 9223372036854775807 := by unfold maxLen at hbm; omega
  clear hr2 hbc hbm
  by_cases h2000 : 2000 < raw.length
  · go_enter Try.func4, Try.ntmps4
    go_wp2_with fail
    refine (sane_any _).mono ?_
    rintro e w1 ⟨rfl, hb1⟩
    go_wp2_with fail
    go_ret
    exact ⟨rfl, hb1⟩
  have hle : raw.length ≤ 2000 := by omega
  clear h2000
  cases ho : decF raw with
  | none =>
    have HO := Lib.hid ho; clear ho
    go_enter Try.func4, Try.ntmps4
    go_wp2_with fail
    refine (sane_any _).mono ?_
    rintro e w1 ⟨rfl, hb1⟩
    go_wp2_with fail
    refine (decode_rd raw (by omega) _ _ (HW.out.ext hb1)).mono ?_
    rw [HO.out]
    rintro e w2 ⟨rfl, hb2⟩
    have hB2 := below_ext hb1 hb2
    clear hb1 hb2
    go_wp2_with fail
    refine (rdecode_any raw (by omega) _ _ ((HW.out.ext hB2).ext ((Below.refl _ _).alloc (Nat.le_refl _) _))).mono ?_
    rw [HO.out]
    rintro e w3 ⟨rfl, hb3⟩
    have HC3 := Lib.hid (C4.of_box hb3)
    have hB3 := below_ext hB2 (below_after hb3)
    clear hb3 hB2
    obtain ⟨c0, c1, c2, c3⟩ := HC3.out
    have hlt : w2.heap.size < w3.heap.size := World.block_lt_of_cell? w3 _ c0
    go_wp2_with fail
    refine (rsame_any 60000 (by decide) vZ vZ (by decide) _ _ _ (rd_vZ _ _) (rd_vZ _ _)).mono ?_
    rw [sm_refl]
    rintro e w4 ⟨rfl, hb4⟩
    have hB4 := below_ext hB3 (below_after hb4)
    clear hB3 hb4
    go_wp2_with fail
    go_ret
    exact ⟨rfl, hB4⟩
  | some x =>
    have hsd := decF_sound ho (by unfold maxLen; omega)
    have hsx : sz x ≤ 60000 := by have := hsd.2.2.2; omega
    clear hsd
    have HO := Lib.hid ho; clear ho
    go_enter Try.func4, Try.ntmps4
    go_wp2_with fail
    refine (sane_any _).mono ?_
    rintro e w1 ⟨rfl, hb1⟩
    go_wp2_with fail
    refine (decode_rd raw (by omega) _ _ (HW.out.ext hb1)).mono ?_
    rw [HO.out]
    rintro e w2 ⟨oa2, cp2, rfl, hv2, hb2⟩
    have hB2 := below_ext hb1 hb2
    have HV2 := Lib.hid hv2
    clear hb1 hb2 hv2
    go_wp2_with fail
    refine (rdecode_any raw (by omega) _ _ ((HW.out.ext hB2).ext ((Below.refl _ _).alloc (Nat.le_refl _) _))).mono ?_
    rw [HO.out]
    rintro e w3 ⟨oa3, cp3, rfl, hv3, hb3⟩
    have HC3 := Lib.hid (C4.of_box hb3)
    have hB3 := below_ext hB2 (below_after hb3)
    have HV23 := Lib.hid (HV2.out.ext (below_after hb3))
    have HV3 := Lib.hid hv3
    clear hb3 hB2 hv3
    obtain ⟨c0, c1, c2, c3⟩ := HC3.out
    have hlt : w2.heap.size < w3.heap.size := World.block_lt_of_cell? w3 _ c0
    go_wp2_with fail
    refine (rsame_any 60000 (by decide) x x hsx _ _ _ (HV23.out.alloc _) (HV3.out.alloc _)).mono ?_
    rw [sm_refl]
    rintro e w4 ⟨rfl, hb4⟩
    have hB4 := below_ext hB3 (below_after hb4)
    clear hB3 hb4
    go_wp2_with fail
    go_ret
    exact ⟨rfl, hB4⟩
end Go.Proofs.Ytebedfcdbhgfdaa
