/- SignPublicSpec: the walk. -/
import Derived.Test.YtmhmenmkgbebcaaDoorSlv
namespace Go.Proofs.YtmhmenmkgbebcaaDoor
open Go.RowKit Go.Shelf
set_option maxRecDepth 100000 in
set_option maxHeartbeats 4000000 in
theorem signPublicSpec_walk (x : Int) (v : Value) (l : List UInt8) (w : World) (hb : BtsAt w.heap.size w l v) (hL : Laid w) :
    Calls Tryd.prog 3 #[.int .i64 x, v] w (TruePost w) := by
  have HL := Lib.hid hL; clear hL
  have HB := Lib.hid hb
  obtain ⟨oa, cap, rfl⟩ := hb.shape
  clear hb
  by_cases g0 : 1000 < l.length
  · have t0 : decide ((1000 : Int) < (l.length : Int)) = true := by simp; omega
    clear g0
    go_enter Tryd.func3, Tryd.ntmps3
    go_wp2_with fail
    refine (sane4_any _ HL.out).mono ?_
    rintro e w1 ⟨rfl, hb1⟩
    go_wp2_with fail
    go_ret
    exact ⟨rfl, hb1⟩
  have t0 : decide ((1000 : Int) < (l.length : Int)) = false := by simp; omega
  have gl0 : Hid (l.length ≤ 50000) := by show _ ≤ _; omega
  obtain ⟨n, hn, hkey⟩ := key_any x
  have Hkey := Lib.hid hkey
  obtain ⟨y, hy⟩ : ∃ y : Int, (n : Int) = y := ⟨_, rfl⟩
  rw [hy] at Hkey
  obtain ⟨r1, q1, hp1⟩ := pubE_ex x
  obtain ⟨r2, q2, hp2⟩ := pubE_ex y
  obtain ⟨R1, S1, f1, hs1⟩ := sigE_ex x l
  obtain ⟨R2, S2, f2, hs2⟩ := sigE_ex y l
  have Hp1 := Lib.hid hp1; have Hp2 := Lib.hid hp2; have Hs1 := Lib.hid hs1; have Hs2 := Lib.hid hs2
  clear hkey hp1 hp2 hs1 hs2 g0 hy hn n
  go_enter Tryd.func3, Tryd.ntmps3
  go_wp2_with fail
  refine (sane4_any _ HL.out).mono ?_
  rintro e w1 ⟨rfl, hb1⟩
  go_wp2_with fail
  refine (Hkey.out _).mono ?_
  rintro e w2 ⟨rfl, rfl⟩
  go_wp2_with fail
  have hbx := hb1.alloc hb1.size (.cells #[.int .i64 x, .int .i64 y] 3)
  have hcx : Hid (CB (w1.alloc (.cells #[.int .i64 x, .int .i64 y] 3)) w1.heap.size 3 [.int .i64 x, .int .i64 y]) := CB.new w1 _ _
  clear hb1
  generalize w1.alloc (.cells #[.int .i64 x, .int .i64 y] 3) = wa at *
  have hb1 := hbx; clear hbx
  refine wp_loop_rounds 3 ?_
  rw [rounds_succ]
  have c1 : wa.cell? ⟨w1.heap.size, 0, none⟩ = some (.int .i64 x) := hcx.out.cell 0
  go_wp2_with fail
  refine (public_val x r1 q1 Hp1 _).mono ?_
  rintro e w12 ⟨rfl, hb⟩
  have hcx12 := Lib.hid (CB.ext hcx.out hb)
  replace hb1 := below_ext hb1 hb; clear hb
  clear c1
  go_wp2_with fail
  refine (rpublic_val x r1 q1 Hp1 _).mono ?_
  rintro e w2 ⟨rfl, rfl⟩
  go_wp2_with fail
  refine (sign_val x R1 S1 f1 _ l _ Hs1 gl0.out (HB.out.ext hb1) (HL.out.ext hb1)).mono ?_
  rintro e w13 ⟨rfl, hb⟩
  have hcx13 := Lib.hid (CB.ext hcx12.out hb)
  replace hb1 := below_ext hb1 hb; clear hb
  go_upto_region 11 with fail
  have hb1' := hb1.alloc hb1.size (.cells #[.int .i64 R1, .int .i64 S1] 30)
  have hA1 : Hid (CB (w13.alloc (.cells #[.int .i64 R1, .int .i64 S1] 30)) w13.heap.size 30 [.int .i64 R1, .int .i64 S1]) := CB.new w13 _ _
  have hcx14 := Lib.hid (hcx13.out.alloc (.cells #[.int .i64 R1, .int .i64 S1] 30))
  clear hb1
  generalize w13.alloc (.cells #[.int .i64 R1, .int .i64 S1] 30) = w14 at *
  have hb1 := hb1'; clear hb1'
  go_wp2_with fail
  refine (rsign_val x R1 S1 f1 _ l _ Hs1 gl0.out (HB.out.ext hb1)).mono ?_
  rintro e w15 ⟨rfl, hb⟩
  have hcx15 := Lib.hid (CB.ext hcx14.out hb)
  have hA15 := Lib.hid (CB.ext hA1.out hb)
  replace hb1 := below_ext hb1 hb; clear hb
  go_upto_region 12 with fail
  have hb1' := hb1.alloc hb1.size (.cells #[.int .i64 R1, .int .i64 S1] 30)
  have hB1 : Hid (CB (w15.alloc (.cells #[.int .i64 R1, .int .i64 S1] 30)) w15.heap.size 30 [.int .i64 R1, .int .i64 S1]) := CB.new w15 _ _
  have hcx16 := Lib.hid (hcx15.out.alloc (.cells #[.int .i64 R1, .int .i64 S1] 30))
  have hA16 := Lib.hid (hA15.out.alloc (.cells #[.int .i64 R1, .int .i64 S1] 30))
  clear hb1
  generalize w15.alloc (.cells #[.int .i64 R1, .int .i64 S1] 30) = w16 at *
  have hb1 := hb1'; clear hb1'
  have a10 : w16.cell? ⟨w13.heap.size, 0, none⟩ = some (.int .i64 R1) := hA16.out.cell 0
  have a11 : w16.cell? ⟨w13.heap.size, 1, none⟩ = some (.int .i64 S1) := hA16.out.cell 1
  have b10 : w16.cell? ⟨w15.heap.size, 0, none⟩ = some (.int .i64 R1) := hB1.out.cell 0
  have b11 : w16.cell? ⟨w15.heap.size, 1, none⟩ = some (.int .i64 S1) := hB1.out.cell 1
  go_wp2_with fail
  clear a10 a11 b10 b11
  rw [rounds_succ]
  have c2 : w16.cell? ⟨w1.heap.size, 1, none⟩ = some (.int .i64 y) := hcx16.out.cell 1
  go_wp2_with fail
  refine (public_val y r2 q2 Hp2 _).mono ?_
  rintro e w22 ⟨rfl, hb⟩
  have hcx22 := Lib.hid (CB.ext hcx16.out hb)
  replace hb1 := below_ext hb1 hb; clear hb
  clear c2
  go_wp2_with fail
  refine (rpublic_val y r2 q2 Hp2 _).mono ?_
  rintro e w2 ⟨rfl, rfl⟩
  go_wp2_with fail
  refine (sign_val y R2 S2 f2 _ l _ Hs2 gl0.out (HB.out.ext hb1) (HL.out.ext hb1)).mono ?_
  rintro e w23 ⟨rfl, hb⟩
  have hcx23 := Lib.hid (CB.ext hcx22.out hb)
  replace hb1 := below_ext hb1 hb; clear hb
  go_upto_region 11 with fail
  have hb1' := hb1.alloc hb1.size (.cells #[.int .i64 R2, .int .i64 S2] 30)
  have hA2 : Hid (CB (w23.alloc (.cells #[.int .i64 R2, .int .i64 S2] 30)) w23.heap.size 30 [.int .i64 R2, .int .i64 S2]) := CB.new w23 _ _
  have hcx24 := Lib.hid (hcx23.out.alloc (.cells #[.int .i64 R2, .int .i64 S2] 30))
  clear hb1
  generalize w23.alloc (.cells #[.int .i64 R2, .int .i64 S2] 30) = w24 at *
  have hb1 := hb1'; clear hb1'
  go_wp2_with fail
  refine (rsign_val y R2 S2 f2 _ l _ Hs2 gl0.out (HB.out.ext hb1)).mono ?_
  rintro e w25 ⟨rfl, hb⟩
  have hcx25 := Lib.hid (CB.ext hcx24.out hb)
  have hA25 := Lib.hid (CB.ext hA2.out hb)
  replace hb1 := below_ext hb1 hb; clear hb
  go_upto_region 12 with fail
  have hb1' := hb1.alloc hb1.size (.cells #[.int .i64 R2, .int .i64 S2] 30)
  have hB2 : Hid (CB (w25.alloc (.cells #[.int .i64 R2, .int .i64 S2] 30)) w25.heap.size 30 [.int .i64 R2, .int .i64 S2]) := CB.new w25 _ _
  have hcx26 := Lib.hid (hcx25.out.alloc (.cells #[.int .i64 R2, .int .i64 S2] 30))
  have hA26 := Lib.hid (hA25.out.alloc (.cells #[.int .i64 R2, .int .i64 S2] 30))
  clear hb1
  generalize w25.alloc (.cells #[.int .i64 R2, .int .i64 S2] 30) = w26 at *
  have hb1 := hb1'; clear hb1'
  have a20 : w26.cell? ⟨w23.heap.size, 0, none⟩ = some (.int .i64 R2) := hA26.out.cell 0
  have a21 : w26.cell? ⟨w23.heap.size, 1, none⟩ = some (.int .i64 S2) := hA26.out.cell 1
  have b20 : w26.cell? ⟨w25.heap.size, 0, none⟩ = some (.int .i64 R2) := hB2.out.cell 0
  have b21 : w26.cell? ⟨w25.heap.size, 1, none⟩ = some (.int .i64 S2) := hB2.out.cell 1
  go_wp2_with fail
  clear a20 a21 b20 b21
  rw [rounds_succ]
  go_wp2_with fail
  go_ret
  exact ⟨rfl, hb1⟩
end Go.Proofs.YtmhmenmkgbebcaaDoor
