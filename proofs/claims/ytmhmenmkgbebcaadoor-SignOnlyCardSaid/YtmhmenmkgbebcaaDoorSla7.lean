/- SignOnly: the walk. -/
import Derived.Test.YtmhmenmkgbebcaaDoorSlv
namespace Go.Proofs.YtmhmenmkgbebcaaDoor
open Go.RowKit Go.Shelf
set_option maxRecDepth 100000 in
set_option maxHeartbeats 4000000 in
theorem signOnly_walk (x : Int) (v : Value) (l : List UInt8) (y : Int) (w : World) (hb : BtsAt w.heap.size w l v) (hL : Laid w) :
    Calls Tryd.prog 8 #[.int .i64 x, v, .int .i64 y] w (TruePost w) := by
  have HL := Lib.hid hL; clear hL
  have HB := Lib.hid hb
  obtain ⟨oa, cap, rfl⟩ := hb.shape
  clear hb
  by_cases g0 : 1000 < l.length
  · have t0 : decide ((1000 : Int) < (l.length : Int)) = true := by simp; omega
    clear g0
    go_enter Tryd.func8, Tryd.ntmps8
    go_wp2_with fail
    refine (sane4_any _ HL.out).mono ?_
    rintro e w1 ⟨rfl, hb1⟩
    go_wp2_with fail
    go_ret
    exact ⟨rfl, hb1⟩
  have t0 : decide ((1000 : Int) < (l.length : Int)) = false := by simp; omega
  have gl0 : Hid (l.length ≤ 50000) := by show _ ≤ _; omega
  obtain ⟨n, hn, hkey⟩ := key_any x
  have Hkey := Lib.hid hkey
  obtain ⟨p, hp⟩ : ∃ p, pw 4 n = p := ⟨_, rfl⟩
  have Hp := Lib.hid hp
  have hpel : isEl p := hp ▸ pw_el el_four n
  have Hpel := Lib.hid hpel
  clear hkey
  obtain ⟨k, hk⟩ : ∃ k, nonceK (n : Int) l = k := ⟨_, rfl⟩
  obtain ⟨R, hR⟩ : ∃ R, pw 4 k = R := ⟨_, rfl⟩
  obtain ⟨c, hc⟩ : ∃ c, chalK R p l = c := ⟨_, rfl⟩
  obtain ⟨m, hm⟩ : ∃ m, c * n % cQ = m := ⟨_, rfl⟩
  obtain ⟨S, hS⟩ : ∃ S, (k + m) % cQ = S := ⟨_, rfl⟩
  have Hk := Lib.hid hk; have HR := Lib.hid hR; have Hc := Lib.hid hc; have Hm := Lib.hid hm; have HS := Lib.hid hS
  have hRel : isEl R := hR ▸ pw_el el_four k
  have HRel := Lib.hid hRel
  have HSl : Hid (S < cQ) := by show _ < _; rw [← hS]; exact Nat.mod_lt _ (by decide)
  have Hkl : Hid (k < cQ) := by show _ < _; rw [← hk]; exact (scalF_lt _ _).2
  have Hcl : Hid (c < cQ) := by show _ < _; rw [← hc]; exact (scalF_lt _ _).2
  have Hml : Hid (m < cQ) := by show _ < _; rw [← hm]; exact Nat.mod_lt _ (by decide)
  have hon := Lib.hid (fun z => only_case hR hp hc hm hS z)
  obtain ⟨n2, hn2, hkey2⟩ := key_any y
  have Hkey2 := Lib.hid hkey2
  obtain ⟨z2, hz2⟩ : ∃ z, IntKind.i64.wrap ((n2 : Int) - 1) = z := ⟨_, rfl⟩
  obtain ⟨z3, hz3⟩ : ∃ z, IntKind.i64.wrap ((S : Int) + 2305843009213688669) = z := ⟨_, rfl⟩
  obtain ⟨z4, hz4⟩ : ∃ z, IntKind.i64.wrap ((S : Int) - 2305843009213688669) = z := ⟨_, rfl⟩
  clear hk hR hc hm hS hRel hp hpel g0 hkey2
  obtain ⟨f1, t1', hf1, hv1, u1⟩ := hon.out y
  have Hf1 := Lib.hid hf1; have Hv1 := Lib.hid hv1; have Hu1 := Lib.hid u1
  clear hf1 hv1 u1
  obtain ⟨f2, t2', hf2, hv2, u2⟩ := hon.out z2
  have Hf2 := Lib.hid hf2; have Hv2 := Lib.hid hv2; have Hu2 := Lib.hid u2
  clear hf2 hv2 u2
  obtain ⟨f3, t3', hf3, hv3, u3⟩ := hon.out z3
  have Hf3 := Lib.hid hf3; have Hv3 := Lib.hid hv3; have Hu3 := Lib.hid u3
  clear hf3 hv3 u3
  obtain ⟨f4, t4', hf4, hv4, u4⟩ := hon.out z4
  have Hf4 := Lib.hid hf4; have Hv4 := Lib.hid hv4; have Hu4 := Lib.hid u4
  clear hf4 hv4 u4
  go_enter Tryd.func8, Tryd.ntmps8
  go_wp2_with fail
  refine (sane4_any _ HL.out).mono ?_
  rintro e w1 ⟨rfl, hb1⟩
  go_wp2_with fail
  refine (Hkey.out _).mono ?_
  rintro e w2 ⟨rfl, rfl⟩
  go_wp2_with fail
  refine (public_ok n p hn Hp _).mono ?_
  rintro e w2 ⟨rfl, hb⟩
  replace hb1 := below_ext hb1 hb; clear hb
  go_wp2_with fail
  refine (sign_ok n _ l _ k R c p m S hn gl0.out (HB.out.ext hb1) (HL.out.ext hb1) Hk HR Hp Hc Hm HS).mono ?_
  rintro e w3 ⟨rfl, hb⟩
  replace hb1 := below_ext hb1 hb; clear hb
  go_upto_region 8 with fail
  have hb1' := hb1.alloc hb1.size (.cells #[.int .i64 R, .int .i64 S] 30)
  have hA : Hid (CB (w3.alloc (.cells #[.int .i64 R, .int .i64 S] 30)) w3.heap.size 30 [.int .i64 R, .int .i64 S]) := CB.new w3 _ _
  clear hb1
  generalize w3.alloc (.cells #[.int .i64 R, .int .i64 S] 30) = w4 at *
  have hb1 := hb1'; clear hb1'
  have c1 : w4.cell? ⟨w3.heap.size, 1, none⟩ = some (.int .i64 S) := hA.out.cell 1
  have hbS := (Below.refl w4.heap.size w4).drew
  have Hb1 := Lib.hid hb1
  clear hb1
  go_wp2_with fail
  go_region_held3 (fun w' => w'.cell? ⟨w3.heap.size, 1, none⟩ = some (.int .i64 S))
    (first
     | exact cell_ext hbS c1
     | exact cell_ext (hbS.alloc hbS.size _) c1
     | go_keep)
    ((go_at_call 12; refine (Hkey2.out _).mono ?_; rintro e w7 ⟨rfl, rfl⟩))
  have hcx : Hid (CB (w4.alloc (.cells #[.int .i64 y, .int .i64 z2, .int .i64 z3, .int .i64 z4] 3)).drew w4.heap.size 3 [.int .i64 y, .int .i64 z2, .int .i64 z3, .int .i64 z4]) := CB.new w4 _ _
  have hbx : Below w4.heap.size w4 (w4.alloc (.cells #[.int .i64 y, .int .i64 z2, .int .i64 z3, .int .i64 z4] 3)).drew := ((Below.refl w4.heap.size w4).alloc (Nat.le_refl _) _).drew
  have hA5 := Lib.hid (CB.ext hA.out hbx)
  have hb1 := below_ext Hb1.out hbx
  clear hA c1 hbS Hb1 hbx
  generalize (w4.alloc (.cells #[.int .i64 y, .int .i64 z2, .int .i64 z3, .int .i64 z4] 3)).drew = wa at *
  go_wp2_with fail
  refine wp_loop_rounds 5 ?_
  rw [rounds_succ]
  have c1 : wa.cell? ⟨w4.heap.size, 0, none⟩ = some (.int .i64 y) := hcx.out.cell 0
  have a0 : wa.cell? ⟨w3.heap.size, 0, none⟩ = some (.int .i64 R) := hA5.out.cell 0
  have a1 : wa.cell? ⟨w3.heap.size, 1, none⟩ = some (.int .i64 S) := hA5.out.cell 1
  have u := Hu1.out
  have hbS := (Below.refl wa.heap.size wa).drew
  have Hb1 := Lib.hid hb1
  clear hb1
  go_wp2_with fail
  go_region_held3 (fun w' => w'.cell? ⟨w3.heap.size, 0, none⟩ = some (.int .i64 R) ∧ w'.cell? ⟨w3.heap.size, 1, none⟩ = some (.int .i64 S))
    (first
     | exact ⟨cell_ext hbS a0, cell_ext hbS a1⟩
     | go_keep)
    ((go_at_call 19; refine (verify_any p R y 0 0 f1 _ l t1' _ gl0.out (HB.out.ext (below_ext Hb1.out hbS)) (HL.out.ext (below_ext Hb1.out hbS)) (Lib.hid (ElE.ok Hpel.out)) (Lib.hid (ElE.ok HRel.out)) Hf1 Hv1).mono ?_; rintro e w71 ⟨rfl, hb7⟩; have hbS : Below wa.heap.size wa w71 := by (first | exact below_ext hbS hb7 | exact below_undrew hb7)))
  have hA51 := Lib.hid (CB.ext hA5.out hbS)
  have hcx1 := Lib.hid (CB.ext hcx.out hbS)
  have hb1 := below_ext Hb1.out hbS
  clear hA5 hcx c1 a0 a1 hbS Hb1
  go_wp2_with fail
  clear u
  rw [rounds_succ]
  have c2 : w71.cell? ⟨w4.heap.size, 1, none⟩ = some (.int .i64 z2) := hcx1.out.cell 1
  have a0 : w71.cell? ⟨w3.heap.size, 0, none⟩ = some (.int .i64 R) := hA51.out.cell 0
  have a1 : w71.cell? ⟨w3.heap.size, 1, none⟩ = some (.int .i64 S) := hA51.out.cell 1
  have u := Hu2.out
  have hbS := (Below.refl w71.heap.size w71).drew
  have Hb1 := Lib.hid hb1
  clear hb1
  go_wp2_with fail
  go_region_held3 (fun w' => w'.cell? ⟨w3.heap.size, 0, none⟩ = some (.int .i64 R) ∧ w'.cell? ⟨w3.heap.size, 1, none⟩ = some (.int .i64 S))
    (first
     | exact ⟨cell_ext hbS a0, cell_ext hbS a1⟩
     | go_keep)
    ((go_at_call 19; refine (verify_any p R z2 0 0 f2 _ l t2' _ gl0.out (HB.out.ext (below_ext Hb1.out hbS)) (HL.out.ext (below_ext Hb1.out hbS)) (Lib.hid (ElE.ok Hpel.out)) (Lib.hid (ElE.ok HRel.out)) Hf2 Hv2).mono ?_; rintro e w72 ⟨rfl, hb7⟩; have hbS : Below w71.heap.size w71 w72 := by (first | exact below_ext hbS hb7 | exact below_undrew hb7)))
  have hA52 := Lib.hid (CB.ext hA51.out hbS)
  have hcx2 := Lib.hid (CB.ext hcx1.out hbS)
  have hb1 := below_ext Hb1.out hbS
  clear hA51 hcx1 c2 a0 a1 hbS Hb1
  go_wp2_with fail
  clear u
  rw [rounds_succ]
  have c3 : w72.cell? ⟨w4.heap.size, 2, none⟩ = some (.int .i64 z3) := hcx2.out.cell 2
  have a0 : w72.cell? ⟨w3.heap.size, 0, none⟩ = some (.int .i64 R) := hA52.out.cell 0
  have a1 : w72.cell? ⟨w3.heap.size, 1, none⟩ = some (.int .i64 S) := hA52.out.cell 1
  have u := Hu3.out
  have hbS := (Below.refl w72.heap.size w72).drew
  have Hb1 := Lib.hid hb1
  clear hb1
  go_wp2_with fail
  go_region_held3 (fun w' => w'.cell? ⟨w3.heap.size, 0, none⟩ = some (.int .i64 R) ∧ w'.cell? ⟨w3.heap.size, 1, none⟩ = some (.int .i64 S))
    (first
     | exact ⟨cell_ext hbS a0, cell_ext hbS a1⟩
     | go_keep)
    ((go_at_call 19; refine (verify_any p R z3 0 0 f3 _ l t3' _ gl0.out (HB.out.ext (below_ext Hb1.out hbS)) (HL.out.ext (below_ext Hb1.out hbS)) (Lib.hid (ElE.ok Hpel.out)) (Lib.hid (ElE.ok HRel.out)) Hf3 Hv3).mono ?_; rintro e w73 ⟨rfl, hb7⟩; have hbS : Below w72.heap.size w72 w73 := by (first | exact below_ext hbS hb7 | exact below_undrew hb7)))
  have hA53 := Lib.hid (CB.ext hA52.out hbS)
  have hcx3 := Lib.hid (CB.ext hcx2.out hbS)
  have hb1 := below_ext Hb1.out hbS
  clear hA52 hcx2 c3 a0 a1 hbS Hb1
  go_wp2_with fail
  clear u
  rw [rounds_succ]
  have c4 : w73.cell? ⟨w4.heap.size, 3, none⟩ = some (.int .i64 z4) := hcx3.out.cell 3
  have a0 : w73.cell? ⟨w3.heap.size, 0, none⟩ = some (.int .i64 R) := hA53.out.cell 0
  have a1 : w73.cell? ⟨w3.heap.size, 1, none⟩ = some (.int .i64 S) := hA53.out.cell 1
  have u := Hu4.out
  have hbS := (Below.refl w73.heap.size w73).drew
  have Hb1 := Lib.hid hb1
  clear hb1
  go_wp2_with fail
  go_region_held3 (fun w' => w'.cell? ⟨w3.heap.size, 0, none⟩ = some (.int .i64 R) ∧ w'.cell? ⟨w3.heap.size, 1, none⟩ = some (.int .i64 S))
    (first
     | exact ⟨cell_ext hbS a0, cell_ext hbS a1⟩
     | go_keep)
    ((go_at_call 19; refine (verify_any p R z4 0 0 f4 _ l t4' _ gl0.out (HB.out.ext (below_ext Hb1.out hbS)) (HL.out.ext (below_ext Hb1.out hbS)) (Lib.hid (ElE.ok Hpel.out)) (Lib.hid (ElE.ok HRel.out)) Hf4 Hv4).mono ?_; rintro e w74 ⟨rfl, hb7⟩; have hbS : Below w73.heap.size w73 w74 := by (first | exact below_ext hbS hb7 | exact below_undrew hb7)))
  have hA54 := Lib.hid (CB.ext hA53.out hbS)
  have hcx4 := Lib.hid (CB.ext hcx3.out hbS)
  have hb1 := below_ext Hb1.out hbS
  clear hA53 hcx3 c4 a0 a1 hbS Hb1
  go_wp2_with fail
  clear u
  rw [rounds_succ]
  go_wp2_with fail
  go_ret
  exact ⟨rfl, hb1⟩
end Go.Proofs.YtmhmenmkgbebcaaDoor
