/- SignDifference: the walk. -/
import Derived.Test.YtmhmenmkgbebcaaDoorSlv
namespace Go.Proofs.YtmhmenmkgbebcaaDoor
open Go.RowKit Go.Shelf
set_option maxRecDepth 100000 in
set_option maxHeartbeats 4000000 in
theorem signDifference_walk (x : Int) (v : Value) (l : List UInt8) (u : Value) (lu : List UInt8) (w : World) (hb : BtsAt w.heap.size w l v) (hb2 : BtsAt w.heap.size w lu u) (hL : Laid w) :
    Calls Tryd.prog 10 #[.int .i64 x, v, u] w (TruePost w) := by
  have HL := Lib.hid hL; clear hL
  have HB := Lib.hid hb
  obtain ⟨oa, cap, rfl⟩ := hb.shape
  clear hb
  have HB2 := Lib.hid hb2
  obtain ⟨oa2, cap2, rfl⟩ := hb2.shape
  clear hb2
  by_cases g0 : 1000 < l.length
  · have t0 : decide ((1000 : Int) < (l.length : Int)) = true := by simp; omega
    clear g0
    go_enter Tryd.func10, Tryd.ntmps10
    go_wp2_with fail
    refine (sane4_any _ HL.out).mono ?_
    rintro e w1 ⟨rfl, hb1⟩
    go_wp2_with fail
    go_ret
    exact ⟨rfl, hb1⟩
  by_cases g1 : 1000 < lu.length
  · have t1 : decide ((1000 : Int) < (lu.length : Int)) = true := by simp; omega
    have t0 : decide ((1000 : Int) < (l.length : Int)) = false := by simp; omega
    clear g1
    go_enter Tryd.func10, Tryd.ntmps10
    go_wp2_with fail
    refine (sane4_any _ HL.out).mono ?_
    rintro e w1 ⟨rfl, hb1⟩
    go_wp2_with fail
    go_ret
    exact ⟨rfl, hb1⟩
  have t0 : decide ((1000 : Int) < (l.length : Int)) = false := by simp; omega
  have gl0 : Hid (l.length ≤ 50000) := by show _ ≤ _; omega
  have t1 : decide ((1000 : Int) < (lu.length : Int)) = false := by simp; omega
  have gl1 : Hid (lu.length ≤ 50000) := by show _ ≤ _; omega
  obtain ⟨n, hn, hkey⟩ := key_any x
  have Hkey := Lib.hid hkey
  obtain ⟨p, hp⟩ : ∃ p, pw 4 n = p := ⟨_, rfl⟩
  have Hp := Lib.hid hp
  have hpel : isEl p := hp ▸ pw_el el_four n
  have Hpel := Lib.hid hpel
  clear hkey
  obtain ⟨k, hk⟩ : ∃ k, nonceK (n : Int) l = k := ⟨_, rfl⟩
  obtain ⟨R, hR⟩ : ∃ R, pw 4 k = R := ⟨_, rfl⟩
  obtain ⟨c, hc⟩ : ∃ c, chalK R p l = c := ⟨_, rfl⟩
  obtain ⟨m, hm⟩ : ∃ m, c * n % cQ = m := ⟨_, rfl⟩
  obtain ⟨S, hS⟩ : ∃ S, (k + m) % cQ = S := ⟨_, rfl⟩
  have Hk := Lib.hid hk; have HR := Lib.hid hR; have Hc := Lib.hid hc; have Hm := Lib.hid hm; have HS := Lib.hid hS
  have hRel : isEl R := hR ▸ pw_el el_four k
  have HRel := Lib.hid hRel
  have HSl : Hid (S < cQ) := by show _ < _; rw [← hS]; exact Nat.mod_lt _ (by decide)
  have Hkl : Hid (k < cQ) := by show _ < _; rw [← hk]; exact (scalF_lt _ _).2
  have Hcl : Hid (c < cQ) := by show _ < _; rw [← hc]; exact (scalF_lt _ _).2
  have Hml : Hid (m < cQ) := by show _ < _; rw [← hm]; exact Nat.mod_lt _ (by decide)
  obtain ⟨k2, hk2⟩ : ∃ k, nonceK (n : Int) lu = k := ⟨_, rfl⟩
  obtain ⟨R2, hR2⟩ : ∃ R, pw 4 k2 = R := ⟨_, rfl⟩
  obtain ⟨c2, hc2⟩ : ∃ c, chalK R2 p lu = c := ⟨_, rfl⟩
  obtain ⟨m2, hm2⟩ : ∃ m, c2 * n % cQ = m := ⟨_, rfl⟩
  obtain ⟨S2, hS2⟩ : ∃ S, (k2 + m2) % cQ = S := ⟨_, rfl⟩
  have Hk2 := Lib.hid hk2; have HR2 := Lib.hid hR2; have Hc2 := Lib.hid hc2; have Hm2 := Lib.hid hm2; have HS2 := Lib.hid hS2
  have hRel2 : isEl R2 := hR2 ▸ pw_el el_four k2
  have HRel2 := Lib.hid hRel2
  have HSl2 : Hid (S2 < cQ) := by show _ < _; rw [← hS2]; exact Nat.mod_lt _ (by decide)
  have Hkl2 : Hid (k2 < cQ) := by show _ < _; rw [← hk2]; exact (scalF_lt _ _).2
  have Hcl2 : Hid (c2 < cQ) := by show _ < _; rw [← hc2]; exact (scalF_lt _ _).2
  have Hml2 : Hid (m2 < cQ) := by show _ < _; rw [← hm2]; exact Nat.mod_lt _ (by decide)
  obtain ⟨md, hmd⟩ : ∃ y, (cQ - 1) * S2 % cQ = y := ⟨_, rfl⟩
  obtain ⟨d, hd⟩ : ∃ y, (S + md) % cQ = y := ⟨_, rfl⟩
  obtain ⟨mc, hmc⟩ : ∃ y, (cQ - 1) * c2 % cQ = y := ⟨_, rfl⟩
  obtain ⟨cc, hcc⟩ : ∃ y, (c + mc) % cQ = y := ⟨_, rfl⟩
  obtain ⟨iv, hiv⟩ : ∃ y, pw R2 (cQ - 1) = y := ⟨_, rfl⟩
  obtain ⟨r, hr⟩ : ∃ y, R * iv % cP = y := ⟨_, rfl⟩
  obtain ⟨pp, hpp⟩ : ∃ y, pw p cc = y := ⟨_, rfl⟩
  obtain ⟨lf, hlf⟩ : ∃ y, pw 4 d = y := ⟨_, rfl⟩
  obtain ⟨rt, hrt⟩ : ∃ y, r * pp % cP = y := ⟨_, rfl⟩
  have hq := quot_eq k c k2 c2 n
  unfold mnS sigS at hq
  rw [hm, hS, hm2, hS2, hmd, hd, hmc, hcc, hR, hR2, hp, hiv, hr, hpp, hlf, hrt] at hq
  have u1 : ((lf : Int) == (rt : Int)) = true := by rw [hq]; simp
  have Hiv : Hid (isEl iv) := by show isEl iv; rw [← hiv]; exact pw_el hRel2 _
  have Hr : Hid (isEl r) := by show isEl r; rw [← hr]; exact mul_el hRel Hiv.out
  have Hpp : Hid (isEl pp) := by show isEl pp; rw [← hpp]; exact pw_el hpel _
  have Hdl : Hid (d < cQ) := by show _ < _; rw [← hd]; exact Nat.mod_lt _ (by decide)
  have Hccl : Hid (cc < cQ) := by show _ < _; rw [← hcc]; exact Nat.mod_lt _ (by decide)
  have Hmd := Lib.hid hmd; have Hd := Lib.hid hd; have Hmc := Lib.hid hmc; have Hcc := Lib.hid hcc; have Hiv' := Lib.hid hiv; have Hr' := Lib.hid hr; have Hpp' := Lib.hid hpp; have Hlf := Lib.hid hlf; have Hrt := Lib.hid hrt
  clear hk hR hc hm hS hRel hk2 hR2 hc2 hm2 hS2 hRel2 hp hpel g0 g1 hmd hd hmc hcc hiv hr hpp hlf hrt hq
  go_enter Tryd.func10, Tryd.ntmps10
  go_wp2_with fail
  refine (sane4_any _ HL.out).mono ?_
  rintro e w1 ⟨rfl, hb1⟩
  go_wp2_with fail
  refine (Hkey.out _).mono ?_
  rintro e w2 ⟨rfl, rfl⟩
  go_wp2_with fail
  refine (public_ok n p hn Hp _).mono ?_
  rintro e w2 ⟨rfl, hb⟩
  replace hb1 := below_ext hb1 hb; clear hb
  go_wp2_with fail
  refine (sign_ok n _ l _ k R c p m S hn gl0.out (HB.out.ext hb1) (HL.out.ext hb1) Hk HR Hp Hc Hm HS).mono ?_
  rintro e w3 ⟨rfl, hb⟩
  replace hb1 := below_ext hb1 hb; clear hb
  go_upto_region 8 with fail
  have hb1' := hb1.alloc hb1.size (.cells #[.int .i64 R, .int .i64 S] 30)
  have hA : Hid (CB (w3.alloc (.cells #[.int .i64 R, .int .i64 S] 30)) w3.heap.size 30 [.int .i64 R, .int .i64 S]) := CB.new w3 _ _
  clear hb1
  generalize w3.alloc (.cells #[.int .i64 R, .int .i64 S] 30) = w4 at *
  have hb1 := hb1'; clear hb1'
  go_wp2_with fail
  refine (sign_ok n _ lu _ k2 R2 c2 p m2 S2 hn gl1.out (HB2.out.ext hb1) (HL.out.ext hb1) Hk2 HR2 Hp Hc2 Hm2 HS2).mono ?_
  rintro e w5 ⟨rfl, hb⟩
  have hA5 := Lib.hid (CB.ext hA.out hb)
  replace hb1 := below_ext hb1 hb; clear hb
  clear hA
  go_upto_region 9 with fail
  have hb1' := hb1.alloc hb1.size (.cells #[.int .i64 R2, .int .i64 S2] 30)
  have hB : Hid (CB (w5.alloc (.cells #[.int .i64 R2, .int .i64 S2] 30)) w5.heap.size 30 [.int .i64 R2, .int .i64 S2]) := CB.new w5 _ _
  have hA6 := Lib.hid (hA5.out.alloc (.cells #[.int .i64 R2, .int .i64 S2] 30))
  clear hb1
  generalize w5.alloc (.cells #[.int .i64 R2, .int .i64 S2] 30) = w6 at *
  have hb1 := hb1'; clear hb1'
  have a1 : w6.cell? ⟨w3.heap.size, 1, none⟩ = some (.int .i64 S) := hA6.out.cell 1
  have b1 : w6.cell? ⟨w5.heap.size, 1, none⟩ = some (.int .i64 S2) := hB.out.cell 1
  go_wp2_with fail
  refine (minus_ok S S2 md d HSl HSl2 Hmd Hd _).mono ?_
  rintro e w8 ⟨rfl, hb⟩
  have hA8 := Lib.hid (CB.ext hA6.out hb)
  have hB8 := Lib.hid (CB.ext hB.out hb)
  replace hb1 := below_ext hb1 hb; clear hb
  clear hA6 hB a1 b1
  have a0 : w8.cell? ⟨w3.heap.size, 0, none⟩ = some (.int .i64 R) := hA8.out.cell 0
  have b0 : w8.cell? ⟨w5.heap.size, 0, none⟩ = some (.int .i64 R2) := hB8.out.cell 0
  have hbS := (Below.refl w8.heap.size w8).drew
  have Hb1 := Lib.hid hb1
  clear hb1
  go_wp2_with fail
  go_region_held3 (fun w' => w'.cell? ⟨w3.heap.size, 0, none⟩ = some (.int .i64 R) ∧ w'.cell? ⟨w5.heap.size, 0, none⟩ = some (.int .i64 R2))
    (first
     | exact ⟨cell_ext hbS a0, cell_ext hbS b0⟩
     | go_keep)
    (first
     | (go_at_call 24; (with_reducible refine (lchal_any p R _ l c _ gl0.out (HB.out.ext (below_ext Hb1.out hbS)) (HL.out.ext (below_ext Hb1.out hbS)) Hc).mono ?_); rintro e w7 ⟨rfl, hb7⟩; have hbS : Below w8.heap.size w8 w7 := by (first | exact below_ext hbS hb7 | exact below_undrew hb7))
     | (go_at_call 24; (with_reducible refine (lchal_any p R2 _ lu c2 _ gl1.out (HB2.out.ext (below_ext Hb1.out hbS)) (HL.out.ext (below_ext Hb1.out hbS)) Hc2).mono ?_); rintro e w7 ⟨rfl, hb7⟩; have hbS : Below w8.heap.size w8 w7 := by (first | exact below_ext hbS hb7 | exact below_undrew hb7))
     | (go_at_call 27; (with_reducible refine (minus_ok c c2 mc cc Hcl Hcl2 Hmc Hcc _).mono ?_); rintro e w7 ⟨rfl, hb7⟩; have hbS : Below w8.heap.size w8 w7 := by (first | exact below_ext hbS hb7 | exact below_undrew hb7)))
  have hA9 := Lib.hid (CB.ext hA8.out hbS)
  have hB9 := Lib.hid (CB.ext hB8.out hbS)
  have hb1 := below_ext Hb1.out hbS
  clear hA8 hB8 a0 b0 Hb1 hbS
  have b0 := hB9.out.cell 0
  simp only [List.getElem?_cons_zero] at b0
  go_wp2_with fail
  refine (inv_ok R2 iv HRel2 Hiv' _).mono ?_
  rintro e w10 ⟨rfl, hb⟩
  have hA10 := Lib.hid (CB.ext hA9.out hb)
  replace hb1 := below_ext hb1 hb; clear hb
  clear hA9 hB9 b0
  have a0 : w10.cell? ⟨w3.heap.size, 0, none⟩ = some (.int .i64 R) := hA10.out.cell 0
  go_wp2_with fail
  refine (mul_ok R iv r HRel Hiv Hr' _).mono ?_
  rintro e w11 ⟨rfl, hb⟩
  replace hb1 := below_ext hb1 hb; clear hb
  clear a0 hA10
  go_wp2_with fail
  refine (exp_ok p cc pp Hpel Hccl Hpp' _).mono ?_
  rintro e w12 ⟨rfl, hb⟩
  replace hb1 := below_ext hb1 hb; clear hb
  go_wp2_with fail
  refine (base_ok d lf Hdl Hlf _).mono ?_
  rintro e w13 ⟨rfl, hb⟩
  replace hb1 := below_ext hb1 hb; clear hb
  go_wp2_with fail
  refine (mul_ok r pp rt Hr Hpp Hrt _).mono ?_
  rintro e w14 ⟨rfl, hb⟩
  replace hb1 := below_ext hb1 hb; clear hb
  go_wp2_with fail
  go_ret
  exact ⟨rfl, hb1⟩
end Go.Proofs.YtmhmenmkgbebcaaDoor
