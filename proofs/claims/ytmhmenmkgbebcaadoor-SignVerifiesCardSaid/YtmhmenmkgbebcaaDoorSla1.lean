/- SignVerifies: the walk. -/
import Derived.Test.YtmhmenmkgbebcaaDoorSlv
namespace Go.Proofs.YtmhmenmkgbebcaaDoor
open Go.RowKit Go.Shelf
set_option maxRecDepth 100000 in
set_option maxHeartbeats 4000000 in
theorem signVerifies_walk (x : Int) (v : Value) (l : List UInt8) (w : World) (hb : BtsAt w.heap.size w l v) (hL : Laid w) :
    Calls Tryd.prog 6 #[.int .i64 x, v] w (TruePost w) := by
  have HL := Lib.hid hL; clear hL
  have HB := Lib.hid hb
  obtain ⟨oa, cap, rfl⟩ := hb.shape
  clear hb
  by_cases g0 : 1000 < l.length
  · have t0 : decide ((1000 : Int) < (l.length : Int)) = true := by simp; omega
    clear g0
    go_enter Tryd.func6, Tryd.ntmps6
    go_wp2_with fail
    refine (sane4_any _ HL.out).mono ?_
    rintro e w1 ⟨rfl, hb1⟩
    go_wp2_with fail
    go_ret
    exact ⟨rfl, hb1⟩
  have t0 : decide ((1000 : Int) < (l.length : Int)) = false := by simp; omega
  have gl0 : Hid (l.length ≤ 50000) := by show _ ≤ _; omega
  obtain ⟨n, hn, hkey⟩ := key_any x
  have Hkey := Lib.hid hkey
  obtain ⟨p, hp⟩ : ∃ p, pw 4 n = p := ⟨_, rfl⟩
  have Hp := Lib.hid hp
  have hpel : isEl p := hp ▸ pw_el el_four n
  have Hpel := Lib.hid hpel
  clear hkey
  obtain ⟨k, hk⟩ : ∃ k, nonceK (n : Int) l = k := ⟨_, rfl⟩
  obtain ⟨R, hR⟩ : ∃ R, pw 4 k = R := ⟨_, rfl⟩
  obtain ⟨c, hc⟩ : ∃ c, chalK R p l = c := ⟨_, rfl⟩
  obtain ⟨m, hm⟩ : ∃ m, c * n % cQ = m := ⟨_, rfl⟩
  obtain ⟨S, hS⟩ : ∃ S, (k + m) % cQ = S := ⟨_, rfl⟩
  have Hk := Lib.hid hk; have HR := Lib.hid hR; have Hc := Lib.hid hc; have Hm := Lib.hid hm; have HS := Lib.hid hS
  have hRel : isEl R := hR ▸ pw_el el_four k
  have HRel := Lib.hid hRel
  have HSl : Hid (S < cQ) := by show _ < _; rw [← hS]; exact Nat.mod_lt _ (by decide)
  have Hkl : Hid (k < cQ) := by show _ < _; rw [← hk]; exact (scalF_lt _ _).2
  have Hcl : Hid (c < cQ) := by show _ < _; rw [← hc]; exact (scalF_lt _ _).2
  have Hml : Hid (m < cQ) := by show _ < _; rw [← hm]; exact Nat.mod_lt _ (by decide)
  have hver : Hid (VerCase (p : Int) (R : Int) (S : Int) 0 0 0 l true) := ver_ok hR hp hc hm hS
  have u1 : decide ((0 : Int) ≤ (S : Int)) = true := by simp
  have u2 : decide ((S : Int) < 2305843009213688669) = true := decide_eq_true (Int.ofNat_lt.2 HSl.out)
  clear hk hR hc hm hS hRel hp hpel g0
  go_enter Tryd.func6, Tryd.ntmps6
  go_wp2_with fail
  refine (sane4_any _ HL.out).mono ?_
  rintro e w1 ⟨rfl, hb1⟩
  go_wp2_with fail
  refine (Hkey.out _).mono ?_
  rintro e w2 ⟨rfl, rfl⟩
  go_wp2_with fail
  refine (public_ok n p hn Hp _).mono ?_
  rintro e w2 ⟨rfl, hb⟩
  replace hb1 := below_ext hb1 hb; clear hb
  go_wp2_with fail
  refine (sign_ok n _ l _ k R c p m S hn gl0.out (HB.out.ext hb1) (HL.out.ext hb1) Hk HR Hp Hc Hm HS).mono ?_
  rintro e w3 ⟨rfl, hb⟩
  replace hb1 := below_ext hb1 hb; clear hb
  go_upto_region 8 with fail
  have hb1' := hb1.alloc hb1.size (.cells #[.int .i64 R, .int .i64 S] 30)
  have hA : Hid (CB (w3.alloc (.cells #[.int .i64 R, .int .i64 S] 30)) w3.heap.size 30 [.int .i64 R, .int .i64 S]) := CB.new w3 _ _
  clear hb1
  generalize w3.alloc (.cells #[.int .i64 R, .int .i64 S] 30) = w4 at *
  have hb1 := hb1'; clear hb1'
  go_wp2_with fail
  refine (check_ok p Hpel _).mono ?_
  rintro e w5 ⟨rfl, hb⟩
  have hA5 := Lib.hid (CB.ext hA.out hb)
  replace hb1 := below_ext hb1 hb; clear hb
  clear hA
  have a0 : w5.cell? ⟨w3.heap.size, 0, none⟩ = some (.int .i64 R) := hA5.out.cell 0
  go_wp2_with fail
  refine (check_ok R HRel _).mono ?_
  rintro e w6 ⟨rfl, hb⟩
  have hA6 := Lib.hid (CB.ext hA5.out hb)
  replace hb1 := below_ext hb1 hb; clear hb
  clear a0 hA5
  have a0 : w6.cell? ⟨w3.heap.size, 0, none⟩ = some (.int .i64 R) := hA6.out.cell 0
  have a1 : w6.cell? ⟨w3.heap.size, 1, none⟩ = some (.int .i64 S) := hA6.out.cell 1
  go_wp2_with fail
  refine (verify_any p R S 0 0 0 _ l true _ gl0.out (HB.out.ext hb1) (HL.out.ext hb1) (Lib.hid (ElE.ok Hpel.out)) (Lib.hid (ElE.ok HRel.out)) (Lib.hid (ScE.ok HSl.out)) hver).mono ?_
  rintro e w7 ⟨rfl, hb⟩
  replace hb1 := below_ext hb1 hb; clear hb
  go_wp2_with fail
  go_ret
  exact ⟨rfl, hb1⟩
end Go.Proofs.YtmhmenmkgbebcaaDoor
