/- chapter 04's law: sane; minus. -/
import Derived.Test.YtmhmenmkgbebcaaDoorSve
import Derived.Test.YtmhmenmkgbebcaaDoorSla
namespace Go.Proofs.YtmhmenmkgbebcaaDoor
open Go.RowKit Go.Shelf
theorem lit7 (w : World) : BtsAt (w.alloc (.cells #[.int .u8 7] 5)).heap.size (w.alloc (.cells #[.int .u8 7] 5)) [7] (.slice (some ⟨w.heap.size, 0, none⟩) 1 1) :=
  BtsAt.mk' rfl (Nat.le_refl _) (by decide) (by simp) fun j c hj => by
    rw [Nat.zero_add, (CB.new w 5 [.int .u8 7]).cell j]
    match j, hj with
    | 0, hj => simp at hj; subst hj; rfl
theorem nilB (w : World) : BtsAt w.heap.size w [] (.slice none 0 0) := .inl ⟨rfl, none, 0, rfl, Nat.zero_le _⟩
theorem pr_one : Hid (ZPr ((1 : Nat) : Int)) := (⟨by decide, by decide⟩ : ZPr ((1 : Nat) : Int))
theorem pr_zero : Hid (¬ ZPr 0) := fun h => absurd h.1 (by decide)
theorem pr_Q : Hid (¬ ZPr 2305843009213688669) := fun h => absurd h.2 (by decide)
theorem pw41 : Hid (pw 4 1 = 4) := pw_one el_four
theorem ver_ok {x k c p R S m : Nat} {l : List UInt8} (hR : pw 4 k = R) (hp : pw 4 x = p) (hc : chalK R p l = c) (hm : c * x % cQ = m) (hS : (k + m) % cQ = S) :
    VerCase (p : Int) (R : Int) (S : Int) 0 0 0 l true := by
  refine .inr ⟨rfl, rfl, rfl, p, R, S, pw 4 S, pw p c, c, R * pw p c % cP, rfl, rfl, rfl, hp ▸ pw_el el_four x, hR ▸ pw_el el_four k, by rw [← hS]; exact Nat.mod_lt _ (by decide), hc, rfl, rfl, rfl, ?_⟩
  have h := sig_eq k c x
  have hs : sigS k c x = S := by unfold sigS; rw [hm, hS]
  rw [hs, hp, hR] at h
  rw [h]; simp
theorem ElE.ok {n : Nat} (h : isEl n) : ElE (n : Int) 0 := .inl ⟨zel_nat h, rfl⟩
theorem ScE.ok {n : Nat} (h : n < cQ) : ScE (n : Int) 0 := .inl ⟨zsc_nat h, rfl⟩
theorem el_zero_bad : ElE 0 30 := .inr ⟨fun h => absurd h.1 (by decide), rfl⟩
theorem sc_zero : ScE 0 0 := .inl ⟨⟨by decide, by decide⟩, rfl⟩
theorem sc_Q_bad : ScE 2305843009213688669 1 := .inr ⟨fun h => absurd h.2 (by decide), rfl⟩
set_option maxRecDepth 100000 in
set_option maxHeartbeats 4000000 in
theorem sane4_any (w : World) (hL : Laid w) : Calls Tryd.prog 11 #[] w fun e w' => e = .returned (.bool true) ∧ Below w.heap.size w w' := by
  have HL := Lib.hid hL
  clear hL
  obtain ⟨k, hk⟩ : ∃ k, nonceK ((1 : Nat) : Int) [7] = k := ⟨_, rfl⟩
  obtain ⟨R, hR⟩ : ∃ R, pw 4 k = R := ⟨_, rfl⟩
  obtain ⟨c, hc⟩ : ∃ c, chalK R ((4 : Nat) : Int) [7] = c := ⟨_, rfl⟩
  obtain ⟨m, hm⟩ : ∃ m, c * 1 % cQ = m := ⟨_, rfl⟩
  obtain ⟨S, hS⟩ : ∃ S, (k + m) % cQ = S := ⟨_, rfl⟩
  have Hk := Lib.hid hk; have HR := Lib.hid hR; have Hc := Lib.hid hc; have Hm := Lib.hid hm; have HS := Lib.hid hS
  have hRel : isEl R := hR ▸ pw_el el_four k
  have HRel := Lib.hid hRel
  have hSl : S < cQ := by rw [← hS]; exact Nat.mod_lt _ (by decide)
  have HSl := Lib.hid hSl
  have tR : decide ((0 : Int) < (R : Int)) = true := by simp; have := hRel.1; omega
  have tR' : decide (0 < R) = true := by simp; have := hRel.1; omega
  obtain ⟨x, hx⟩ : ∃ x, privK (List.replicate 32 0) (⟨#[]⟩ : ByteArray).data.toList 0 = x := ⟨_, rfl⟩
  have Hx := Lib.hid hx
  have hx1 : 1 ≤ x ∧ x < cQ := by rw [← hx]; exact scalF_lt _ _
  have tx : decide ((x : Int) < 1) = false := by simp; omega
  have tx2 : decide ((2305843009213688669 : Int) ≤ (x : Int)) = false := decide_eq_false (Int.not_le.2 (Int.ofNat_lt.2 hx1.2))
  clear hk hR hc hm hS hRel hSl hx hx1
  go_enter Tryd.func11, Tryd.ntmps11
  go_wp2_with fail
  refine (public_ok 1 4 pr_one pw41 _).mono ?_
  rintro e w1 ⟨rfl, hb⟩
  have hb1 := Lib.hid hb; clear hb
  go_wp2_with fail
  refine (public_bad 0 pr_zero _).mono ?_
  rintro e w2 ⟨rfl, rfl⟩
  go_wp2_with fail
  refine (public_bad _ pr_Q _).mono ?_
  rintro e w2 ⟨rfl, rfl⟩
  go_wp2_with fail
  refine (sign_bad 0 _ _ _ _ pr_zero).mono ?_
  rintro e w2 ⟨rfl, hb⟩
  have hb2 := Lib.hid (below_ext hb1.out hb); clear hb hb1
  go_upto_region 5 with fail
  have hb3 := Lib.hid (hb2.out.alloc hb2.out.size (.cells #[.int .i64 0, .int .i64 0] 30)); clear hb2
  generalize w2.alloc (.cells #[.int .i64 0, .int .i64 0] 30) = w3 at *
  go_wp2_with fail
  have hbx := hb3.out.alloc hb3.out.size (.cells #[.int .u8 7] 5)
  refine (sign_ok 1 _ [7] _ k R c 4 m S pr_one (by decide) (lit7 _) (HL.out.ext hbx) Hk HR pw41 Hc Hm HS).mono ?_
  rintro e w4 ⟨rfl, hb⟩
  have hb4 := Lib.hid (below_ext hbx hb); clear hb hbx hb3
  go_upto_region 6 with fail
  have hb5 := Lib.hid (hb4.out.alloc hb4.out.size (.cells #[.int .i64 R, .int .i64 S] 30))
  have hA5 : Hid (CB (w4.alloc (.cells #[.int .i64 R, .int .i64 S] 30)) w4.heap.size 30 [.int .i64 R, .int .i64 S]) := CB.new w4 _ _
  clear hb4
  generalize w4.alloc (.cells #[.int .i64 R, .int .i64 S] 30) = w5 at *
  go_wp2_with fail
  have hbx := hb5.out.alloc hb5.out.size (.cells #[.int .u8 7] 5)
  refine (sign_ok 1 _ [7] _ k R c 4 m S pr_one (by decide) (lit7 _) (HL.out.ext hbx) Hk HR pw41 Hc Hm HS).mono ?_
  rintro e w6 ⟨rfl, hb⟩
  have hb6 := Lib.hid (below_ext hbx hb)
  have hA6 := Lib.hid (CB.ext (hA5.out.alloc (.cells #[.int .u8 7] 5)) hb)
  clear hb hbx hb5 hA5
  go_upto_region 7 with fail
  have hb7 := Lib.hid (hb6.out.alloc hb6.out.size (.cells #[.int .i64 R, .int .i64 S] 30))
  have hA7 := Lib.hid (hA6.out.alloc (.cells #[.int .i64 R, .int .i64 S] 30))
  have hB7 : Hid (CB (w6.alloc (.cells #[.int .i64 R, .int .i64 S] 30)) w6.heap.size 30 [.int .i64 R, .int .i64 S]) := CB.new w6 _ _
  clear hb6 hA6
  generalize w6.alloc (.cells #[.int .i64 R, .int .i64 S] 30) = w7 at *
  go_wp2_with fail
  refine (private_any (List.replicate 32 0) ⟨#[]⟩ 0 x _ (by simp) (by decide) (HL.out.ext hb7.out) Hx).mono ?_
  rintro e w8 ⟨rfl, hb⟩
  have hb8 := Lib.hid (below_ext hb7.out hb)
  have hA8 := Lib.hid (CB.ext hA7.out hb)
  have hB8 := Lib.hid (CB.ext hB7.out hb)
  clear hb hb7 hA7 hB7
  have a0 : w8.cell? ⟨w4.heap.size, 0, none⟩ = some (.int .i64 R) := hA8.out.cell 0
  have a1 : w8.cell? ⟨w4.heap.size, 1, none⟩ = some (.int .i64 S) := hA8.out.cell 1
  have b0 : w8.cell? ⟨w6.heap.size, 0, none⟩ = some (.int .i64 R) := hB8.out.cell 0
  have b1 : w8.cell? ⟨w6.heap.size, 1, none⟩ = some (.int .i64 S) := hB8.out.cell 1
  have hver : Hid (VerCase ((4 : Nat) : Int) (R : Int) (S : Int) 0 0 0 [7] true) := ver_ok HR.out pw41.out Hc.out Hm.out HS.out
  go_wp2_with fail
  refine (verify_any 0 0 0 30 30 0 _ [] false _ (by decide) (nilB _) (HL.out.ext hb8.out) (Lib.hid el_zero_bad) (Lib.hid el_zero_bad) (Lib.hid sc_zero) (Lib.hid (.inl ⟨by decide, rfl⟩))).mono ?_
  rintro e w9 ⟨rfl, hb⟩
  have hb9 := Lib.hid (below_ext hb8.out hb)
  have hA9 := Lib.hid (CB.ext hA8.out hb)
  clear hb hb8 hA8 hB8 a0 a1 b0 b1
  go_wp2_with fail
  refine (verify_any 4 4 _ 0 0 1 _ [] false _ (by decide) (nilB _) (HL.out.ext hb9.out) (Lib.hid (ElE.ok el_four)) (Lib.hid (ElE.ok el_four)) (Lib.hid sc_Q_bad) (Lib.hid (.inl ⟨by decide, rfl⟩))).mono ?_
  rintro e w10 ⟨rfl, hb⟩
  have hb10 := Lib.hid (below_ext hb9.out hb)
  have hA10 := Lib.hid (CB.ext hA9.out hb)
  clear hb hb9 hA9
  have a0 : (w10.alloc (.cells #[.int .u8 7] 5)).cell? ⟨w4.heap.size, 0, none⟩ = some (.int .i64 R) := (hA10.out.alloc _).cell 0
  have a1 : (w10.alloc (.cells #[.int .u8 7] 5)).cell? ⟨w4.heap.size, 1, none⟩ = some (.int .i64 S) := (hA10.out.alloc _).cell 1
  go_wp2_with fail
  have hbx := hb10.out.alloc hb10.out.size (.cells #[.int .u8 7] 5)
  refine (verify_any 4 R S 0 0 0 _ [7] true _ (by decide) (lit7 _) (HL.out.ext hbx) (Lib.hid (ElE.ok el_four)) (Lib.hid (ElE.ok HRel.out)) (Lib.hid (ScE.ok HSl.out)) hver).mono ?_
  rintro e w11 ⟨rfl, hb⟩
  have hb11 := Lib.hid (below_ext hbx hb)
  clear hb hbx
  go_wp2_with fail
  go_ret
  exact ⟨rfl, hb11.out⟩
end Go.Proofs.YtmhmenmkgbebcaaDoor
