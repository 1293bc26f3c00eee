/- SignNonce: the walk. -/
import Derived.Test.YtmhmenmkgbebcaaDoorSlv
namespace Go.Proofs.YtmhmenmkgbebcaaDoor
open Go.RowKit Go.Shelf
set_option maxRecDepth 100000 in
set_option maxHeartbeats 4000000 in
theorem signNonce_walk (x : Int) (v : Value) (l : List UInt8) (w : World) (hb : BtsAt w.heap.size w l v) (hL : Laid w) :
    Calls Tryd.prog 9 #[.int .i64 x, v] w (TruePost w) := by
  have HL := Lib.hid hL; clear hL
  have HB := Lib.hid hb
  obtain ⟨oa, cap, rfl⟩ := hb.shape
  clear hb
  by_cases g0 : 1000 < l.length
  · have t0 : decide ((1000 : Int) < (l.length : Int)) = true := by simp; omega
    clear g0
    go_enter Tryd.func9, Tryd.ntmps9
    go_wp2_with fail
    refine (sane4_any _ HL.out).mono ?_
    rintro e w1 ⟨rfl, hb1⟩
    go_wp2_with fail
    go_ret
    exact ⟨rfl, hb1⟩
  have t0 : decide ((1000 : Int) < (l.length : Int)) = false := by simp; omega
  have gl0 : Hid (l.length ≤ 50000) := by show _ ≤ _; omega
  obtain ⟨n, hn, hkey⟩ := key_any x
  have Hkey := Lib.hid hkey
  obtain ⟨p, hp⟩ : ∃ p, pw 4 n = p := ⟨_, rfl⟩
  have Hp := Lib.hid hp
  have hpel : isEl p := hp ▸ pw_el el_four n
  have Hpel := Lib.hid hpel
  clear hkey
  obtain ⟨k, hk⟩ : ∃ k, nonceK (n : Int) l = k := ⟨_, rfl⟩
  obtain ⟨R, hR⟩ : ∃ R, pw 4 k = R := ⟨_, rfl⟩
  obtain ⟨c, hc⟩ : ∃ c, chalK R p l = c := ⟨_, rfl⟩
  obtain ⟨m, hm⟩ : ∃ m, c * n % cQ = m := ⟨_, rfl⟩
  obtain ⟨S, hS⟩ : ∃ S, (k + m) % cQ = S := ⟨_, rfl⟩
  have Hk := Lib.hid hk; have HR := Lib.hid hR; have Hc := Lib.hid hc; have Hm := Lib.hid hm; have HS := Lib.hid hS
  have hRel : isEl R := hR ▸ pw_el el_four k
  have HRel := Lib.hid hRel
  have HSl : Hid (S < cQ) := by show _ < _; rw [← hS]; exact Nat.mod_lt _ (by decide)
  have Hkl : Hid (k < cQ) := by show _ < _; rw [← hk]; exact (scalF_lt _ _).2
  have Hcl : Hid (c < cQ) := by show _ < _; rw [← hc]; exact (scalF_lt _ _).2
  have Hml : Hid (m < cQ) := by show _ < _; rw [← hm]; exact Nat.mod_lt _ (by decide)
  have hnl : Hid (n < cQ) := Int.ofNat_lt.1 hn.out.2
  have hback := nonce_back (k := k) (c := c) (x := n) Hkl.out
  unfold mnS sigS at hback
  rw [hm, hS] at hback
  obtain ⟨m2, hm2⟩ : ∃ m, (cQ - 1) * m = m := ⟨0, rfl⟩
  clear hm2 m2
  obtain ⟨m2, hm2⟩ : ∃ m2, (cQ - 1) * m % cQ = m2 := ⟨_, rfl⟩
  rw [hm2] at hback
  have Hm2 := Lib.hid hm2; have Hback := Lib.hid hback
  obtain ⟨m1, h1⟩ : ∃ y, b8 n = y := ⟨_, rfl⟩
  have k1 := b8_len n
  rw [h1] at k1
  obtain ⟨m4, h4⟩ : ∃ y, m1 ++ l = y := ⟨_, rfl⟩
  have hfin : Hid (scalF sNonce.data.toList m4 = k) := by
    show _ = _; rw [← hk]; unfold nonceK; rw [← h4, ← h1]; simp
  have hl4 : Hid (m4.length ≤ 100000) := by show _ ≤ _; rw [← h4, List.length_append, k1]; have := gl0.out; omega
  have K1 := Lib.hid k1; have H1 := Lib.hid h1; have H4 := Lib.hid h4
  have u1 : ((R : Int) == (R : Int)) = true := by simp
  clear hk hR hc hm hS hRel hp hpel g0 hm2 hback k1 h1 h4
  go_enter Tryd.func9, Tryd.ntmps9
  go_wp2_with fail
  refine (sane4_any _ HL.out).mono ?_
  rintro e w1 ⟨rfl, hb1⟩
  go_wp2_with fail
  refine (Hkey.out _).mono ?_
  rintro e w2 ⟨rfl, rfl⟩
  go_wp2_with fail
  refine (public_ok n p hn Hp _).mono ?_
  rintro e w2 ⟨rfl, hb⟩
  replace hb1 := below_ext hb1 hb; clear hb
  go_wp2_with fail
  refine (sign_ok n _ l _ k R c p m S hn gl0.out (HB.out.ext hb1) (HL.out.ext hb1) Hk HR Hp Hc Hm HS).mono ?_
  rintro e w3 ⟨rfl, hb⟩
  replace hb1 := below_ext hb1 hb; clear hb
  go_upto_region 8 with fail
  have hb1' := hb1.alloc hb1.size (.cells #[.int .i64 R, .int .i64 S] 30)
  have hA : Hid (CB (w3.alloc (.cells #[.int .i64 R, .int .i64 S] 30)) w3.heap.size 30 [.int .i64 R, .int .i64 S]) := CB.new w3 _ _
  clear hb1
  generalize w3.alloc (.cells #[.int .i64 R, .int .i64 S] 30) = w4 at *
  have hb1 := hb1'; clear hb1'
  have a0 : w4.cell? ⟨w3.heap.size, 0, none⟩ = some (.int .i64 R) := hA.out.cell 0
  go_wp2_with fail
  refine (lchal_any p R _ l c _ gl0.out (HB.out.ext hb1) (HL.out.ext hb1) Hc).mono ?_
  rintro e w5 ⟨rfl, hb⟩
  have hA5 := Lib.hid (CB.ext hA.out hb)
  replace hb1 := below_ext hb1 hb; clear hb
  clear hA a0
  go_wp2_with fail
  refine (prod_any c n m Hcl hnl Hm _).mono ?_
  rintro e w6 ⟨rfl, hb⟩
  have hA6 := Lib.hid (CB.ext hA5.out hb)
  replace hb1 := below_ext hb1 hb; clear hb
  clear hA5
  have a1 : w6.cell? ⟨w3.heap.size, 1, none⟩ = some (.int .i64 S) := hA6.out.cell 1
  go_wp2_with fail
  refine (minus_ok S m m2 k HSl Hml Hm2 Hback _).mono ?_
  rintro e w7 ⟨rfl, hb⟩
  have hA7 := Lib.hid (CB.ext hA6.out hb)
  replace hb1 := below_ext hb1 hb; clear hb
  clear hA6 a1
  go_wp2_with fail
  refine (base_ok k R Hkl HR _).mono ?_
  rintro e w8 ⟨rfl, hb⟩
  have hA8 := Lib.hid (CB.ext hA7.out hb)
  replace hb1 := below_ext hb1 hb; clear hb
  clear hA7
  have a0 : w8.cell? ⟨w3.heap.size, 0, none⟩ = some (.int .i64 R) := hA8.out.cell 0
  go_wp2_with fail
  refine (number_any n _).mono ?_
  rw [H1.out]
  rintro e w9 ⟨v9, rfl, ho9, hb⟩
  have HO9 := Lib.hid ho9
  have hb91 := below_ext hb1 hb
  have HB91 := Lib.hid hb91
  have HB9 := Lib.hid hb
  have S9 := Lib.hid (SrcB.ofBts (P := Tryd.prog) Tryd.underlying22 (HB.out.ext hb91))
  have Hsz8 := Lib.hid hb1.size
  clear ho9 hb hb1 hb91 a0
  go_wp2_with (at_builtin; refine wpList_append_Bg (e := 5) Tryd.underlying22 (by kernel_rfl) (by first | rfl | simp [Region.wanted, yielded]) (.tmp 81) (.tmp 82) rfl w8.heap.size v9 m1 rfl HO9.out _ l rfl S9.out (by rw [K1.out]; have := gl0.out; omega) HB9.out.size ?_; intro v10 w10 ho10 hg10 hn10; rw [H4.out] at ho10)
  have hb1 := HB91.out.grown hg10 HB91.out.size (fun g hg => Nat.le_trans Hsz8.out (World.ownsRow.lt HO9.out g hg).1)
  have HO10 := Lib.hid (own_bts ho10)
  obtain ⟨oa10, cp10, rfl⟩ := OwnB.form ho10
  clear ho10 hg10 hn10
  go_wp2_with fail
  refine (scalar_any sNonce _ m4 _ (by decide) hl4.out HO10.out (HL.out.ext hb1)).mono ?_
  rw [hfin.out]
  rintro e w11 ⟨rfl, hb⟩
  replace hb1 := below_ext hb1 hb; clear hb
  go_wp2_with fail
  go_ret
  exact ⟨rfl, hb1⟩
end Go.Proofs.YtmhmenmkgbebcaaDoor
