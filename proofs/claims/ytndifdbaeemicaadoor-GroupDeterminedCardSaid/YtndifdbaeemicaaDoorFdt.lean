/- GroupDetermined: the walk. -/
import Derived.Test.YtndifdbaeemicaaDoorFls
import Derived.Test.YtndifdbaeemicaaDoorFeq
import Derived.Test.YtndifdbaeemicaaDoorNpw
namespace Go.Proofs.YtndifdbaeemicaaDoor
open Go.RowKit Go.Shelf
theorem scalF_pos (t l : List UInt8) : 1 ≤ scalF t l ∧ scalF t l < cQ := by
  have h := restM_lt (tagged t l)
  have e : cM + 1 = cQ := by decide
  unfold scalF; omega
set_option maxRecDepth 100000 in
set_option maxHeartbeats 2000000 in
theorem determined_walk (s o : ByteArray) (v : Value) (l : List UInt8) (u : Value) (m : List UInt8) (w : World) (hs : s.size ≤ 140737488351232) (ho : o.size ≤ 140737488351232) (hl : l.length ≤ 140737488351232) (hb : BtsAt w.heap.size w l v) (hm : m.length ≤ 140737488351232)
    (hc : BtsAt w.heap.size w m u) (hL : Laid w) :
    Calls Tryd.prog 4 #[.string s, .string o, v, u] w (TruePost w) := by
  have HB := Lib.hid hb; have HC := Lib.hid hc; have HL := Lib.hid hL
  obtain ⟨oa, cap, rfl⟩ := hb.shape
  obtain ⟨oc, cac, rfl⟩ := hc.shape
  clear hb hL hc
  have e1' : wrap64 ((s.size : Int) + (o.size : Int)) = ((s.size + o.size : Nat) : Int) := by unfold wrap64; omega
  have e1 : IntKind.i64.wrap ((s.size : Int) + (o.size : Int)) = ((s.size + o.size : Nat) : Int) := (IntWalk.i64_left _).trans e1'
  have e2' : wrap64 ((l.length : Int) + (m.length : Int)) = ((l.length + m.length : Nat) : Int) := by unfold wrap64; omega
  have e2 : IntKind.i64.wrap ((l.length : Int) + (m.length : Int)) = ((l.length + m.length : Nat) : Int) := (IntWalk.i64_left _).trans e2'
  obtain ⟨p, hp⟩ : ∃ p, s.size + o.size = p := ⟨_, rfl⟩
  obtain ⟨q, hq⟩ : ∃ q, l.length + m.length = q := ⟨_, rfl⟩
  rw [hp] at e1 e1'; rw [hq] at e2 e2'
  have Hs := Lib.hid hs; have Ho := Lib.hid ho; have Hl := Lib.hid hl; have Hm := Lib.hid hm; have Hp := Lib.hid hp; have Hq := Lib.hid hq
  clear hs ho hl hm hp hq
  by_cases h1 : 300 < p
  · have t1 : decide ((300 : Int) < (p : Int)) = true := by simp; omega
    go_enter Tryd.func4, Tryd.ntmps4
    go_wp2_with fail
    refine (sane_any _).mono ?_
    rintro e w1 ⟨rfl, hb1⟩
    go_wp2_with fail
    go_ret
    exact ⟨rfl, hb1⟩
  by_cases h2 : 1000 < q
  · have t1 : decide ((300 : Int) < (p : Int)) = false := by simp; omega
    have t2 : decide ((1000 : Int) < (q : Int)) = true := by simp; omega
    go_enter Tryd.func4, Tryd.ntmps4
    go_wp2_with fail
    refine (sane_any _).mono ?_
    rintro e w1 ⟨rfl, hb1⟩
    go_wp2_with fail
    go_ret
    exact ⟨rfl, hb1⟩
  have t1 : decide ((300 : Int) < (p : Int)) = false := by simp; omega
  have t2 : decide ((1000 : Int) < (q : Int)) = false := by simp; omega
  have H1 := Lib.hid h1; have H2 := Lib.hid h2
  clear h1 h2
  obtain ⟨n, hn⟩ : ∃ n, scalF s.data.toList l = n := ⟨_, rfl⟩
  have hn1 := scalF_pos s.data.toList l
  rw [hn] at hn1
  obtain ⟨y, hy⟩ : ∃ y, pw 4 n = y := ⟨_, rfl⟩
  have hy1 : isEl y := hy ▸ pw_el el_four n
  have hy2 : y ≠ 1 := hy ▸ pw_ne el_four (by decide) hn1.1 hn1.2
  have t3 : decide ((n : Int) < 1) = false := by simp; omega
  have t4 : decide ((2305843009213688669 : Int) ≤ (n : Int)) = false := by
    have := hn1.2; unfold cQ at this; simp; omega
  have t5 : decide ((y : Int) = 1) = false := by simp; omega
  have t5' : ((y : Int) == 1) = false := by simp; omega
  have Hn := Lib.hid hn; have Hn1 := Lib.hid hn1.2; have Hy := Lib.hid hy; have Hy1 := Lib.hid hy1
  clear hn hn1 hy hy1 hy2
  go_enter Tryd.func4, Tryd.ntmps4
  go_wp2_with fail
  refine (sane_any _).mono ?_
  rintro e w1 ⟨rfl, hb1⟩
  go_wp2_with fail
  refine (scalar_any s _ l _ (by have := Hp.out; have := H1.out; omega) (by have := Hq.out; have := H2.out; omega) (HB.out.ext hb1) (HL.out.ext hb1)).mono ?_
  rw [Hn.out]
  rintro e w2 ⟨rfl, hb⟩
  replace hb1 := below_ext hb1 hb; clear hb
  go_wp2_with fail
  refine (base_ok n y Hn1 Hy _).mono ?_
  rintro e w3 ⟨rfl, hb⟩
  replace hb1 := below_ext hb1 hb; clear hb
  go_wp2_with fail
  refine (check_ok y Hy1 _).mono ?_
  rintro e w4 ⟨rfl, hb⟩
  replace hb1 := below_ext hb1 hb; clear hb
  obtain ⟨d1, hd1⟩ : ∃ d, tagged s.data.toList l = d := ⟨_, rfl⟩
  obtain ⟨d2, hd2⟩ : ∃ d, tagged o.data.toList m = d := ⟨_, rfl⟩
  have hdl1 := tagged_len s.data.toList l
  have hdl2 := tagged_len o.data.toList m
  rw [hd1] at hdl1; rw [hd2] at hdl2
  have Hd1 := Lib.hid hd1; have Hd2 := Lib.hid hd2
  have Hdl1 := Lib.hid hdl1; have Hdl2 := Lib.hid hdl2
  clear hd1 hd2 hdl1 hdl2
  go_wp2_with fail
  refine (tagged_any s _ l _ (by have := Hp.out; have := H1.out; omega) (by have := Hq.out; have := H2.out; omega) (HB.out.ext hb1) (HL.out.ext hb1)).mono ?_
  rw [Hd1.out]
  rintro e w5 ⟨rfl, hb⟩
  replace hb1 := below_ext hb1 hb; clear hb
  go_wp2_with fail
  refine (tagged_any o _ m _ (by have := Hp.out; have := H1.out; omega) (by have := Hq.out; have := H2.out; omega) (HC.out.ext hb1) (HL.out.ext hb1)).mono ?_
  rw [Hd2.out]
  rintro e w6 ⟨rfl, hb⟩
  replace hb1 := below_ext hb1 hb; clear hb
  by_cases hdd : d1 = d2
  · have hne := neq_dv d1 d2 Hdl1.out Hdl2.out w6
    have hgd := fun x y => gd_dv .neq x y d1 d2 w6
    rw [decide_eq_true hdd] at hne
    have hsc : scalF o.data.toList m = n := by
      rw [← Hn.out]; unfold scalF; rw [Hd1.out, Hd2.out, hdd]
    have Hsc := Lib.hid hsc
    clear hsc hdd
    go_wp2_with fail
    refine (scalar_any o _ m _ (by have := Hp.out; have := H1.out; omega) (by have := Hq.out; have := H2.out; omega) (HC.out.ext hb1) (HL.out.ext hb1)).mono ?_
    rw [Hsc.out]
    rintro e w7 ⟨rfl, hb⟩
    replace hb1 := below_ext hb1 hb; clear hb
    clear hne hgd
    go_wp2_with fail
    go_ret
    exact ⟨by simp, hb1⟩
  · have hne := neq_dv d1 d2 Hdl1.out Hdl2.out w6
    have hgd := fun x y => gd_dv .neq x y d1 d2 w6
    rw [decide_eq_false hdd] at hne
    clear hdd
    go_wp2_with fail
    go_ret
    exact ⟨by simp, hb1⟩
end Go.Proofs.YtndifdbaeemicaaDoor
