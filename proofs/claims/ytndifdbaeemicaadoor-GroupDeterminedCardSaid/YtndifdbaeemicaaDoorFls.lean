/- GroupScalarsSpec: the walk. -/
import Derived.Test.YtndifdbaeemicaaDoorFsp
import Derived.Test.YtndifdbaeemicaaDoorGsn
namespace Go.Proofs.YtndifdbaeemicaaDoor
open Go.RowKit Go.Shelf
def TruePost (w : World) (e : Ending) (w' : World) : Prop := e = .returned (.bool true) ∧ Below w.heap.size w w'
set_option maxRecDepth 100000 in
set_option maxHeartbeats 2000000 in
theorem scalarsSpec_walk (a b : Int) (s : ByteArray) (v : Value) (l : List UInt8) (w : World) (hs : s.size ≤ 9223372036854775807) (hb : BtsAt w.heap.size w l v) (hL : Laid w) :
    Calls Tryd.prog 3 #[.int .i64 a, .int .i64 b, .string s, v] w (TruePost w) := by
  have HB := Lib.hid hb; have HL := Lib.hid hL
  obtain ⟨oa, cap, rfl, hbc, hbm⟩ := hb.form
  have hll : l.length ≤ 9223372036854775807 := by unfold maxLen at hbm; omega
  clear hb hL hbc hbm
  by_cases h1 : 300 < s.size
  · have t1 : decide ((300 : Int) < (s.size : Int)) = true := by simp; omega
    go_enter Tryd.func3, Tryd.ntmps3
    go_wp2_with fail
    refine (sane_any _).mono ?_
    rintro e w1 ⟨rfl, hb1⟩
    go_wp2_with fail
    go_ret
    exact ⟨rfl, hb1⟩
  by_cases h2 : 1000 < l.length
  · have t1 : decide ((300 : Int) < (s.size : Int)) = false := by simp; omega
    have t2 : decide ((1000 : Int) < (l.length : Int)) = true := by simp; omega
    go_enter Tryd.func3, Tryd.ntmps3
    go_wp2_with fail
    refine (sane_any _).mono ?_
    rintro e w1 ⟨rfl, hb1⟩
    go_wp2_with fail
    go_ret
    exact ⟨rfl, hb1⟩
  have t1 : decide ((300 : Int) < (s.size : Int)) = false := by simp; omega
  have t2 : decide ((1000 : Int) < (l.length : Int)) = false := by simp; omega
  have hs3 : s.size ≤ 300 := by omega
  have hl3 : l.length ≤ 1000 := by omega
  clear h1 h2
  obtain ⟨n, hn⟩ : ∃ n, scalF s.data.toList l = n := ⟨_, rfl⟩
  have Hn := Lib.hid hn
  clear hn
  go_enter Tryd.func3, Tryd.ntmps3
  go_wp2_with fail
  refine (sane_any _).mono ?_
  rintro e w1 ⟨rfl, hb1⟩
  go_wp2_with fail
  refine (gsum_any a b _).mono ?_
  rintro e w2 ⟨⟨r, k, rfl, hc⟩, hb⟩
  replace hb1 := below_ext hb1 hb; clear hb
  have Hc := Lib.hid hc; clear hc
  go_wp2_with fail
  refine (rSum_any a b _).mono ?_
  rintro e w3 ⟨⟨r', k', rfl, hc⟩, hb⟩
  replace hb1 := below_ext hb1 hb; clear hb
  obtain ⟨rfl, rfl⟩ := ScPost.same (f := fun a b => (a + b) % cQ) Hc.out hc
  clear hc Hc
  go_wp2_with fail
  refine (gprod_any a b _).mono ?_
  rintro e w4 ⟨⟨p, q, rfl, hc⟩, hb⟩
  replace hb1 := below_ext hb1 hb; clear hb
  have Hc := Lib.hid hc; clear hc
  go_wp2_with fail
  refine (rProd_any a b _).mono ?_
  rintro e w5 ⟨⟨p', q', rfl, hc⟩, hb⟩
  replace hb1 := below_ext hb1 hb; clear hb
  obtain ⟨rfl, rfl⟩ := ScPost.same (f := fun a b => a * b % cQ) Hc.out hc
  clear hc Hc
  go_wp2_with fail
  refine (scalar_any s _ l _ (by omega) (by omega) (HB.out.ext hb1) (HL.out.ext hb1)).mono ?_
  rw [Hn.out]
  rintro e w6 ⟨rfl, hb⟩
  replace hb1 := below_ext hb1 hb; clear hb
  go_wp2_with fail
  refine (rscalar_any s _ l _ (by omega) (by omega) (HB.out.ext hb1)).mono ?_
  rw [Hn.out]
  rintro e w7 ⟨rfl, hb⟩
  replace hb1 := below_ext hb1 hb; clear hb
  go_wp2_with fail
  go_ret
  exact ⟨by simp, hb1⟩
end Go.Proofs.YtndifdbaeemicaaDoor
