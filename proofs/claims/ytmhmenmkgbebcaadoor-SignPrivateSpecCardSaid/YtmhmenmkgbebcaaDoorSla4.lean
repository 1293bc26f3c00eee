/- SignPrivateSpec: the walk. -/
import Derived.Test.YtmhmenmkgbebcaaDoorSlv
namespace Go.Proofs.YtmhmenmkgbebcaaDoor
open Go.RowKit Go.Shelf
set_option maxRecDepth 100000 in
set_option maxHeartbeats 4000000 in
theorem signPrivateSpec_walk (d : List UInt8) (s : ByteArray) (i : Int) (w : World) (hd : d.length = 32) (hs : s.size ≤ 9223372036854775807) (hL : Laid w) :
    Calls Tryd.prog 4 #[dv d, .string s, .int .i64 i] w (TruePost w) := by
  have HL := Lib.hid hL; clear hL
  have Hd := Lib.hid hd; clear hd
  change Calls Tryd.prog 4 #[.agg (bcells d).toArray, .string s, .int .i64 i] w _
  by_cases g0 : 1000 < s.size
  · have t0 : decide ((1000 : Int) < (s.size : Int)) = true := by simp; omega
    clear g0
    go_enter Tryd.func4, Tryd.ntmps4
    go_wp2_with fail
    refine (sane4_any _ (HL.out.ext ((Below.refl w.heap.size w).alloc (Nat.le_refl _) _))).mono ?_
    rintro e w1 ⟨rfl, hb1⟩
    go_wp2_with fail
    go_ret
    exact ⟨rfl, below_after hb1⟩
  have t0 : decide ((1000 : Int) < (s.size : Int)) = false := by simp; omega
  have gl0 : Hid (s.size ≤ 50000) := by show _ ≤ _; omega
  obtain ⟨n, hn⟩ : ∃ n, privK d s.data.toList i = n := ⟨_, rfl⟩
  have Hn := Lib.hid hn
  have hz : Hid (ZPr (n : Int)) := by
    have h := scalF_lt sPriv.data.toList ((d ++ b8 i) ++ s.data.toList)
    show ZPr _; rw [← hn]; exact ⟨by unfold privK; omega, Int.ofNat_lt.2 h.2⟩
  obtain ⟨p, hp⟩ : ∃ p, pw 4 n = p := ⟨_, rfl⟩
  have Hp := Lib.hid hp
  have hcb0 : Hid (CB (w.alloc (.cells (bcells d).toArray 35)) w.heap.size 35 (bcells d)) := CB.new w _ _
  have hb0 := Lib.hid ((Below.refl w.heap.size w).alloc (Nat.le_refl _) (.cells (bcells d).toArray 35))
  clear hn hp g0 hs
  go_enter Tryd.func4, Tryd.ntmps4
  go_upto_region 1 with fail
  generalize w.alloc (.cells (bcells d).toArray 35) = w0 at *
  go_wp2_with fail
  refine (sane4_any _ (HL.out.ext hb0.out)).mono ?_
  rintro e w1 ⟨rfl, hb⟩
  have hA1 := Lib.hid (CB.ext hcb0.out hb)
  have hb1 := below_ext hb0.out hb
  clear hb hcb0 hb0
  go_wp2_with (with_reducible refine wpList_load_d (hgd := rfl) 35 (.tmp 3) rfl w.heap.size d Hd.out rfl 35 _ hA1.out Tryd.underlying35 rfl dig_sz ?_)
  refine (private_any d s i n _ Hd.out gl0.out (HL.out.ext hb1) Hn).mono ?_
  rintro e w2 ⟨rfl, hb⟩
  have hA2 := Lib.hid (CB.ext hA1.out hb)
  replace hb1 := below_ext hb1 hb; clear hb hA1
  go_wp2_with fail
  refine (public_ok n p hz Hp _).mono ?_
  rintro e w3 ⟨rfl, hb⟩
  have hA3 := Lib.hid (CB.ext hA2.out hb)
  replace hb1 := below_ext hb1 hb; clear hb
  clear hA2
  go_wp2_with (with_reducible refine wpList_load_d (hgd := rfl) 35 (.tmp 3) rfl w.heap.size d Hd.out rfl 35 _ hA3.out Tryd.underlying35 rfl dig_sz ?_)
  refine (rprivate_any d s i n _ Hd.out gl0.out Hn).mono ?_
  rintro e w4 ⟨rfl, hb⟩
  replace hb1 := below_ext hb1 hb; clear hb hA3
  go_wp2_with fail
  go_ret
  exact ⟨rfl, hb1⟩
end Go.Proofs.YtmhmenmkgbebcaaDoor
