/- what the laws of chapter 22 share; ReportsCodeSpec: the walk. -/
import Derived.Test.YtgdbmoggpfpkkaaK12
namespace Go.Proofs.Ytgdbmoggpfpkkaa
open Go.RowKit
theorem shortB_one (r : Rp) : shortB [r] = decide (r.cl.size ≤ 200) := by unfold shortB; simp
theorem EncRP.any {r : Rp} {w w' : World} {e : Ending} (p : EncRP r w e w') : ∃ oa cap, e = .returned (.tuple #[.slice oa (encR r).length cap, .int .i64 (if repB 4 3 r then 0 else 220)]) ∧ RdB w' (.slice oa (encR r).length cap) (encR r) ∧ Below w.heap.size w w' := by
  obtain ⟨v, rfl, hv, hb⟩ := p
  obtain ⟨oa, cap, rfl⟩ := hv.form
  exact ⟨oa, cap, rfl, hv, hb⟩
theorem DecRP.any {l : List UInt8} {r : Rp} {k : Int} {w w' : World} {e : Ending} (p : DecRP l w e w') (h1 : (decR l).1.getD rpZ = r) (h2 : (decR l).2 = k) : e = .returned (.tuple #[.agg #[.int .i64 r.st, .int .i64 r.no, .int .i64 r.mi, .int .i64 r.ar, .string r.cl, .int .i64 r.vo], .int .i64 k]) ∧ Below w.heap.size w w' := by
  unfold DecRP at p; rw [h1, h2] at p; exact p
theorem short1 (r : Rp) (t : Bool) (h : decide (r.cl.size ≤ 200) = t) (w : World) :
    Calls Try.prog 12 #[.slice (some ⟨w.heap.size, 0, none⟩) 1 1] (w.alloc (.cells #[.int .i64 r.st, .int .i64 r.no, .int .i64 r.mi, .int .i64 r.ar, .string r.cl, .int .i64 r.vo] 23)) fun e w' => e = .returned (.bool t) ∧ Below w.heap.size w w' := by
  refine (short_any [r] _ _ (rps_one (CB.new w _ r.cells))).mono ?_
  rw [shortB_one, h]
  rintro e w' ⟨rfl, hb⟩
  exact ⟨rfl, below_after hb⟩
set_option maxRecDepth 100000 in
set_option maxHeartbeats 4000000 in
theorem codeSpec22_walk (r : Rp) (raw : List UInt8) (v : Value) (w : World) (hs : r.cl.size ≤ maxLen) (hr2 : BtsAt w.heap.size w raw v) : Calls Try.prog 4 #[r.v, v] w (BoolPost true w) := by
  have HW := Lib.hid hr2
  obtain ⟨ob, cap2, rfl, hbc, hbm⟩ := hr2.form
  have hrl : raw.length ≤ 9223372036854775807 := by unfold maxLen at hbm; omega
  have Hs : Hid (r.cl.size ≤ 9223372036854775807) := by show _ ≤ _; unfold maxLen at hs; omega
  clear hr2 hbc hbm hs
  have hcb0 : Hid (CB (w.alloc (.cells #[.int .i64 r.st, .int .i64 r.no, .int .i64 r.mi, .int .i64 r.ar, .string r.cl, .int .i64 r.vo] 23)) w.heap.size 23 r.cells) := CB.new w _ _
  have hb0 := Lib.hid ((Below.refl w.heap.size w).alloc (Nat.le_refl _) (.cells #[.int .i64 r.st, .int .i64 r.no, .int .i64 r.mi, .int .i64 r.ar, .string r.cl, .int .i64 r.vo] 23))
  change Calls Try.prog 4 #[.agg #[.int .i64 r.st, .int .i64 r.no, .int .i64 r.mi, .int .i64 r.ar, .string r.cl, .int .i64 r.vo], .slice ob raw.length cap2] w _
  obtain ⟨sh, hsh⟩ : ∃ t, decide (r.cl.size ≤ 200) = t := ⟨_, rfl⟩
  have Hsh := Lib.hid hsh; clear hsh
  go_enter Try.func4, Try.ntmps4
  go_upto_region 1 with fail
  generalize w.alloc (.cells #[.int .i64 r.st, .int .i64 r.no, .int .i64 r.mi, .int .i64 r.ar, .string r.cl, .int .i64 r.vo] 23) = w0 at *
  go_wp2_with fail
  refine (sane22_any _).mono ?_
  rintro e w1 ⟨rfl, hb⟩
  have H1 := Lib.hid (below_ext hb0.out hb)
  have HA1 := Lib.hid (hcb0.out.ext hb)
  clear hb hb0 hcb0
  obtain ⟨c0, c1, c2, c3, c4, c5⟩ := RpAt.of_cb HA1.out
  go_wp2_with fail
  refine (short1 r sh Hsh.out _).mono ?_
  rintro e w2 ⟨rfl, hb⟩
  have H2 := Lib.hid (below_ext H1.out hb)
  have HA2 := Lib.hid (HA1.out.ext hb)
  clear hb c0 c1 c2 c3 c4 c5
  cases sh
  case false =>
    go_wp2_with fail
    go_ret
    exact ⟨rfl, H2.out⟩
  case true =>
  by_cases h300 : 300 < raw.length
  · have t3 : decide ((300 : Int) < (raw.length : Int)) = true := by simp; omega
    go_wp2_with fail
    go_ret
    exact ⟨rfl, H2.out⟩
  have t3 : decide ((300 : Int) < (raw.length : Int)) = false := by simp; omega
  have Hr3 : Hid (raw.length ≤ 300) := by show _ ≤ _; omega
  clear h300
  obtain ⟨c0, c1, c2, c3, c4, c5⟩ := RpAt.of_cb HA2.out
  obtain ⟨E, hE⟩ : ∃ E : Int, (if repB 4 3 r then (0 : Int) else 220) = E := ⟨_, rfl⟩
  have HE := Lib.hid hE; clear hE
  obtain ⟨D, hD⟩ : ∃ D : Rp, (decR raw).1.getD rpZ = D := ⟨_, rfl⟩
  obtain ⟨k, hk⟩ : ∃ k : Int, (decR raw).2 = k := ⟨_, rfl⟩
  have HD := Lib.hid hD; have Hk := Lib.hid hk; clear hD hk
  go_wp2_with fail
  refine (encode22_any r _ Hs.out).mono ?_
  intro e w3 hp
  obtain ⟨oa3, cap3, rfl, hv3, hb⟩ := hp.any
  rw [HE.out]
  have H3 := Lib.hid (below_ext H2.out hb)
  have HA3 := Lib.hid (HA2.out.ext hb)
  have HX3 := Lib.hid hv3
  clear hb hp hv3 c0 c1 c2 c3 c4 c5
  obtain ⟨c0, c1, c2, c3, c4, c5⟩ := RpAt.of_cb HA3.out
  go_wp2_with fail
  refine (rencode22_any r _ Hs.out).mono ?_
  intro e w4 hp
  obtain ⟨oa4, cap4, rfl, hv4, hb⟩ := hp.any
  rw [HE.out]
  have H4 := Lib.hid (below_ext H3.out hb)
  have HX4 := Lib.hid (HX3.out.ext hb)
  have HY4 := Lib.hid hv4
  clear hb hp hv4 c0 c1 c2 c3 c4 c5
  go_wp2_with fail
  refine (decode22_any raw (by have := Hr3.out; omega) _ _ (HW.out.ext H4.out)).mono ?_
  intro e w5 hp
  obtain ⟨rfl, hb⟩ := hp.any HD.out Hk.out
  have H5 := Lib.hid ((below_ext H4.out hb).alloc (below_ext H4.out hb).size (.cells #[.int .i64 D.st, .int .i64 D.no, .int .i64 D.mi, .int .i64 D.ar, .string D.cl, .int .i64 D.vo] 23))
  have hbz := hb.alloc hb.size (.cells #[.int .i64 D.st, .int .i64 D.no, .int .i64 D.mi, .int .i64 D.ar, .string D.cl, .int .i64 D.vo] 23)
  have HX5 := Lib.hid (HX4.out.ext hbz)
  have HY5 := Lib.hid (HY4.out.ext hbz)
  have HP5 : Hid (CB (w5.alloc (.cells #[.int .i64 D.st, .int .i64 D.no, .int .i64 D.mi, .int .i64 D.ar, .string D.cl, .int .i64 D.vo] 23)) w5.heap.size 23 D.cells) := CB.new w5 _ _
  clear hb hp hbz
  go_upto_region 8 with fail
  generalize w5.alloc (.cells #[.int .i64 D.st, .int .i64 D.no, .int .i64 D.mi, .int .i64 D.ar, .string D.cl, .int .i64 D.vo] 23) = w6 at *
  go_wp2_with fail
  refine (rdecode22_any raw (by have := Hr3.out; omega) _ _ (HW.out.ext H5.out)).mono ?_
  intro e w7 hp
  obtain ⟨rfl, hb⟩ := hp.any HD.out Hk.out
  have H7 := Lib.hid ((below_ext H5.out hb).alloc (below_ext H5.out hb).size (.cells #[.int .i64 D.st, .int .i64 D.no, .int .i64 D.mi, .int .i64 D.ar, .string D.cl, .int .i64 D.vo] 23))
  have hbz := hb.alloc hb.size (.cells #[.int .i64 D.st, .int .i64 D.no, .int .i64 D.mi, .int .i64 D.ar, .string D.cl, .int .i64 D.vo] 23)
  have HX7 := Lib.hid (HX5.out.ext hbz)
  have HY7 := Lib.hid (HY5.out.ext hbz)
  have HP7 := Lib.hid (HP5.out.ext hbz)
  have HQ7 : Hid (CB (w7.alloc (.cells #[.int .i64 D.st, .int .i64 D.no, .int .i64 D.mi, .int .i64 D.ar, .string D.cl, .int .i64 D.vo] 23)) w7.heap.size 23 D.cells) := CB.new w7 _ _
  clear hb hp hbz
  go_upto_region 9 with fail
  generalize w7.alloc (.cells #[.int .i64 D.st, .int .i64 D.no, .int .i64 D.mi, .int .i64 D.ar, .string D.cl, .int .i64 D.vo] 23) = w8 at *
  have k1 := conv_B HX7.out
  have k2 := conv_B HY7.out
  obtain ⟨S, hS⟩ : ∃ S : ByteArray, (⟨(encR r).toArray⟩ : ByteArray) = S := ⟨_, rfl⟩
  rw [hS] at k1 k2
  clear hS
  obtain ⟨d0, d1, d2, d3, d4, d5⟩ := RpAt.of_cb HP7.out
  obtain ⟨e0, e1, e2, e3, e4, e5⟩ := RpAt.of_cb HQ7.out
  have heq : ∀ w : World, (Op.equalIn 10000 23 (.agg #[.int .i64 D.st, .int .i64 D.no, .int .i64 D.mi, .int .i64 D.ar, .string D.cl, .int .i64 D.vo]) (.agg #[.int .i64 D.st, .int .i64 D.no, .int .i64 D.mi, .int .i64 D.ar, .string D.cl, .int .i64 D.vo])).run Try.prog w = .ok true w := fun w => by rw [← (rpEq_iff D D).2 rfl]; exact eq_rp D D w
  go_wp2_with fail
  go_ret
  exact ⟨rfl, H7.out⟩
end Go.Proofs.Ytgdbmoggpfpkkaa
