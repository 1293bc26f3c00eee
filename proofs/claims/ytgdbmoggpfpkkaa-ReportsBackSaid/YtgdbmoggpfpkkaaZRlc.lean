/- ReportsBack: the walk. -/
import Derived.Test.YtgdbmoggpfpkkaaZRla
namespace Go.Proofs.Ytgdbmoggpfpkkaa
open Go.RowKit
theorem decR_cases (l : List UInt8) : (∃ k, (k = 10 ∨ k = 220) ∧ decR l = (none, k)) ∨ ∃ D, decR l = (some D, 0) := by
  unfold decR
  cases decF l with
  | none => exact .inl ⟨10, .inl rfl, rfl⟩
  | some x =>
    simp only
    split
    · exact .inr ⟨_, rfl⟩
    · exact .inl ⟨220, .inr rfl, rfl⟩
set_option maxRecDepth 100000 in
set_option maxHeartbeats 4000000 in
theorem back22_walk (r : Rp) (raw : List UInt8) (v : Value) (w : World) (hs : r.cl.size ≤ maxLen) (hr2 : BtsAt w.heap.size w raw v) : Calls Try.prog 9 #[r.v, v] w (BoolPost true w) := by
  have HW := Lib.hid hr2
  obtain ⟨ob, cap2, rfl, hbc, hbm⟩ := hr2.form
  have hrl : raw.length ≤ 9223372036854775807 := by unfold maxLen at hbm; omega
  have Hs : Hid (r.cl.size ≤ 9223372036854775807) := by show _ ≤ _; unfold maxLen at hs; omega
  clear hr2 hbc hbm hs
  have hcb0 : Hid (CB (w.alloc (.cells #[.int .i64 r.st, .int .i64 r.no, .int .i64 r.mi, .int .i64 r.ar, .string r.cl, .int .i64 r.vo] 23)) w.heap.size 23 r.cells) := CB.new w _ _
  have hb0 := Lib.hid ((Below.refl w.heap.size w).alloc (Nat.le_refl _) (.cells #[.int .i64 r.st, .int .i64 r.no, .int .i64 r.mi, .int .i64 r.ar, .string r.cl, .int .i64 r.vo] 23))
  change Calls Try.prog 9 #[.agg #[.int .i64 r.st, .int .i64 r.no, .int .i64 r.mi, .int .i64 r.ar, .string r.cl, .int .i64 r.vo], .slice ob raw.length cap2] w _
  obtain ⟨sh, hsh⟩ : ∃ t, decide (r.cl.size ≤ 200) = t := ⟨_, rfl⟩
  have Hsh := Lib.hid hsh; clear hsh
  go_enter Try.func9, Try.ntmps9
  go_upto_region 1 with fail
  generalize w.alloc (.cells #[.int .i64 r.st, .int .i64 r.no, .int .i64 r.mi, .int .i64 r.ar, .string r.cl, .int .i64 r.vo] 23) = w0 at *
  go_wp2_with fail
  refine (sane22_any _).mono ?_
  rintro e w1 ⟨rfl, hb⟩
  have H1 := Lib.hid (below_ext hb0.out hb)
  have HA1 := Lib.hid (hcb0.out.ext hb)
  clear hb hb0 hcb0
  obtain ⟨c0, c1, c2, c3, c4, c5⟩ := RpAt.of_cb HA1.out
  go_wp2_with fail
  refine (short1 r sh Hsh.out _).mono ?_
  rintro e w2 ⟨rfl, hb⟩
  have H2 := Lib.hid (below_ext H1.out hb)
  have HA2 := Lib.hid (HA1.out.ext hb)
  clear hb c0 c1 c2 c3 c4 c5
  cases sh
  case false =>
    go_wp2_with fail
    go_ret
    exact ⟨rfl, H2.out⟩
  case true =>
  by_cases h300 : 300 < raw.length
  · have t3 : decide ((300 : Int) < (raw.length : Int)) = true := by simp; omega
    go_wp2_with fail
    go_ret
    exact ⟨rfl, H2.out⟩
  have t3 : decide ((300 : Int) < (raw.length : Int)) = false := by simp; omega
  have Hr3 : Hid (raw.length ≤ 300) := by show _ ≤ _; omega
  clear h300
  obtain ⟨c0, c1, c2, c3, c4, c5⟩ := RpAt.of_cb HA2.out
  obtain ⟨rb, hrb⟩ : ∃ c, repB 4 3 r = c := ⟨_, rfl⟩
  have Hrb := Lib.hid hrb; clear hrb
  go_wp2_with fail
  cases rb
  case false =>
    refine (encode22_any r _ Hs.out).mono ?_
    intro e w3 hp
    obtain ⟨oa3, cap3, rfl, hv3, hb⟩ := hp.bad Hrb.out
    have H3 := Lib.hid (below_ext H2.out hb)
    have HA3 := Lib.hid (HA2.out.ext hb)
    clear hb hp hv3 c0 c1 c2 c3 c4 c5
    obtain ⟨c0, c1, c2, c3, c4, c5⟩ := RpAt.of_cb HA3.out
    go_wp2_with fail
    refine (chk_no 4 3 r _ three Hs.out Hrb.out).mono ?_
    rintro e w4 ⟨rfl, hb⟩
    have H4 := Lib.hid (below_ext H3.out hb)
    clear hb c0 c1 c2 c3 c4 c5
    go_upto_region 12 with fail
    go_wp2_with fail
    refine (decode22_any raw (by have := Hr3.out; omega) _ _ (HW.out.ext H4.out)).mono ?_
    intro e w5 hp
    rcases decR_cases raw with ⟨k, hk, hd⟩ | ⟨D, hd⟩
    · obtain ⟨rfl, hb⟩ := hp.none hd
      have H5 := Lib.hid ((below_ext H4.out hb).alloc (below_ext H4.out hb).size (.cells #[.int .i64 0, .int .i64 0, .int .i64 0, .int .i64 0, .string ⟨#[]⟩, .int .i64 0] 23))
      have HP : Hid (CB (w5.alloc (.cells #[.int .i64 0, .int .i64 0, .int .i64 0, .int .i64 0, .string ⟨#[]⟩, .int .i64 0] 23)) w5.heap.size 23 rpZ.cells) := CB.new w5 _ _
      clear hb hp
      have heq : ∀ w : World, (Op.equalIn 10000 23 (.agg #[.int .i64 0, .int .i64 0, .int .i64 0, .int .i64 0, .string ⟨#[]⟩, .int .i64 0]) (.agg #[.int .i64 0, .int .i64 0, .int .i64 0, .int .i64 0, .string ⟨#[]⟩, .int .i64 0])).run Try.prog w = .ok true w := fun w => by rw [← (rpEq_iff rpZ rpZ).2 rfl]; exact eq_rp rpZ rpZ w
      rcases hk with rfl | rfl
      all_goals
        go_wp2_with fail
        go_ret
        exact ⟨rfl, H5.out⟩
    · obtain ⟨rfl, hb⟩ := hp.some hd
      have hsd := decR_sound hd (by have := Hr3.out; unfold maxLen; omega)
      have Hsd := Lib.hid hsd
      have H5 := Lib.hid ((below_ext H4.out hb).alloc (below_ext H4.out hb).size (.cells #[.int .i64 D.st, .int .i64 D.no, .int .i64 D.mi, .int .i64 D.ar, .string D.cl, .int .i64 D.vo] 23))
      have HP : Hid (CB (w5.alloc (.cells #[.int .i64 D.st, .int .i64 D.no, .int .i64 D.mi, .int .i64 D.ar, .string D.cl, .int .i64 D.vo] 23)) w5.heap.size 23 D.cells) := CB.new w5 _ _
      clear hb hp hsd
      go_upto_region 15 with fail
      generalize w5.alloc (.cells #[.int .i64 D.st, .int .i64 D.no, .int .i64 D.mi, .int .i64 D.ar, .string D.cl, .int .i64 D.vo] 23) = w6 at *
      obtain ⟨d0, d1, d2, d3, d4, d5⟩ := RpAt.of_cb HP.out
      go_wp2_with fail
      refine (encode22_any D _ (by have := (repB_sound Hsd.out.2.1).2.2; omega)).mono ?_
      intro e w7 hp
      obtain ⟨oa9, cap9, rfl, hv9, hb⟩ := hp.good Hsd.out.2.1
      have H7 := Lib.hid (below_ext H5.out hb)
      have k1 := conv_B hv9
      have k2 := conv_bts (HW.out.ext H7.out)
      rw [Hsd.out.2.2] at k1 hv9 ⊢
      obtain ⟨S, hS⟩ : ∃ S : ByteArray, (⟨raw.toArray⟩ : ByteArray) = S := ⟨_, rfl⟩
      rw [hS] at k1 k2
      clear hS hb hp hv9 d0 d1 d2 d3 d4 d5
      go_wp2_with fail
      go_ret
      exact ⟨rfl, H7.out⟩
  case true =>
    refine (encode22_any r _ Hs.out).mono ?_
    intro e w3 hp
    obtain ⟨oa3, cap3, rfl, hv3, hb⟩ := hp.good Hrb.out
    have hel : (enc (repV r)).length ≤ 1000000 := by have h1 := enc_sz (repV r); have h2 := repV_sz r; have := (repB_sound Hrb.out).2.2; omega
    have hel2 : ((enc (repV r)).length : Int) ≤ 1000000 := by omega
    have H3 := Lib.hid (below_ext H2.out hb)
    have HA3 := Lib.hid (HA2.out.ext hb)
    have HX3 := Lib.hid hv3
    clear hb hp hv3 c0 c1 c2 c3 c4 c5
    obtain ⟨c0, c1, c2, c3, c4, c5⟩ := RpAt.of_cb HA3.out
    go_wp2_with fail
    refine (chk_ok 4 3 r _ three Hs.out Hrb.out).mono ?_
    rintro e w4 ⟨rfl, hb⟩
    have H4 := Lib.hid (below_ext H3.out hb)
    have HA4 := Lib.hid (HA3.out.ext hb)
    have HX4 := Lib.hid (HX3.out.ext hb)
    clear hb c0 c1 c2 c3 c4 c5
    go_wp2_with fail
    refine (decode22_any (enc (repV r)) hel _ _ HX4.out.bts).mono ?_
    intro e w5 hp
    obtain ⟨rfl, hb⟩ := hp.some (decR_enc Hrb.out)
    have H5 := Lib.hid ((below_ext H4.out hb).alloc (below_ext H4.out hb).size (.cells #[.int .i64 r.st, .int .i64 r.no, .int .i64 r.mi, .int .i64 r.ar, .string r.cl, .int .i64 r.vo] 23))
    have hbz := hb.alloc hb.size (.cells #[.int .i64 r.st, .int .i64 r.no, .int .i64 r.mi, .int .i64 r.ar, .string r.cl, .int .i64 r.vo] 23)
    have HA5 := Lib.hid (HA4.out.ext hbz)
    have HP5 : Hid (CB (w5.alloc (.cells #[.int .i64 r.st, .int .i64 r.no, .int .i64 r.mi, .int .i64 r.ar, .string r.cl, .int .i64 r.vo] 23)) w5.heap.size 23 r.cells) := CB.new w5 _ _
    clear hb hp hbz
    go_upto_region 10 with fail
    generalize w5.alloc (.cells #[.int .i64 r.st, .int .i64 r.no, .int .i64 r.mi, .int .i64 r.ar, .string r.cl, .int .i64 r.vo] 23) = w6 at *
    obtain ⟨c0, c1, c2, c3, c4, c5⟩ := RpAt.of_cb HA5.out
    obtain ⟨d0, d1, d2, d3, d4, d5⟩ := RpAt.of_cb HP5.out
    have heq0 : ∀ w : World, (Op.equalIn 10000 23 (.agg #[.int .i64 r.st, .int .i64 r.no, .int .i64 r.mi, .int .i64 r.ar, .string r.cl, .int .i64 r.vo]) (.agg #[.int .i64 r.st, .int .i64 r.no, .int .i64 r.mi, .int .i64 r.ar, .string r.cl, .int .i64 r.vo])).run Try.prog w = .ok true w := fun w => by rw [← (rpEq_iff r r).2 rfl]; exact eq_rp r r w
    go_upto_region 12 with fail
    go_wp2_with fail
    refine (decode22_any raw (by have := Hr3.out; omega) _ _ (HW.out.ext H5.out)).mono ?_
    intro e w7 hp
    rcases decR_cases raw with ⟨k, hk, hd⟩ | ⟨D, hd⟩
    · obtain ⟨rfl, hb⟩ := hp.none hd
      have H7 := Lib.hid ((below_ext H5.out hb).alloc (below_ext H5.out hb).size (.cells #[.int .i64 0, .int .i64 0, .int .i64 0, .int .i64 0, .string ⟨#[]⟩, .int .i64 0] 23))
      have HP : Hid (CB (w7.alloc (.cells #[.int .i64 0, .int .i64 0, .int .i64 0, .int .i64 0, .string ⟨#[]⟩, .int .i64 0] 23)) w7.heap.size 23 rpZ.cells) := CB.new w7 _ _
      clear hb hp
      have heq : ∀ w : World, (Op.equalIn 10000 23 (.agg #[.int .i64 0, .int .i64 0, .int .i64 0, .int .i64 0, .string ⟨#[]⟩, .int .i64 0]) (.agg #[.int .i64 0, .int .i64 0, .int .i64 0, .int .i64 0, .string ⟨#[]⟩, .int .i64 0])).run Try.prog w = .ok true w := fun w => by rw [← (rpEq_iff rpZ rpZ).2 rfl]; exact eq_rp rpZ rpZ w
      rcases hk with rfl | rfl
      all_goals
        go_wp2_with fail
        go_ret
        exact ⟨rfl, H7.out⟩
    · obtain ⟨rfl, hb⟩ := hp.some hd
      have hsd := decR_sound hd (by have := Hr3.out; unfold maxLen; omega)
      have Hsd := Lib.hid hsd
      have H7 := Lib.hid ((below_ext H5.out hb).alloc (below_ext H5.out hb).size (.cells #[.int .i64 D.st, .int .i64 D.no, .int .i64 D.mi, .int .i64 D.ar, .string D.cl, .int .i64 D.vo] 23))
      have HP : Hid (CB (w7.alloc (.cells #[.int .i64 D.st, .int .i64 D.no, .int .i64 D.mi, .int .i64 D.ar, .string D.cl, .int .i64 D.vo] 23)) w7.heap.size 23 D.cells) := CB.new w7 _ _
      clear hb hp hsd
      go_upto_region 15 with fail
      generalize w7.alloc (.cells #[.int .i64 D.st, .int .i64 D.no, .int .i64 D.mi, .int .i64 D.ar, .string D.cl, .int .i64 D.vo] 23) = w8 at *
      obtain ⟨d0, d1, d2, d3, d4, d5⟩ := RpAt.of_cb HP.out
      go_wp2_with fail
      refine (encode22_any D _ (by have := (repB_sound Hsd.out.2.1).2.2; omega)).mono ?_
      intro e w9 hp
      obtain ⟨oa9, cap9, rfl, hv9, hb⟩ := hp.good Hsd.out.2.1
      have H9 := Lib.hid (below_ext H7.out hb)
      have k1 := conv_B hv9
      have k2 := conv_bts (HW.out.ext H9.out)
      rw [Hsd.out.2.2] at k1 hv9 ⊢
      obtain ⟨S, hS⟩ : ∃ S : ByteArray, (⟨raw.toArray⟩ : ByteArray) = S := ⟨_, rfl⟩
      rw [hS] at k1 k2
      clear hS hb hp hv9 d0 d1 d2 d3 d4 d5
      go_wp2_with fail
      go_ret
      exact ⟨rfl, H9.out⟩
end Go.Proofs.Ytgdbmoggpfpkkaa
