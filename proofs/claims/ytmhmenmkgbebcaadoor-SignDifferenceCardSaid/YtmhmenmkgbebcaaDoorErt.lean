/- the reference's digest: Tagged. -/
import Derived.Test.YtmhmenmkgbebcaaDoorErs
namespace Go.Proofs.YtmhmenmkgbebcaaDoor
open Go.RowKit
set_option maxRecDepth 100000 in
set_option maxHeartbeats 1000000 in
theorem rtagged_any (s : ByteArray) (v : Value) (l : List UInt8) (w : World) (hs : s.size ≤ 100000) (hl : l.length ≤ 100000) (hb : BtsAt w.heap.size w l v) :
    Calls Tryd.prog 54 #[.string s, v] w fun e w' => e = .returned (dv (tagged s.data.toList l)) ∧ Below w.heap.size w w' := by
  have HB := Lib.hid hb
  obtain ⟨oa, cap, rfl⟩ := hb.shape
  clear hb
  go_enter Tryd.func54, Tryd.ntmps54
  obtain ⟨w0, hw0⟩ : ∃ w0, w.alloc (.cells #[.int .u8 0, .int .u8 0, .int .u8 0, .int .u8 0, .int .u8 0, .int .u8 0, .int .u8 0, .int .u8 0, .int .u8 0, .int .u8 0, .int .u8 0, .int .u8 0, .int .u8 0, .int .u8 0, .int .u8 0, .int .u8 0, .int .u8 0, .int .u8 0, .int .u8 0, .int .u8 0, .int .u8 0, .int .u8 0, .int .u8 0, .int .u8 0, .int .u8 0, .int .u8 0, .int .u8 0, .int .u8 0, .int .u8 0, .int .u8 0, .int .u8 0, .int .u8 0] 35) = w0 := ⟨_, rfl⟩
  obtain ⟨k1, w1, hcv, hb1, hbt1⟩ := run_bytes_of s (by omega) w0
  have H0 : Hid (CB w0 w.heap.size 35 (bcells (List.replicate 32 0)) ∧ Below w.heap.size w w0 ∧ w0.heap.size = w.heap.size + 1) := by
    show _ ∧ _ ∧ _
    rw [← hw0]
    exact ⟨heap_alloc_new w _, (Below.refl _ w).alloc (Nat.le_refl _) _, World.size_alloc _ _⟩
  rw [← hw0] at hcv
  rw [H0.out.2.2] at hbt1
  have Hb1 := Lib.hid hb1; have Hbt1 := Lib.hid hbt1
  rw [hw0] at hcv
  subst hw0
  clear hb1 hbt1
  obtain ⟨d1, hd1⟩ : ∃ d, sha s.data.toList = d := ⟨_, rfl⟩
  have Hd1 := Lib.hid hd1
  have hlen := Lib.hid (sha_len s.data.toList)
  rw [hd1] at hlen
  clear hd1
  go_wp2_with fail
  clear hcv
  generalize w.alloc (.cells #[.int .u8 0, .int .u8 0, .int .u8 0, .int .u8 0, .int .u8 0, .int .u8 0, .int .u8 0, .int .u8 0, .int .u8 0, .int .u8 0, .int .u8 0, .int .u8 0, .int .u8 0, .int .u8 0, .int .u8 0, .int .u8 0, .int .u8 0, .int .u8 0, .int .u8 0, .int .u8 0, .int .u8 0, .int .u8 0, .int .u8 0, .int .u8 0, .int .u8 0, .int .u8 0, .int .u8 0, .int .u8 0, .int .u8 0, .int .u8 0, .int .u8 0, .int .u8 0] 35) = w0 at *
  obtain ⟨H00, H01, H02⟩ := H0.out
  have HT := Lib.hid H00; have HW := Lib.hid H01
  clear H0 H00 H01 H02
  refine (rsum_any _ s.data.toList w1 (by simp; omega) Hbt1.out).mono ?_
  rw [Hd1.out]
  rintro e w2 ⟨rfl, hb2⟩
  have HB2 := Lib.hid (below_ext Hb1.out hb2)
  clear hb2
  go_wp2_with (first
    | (with_reducible refine wpList_store_d (hgd := rfl) 35 (.tmp 5) (.tmp 8) rfl w2.heap.size d1 hlen.out rfl rfl 35 _ (heap_alloc_new _ _) rfl dig_sz ?_
       intro w3 hc3 hg3 hz3
       have hz3' : w3.heap.size = w2.heap.size + 1 := by rw [hz3]; exact World.size_alloc _ _
       have hb3 : Below w2.heap.size w2 w3 := (((Below.refl _ w2).alloc (Nat.le_refl _) _).grown hg3.out (by simp) (fun k hk => by injection hk; omega))
       have hb4 : Below w0.heap.size w0 (w3.alloc (.cells #[] 5)) := (below_ext HB2.out hb3).alloc (below_ext HB2.out hb3).size _
       have HB4 := Lib.hid hb4
       have hO := Lib.hid (made_own w3)
       have hbd := Lib.hid (SrcB.ofBts (P := Tryd.prog) Tryd.underlying22 (dig_bts (hc3.out.alloc (.cells #[] 5)) hlen.out))
       have Hz3 := Lib.hid hz3'
       clear hc3 hg3 hz3 hz3' hb3 hb4)
    | (at_builtin; refine wpList_append_B (e := 5) Tryd.underlying22 (by kernel_rfl) rfl (.tmp 9) (.tmp 10) rfl w3.heap.size _ [] rfl hO.out _ d1 rfl ?src (by simp [hlen.out]) ?sz ?_
       case src => exact hbd.out
       case sz => simp
       intro v4 w4 ho4 hg4 hn4
       have hb5 : Below w0.heap.size w0 w4 := HB4.out.grown hg4 HB4.out.size (fun g hg => by have h : some w3.heap.size = some g := hg
                                                                                             injection h; have := Hz3.out; have := HB2.out.size; omega)
       rw [List.nil_append] at ho4
       have HO4 := Lib.hid ho4; have HB45 := Lib.hid hb5
       have hlt4 := Lib.hid (fun g hg => (World.ownsRow.lt ho4 g hg).1)
       have hS2 := Lib.hid (SrcB.ofBts (P := Tryd.prog) Tryd.underlying22 (HB.out.ext (below_ext HW.out hb5)))
       have hsz4 : Hid (w3.heap.size ≤ w4.heap.size) := Nat.le_trans (by simp) hg4.size
       clear ho4 hg4 hn4 hb5 hbd hO)
    | (at_builtin; refine wpList_append_B (e := 5) Tryd.underlying22 (by kernel_rfl) rfl (.tmp 11) (.tmp 12) rfl w3.heap.size v4 d1 rfl HO4.out _ l rfl hS2.out (by rw [hlen.out]; omega) hsz4.out ?_
       intro v5 w5 ho5 hg5 hn5
       have hb5 : Below w0.heap.size w0 w5 := HB45.out.grown hg5 HB45.out.size (fun g hg => by have := hlt4.out g hg; have := Hz3.out; have := HB2.out.size; omega)
       have HB5 := Lib.hid hb5
       have HO5 := Lib.hid (own_bts ho5)
       clear ho5 hg5 hn5 hb5 HO4 HB45 hlt4 hS2 hsz4))
  obtain ⟨d2, hd2⟩ : ∃ d, sha (d1 ++ l) = d := ⟨_, rfl⟩
  have Hd2 := Lib.hid hd2
  have hlen2 := Lib.hid (sha_len (d1 ++ l))
  rw [hd2] at hlen2
  clear hd2
  refine (rsum_any _ (d1 ++ l) w5 (by rw [List.length_append, hlen.out]; omega) HO5.out).mono ?_
  rw [Hd2.out]
  rintro e w6 ⟨rfl, hb6⟩
  have hb6' := below_ext HB5.out hb6
  have hT : Hid (w6.heap[w.heap.size]? = some (.cells (bcells (List.replicate 32 0)).toArray 35 (0, 0))) := (hb6'.block _ HT.out.lt).trans HT.out
  have HB6 := Lib.hid (below_ext HW.out hb6')
  clear hb6 hb6'
  go_wp2_with (with_reducible refine wpList_store_d (hgd := rfl) 35 (.tmp 4) (.tmp 14) rfl w.heap.size d2 hlen2.out rfl rfl 35 _ hT.out rfl dig_sz ?_; intro w7 hc7 hg7 hz7)
  refine bodyPost_ret (v := dv d2) (results_cell_row rfl _ _ w.heap.size 35 (bcells d2).toArray (0, 0) _ rfl hc7.out Tryd.underlying35 rfl (by rw [List.size_toArray, bcells_length, hlen2.out]; exact dig_sz)) rfl ?_
  refine ⟨?_, HB6.out.grown hg7.out HB6.out.size (fun k hk => by injection hk; omega)⟩
  rw [← Hd2.out, ← Hd1.out]; rfl
end Go.Proofs.YtmhmenmkgbebcaaDoor
