/- digest.Sum. -/
import Derived.Test.YtmhmenmkgbebcaaDoorDsu
import Derived.Laws.Tables
namespace Go.Proofs.YtmhmenmkgbebcaaDoor
open Go.RowKit
theorem slc8 (D : Nat) (j : Nat) (h : j < 8) (w : World) : (Instr.sliceAt 35 (.pointer (some ⟨D, 0, none⟩)) (some (.int .i64 (4 * (j : Int)))) (some (.int .i64 (4 * (j : Int) + 4))) none).run Tryd.prog w = .ok (.slice (some ⟨D, 4 * j, none⟩) 4 (32 - 4 * j)) w := by
  rcases (by omega : j = 0 ∨ j = 1 ∨ j = 2 ∨ j = 3 ∨ j = 4 ∨ j = 5 ∨ j = 6 ∨ j = 7) with rfl | rfl | rfl | rfl | rfl | rfl | rfl | rfl <;> kernel_rfl
theorem dig_one (l : List UInt8) : (bcells l).toArray.all (·.oneCell') = true := by
  rw [Array.all_eq_true_iff_forall_mem]; intro x hx; exact bcells_one l x (by simpa using hx)
theorem dig_info {l : List UInt8} (h : l.length = 32) : (Tryd.prog.info? 35).map (·.size) = some (bcells l).toArray.size := by
  rw [List.size_toArray, bcells_length, h]; kernel_rfl
theorem grown_none {w w' : World} (h : w.grownBy w' none) : Below w.heap.size w w' := ⟨h.os, h.tape, h.output, h.size, fun k hk => h.block k hk (by simp)⟩
theorem sumMid_mk {w wo w4 w5 : World} {E : Nat} {e : List UInt8} {st : S8} (hE : wo.heap.size = E) (hs : CB wo (w.heap.size + 1) 76 (st.l.map iw32)) (hd : CB wo w.heap.size 35 (bcells (List.replicate 32 0))) (hg : w.grownBy wo none)
    (hB : Below E wo w4) (he : CB w5 E 5 (bcells e)) (hg5 : w4.grownBy w5 (some E)) : SumMid w w5 E e st := by
  have h1 := hs.lt
  have hg4 : wo.grownBy w4 none := ⟨hB.os, hB.tape, hB.output, hB.size, fun j hj _ => hB.block j (by omega)⟩
  have hB5 : ∀ j, j < E → w5.heap[j]? = wo.heap[j]? := fun j hj => (hg5.block j (by have := hB.size; omega) (by intro e; injection e; omega)).trans (hB.block j hj)
  exact ⟨he, hs.keep (hB5 _ (by omega)), hd.keep (hB5 _ (by omega)), grown_trans (grown_trans hg hg4 (.inl rfl)) hg5 (.inr fun g hg' => by injection hg'; have := hg.size; omega), by omega⟩
set_option maxRecDepth 100000 in
set_option maxHeartbeats 1000000 in
theorem dsum_any (oa : Option Addr) (cap : Nat) (l : List UInt8) (w : World) (hl : l.length ≤ 1000000) (hbl : BtsAt w.heap.size w l (.slice oa l.length cap)) (hLd : Laid w) :
    Calls Tryd.prog 62 #[.slice oa l.length cap] w fun e w' => e = .returned (.agg (bcells (sha l)).toArray) ∧ Below w.heap.size w w' := by
  have hmf : ∀ (fn : Fn) (first cap : Array Value) (w : World), (Instr.makeFunc fn first cap).run Tryd.prog w = .ok (.func fn first cap) w := fun _ _ _ _ => rfl
  have hmk : ∀ w : World, (Instr.makeSlice 22 (.int .i64 64) (.int .i64 128)).run Tryd.prog w = .ok (.slice (some ⟨w.heap.size, 0, none⟩) 64 128) (w.alloc (.cells (bcells z128).toArray 5)) := fun w => run_mk w
  have hg2 : 2 < w.heap.size := hLd.lt.2
  have s0 : w.cell? ⟨2, 0, none⟩ = some (.int .u32 (iw startS.a)) := hLd.start 0 (by decide)
  have s1 : w.cell? ⟨2, 1, none⟩ = some (.int .u32 (iw startS.b)) := hLd.start 1 (by decide)
  have s2 : w.cell? ⟨2, 2, none⟩ = some (.int .u32 (iw startS.c)) := hLd.start 2 (by decide)
  have s3 : w.cell? ⟨2, 3, none⟩ = some (.int .u32 (iw startS.d)) := hLd.start 3 (by decide)
  have s4 : w.cell? ⟨2, 4, none⟩ = some (.int .u32 (iw startS.e)) := hLd.start 4 (by decide)
  have s5 : w.cell? ⟨2, 5, none⟩ = some (.int .u32 (iw startS.f)) := hLd.start 5 (by decide)
  have s6 : w.cell? ⟨2, 6, none⟩ = some (.int .u32 (iw startS.g)) := hLd.start 6 (by decide)
  have s7 : w.cell? ⟨2, 7, none⟩ = some (.int .u32 (iw startS.h)) := hLd.start 7 (by decide)
  go_enter Tryd.func62, Tryd.ntmps62
  go_wp2
  have HB := Lib.hid hbl; have HLd := Lib.hid hLd
  clear hbl hLd s0 s1 s2 s3 s4 s5 s6 s7
  go_loopw [5] (fun v wr => SumRel w l v wr) (fun v _ => slen v)
  case atStart =>
    refine ⟨0, Nat.zero_le _, ?_, ?_, ?_, grown_alloc (grown_alloc (grown_refl w _) _) _⟩
    · exact HB.out.keep (Nat.le_refl _) fun k hk => (Below.heap_alloc _ _ k (by rw [World.size_alloc]; omega)).trans (Below.heap_alloc w _ k hk)
    · have h := heap_alloc_new (w.alloc (.cells #[.int .u8 0, .int .u8 0, .int .u8 0, .int .u8 0, .int .u8 0, .int .u8 0, .int .u8 0, .int .u8 0, .int .u8 0, .int .u8 0, .int .u8 0, .int .u8 0, .int .u8 0, .int .u8 0, .int .u8 0, .int .u8 0, .int .u8 0, .int .u8 0, .int .u8 0, .int .u8 0, .int .u8 0, .int .u8 0, .int .u8 0, .int .u8 0, .int .u8 0, .int .u8 0, .int .u8 0, .int .u8 0, .int .u8 0, .int .u8 0, .int .u8 0, .int .u8 0] 35)) (.cells #[.int .u32 (iw startS.a), .int .u32 (iw startS.b), .int .u32 (iw startS.c), .int .u32 (iw startS.d), .int .u32 (iw startS.e), .int .u32 (iw startS.f), .int .u32 (iw startS.g), .int .u32 (iw startS.h)] 76)
      rw [World.size_alloc] at h
      exact h
    · exact (Below.heap_alloc _ _ _ (by rw [World.size_alloc]; omega)).trans (heap_alloc_new w _)
  case round =>
    obtain ⟨k, hk, hb, hs, hd, hg⟩ := hrel
    have HS := Lib.hid hs; have HD := Lib.hid hd; have HG := Lib.hid hg
    have hlen : (l.drop (64 * k)).length = l.length - 64 * k := List.length_drop
    by_cases hge : 64 * k + 64 ≤ l.length
    · rcases hb with ⟨h0, _⟩ | ⟨_, b, off, cp, rfl, h2, h3, h4, h5⟩
      · rw [h0] at hlen; simp at hlen; omega
      have H5 := Lib.hid h5; have Hlen := Lib.hid hlen
      obtain ⟨n, hn⟩ : ∃ n, (l.drop (64 * k)).length = n := ⟨_, rfl⟩
      rw [hn] at h2 ⊢
      have Hn := Lib.hid hn
      have g1 : (64 : Int) ≤ (n : Int) := by omega
      have g2 : (n : Int) ≤ (cp : Int) := by omega
      have h3' := Lib.hid h3
      unfold maxLen at h3
      have tk : decide ((64 : Int) ≤ (n : Int)) = true := by simp; omega
      clear hs hd hg h5 hlen hn
      have hne : b ≠ w.heap.size + 1 := by omega
      have hLw := Lib.hid (HLd.out.grown HG.out (by simp))
      have hbt : BL wr b off ((l.drop (64 * k)).take 64) := BL.take (fun j c hj => H5.out j c hj) 64
      have HBT := Lib.hid hbt
      have hwl : b < wr.heap.size := Nat.lt_of_lt_of_le h4 HG.out.size
      have hab := Lib.hid (absorbs_succ k startS l)
      clear hbt
      by_cases hcp : cp = 64
      · subst hcp
        go_wp2_with fail
        refine (absorb_any (w.heap.size + 1) b off 64 (absorbs k startS l) ((l.drop (64 * k)).take 64) wr (by rw [List.length_take, Hn.out]; omega) (by omega) h3'.out hwl HBT.out HS.out hne hLw.out).mono ?_
        rintro e w1 ⟨rfl, hs1, hg1⟩
        have HS1 := Lib.hid hs1; have HG1 := Lib.hid hg1
        clear hs1 hg1
        go_wp2_with fail
        go_roundw
        case rel =>
          have h0 := sumRel_next (oa := some ⟨b, off, none⟩) (cp' := 0) hge Hn.out h2 h3'.out h4 H5.out (.inl ⟨by omega, Nat.zero_le _⟩) HS1.out HD.out HG.out HG1.out
          rw [show n - 64 = 0 by omega] at h0; exact h0
        case measure => simp [slen]; omega
      · have hcp2 : ¬ (cp : Int) = 64 := by omega
        have hcp3 : 64 < cp := by omega
        go_wp2_with fail
        refine (absorb_any (w.heap.size + 1) b off cp (absorbs k startS l) ((l.drop (64 * k)).take 64) wr (by rw [List.length_take, Hn.out]; omega) (by omega) h3'.out hwl HBT.out HS.out hne hLw.out).mono ?_
        rintro e w1 ⟨rfl, hs1, hg1⟩
        have HS1 := Lib.hid hs1; have HG1 := Lib.hid hg1
        clear hs1 hg1
        go_wp2_with fail
        go_roundw
        case rel => exact sumRel_next hge Hn.out h2 h3'.out h4 H5.out (.inr ⟨rfl, rfl⟩) HS1.out HD.out HG.out HG1.out
        case measure => simp [slen]; omega
    · obtain ⟨oa2, cp, rfl, hc1, hc2⟩ := hb.form
      have HB2 := Lib.hid hb
      obtain ⟨r, hr⟩ : ∃ r, l.drop (64 * k) = r := ⟨_, rfl⟩
      rw [hr] at HB2 hlen hc1 ⊢
      have hr63 : r.length ≤ 63 := by omega
      have tk : decide ((64 : Int) ≤ (r.length : Int)) = false := by simp; omega
      have Hr := Lib.hid hr; have Hlen := Lib.hid hlen
      unfold maxLen at hc2
      clear hb hs hd hg hr hlen
      obtain ⟨wo, rfl⟩ : ∃ wo : World, wo = wr := ⟨_, rfl⟩
      have hE0 : (wo.alloc (.cells (bcells z128).toArray 5)).heap[wo.heap.size]? = some (.cells (bcells z128).toArray 5 (0, 0)) := heap_alloc_new wo _
      have HE0 := Lib.hid hE0
      have hB0 := Lib.hid ((Below.refl wo.heap.size wo).alloc (Nat.le_refl _) (.cells (bcells z128).toArray 5))
      have hsrc := Lib.hid (copy_from HB2.out HG.out.size (.cells (bcells z128).toArray 5))
      have hone := Lib.hid (bcells_one r)
      clear hE0
      go_wp2_with (with_reducible refine wpList_copy_splice rfl (.tmp 22) (.tmp 23) 22 22 rfl 5 Tryd.underlying22 (by kernel_rfl) (some ⟨wo.heap.size, 0, none⟩) oa2 64 128 r.length cp rfl rfl wo.heap.size 0 (bcells z128) 5 HE0.out (bcells r) ?c1 ?c2 ?c3 hone.out wo.heap.size wo hB0.out (Nat.le_refl _) ?_)
      case c1 => rw [bcells_length]; exact (Nat.min_eq_left (by omega)).symm
      case c2 => exact fun h => hsrc.out h
      case c3 => simp [bcells_length, z128]; omega
      intro w3 hE3 hB3
      have HE3 : Hid (CB w3 wo.heap.size 5 (splice (bcells z128) 0 (bcells r))) := hE3.out
      have HB3 := Lib.hid hB3
      clear hE3 hB3 HE0 hB0 hsrc hone
      obtain ⟨E, hE⟩ : ∃ E, wo.heap.size = E := ⟨_, rfl⟩
      rw [hE] at HE3 HB3
      have Hr63 := Lib.hid hr63
      have b1 : (r.length : Int) < 128 := by omega
      have b2 : (r.length : Int) < 64 := by omega
      have fz := HE3.out.frozen r.length
      have hlen3 : (splice (bcells z128) 0 (bcells r)).length = 128 := by rw [length_splice _ _ _ (by simp [bcells_length, z128]; omega)]; simp [bcells_length, z128]
      obtain ⟨x0, hx0⟩ : ∃ x, w3.cell? ⟨E, r.length, none⟩ = some x := ⟨_, (HE3.out.cell _).trans (List.getElem?_eq_getElem (by omega))⟩
      clear hlen3
      by_cases h55 : 55 < r.length
      · have t55 : decide ((55 : Int) < (r.length : Int)) = true := by simp; omega
        go_wp2_with fail
        have HE4 : Hid (CB (w3.setCell ⟨E, r.length, none⟩ (.int .u8 128)) E 5 ((splice (bcells z128) 0 (bcells r)).set r.length (.int .u8 128))) := HE3.out.set _ _
        have hB4 : Hid (Below E wo (w3.setCell ⟨E, r.length, none⟩ (.int .u8 128))) := HB3.out.setCell (Nat.le_refl _) _
        have hl8 : ((l.length : Int) * 8) = ((8 * l.length : Nat) : Int) := by omega
        refine (put_any E 120 8 8 (8 * l.length) _ hl8 5 _ _ HE4.out (by decide) (by decide) ?c128).mono ?_
        case c128 => rw [List.length_set, length_splice _ _ _ (by simp [bcells_length, z128]; omega)]; simp [bcells_length, z128]
        rintro e w5 ⟨rfl, hE5, hg5, hz5⟩
        rw [tail_cells r 128 (8 * l.length) (by omega) (by omega)] at hE5
        have HM0 := Lib.hid (sumMid_mk (e := endL l r 128 ++ List.replicate (128 - 128) 0) hE HS.out HD.out HG.out hB4.out (by unfold endL; simp only [List.append_assoc, List.cons_append]; exact hE5) hg5)
        have hel := Lib.hid (endL_len l r 128 (by omega))
        clear hE5 hg5 hz5 HE4 hB4 hl8
        go_wp2_with fail
        refine wp_loop_rounds 3 ?_
        rw [rounds_succ]; go_wp2_with fail
        refine (HM0.out.absorb HLd.out 0 128 (by rw [List.length_append, hel.out]; simp) (by decide) (by decide)).mono ?_
        rintro e w6 ⟨rfl, hm6⟩
        have HM1 := Lib.hid hm6
        clear hm6
        go_wp2_with fail
        rw [rounds_succ]; go_wp2_with fail
        refine (HM1.out.absorb HLd.out 64 64 (by rw [List.length_append, hel.out]; simp) (by decide) (by decide)).mono ?_
        rintro e w6 ⟨rfl, hm6⟩
        have HM2 := Lib.hid hm6
        clear hm6
        go_wp2_with fail
        have hfin : Hid (sha l = ((blockS (blockS (absorbs k startS l) ((endL l r 128 ++ List.replicate (128 - 128) 0).drop 0 |>.take 64)) ((endL l r 128 ++ List.replicate (128 - 128) 0).drop 64 |>.take 64)).l.flatMap fun x => be 4 x.toNat)) := by
          show sha l = _
          have h0 := sha_split l k 128 hk (by rw [Hr.out]; omega) (by rw [Hr.out]; omega)
          rw [Hr.out] at h0
          rw [h0, absorbs_two _ _ hel.out]
          rw [show (128 - 128) = 0 from rfl, List.replicate_zero, List.append_nil, List.drop_zero, List.take_of_length_le (l := List.drop 64 (endL l r 128)) (by rw [List.length_drop, hel.out]; decide)]
        have hm := HM2.out
        generalize (blockS (blockS (absorbs k startS l) ((endL l r 128 ++ List.replicate (128 - 128) 0).drop 0 |>.take 64)) ((endL l r 128 ++ List.replicate (128 - 128) 0).drop 64 |>.take 64)) = st at hm hfin
        obtain ⟨z0, z1, z2, z3, z4, z5, z6, z7⟩ := cb8 hm.hs
        have HMd := Lib.hid hm.hd; have HMg := Lib.hid hm.hg
        clear hm HM0 HM1 HM2 HE3 HB3 HB2 HS HD HG
        rw [rounds_succ]; go_wp2
        have hix := fun (k : Nat) (h : k < 8) => idx8 st k h
        have HIX := Lib.hid hix
        clear hix
        go_loopw [54] (fun i wr => OutRel w st i wr) (fun i _ => 8 - (intOf i).toNat)
        case atStart => exact ⟨0, by omega, rfl, HMd.out, HMg.out⟩
        case round =>
          obtain ⟨j, hj, rfl, hdj, hgj⟩ := hrel
          have HDJ := Lib.hid hdj; have HGJ := Lib.hid hgj
          by_cases hlt : j < 8
          · have tk2 : decide ((j : Int) < 8) = true := by simp; omega
            have hix := HIX.out j hlt
            obtain ⟨x, hx⟩ : ∃ x, st.l.getD j 0 = x := ⟨_, rfl⟩
            rw [hx] at hix
            have hst := Lib.hid (out_step st j hlt)
            rw [hx] at hst
            have e64 : IntKind.u64.wrap (iw x) = iw x := by have := iw_lt x; rw [IntKind.wrap_u64]; omega
            have n6 : (j : Int) < 8 := by omega
            have hsl := slc8 w.heap.size j hlt wr
            have hol := Lib.hid (out_len st j (by omega))
            clear hdj hgj hx
            go_wp2_with fail
            refine (put_any w.heap.size (4 * j) 4 (32 - 4 * j) x.toNat _ rfl 35 _ _ HDJ.out (by decide) (by decide) ?c3).mono ?_
            case c3 => rw [bcells_length, List.length_append, hol.out, List.length_replicate]; omega
            rintro e w7 ⟨rfl, hd7, hg7, hz7⟩
            rw [hst.out] at hd7
            have HD7 := Lib.hid hd7; have HG7 := Lib.hid hg7
            clear hd7 hg7 hz7
            go_wp2_with fail
            go_roundw
            case rel => exact ⟨j + 1, by omega, by go_num, HD7.out, grown_trans HGJ.out HG7.out (.inr fun g hg => by injection hg; omega)⟩
            case measure => simp [intOf]; omega
          · have hj8 : j = 8 := by omega
            rw [hj8] at hdj
            have tk2 : decide ((j : Int) < 8) = false := by simp; omega
            have hsha : Hid ((st.l.take 8).flatMap (fun x => be 4 x.toNat) ++ List.replicate (32 - 4 * 8) 0 = sha l) := by
              show _ = _; rw [hfin.out, List.take_of_length_le (by simp [S8.l])]; simp
            rw [hsha.out] at hdj
            have hrow : Hid (wr.heap[w.heap.size]? = some (.cells (bcells (sha l)).toArray 35 (0, 0))) := hdj
            have hone := Lib.hid (dig_one (sha l))
            have hi := Lib.hid (dig_info (l := sha l) (sha_len l))
            clear hgj hdj HDJ z0 z1 z2 z3 z4 z5 z6 z7
            go_wp2_with (first
              | (with_reducible refine wpList_load_row rfl 35 (.tmp 2) rfl w.heap.size rfl 35 (bcells (sha l)).toArray (0, 0) _ hrow.out Tryd.underlying35 rfl hi.out ?_)
              | (with_reducible refine wpList_store_row rfl 35 (.tmp 2) (.tmp 68) rfl w.heap.size (bcells (sha l)).toArray rfl rfl 35 (bcells (sha l)).toArray hrow.out hi.out rfl hone.out ?_))
            refine bodyPost_ret (v := .agg (bcells (sha l)).toArray) (results_cell_row rfl _ _ w.heap.size 35 (bcells (sha l)).toArray (0, 0) _ rfl (setRow_heap _ _ _ _ _ _ hrow.out) Tryd.underlying35 rfl hi.out) rfl ?_
            exact ⟨rfl, below_setRow (grown_none HGJ.out) (Nat.le_refl _) _⟩
      · have t55 : decide ((55 : Int) < (r.length : Int)) = false := by simp; omega
        go_wp2_with fail
        have HE4 : Hid (CB (w3.setCell ⟨E, r.length, none⟩ (.int .u8 128)) E 5 ((splice (bcells z128) 0 (bcells r)).set r.length (.int .u8 128))) := HE3.out.set _ _
        have hB4 : Hid (Below E wo (w3.setCell ⟨E, r.length, none⟩ (.int .u8 128))) := HB3.out.setCell (Nat.le_refl _) _
        have hl8 : ((l.length : Int) * 8) = ((8 * l.length : Nat) : Int) := by omega
        refine (put_any E 56 8 72 (8 * l.length) _ hl8 5 _ _ HE4.out (by decide) (by decide) ?c64).mono ?_
        case c64 => rw [List.length_set, length_splice _ _ _ (by simp [bcells_length, z128]; omega)]; simp [bcells_length, z128]
        rintro e w5 ⟨rfl, hE5, hg5, hz5⟩
        rw [tail_cells r 64 (8 * l.length) (by omega) (by omega)] at hE5
        have HM0 := Lib.hid (sumMid_mk (e := endL l r 64 ++ List.replicate (128 - 64) 0) hE HS.out HD.out HG.out hB4.out (by unfold endL; simp only [List.append_assoc, List.cons_append]; exact hE5) hg5)
        have hel := Lib.hid (endL_len l r 64 (by omega))
        clear hE5 hg5 hz5 HE4 hB4 hl8
        go_wp2_with fail
        refine wp_loop_rounds 2 ?_
        rw [rounds_succ]; go_wp2_with fail
        refine (HM0.out.absorb HLd.out 0 128 (by rw [List.length_append, hel.out]; simp) (by decide) (by decide)).mono ?_
        rintro e w6 ⟨rfl, hm6⟩
        have HM1 := Lib.hid hm6
        clear hm6
        go_wp2_with fail
        have hfin : Hid (sha l = ((blockS (absorbs k startS l) ((endL l r 64 ++ List.replicate (128 - 64) 0).drop 0 |>.take 64)).l.flatMap fun x => be 4 x.toNat)) := by
          show sha l = _
          have h0 := sha_split l k 64 hk (by rw [Hr.out]; omega) (by rw [Hr.out]; omega)
          rw [Hr.out] at h0
          rw [h0, absorbs_one _ _ hel.out]
          rw [List.drop_zero, List.take_append_of_le_length (by rw [hel.out]; exact Nat.le_refl _), List.take_of_length_le (by rw [hel.out]; exact Nat.le_refl _)]
        have hm := HM1.out
        generalize (blockS (absorbs k startS l) ((endL l r 64 ++ List.replicate (128 - 64) 0).drop 0 |>.take 64)) = st at hm hfin
        obtain ⟨z0, z1, z2, z3, z4, z5, z6, z7⟩ := cb8 hm.hs
        have HMd := Lib.hid hm.hd; have HMg := Lib.hid hm.hg
        clear hm HM0 HM1 HE3 HB3 HB2 HS HD HG
        rw [rounds_succ]; go_wp2
        have hix := fun (k : Nat) (h : k < 8) => idx8 st k h
        have HIX := Lib.hid hix
        clear hix
        go_loopw [54] (fun i wr => OutRel w st i wr) (fun i _ => 8 - (intOf i).toNat)
        case atStart => exact ⟨0, by omega, rfl, HMd.out, HMg.out⟩
        case round =>
          obtain ⟨j, hj, rfl, hdj, hgj⟩ := hrel
          have HDJ := Lib.hid hdj; have HGJ := Lib.hid hgj
          by_cases hlt : j < 8
          · have tk2 : decide ((j : Int) < 8) = true := by simp; omega
            have hix := HIX.out j hlt
            obtain ⟨x, hx⟩ : ∃ x, st.l.getD j 0 = x := ⟨_, rfl⟩
            rw [hx] at hix
            have hst := Lib.hid (out_step st j hlt)
            rw [hx] at hst
            have e64 : IntKind.u64.wrap (iw x) = iw x := by have := iw_lt x; rw [IntKind.wrap_u64]; omega
            have n6 : (j : Int) < 8 := by omega
            have hsl := slc8 w.heap.size j hlt wr
            have hol := Lib.hid (out_len st j (by omega))
            clear hdj hgj hx
            go_wp2_with fail
            refine (put_any w.heap.size (4 * j) 4 (32 - 4 * j) x.toNat _ rfl 35 _ _ HDJ.out (by decide) (by decide) ?c3).mono ?_
            case c3 => rw [bcells_length, List.length_append, hol.out, List.length_replicate]; omega
            rintro e w7 ⟨rfl, hd7, hg7, hz7⟩
            rw [hst.out] at hd7
            have HD7 := Lib.hid hd7; have HG7 := Lib.hid hg7
            clear hd7 hg7 hz7
            go_wp2_with fail
            go_roundw
            case rel => exact ⟨j + 1, by omega, by go_num, HD7.out, grown_trans HGJ.out HG7.out (.inr fun g hg => by injection hg; omega)⟩
            case measure => simp [intOf]; omega
          · have hj8 : j = 8 := by omega
            rw [hj8] at hdj
            have tk2 : decide ((j : Int) < 8) = false := by simp; omega
            have hsha : Hid ((st.l.take 8).flatMap (fun x => be 4 x.toNat) ++ List.replicate (32 - 4 * 8) 0 = sha l) := by
              show _ = _; rw [hfin.out, List.take_of_length_le (by simp [S8.l])]; simp
            rw [hsha.out] at hdj
            have hrow : Hid (wr.heap[w.heap.size]? = some (.cells (bcells (sha l)).toArray 35 (0, 0))) := hdj
            have hone := Lib.hid (dig_one (sha l))
            have hi := Lib.hid (dig_info (l := sha l) (sha_len l))
            clear hgj hdj HDJ z0 z1 z2 z3 z4 z5 z6 z7
            go_wp2_with (first
              | (with_reducible refine wpList_load_row rfl 35 (.tmp 2) rfl w.heap.size rfl 35 (bcells (sha l)).toArray (0, 0) _ hrow.out Tryd.underlying35 rfl hi.out ?_)
              | (with_reducible refine wpList_store_row rfl 35 (.tmp 2) (.tmp 68) rfl w.heap.size (bcells (sha l)).toArray rfl rfl 35 (bcells (sha l)).toArray hrow.out hi.out rfl hone.out ?_))
            refine bodyPost_ret (v := .agg (bcells (sha l)).toArray) (results_cell_row rfl _ _ w.heap.size 35 (bcells (sha l)).toArray (0, 0) _ rfl (setRow_heap _ _ _ _ _ _ hrow.out) Tryd.underlying35 rfl hi.out) rfl ?_
            exact ⟨rfl, below_setRow (grown_none HGJ.out) (Nat.le_refl _) _⟩
end Go.Proofs.YtmhmenmkgbebcaaDoor
