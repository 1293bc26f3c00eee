/- group.Scalar and the reference's. -/
import Derived.Test.YtmhmenmkgbebcaaDoorFrs
import Derived.StillTailTactics
import Derived.Deep.QuietTactic
import Derived.BigQuiet
namespace Go.Proofs.YtmhmenmkgbebcaaDoor
open Go.RowKit
def scalF (t l : List UInt8) : Nat := 1 + restM (tagged t l)
set_option maxRecDepth 100000 in
set_option maxHeartbeats 1000000 in
theorem scalar_any (s : ByteArray) (v : Value) (l : List UInt8) (w : World) (hs : s.size ≤ 100000) (hl : l.length ≤ 100000) (hb : BtsAt w.heap.size w l v) (hL : Laid w) :
    Calls Tryd.prog 28 #[.string s, v] w fun e w' => e = .returned (.int .i64 (scalF s.data.toList l : Nat)) ∧ Below w.heap.size w w' := by
  have HB := Lib.hid hb; have HL := Lib.hid hL
  obtain ⟨oa, cap, rfl⟩ := hb.shape
  clear hb hL
  obtain ⟨d, hd⟩ : ∃ d, tagged s.data.toList l = d := ⟨_, rfl⟩
  have hdl := Lib.hid (tagged_len s.data.toList l)
  rw [hd] at hdl
  have Hd := Lib.hid hd
  obtain ⟨n, hn⟩ : ∃ n, restM d = n := ⟨_, rfl⟩
  have hnl : n < 2305843009213688668 := by rw [← hn]; exact restM_lt d
  have e1 : wrap64 (n : Int) = (n : Int) := by unfold wrap64; omega
  have e3 : wrap64 (1 + (n : Int)) = ((1 + n : Nat) : Int) := by unfold wrap64; omega
  have Hn := Lib.hid hn; have Hnl := Lib.hid hnl
  have hfin : Hid (scalF s.data.toList l = 1 + n) := by show scalF s.data.toList l = 1 + n; unfold scalF; rw [hd, hn]
  clear hd hn hnl
  go_enter Tryd.func28, Tryd.ntmps28
  go_wp2_with fail
  refine (tagged_any s _ l _ hs hl HB.out HL.out).mono ?_
  rw [Hd.out]
  rintro e w1 ⟨rfl, hb1⟩
  go_wp2_with fail
  refine (grest_any d hdl.out _ rfl _).mono ?_
  rw [Hn.out]
  rintro e w2 ⟨rfl, hb2⟩
  have HB2 := Lib.hid (below_ext hb1 hb2)
  clear hb1 hb2
  go_wp2
  go_ret
  refine ⟨?_, HB2.out⟩
  show Ending.returned (.int .i64 (wrap64 (1 + (n : Int)))) = _
  rw [e3, hfin.out]
def RRestRel (l : List UInt8) (w : World) (v i : Value) (wr : World) : Prop :=
  ∃ k j : Nat, k ≤ 32 ∧ i = .int .i64 k ∧ v = .int .i64 (restM (l.take k) : Nat) ∧ wr = w.drewN j
theorem modular_still (a b m r : Nat) (ha : Hid (a < m)) (hb : Hid (b < m)) (hm : Hid (m ≤ 4611686018427387904)) (hr : Hid (a * b % m = r)) (w : World) :
    Calls Tryd.prog 56 #[.int .i64 a, .int .i64 b, .int .i64 m] w fun e w' => e = .returned (.int .i64 r) ∧ w' = w := (modular_any a b m r ha hb hm hr w).mono fun _ _ h => ⟨h.1, h.2.symm⟩
set_option maxRecDepth 100000 in
set_option maxHeartbeats 1000000 in
theorem rrest_any (l : List UInt8) (hl : l.length = 32) (mi : Int) (hmi : mi = (cM : Int)) (w : World) :
    Calls Tryd.prog 53 #[dv l, .int .i64 mi] w fun e w' => e = .returned (.int .i64 (restM l : Nat)) ∧ Below w.heap.size w w' := by
  obtain ⟨m, hm⟩ : ∃ m, cM = m := ⟨_, rfl⟩
  rw [hm] at hmi
  subst hmi
  have Hm := Lib.hid hm
  have hl' := Lib.hid hl
  clear hl hm
  have hA : Hid (CB (w.alloc (.cells (bcells l).toArray 35)) w.heap.size 35 (bcells l)) := heap_alloc_new w _
  have hG := Lib.hid (grown_alloc (G := none) (grown_refl w _) (.cells (bcells l).toArray 35))
  change Calls Tryd.prog 53 #[.agg (bcells l).toArray, .int .i64 m] w _
  go_enter Tryd.func53, Tryd.ntmps53
  go_wp2
  generalize w.alloc (.cells (bcells l).toArray 35) = w0 at *
  go_loopw [5, 6] (fun v i wr => RRestRel l w0 v i wr) (fun _ i _ => 32 - (intOf i).toNat)
  case atStart => exact ⟨0, 0, by omega, rfl, rfl, rfl⟩
  case round =>
    obtain ⟨k, j, hk, rfl, rfl, rfl⟩ := hrel
    obtain ⟨n, hn⟩ : ∃ n, restM (l.take k) = n := ⟨_, rfl⟩
    have hnl : n < cM := by rw [← hn]; exact restM_lt _
    rw [hn]
    by_cases hlt : k < 32
    · have tk : decide ((k : Int) < 32) = true := by simp; omega
      obtain ⟨c, hck⟩ : ∃ c, l[k]? = some c := ⟨_, List.getElem?_eq_getElem (by rw [hl'.out]; exact hlt)⟩
      have cc : (w0.drewN j).cell? ⟨w.heap.size, k, none⟩ = some (.int .u8 (c.toNat : Int)) := (hA.out.cell k).trans (by simp [bcells, hck])
      have hst := Lib.hid (restM_step l k c hck)
      rw [hn] at hst
      obtain ⟨r, hr⟩ : ∃ r, 256 * n % m = r := ⟨_, rfl⟩
      have hmv : m = 2305843009213688668 := by rw [← Hm.out]; rfl
      have hrl : r < m := by rw [← hr]; exact Nat.mod_lt _ (by omega)
      have hcl := c.toNat_lt
      obtain ⟨x, hx⟩ : ∃ x, c.toNat = x := ⟨_, rfl⟩
      rw [hx] at cc hcl
      have e1 : IntKind.i64.wrap (x : Int) = (x : Int) := IntWalk.i64_in _ (by omega)
      have e2 : IntKind.i64.wrap ((r : Int) + (x : Int)) = ((r + x : Nat) : Int) := by rw [IntWalk.i64_in _ (by omega)]; omega
      obtain ⟨y, hy⟩ : ∃ y, r + x = y := ⟨_, rfl⟩
      rw [hy] at e2
      obtain ⟨z, hz⟩ : ∃ z, y % m = z := ⟨_, rfl⟩
      have hzf : Hid (foldM n c = z) := by
        show foldM n c = z
        unfold foldM; rw [Hm.out, ← hz, ← hy, ← hr, hx, Nat.mod_add_mod]
      have e3 : (y : Int).tmod (m : Int) = (z : Int) := by rw [← hz]; rfl
      have hm0 : ((m : Int) == 0) = false := by rw [beq_eq_false_iff_ne]; omega
      have hm1 : ¬ ((m : Int) = 0) := by omega
      have h1 : Hid (256 < m) := by show _ < _; omega
      have h2 : Hid (n < m) := by show n < m; rw [← Hm.out]; exact hnl
      have h3 : Hid (m ≤ 4611686018427387904) := by show _ ≤ _; omega
      have h4 := Lib.hid hr
      have n6 : (k : Int) < 32 := by omega
      clear hck hn hnl hr hmv hrl hcl hx hy hz
      generalize hwj : w0.drewN j = w5 at *
      have Hwj := Lib.hid hwj
      clear hwj
      go_wp2
      go_quiet ((go_at_call 56; exact Calls.quiet_of_same (modular_still 256 n m r h1 h2 h3 h4 _)))
      go_wp2
      go_roundw
      case rel => exact ⟨k + 1, j + nq, by omega, by go_num, by rw [hst.out, hzf.out], by rw [← Hwj.out, World.drewN_drewN]⟩
      case measure => simp [intOf]; omega
    · have hk32 : k = 32 := by omega
      have tk : decide ((k : Int) < 32) = false := by simp; omega
      rw [hk32, List.take_of_length_le (by rw [hl'.out]; exact Nat.le_refl _)] at hn
      have Hn := Lib.hid hn
      have hbx := Lib.hid (below_drewN (grown_none hG.out) j)
      clear hn hnl hk32
      go_wp2
      go_ret
      exact ⟨by rw [Hn.out]; rfl, hbx.out⟩
set_option maxRecDepth 100000 in
set_option maxHeartbeats 1000000 in
theorem rscalar_any (s : ByteArray) (v : Value) (l : List UInt8) (w : World) (hs : s.size ≤ 100000) (hl : l.length ≤ 100000) (hb : BtsAt w.heap.size w l v) :
    Calls Tryd.prog 37 #[.string s, v] w fun e w' => e = .returned (.int .i64 (scalF s.data.toList l : Nat)) ∧ Below w.heap.size w w' := by
  have HB := Lib.hid hb
  obtain ⟨oa, cap, rfl⟩ := hb.shape
  clear hb
  obtain ⟨d, hd⟩ : ∃ d, tagged s.data.toList l = d := ⟨_, rfl⟩
  have hdl := Lib.hid (tagged_len s.data.toList l)
  rw [hd] at hdl
  have Hd := Lib.hid hd
  obtain ⟨n, hn⟩ : ∃ n, restM d = n := ⟨_, rfl⟩
  have hnl : n < 2305843009213688668 := by rw [← hn]; exact restM_lt d
  have e3 : wrap64 (1 + (n : Int)) = ((1 + n : Nat) : Int) := by unfold wrap64; omega
  have Hn := Lib.hid hn
  have hfin : Hid (scalF s.data.toList l = 1 + n) := by show scalF s.data.toList l = 1 + n; unfold scalF; rw [hd, hn]
  clear hd hn hnl
  go_enter Tryd.func37, Tryd.ntmps37
  go_wp2_with fail
  refine (rtagged_any s _ l _ hs hl HB.out).mono ?_
  rw [Hd.out]
  rintro e w1 ⟨rfl, hb1⟩
  go_wp2_with fail
  refine (rrest_any d hdl.out _ rfl _).mono ?_
  rw [Hn.out]
  rintro e w2 ⟨rfl, hb2⟩
  have HB2 := Lib.hid (below_ext hb1 hb2)
  clear hb1 hb2
  go_wp2
  go_ret
  refine ⟨?_, HB2.out⟩
  show Ending.returned (.int .i64 (wrap64 (1 + (n : Int)))) = _
  rw [e3, hfin.out]
end Go.Proofs.YtmhmenmkgbebcaaDoor
