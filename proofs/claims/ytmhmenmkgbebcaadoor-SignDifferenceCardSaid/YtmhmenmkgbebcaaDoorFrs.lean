/- group: rest, Scalar. -/
import Derived.Test.YtmhmenmkgbebcaaDoorFre
namespace Go.Proofs.YtmhmenmkgbebcaaDoor
open Go.RowKit
theorem idx_d (l : List UInt8) (hl : l.length = 32) (k : Nat) (c : UInt8) (hc : l[k]? = some c) (w : World) : (Instr.index 35 (dv l) (.int .i64 (k : Int))).run Tryd.prog w = .ok (.int .u8 (c.toNat : Int)) w := by
  obtain ⟨i, hi, hz, hs, hby⟩ := info_parts (P := Tryd.prog) (e := 5) (z := .int .u8 0) (size := 1) (bytes := 1) (by kernel_rfl)
  have hk : k < 32 := by have := (List.getElem?_eq_some_iff.1 hc).1; omega
  have hu := Tryd.underlying35
  have hcc : (bcells l)[k]? = some (.int .u8 (c.toNat : Int)) := by simp [bcells, hc]
  have hk2 : ((k : Int) < 32) := by omega
  unfold dv
  simp [Instr.index, asIntOf, run_underlying hu, sizeOf, typeInfo, hi, hs, hk, part, hcc]
def restM (l : List UInt8) : Nat := l.foldl foldM 0
theorem foldM_lt (n : Nat) (b : UInt8) : foldM n b < cM := Nat.mod_lt _ (by decide)
theorem restM_lt (l : List UInt8) : restM l < cM := by
  unfold restM
  rcases List.eq_nil_or_concat l with rfl | ⟨p, c, rfl⟩
  · decide
  · rw [List.concat_eq_append, List.foldl_append]; exact foldM_lt _ _
theorem restM_step (l : List UInt8) (k : Nat) (c : UInt8) (hc : l[k]? = some c) : restM (l.take (k + 1)) = foldM (restM (l.take k)) c := by
  unfold restM
  obtain ⟨h1, h2⟩ := List.getElem?_eq_some_iff.1 hc
  rw [List.take_succ_eq_append_getElem h1, h2, List.foldl_append]; rfl
def RestRel (l : List UInt8) (N : Nat) (w : World) (i : Value) (wr : World) : Prop :=
  ∃ k : Nat, k ≤ 32 ∧ i = .int .i64 k ∧ wr.cell? ⟨N, 0, none⟩ = some (.int .u64 (restM (l.take k) : Nat)) ∧ wr.frozen? ⟨N, 0, none⟩ = false ∧ w.grownBy wr (some N)
set_option maxRecDepth 100000 in
set_option maxHeartbeats 2000000 in
theorem grest_any (l : List UInt8) (hl : l.length = 32) (mi : Int) (hmi : mi = (cM : Int)) (w : World) :
    Calls Tryd.prog 51 #[dv l, .int .u64 mi] w fun e w' => e = .returned (.int .u64 (restM l : Nat)) ∧ Below w.heap.size w w' := by
  have hmf : ∀ (fn : Fn) (first cap : Array Value) (w : World), (Instr.makeFunc fn first cap).run Tryd.prog w = .ok (.func fn first cap) w := fun _ _ _ _ => rfl
  have hl' := Lib.hid hl
  obtain ⟨m, hm⟩ : ∃ m, cM = m := ⟨_, rfl⟩
  rw [hm] at hmi
  subst hmi
  have Hm := Lib.hid hm
  clear hl hm
  have hA : Hid (CB (((w.alloc (.cells (bcells l).toArray 35)).alloc (.cells #[.int .u64 m] 50)).alloc (.cells #[.int .u64 0] 50)) w.heap.size 35 (bcells l)) := (Below.heap_alloc _ _ _ (by simp; omega)).trans ((Below.heap_alloc _ _ _ (by simp)).trans (heap_alloc_new w _))
  have hG := Lib.hid (grown_alloc (G := none) (grown_alloc (grown_alloc (grown_refl w _) (.cells (bcells l).toArray 35)) (.cells #[.int .u64 m] 50)) (.cells #[.int .u64 0] 50))
  have cM' : (((w.alloc (.cells (bcells l).toArray 35)).alloc (.cells #[.int .u64 m] 50)).alloc (.cells #[.int .u64 0] 50)).cell? ⟨w.heap.size + 1, 0, none⟩ = some (.int .u64 m) := by
    have h := heap_alloc_new (w.alloc (.cells (bcells l).toArray 35)) (.cells #[.int .u64 m] 50)
    rw [World.size_alloc] at h
    have hcb : CB (((w.alloc (.cells (bcells l).toArray 35)).alloc (.cells #[.int .u64 m] 50)).alloc (.cells #[.int .u64 0] 50)) (w.heap.size + 1) 50 [.int .u64 m] := (Below.heap_alloc _ _ _ (by simp)).trans h
    exact hcb.cell 0
  have cN : (((w.alloc (.cells (bcells l).toArray 35)).alloc (.cells #[.int .u64 m] 50)).alloc (.cells #[.int .u64 0] 50)).cell? ⟨w.heap.size + 1 + 1, 0, none⟩ = some (.int .u64 0) ∧ (((w.alloc (.cells (bcells l).toArray 35)).alloc (.cells #[.int .u64 m] 50)).alloc (.cells #[.int .u64 0] 50)).frozen? ⟨w.heap.size + 1 + 1, 0, none⟩ = false := by
    have h := heap_alloc_new ((w.alloc (.cells (bcells l).toArray 35)).alloc (.cells #[.int .u64 m] 50)) (.cells #[.int .u64 0] 50)
    rw [World.size_alloc, World.size_alloc] at h
    have hcb : CB (((w.alloc (.cells (bcells l).toArray 35)).alloc (.cells #[.int .u64 m] 50)).alloc (.cells #[.int .u64 0] 50)) (w.heap.size + 1 + 1) 50 [.int .u64 0] := h
    exact ⟨hcb.cell 0, hcb.frozen 0⟩
  have HcM := Lib.hid cM'; have HcN := Lib.hid cN
  clear cM' cN
  change Calls Tryd.prog 51 #[.agg (bcells l).toArray, .int .u64 m] w _
  go_enter Tryd.func51, Tryd.ntmps51
  go_wp2_with (with_reducible refine wpList_load_d (hgd := rfl) 35 (.tmp 2) rfl w.heap.size l hl'.out rfl 35 _ hA.out Tryd.underlying35 rfl dig_sz ?_)
  generalize (((w.alloc (.cells (bcells l).toArray 35)).alloc (.cells #[.int .u64 m] 50)).alloc (.cells #[.int .u64 0] 50)) = w0 at *
  obtain ⟨d, hd⟩ : ∃ d, dv l = d := ⟨_, rfl⟩
  rw [hd]
  have hidx := Lib.hid (fun k c hc w => idx_d l hl'.out k c hc w)
  rw [hd] at hidx
  clear hd
  go_loopw [10] (fun i wr => RestRel l (w.heap.size + 1 + 1) w0 i wr) (fun i _ => 32 - (intOf i).toNat)
  case atStart => exact ⟨0, by omega, rfl, HcN.out.1, HcN.out.2, grown_refl _ _⟩
  case round =>
    obtain ⟨k, hk, rfl, hc, hf, hg⟩ := hrel
    have HG := Lib.hid hg
    by_cases hlt : k < 32
    · have tk : decide ((k : Int) < 32) = true := by simp; omega
      obtain ⟨c, hck⟩ : ∃ c, l[k]? = some c := ⟨_, List.getElem?_eq_getElem (by rw [hl'.out]; exact hlt)⟩
      have hix := hidx.out k c hck
      have hst := Lib.hid (restM_step l k c hck)
      obtain ⟨n, hn⟩ : ∃ n, restM (l.take k) = n := ⟨_, rfl⟩
      have hnl : n < cM := by rw [← hn]; exact restM_lt _
      rw [hn] at hc hst
      have hMr : wr.cell? ⟨w.heap.size + 1, 0, none⟩ = some (.int .u64 (cM : Int)) := by rw [Hm.out]; exact hg.cell (a := ⟨w.heap.size + 1, 0, none⟩) HcM.out (by simp)
      have HMr := Lib.hid hMr; have Hnl := Lib.hid hnl
      clear hg hck hn hMr hnl
      go_wp2_with fail
      refine (fold_any c (w.heap.size + 1 + 1) (w.heap.size + 1) n wr Hnl.out hc HMr.out hf).mono ?_
      rintro e w1 ⟨rfl, hc1, hf1, hg1⟩
      have HC1 := Lib.hid hc1; have HF1 := Lib.hid hf1; have HG1 := Lib.hid hg1
      clear hc1 hf1 hg1
      go_wp2_with fail
      go_roundw
      case rel => exact ⟨k + 1, by omega, by go_num, by rw [hst.out]; exact HC1.out, HF1.out, grown_trans HG.out HG1.out (.inl rfl)⟩
      case measure => simp [intOf]; omega
    · have hk32 : k = 32 := by omega
      have tk : decide ((k : Int) < 32) = false := by simp; omega
      rw [hk32, List.take_of_length_le (by rw [hl'.out]; exact Nat.le_refl _)] at hc
      obtain ⟨n, hn⟩ : ∃ n, restM l = n := ⟨_, rfl⟩
      rw [hn] at hc
      have Hn := Lib.hid hn
      have hgw := Lib.hid (grown_trans hG.out hg (.inr fun g hg => by injection hg; omega))
      clear hg hn hk32
      go_wp2
      refine bodyPost_ret (v := .int .u64 n) (by simp [results, Tryd.results51, go_sem, hc]) rfl ?_
      exact ⟨by rw [Hn.out], (grown_none hgw.out).setCell (by simp; omega) _⟩
end Go.Proofs.YtmhmenmkgbebcaaDoor
