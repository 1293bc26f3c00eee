/- group: power. -/
import Derived.Test.YtmhmenmkgbebcaaDoorGpw
namespace Go.Proofs.YtmhmenmkgbebcaaDoor
open Go.RowKit Go.Shelf

attribute [local go_sem] Oper.semAt_some

theorem cell_of_box_l {W : World} {B : Nat} {v : Value} {t : TypeId} (h : W.heap[B]? = some (.cells #[v] t (0, 0))) : W.cell? ⟨B, 0, none⟩ = some v ∧ W.frozen? ⟨B, 0, none⟩ = false := by
  constructor <;> simp [World.cell?, World.frozen?, h]
theorem cell_new_l (W : World) (v : Value) (t : TypeId) : (W.alloc (.cells #[v] t)).cell? ⟨W.heap.size, 0, none⟩ = some v ∧ (W.alloc (.cells #[v] t)).frozen? ⟨W.heap.size, 0, none⟩ = false :=
  cell_of_box_l (World.alloc_heap_new W _)
theorem cell_alloc_l {W : World} {a : Addr} {v : Value} (o : Obj) (h : W.cell? a = some v) : (W.alloc o).cell? a = some v := cell_kept h (World.grownBy_alloc W o none) (fun r e => by cases e)
theorem frozen_alloc_l {W : World} {a : Addr} {v : Value} (o : Obj) (h : W.cell? a = some v) (hf : W.frozen? a = false) : (W.alloc o).frozen? a = false := (frozen_kept h (World.grownBy_alloc W o none) (fun r e => by cases e)).trans hf
theorem times_is (x y r : Nat) (hr : Hid (x * y % cP = r)) (hx : Hid (x < cP)) (hy : Hid (y < cP)) (w : World) : Calls Tryd.prog 48 #[.int .u64 x, .int .u64 y] w fun e w' => e = .returned (.int .u64 (r : Int)) ∧ Below w.heap.size w w' := by
  have h := times_any x y hx hy w
  rw [hr.out] at h; exact h
theorem digits_stops (n : Nat) (hn : 1 ≤ n) (Bk k : Nat) (hk : Hid (k < 18446744073709551616)) (w : World) (hBk : Bk < w.heap.size) (hc : w.cell? ⟨Bk, 0, none⟩ = some (.int .u64 k)) :
    SeqStopsK Fence.wide n Tryd.prog 65 #[.pointer (some ⟨Bk, 0, none⟩)] (fun x : Bool => #[Value.bool x]) (SameAt Bk) (fun ys => ys = bitsF (Lib.bitLen k) k) (fun pre => pre <+: bitsF (Lib.bitLen k) k) (Lib.bitLen k) w := fun l J Jx W hW _ _ hY h0 => by
  have hc' := (hW.cell (p := ⟨Bk, 0, none⟩) (by show Bk < w.heap.size; omega)).trans hc
  exact (digits1_in n hn l Bk k hk J Jx hY W hc' h0)
theorem sameAt_b {w : World} {Bk : Nat} (h : Bk < w.heap.size) : ∀ (W : World) (l : Nat) (o o' : Obj), w.heap.size ≤ l → W.heap[l]? = some o → o.isCells = false → o.isWalk = false → SameAt Bk W (W.putObj l o') :=
  fun W l o o' hl _ _ _ => World.putObj_heap_other (by omega)

set_option maxRecDepth 100000 in
set_option maxHeartbeats 2000000 in
theorem power_any (a k : Nat) (ha : Hid (a < cP)) (hk : Hid (k < 18446744073709551616)) (w : World) : Calls Tryd.prog 46 #[.int .u64 a, .int .u64 k] w fun e w' => e = .returned (.int .u64 ((pw a k : Nat) : Int)) ∧ Below w.heap.size w w' := by
  refine (callsIn_wide (n := 9)).1 ?_
  refine callsIn_of_wp_marks Tryd.func46 rfl trivial ?_ rfl
  simp only [Tryd.ntmps46, List.size_toArray, List.length_cons, List.length_nil, Nat.reduceAdd, Nat.reduceSub, Array.replicate_succ, Array.replicate_zero, List.push_toArray, List.append_toArray, List.nil_append, List.cons_append]
  gi_wp2_with (refine ⟨trivial, ?_⟩; gi_at_call 59; refine (callsIn_wide.2 (digits_any k _)).mono ?_; rintro e w' ⟨rfl, hw⟩; obtain rfl := hw.symm)
  obtain ⟨W0, hW0⟩ : ∃ W0, ((w.alloc (.cells #[.int .u64 a] 50)).alloc (.cells #[.int .u64 1] 50)).alloc (.cells #[.int .u64 k] 50) = W0 := ⟨_, rfl⟩
  have hs0 : W0.heap.size = w.heap.size + 1 + 1 + 1 := by rw [← hW0, World.size_alloc, World.size_alloc, World.size_alloc]
  have ca : W0.cell? ⟨w.heap.size, 0, none⟩ = some (.int .u64 a) := by rw [← hW0]; exact cell_alloc_l _ (cell_alloc_l _ (cell_new_l w _ _).1)
  have cc : W0.cell? ⟨w.heap.size + 1, 0, none⟩ = some (.int .u64 1) := by
    rw [← hW0]
    have h := (cell_new_l (w.alloc (.cells #[.int .u64 a] 50)) (.int .u64 1) 50).1
    rw [World.size_alloc] at h; exact cell_alloc_l _ h
  have fc : W0.frozen? ⟨w.heap.size + 1, 0, none⟩ = false := by
    rw [← hW0]
    have h := cell_new_l (w.alloc (.cells #[.int .u64 a] 50)) (.int .u64 1) 50
    rw [World.size_alloc] at h
    exact frozen_alloc_l _ h.1 h.2
  have ck : W0.cell? ⟨w.heap.size + 1 + 1, 0, none⟩ = some (.int .u64 k) := by
    rw [← hW0]
    have h := (cell_new_l ((w.alloc (.cells #[.int .u64 a] 50)).alloc (.cells #[.int .u64 1] 50)) (.int .u64 k) 50).1
    rw [World.size_alloc, World.size_alloc] at h; exact h
  have hB0 : Below w.heap.size w W0 := by rw [← hW0]; exact (((Below.refl _ w).alloc (Nat.le_refl _) _).alloc (by simp) _).alloc (by simp; omega) _
  rw [hW0]
  clear hW0
  refine wpIn_rangeFunc_ownF rfl (by decide) (gf := 65) (lb := #[.pointer (some ⟨w.heap.size + 1 + 1, 0, none⟩)]) rfl trivial (enters_of Tryd.func65 (by kernel_rfl) rfl)
    (digits_stops 8 (by decide) (w.heap.size + 1 + 1) k hk W0 (by omega) ck) SameAt.trans (sameAt_b (by omega)) (Below.refl _ _) (fun _ => rfl)
    (fun pre W => (W.cell? ⟨w.heap.size, 0, none⟩ = some (.int .u64 a) ∧ W.cell? ⟨w.heap.size + 1, 0, none⟩ = some (.int .u64 ((pw a (bval pre) : Nat) : Int)) ∧ W.frozen? ⟨w.heap.size + 1, 0, none⟩ = false ∧ W.cell? ⟨w.heap.size + 1 + 1, 0, none⟩ = some (.int .u64 k)) ∧ Below w.heap.size w W)
    (fun _ _ _ => False)
    (OwnFrom.and (Own.from (fun s A B row hs hg hr => ⟨cell_kept hs.1 hg hr, cell_kept hs.2.1 hg hr, (frozen_kept hs.2.1 hg hr).trans hs.2.2.1, cell_kept hs.2.2.2 hg hr⟩) _) (ownFrom_below (Nat.le_refl _) (by omega)))
    (fun _ _ _ _ _ hs _ _ => hs)
    ⟨⟨ca, by rw [cc]; exact congrArg (fun z => some (Value.int .u64 z)) (by have := pw_zero a; show (1 : Int) = ((pw a (bval []) : Nat) : Int); rw [show bval [] = 0 from rfl, this]; rfl), fc, ck⟩, hB0⟩
    (fun x => { tmps := #[.int .u64 a, .int .u64 k, .pointer (some ⟨w.heap.size, 0, none⟩), undef, .int .u64 0, .pointer (some ⟨w.heap.size + 1, 0, none⟩), .bool x, .int .u64 k, .func (.func 65) #[] #[.pointer (some ⟨w.heap.size + 1 + 1, 0, none⟩)], .bool x, undef, undef, undef, undef, undef, undef, undef, undef], defers := [] }) ?assign ?body ?done ?stop
  case assign =>
    intro l x W K hK
    gi_wp2
    exact hK
  case body =>
    rintro l pre x W ⟨⟨hc1, hc2, hf2, hc4⟩, hB⟩ _
    have hW2 : w.heap.size + 1 + 1 < W.heap.size := World.block_lt_of_cell? W _ hc4
    have hbl : w.heap.size + 1 < W.heap.size := World.block_lt_of_cell? W _ hc2
    have hlt := pw_lt a (bval pre)
    obtain ⟨v, hv⟩ : ∃ v, bval pre = v := ⟨_, rfl⟩
    have hsn := Lib.hid (bval_snoc pre x)
    rw [hv] at hc2 hlt hsn
    obtain ⟨c, hc⟩ : ∃ c, pw a v = c := ⟨_, rfl⟩
    rw [hc] at hc2 hlt
    have Hlt := Lib.hid hlt
    have h0 := Lib.hid (pw_step0 a v)
    have h1 := Lib.hid (pw_step1 a v)
    rw [hc] at h0
    clear hlt hv hc
    obtain ⟨c2, e2⟩ : ∃ c2, pw a (2 * v) = c2 := ⟨_, rfl⟩
    obtain ⟨c3, e3⟩ : ∃ c3, pw a (2 * v + 1) = c3 := ⟨_, rfl⟩
    rw [e2] at h0 h1
    rw [e3] at h1
    have Hc2 : Hid (c2 < cP) := by show _ < _; rw [← e2]; exact pw_lt _ _
    have E2 := Lib.hid e2; have E3 := Lib.hid e3
    clear e2 e3
    cases x with
    | false =>
      gi_wp2_with fail
      refine ⟨trivial, ?_⟩
      refine (CallsIn.inRound l (callsIn_wide.2 (times_is c c c2 h0 Hlt Hlt _))).mono ?_
      rintro e W1 ⟨rfl, hb1⟩
      have d1 := cell_ext hb1 hc1
      have d2 := cell_ext hb1 hc2
      have d4 := cell_ext hb1 hc4
      have df : W1.frozen? ⟨w.heap.size + 1, 0, none⟩ = false := (hb1.frozen (p := ⟨w.heap.size + 1, 0, none⟩) hbl).trans hf2
      have hbl1 : w.heap.size + 1 < W1.heap.size := World.block_lt_of_cell? W1 _ d2
      clear hc1 hc2 hf2 hc4
      gi_wp2_with fail
      refine ⟨(keepsOthers_of_below hb1).trans (KeepsOthers.setCell _ _ _), (Below.heap_setCell _ _ _ _ (by show w.heap.size + 1 + 1 ≠ w.heap.size + 1; omega)).trans (hb1.block _ hW2), ⟨?_, ?_, ?_, ?_⟩, ?_⟩
      · rw [World.cell?_setCell_other _ _ _ _ (by simp)]; exact d1
      · rw [hsn.out]; simp only [Bool.false_eq_true, if_false, Nat.add_zero]; rw [E2.out]; exact World.cell?_setCell_same' _ _ _ (by rw [d2]; rfl)
      · rw [World.frozen?_setCell]; exact df
      · rw [World.cell?_setCell_other _ _ _ _ (by simp)]; exact d4
      · exact (below_ext hB hb1).setCell (p := ⟨w.heap.size + 1, 0, none⟩) (by show _ ≤ w.heap.size + 1; omega) _
    | true =>
      gi_wp2_with fail
      refine ⟨trivial, ?_⟩
      refine (CallsIn.inRound l (callsIn_wide.2 (times_is c c c2 h0 Hlt Hlt _))).mono ?_
      rintro e W1 ⟨rfl, hb1⟩
      have d1 := cell_ext hb1 hc1
      have d2 := cell_ext hb1 hc2
      have d4 := cell_ext hb1 hc4
      have df : W1.frozen? ⟨w.heap.size + 1, 0, none⟩ = false := (hb1.frozen (p := ⟨w.heap.size + 1, 0, none⟩) hbl).trans hf2
      have hbl1 : w.heap.size + 1 < W1.heap.size := World.block_lt_of_cell? W1 _ d2
      clear hc1 hc2 hf2 hc4
      have s1 : (W1.setCell ⟨w.heap.size + 1, 0, none⟩ (.int .u64 (c2 : Int))).cell? ⟨w.heap.size, 0, none⟩ = some (.int .u64 a) := by rw [World.cell?_setCell_other _ _ _ _ (by simp)]; exact d1
      have s2 : (W1.setCell ⟨w.heap.size + 1, 0, none⟩ (.int .u64 (c2 : Int))).cell? ⟨w.heap.size + 1, 0, none⟩ = some (.int .u64 (c2 : Int)) := World.cell?_setCell_same' _ _ _ (by rw [d2]; rfl)
      have s4 : (W1.setCell ⟨w.heap.size + 1, 0, none⟩ (.int .u64 (c2 : Int))).cell? ⟨w.heap.size + 1 + 1, 0, none⟩ = some (.int .u64 k) := by rw [World.cell?_setCell_other _ _ _ _ (by simp)]; exact d4
      have sf : (W1.setCell ⟨w.heap.size + 1, 0, none⟩ (.int .u64 (c2 : Int))).frozen? ⟨w.heap.size + 1, 0, none⟩ = false := by rw [World.frozen?_setCell]; exact df
      gi_wp2_with fail
      refine ⟨trivial, ?_⟩
      refine (CallsIn.inRound l (callsIn_wide.2 (times_is c2 a c3 h1 Hc2 ha _))).mono ?_
      rintro e W2 ⟨rfl, hb2⟩
      have z1 := cell_ext hb2 s1
      have z2 := cell_ext hb2 s2
      have z4 := cell_ext hb2 s4
      have zf : W2.frozen? ⟨w.heap.size + 1, 0, none⟩ = false := (hb2.frozen (p := ⟨w.heap.size + 1, 0, none⟩) (World.block_lt_of_cell? _ _ s2)).trans sf
      have hW12 : w.heap.size + 1 + 1 < W1.heap.size := World.block_lt_of_cell? W1 _ d4
      have hsz : (W1.setCell ⟨w.heap.size + 1, 0, none⟩ (.int .u64 (c2 : Int))).heap.size = W1.heap.size := by simp [World.setCell]
      have hB1 := (below_ext hB hb1).setCell (p := ⟨w.heap.size + 1, 0, none⟩) (by show _ ≤ w.heap.size + 1; omega) (.int .u64 (c2 : Int))
      clear s1 s2 s4 sf d1 d2 d4 df
      gi_wp2_with fail
      refine ⟨(((keepsOthers_of_below hb1).trans (KeepsOthers.setCell _ _ _)).trans (keepsOthers_of_below hb2)).trans (KeepsOthers.setCell _ _ _), ?_, ⟨?_, ?_, ?_, ?_⟩, ?_⟩
      · exact (Below.heap_setCell _ _ _ _ (by show w.heap.size + 1 + 1 ≠ w.heap.size + 1; omega)).trans ((hb2.block _ (by rw [hsz]; exact hW12)).trans ((Below.heap_setCell _ _ _ _ (by show w.heap.size + 1 + 1 ≠ w.heap.size + 1; omega)).trans (hb1.block _ hW2)))
      · rw [World.cell?_setCell_other _ _ _ _ (by simp)]; exact z1
      · rw [hsn.out]; simp only [if_true]; rw [E3.out]; exact World.cell?_setCell_same' _ _ _ (by rw [z2]; rfl)
      · rw [World.frozen?_setCell]; exact zf
      · rw [World.cell?_setCell_other _ _ _ _ (by simp)]; exact z4
      · exact (hB1.trans (hb2.mono hB1.size)).setCell (p := ⟨w.heap.size + 1, 0, none⟩) (by show _ ≤ w.heap.size + 1; omega) _
  case done =>
    rintro D ys W hD rfl ⟨⟨_, hc, _, _⟩, hB⟩ hK
    gi_wp2
    refine ⟨by simp, .inl ⟨_, _, rfl, run_takeDeferred hK, ?_⟩⟩
    have hv : bval (bitsF (Lib.bitLen k) k) = k := bval_bitsF _ _ (bitLen_lt k hk.out).1
    exact ⟨_, results_tmp rfl _ _ _, by show Ending.returned (.int .u64 ((pw a (bval (bitsF (Lib.bitLen k) k)) : Nat) : Int)) = _; rw [hv], hB.trans (belowK_b (w := w) (Nat.le_refl _) W D _ _ (by omega) hK rfl rfl)⟩
  case stop =>
    rintro D c pre W _ _ h _
    exact h.elim
end Go.Proofs.YtmhmenmkgbebcaaDoor
