/- digest: absorb. -/
import Derived.Test.YtmhmenmkgbebcaaDoorDwk
import Derived.Deep.QuietTactic
import Derived.BigQuiet
import Derived.StillTailTactics
import Derived.Deep.RegionLaw
namespace Go.Proofs.YtmhmenmkgbebcaaDoor
open Go.RowKit
/-- the words block behind k words -/
def wcs (l : List W32) : List Value := (l ++ List.replicate (64 - l.length) 0).map iw32
theorem rot_still (x : W32) (r : Nat) (n : Int) (hn : n = -(r : Int)) (h1 : 1 ≤ r) (h2 : r ≤ 31) (w : World) : Calls Tryd.prog 73 #[.int .u32 (iw x), .int .i64 n] w fun e w' => e = .returned (.int .u32 (iw (ror x r))) ∧ w' = w := (rot_any x r n hn h1 h2 w).mono fun _ _ h => ⟨h.1, h.2.symm⟩
theorem badd4 (a b c d : W32) : (iw a + iw b + iw c + iw d) % 4294967296 = iw (a + b + c + d) := by unfold iw; simp only [BitVec.toNat_add]; omega
theorem wnext_eq (a x c y : W32) : (iw a + bits BinOp.xor .u32 (iw (ror x 7 ^^^ ror x 18)) (iw x / 8) + iw c + bits BinOp.xor .u32 (iw (ror y 17 ^^^ ror y 19)) (iw y / 1024)) % 4294967296 = iw (wNext a x c y) := by
  have f2 : iw x / (8 : Int) = iw (x >>> 3) := bshr x 3
  have f7 : iw y / (1024 : Int) = iw (y >>> 10) := bshr y 10
  rw [f2, f7, bxor, bxor]
  exact badd4 a (ssig0 x) c (ssig1 y)
theorem wcs_get (l : List W32) (h : l.length ≤ 64) (j : Nat) (hj : j < 64) : (wcs l)[j]? = some (.int .u32 (iw (l.getD j 0))) := by
  unfold wcs
  rw [List.getElem?_map]
  by_cases h1 : j < l.length
  · rw [List.getElem?_append_left h1, List.getElem?_eq_getElem h1]; simp [iw32, h1]
  · rw [List.getElem?_append_right (by omega), List.getElem?_replicate, if_pos (by omega)]; simp [iw32, List.getD, List.getElem?_eq_none (show l.length ≤ j by omega)]
theorem wcs_set (l : List W32) (k : Nat) (hk : l.length = k) (h : k < 64) (x : W32) : (wcs l).set k (.int .u32 (iw x)) = wcs (l ++ [x]) := by
  subst hk
  unfold wcs
  rw [show (64 - l.length) = (64 - (l ++ [x]).length) + 1 by simp; omega, List.replicate_succ]
  show (List.map iw32 _).set _ (iw32 x) = _
  rw [← List.map_set, List.set_append_right _ _ (Nat.le_refl _), Nat.sub_self]
  simp
theorem words_succ (l : List UInt8) (k : Nat) (hk : k < 16) : (words l).take (k + 1) = (words l).take k ++ [word (l.drop (4 * k))] := by
  rw [List.take_succ_eq_append_getElem (by rw [words_len]; exact hk)]; simp [words]
theorem words_take_len (l : List UInt8) (k : Nat) (hk : k ≤ 16) : ((words l).take k).length = k := by rw [List.length_take, words_len]; omega
def W2Rel (T : Nat) (ws : List W32) (w : World) (i : Value) (wr : World) : Prop :=
  ∃ k : Nat, k ≤ 48 ∧ i = .int .i64 (k + 16 : Nat) ∧ CB wr T 84 (wcs (sched k ws)) ∧ w.grownBy wr none
theorem p_eq (v : S8) (k x : W32) : ((iw v.h + iw (rot3 v.e 6 11 25) + bits BinOp.xor IntKind.u32 (iw v.g) (bits BinOp.and IntKind.u32 (iw v.e) (bits BinOp.xor IntKind.u32 (iw v.f) (iw v.g))) + iw k) % 4294967296 + iw x) % 4294967296 = iw (rndP v k x) := by
  rw [bxor, band, bxor, badd4, badd]; rfl
theorem q_eq (v : S8) : (iw (rot3 v.a 2 13 22) + bits BinOp.or IntKind.u32 (bits BinOp.and IntKind.u32 (iw v.a) (iw v.b)) (bits BinOp.and IntKind.u32 (iw v.c) (bits BinOp.or IntKind.u32 (iw v.a) (iw v.b)))) % 4294967296 = iw (rndQ v) := by
  rw [band, bor, band, bor, badd]; rfl
theorem below_drewN {B : Nat} {w0 w : World} (h : Below B w0 w) (n : Nat) : Below B w0 (w.drewN n) := h.trans ⟨rfl, rfl, rfl, Nat.le_refl _, fun _ _ => rfl⟩
theorem copy_cells (v : S8) : splice (v.l.map iw32) 1 [iw32 v.a, iw32 v.b, iw32 v.c, iw32 v.d, iw32 v.e, iw32 v.f, iw32 v.g] = ((⟨v.a, v.a, v.b, v.c, v.d, v.e, v.f, v.g⟩ : S8).l.map iw32) := rfl
theorem copy_src {w : World} {V : Nat} {t : TypeId} {v : S8} (h : CB w V t (v.l.map iw32)) : ∀ j x, [iw32 v.a, iw32 v.b, iw32 v.c, iw32 v.d, iw32 v.e, iw32 v.f, iw32 v.g][j]? = some x → w.drew.cell? ((⟨V, 0, none⟩ : Addr).add j) = some x := by
  intro j x hj
  have hpl : (⟨V, 0, none⟩ : Addr).add j = ⟨V, j, none⟩ := by unfold Addr.add; split <;> simp_all
  rw [hpl]
  have hjl : j < 7 := by
    rcases Nat.lt_or_ge j 7 with h | h
    · exact h
    · rw [List.getElem?_eq_none (by simpa using h)] at hj; cases hj
  have h2 : (v.l.map iw32)[j]? = some x := by
    rw [← hj]
    have : v.l.map iw32 = [iw32 v.a, iw32 v.b, iw32 v.c, iw32 v.d, iw32 v.e, iw32 v.f, iw32 v.g] ++ [iw32 v.h] := rfl
    rw [this, List.getElem?_append_left (by simpa using hjl)]
  exact (h.cell j).trans h2
theorem copy_one (v : S8) : ∀ x ∈ [iw32 v.a, iw32 v.b, iw32 v.c, iw32 v.d, iw32 v.e, iw32 v.f, iw32 v.g], x.oneCell' = true := by
  intro x hx; simp only [List.mem_cons, List.not_mem_nil, or_false] at hx
  rcases hx with rfl | rfl | rfl | rfl | rfl | rfl | rfl <;> rfl
def addTo (i : Nat) (s v : S8) : List W32 := s.l.zipWith (· + ·) v.l |>.take i |> (· ++ s.l.drop i)
theorem addTo_len (i : Nat) (s v : S8) (h : i ≤ 8) : (addTo i s v).length = 8 := by simp [addTo, S8.l]; omega
theorem addTo_all (s v : S8) : addTo 8 s v = (s.add v).l := rfl
theorem addTo_zero (s v : S8) : addTo 0 s v = s.l := rfl
theorem addTo_cell (i : Nat) (s v : S8) (h : i < 8) : ((addTo i s v).map iw32)[i]? = some (.int .u32 (iw (s.l.getD i 0))) ∧ (v.l.map iw32)[i]? = some (.int .u32 (iw (v.l.getD i 0))) := by
  rcases (by omega : i = 0 ∨ i = 1 ∨ i = 2 ∨ i = 3 ∨ i = 4 ∨ i = 5 ∨ i = 6 ∨ i = 7) with rfl | rfl | rfl | rfl | rfl | rfl | rfl | rfl <;> exact ⟨rfl, rfl⟩
theorem addTo_set (i : Nat) (s v : S8) (h : i < 8) : ((addTo i s v).map iw32).set i (.int .u32 (iw (s.l.getD i 0 + v.l.getD i 0))) = (addTo (i + 1) s v).map iw32 := by
  rcases (by omega : i = 0 ∨ i = 1 ∨ i = 2 ∨ i = 3 ∨ i = 4 ∨ i = 5 ∨ i = 6 ∨ i = 7) with rfl | rfl | rfl | rfl | rfl | rfl | rfl | rfl <;> rfl
def W4Rel (S V : Nat) (s v : S8) (w : World) (i : Value) (wr : World) : Prop :=
  ∃ t : Nat, t ≤ 8 ∧ i = .int .i64 t ∧ CB wr S 76 ((addTo t s v).map iw32) ∧ CB wr V 76 (v.l.map iw32) ∧ w.grownBy wr (some S)
theorem cb8 {w : World} {V : Nat} {t : TypeId} {v : S8} (h : CB w V t (v.l.map iw32)) :
    w.cell? ⟨V, 0, none⟩ = some (.int .u32 (iw v.a)) ∧ w.cell? ⟨V, 1, none⟩ = some (.int .u32 (iw v.b)) ∧ w.cell? ⟨V, 2, none⟩ = some (.int .u32 (iw v.c)) ∧ w.cell? ⟨V, 3, none⟩ = some (.int .u32 (iw v.d)) ∧
      w.cell? ⟨V, 4, none⟩ = some (.int .u32 (iw v.e)) ∧ w.cell? ⟨V, 5, none⟩ = some (.int .u32 (iw v.f)) ∧ w.cell? ⟨V, 6, none⟩ = some (.int .u32 (iw v.g)) ∧ w.cell? ⟨V, 7, none⟩ = some (.int .u32 (iw v.h)) :=
  ⟨h.cell 0, h.cell 1, h.cell 2, h.cell 3, h.cell 4, h.cell 5, h.cell 6, h.cell 7⟩
def W3Rel (V : Nat) (s : S8) (W : List W32) (w : World) (i : Value) (wr : World) : Prop :=
  ∃ t : Nat, t ≤ 64 ∧ i = .int .i64 t ∧ CB wr V 76 ((rounds s W t).l.map iw32) ∧ Below V w wr
/-- the tables of the digest, as start-up code lays them -/
structure Laid (w : World) : Prop where
  num : ∀ t, t < 64 → w.cell? ⟨3, t, none⟩ = some (.int .u32 (iw (kK t)))
  start : ∀ t, t < 8 → w.cell? ⟨2, t, none⟩ = some (.int .u32 (iw (startS.l.getD t 0)))
theorem Laid.lt {w : World} (h : Laid w) : 3 < w.heap.size ∧ 2 < w.heap.size :=
  ⟨World.block_lt_of_cell? w _ (h.num 0 (by decide)), World.block_lt_of_cell? w _ (h.start 0 (by decide))⟩
theorem Laid.keep {w w' : World} (h : Laid w) (h1 : w'.heap[3]? = w.heap[3]?) (h2 : w'.heap[2]? = w.heap[2]?) : Laid w' :=
  ⟨fun t ht => by rw [World.cell?_of_block (w := w) h1]; exact h.num t ht, fun t ht => by rw [World.cell?_of_block (w := w) h2]; exact h.start t ht⟩
theorem Laid.below {B : Nat} {w w' : World} (h : Laid w) (hb : Below B w w') (hB : w.heap.size ≤ B) : Laid w' := h.keep (hb.block _ (by have := h.lt; omega)) (hb.block _ (by have := h.lt; omega))
theorem Laid.ext {w w' : World} (h : Laid w) (hb : Below w.heap.size w w') : Laid w' := h.below hb (Nat.le_refl _)
theorem Laid.grown {w w' : World} {G : Option Nat} (h : Laid w) (hb : w.grownBy w' G) (hG : ∀ g, G = some g → g ≠ 3 ∧ g ≠ 2) : Laid w' :=
  h.keep (hb.block _ h.lt.1 (fun e => (hG _ e.symm).1 rfl)) (hb.block _ h.lt.2 (fun e => (hG _ e.symm).2 rfl))
theorem rotated_still (x : W32) (a b c : Nat) (ai bi ci : Int) (ha : ai = (a : Int)) (hb : bi = (b : Int)) (hc : ci = (c : Int)) (ha1 : 1 ≤ a) (ha2 : a ≤ 31) (hb1 : 1 ≤ b) (hb2 : b ≤ 31) (hc1 : 1 ≤ c) (hc2 : c ≤ 31) (w : World) :
    Calls Tryd.prog 74 #[.int .u32 (iw x), .int .i64 ai, .int .i64 bi, .int .i64 ci] w fun e w' => e = .returned (.int .u32 (iw (rot3 x a b c))) ∧ w' = w :=
  (rotated_any x a b c ai bi ci ha hb hc ha1 ha2 hb1 hb2 hc1 hc2 w).mono fun _ _ h => ⟨h.1, h.2.symm⟩
def W1Rel (T : Nat) (l : List UInt8) (w : World) (i : Value) (wr : World) : Prop :=
  ∃ k : Nat, k ≤ 16 ∧ i = .int .i64 k ∧ CB wr T 84 (wcs ((words l).take k)) ∧ w.grownBy wr none
set_option maxRecDepth 100000 in
set_option maxHeartbeats 1000000 in
theorem absorb_any (S b off cap : Nat) (s : S8) (l : List UInt8) (w : World) (hl : l.length = 64) (hcap : 64 ≤ cap) (hm : cap ≤ maxLen) (hb : b < w.heap.size) (hbl : BL w b off l) (hS : CB w S 76 (s.l.map iw32)) (_hne : b ≠ S) (hLd : Laid w) :
    Calls Tryd.prog 67 #[.pointer (some ⟨S, 0, none⟩), .slice (some ⟨b, off, none⟩) 64 cap] w fun e w' => e = .returned (.tuple #[]) ∧ CB w' S 76 ((blockS s l).l.map iw32) ∧ w.grownBy w' (some S) := by
  have g1 : (64 : Int) ≤ (cap : Int) := by omega
  have hL := Lib.hid hl; have HBL := Lib.hid hbl; have HS := Lib.hid hS; have HM := Lib.hid hm
  unfold maxLen at hm
  clear hl hbl hS
  have HLd := Lib.hid hLd; clear hLd
  go_enter Tryd.func67, Tryd.ntmps67
  go_wp2
  go_loopw [14] (fun i wr => W1Rel w.heap.size l w i wr) (fun i _ => 16 - (intOf i).toNat)
  case atStart => exact ⟨0, by omega, rfl, heap_alloc_new w _, World.grownBy_alloc w _ none⟩
  case round =>
    obtain ⟨k, hk, rfl, hcb, hg⟩ := hrel
    have HG := Lib.hid hg
    by_cases hlt : k < 16
    · have hfz := hcb.frozen k
      have hc := hcb.cell k
      have HCB := Lib.hid hcb
      clear hcb hg
      have hw := Lib.hid (words_succ l k hlt)
      have hst := Lib.hid (wcs_set ((words l).take k) k (words_take_len l k (by omega)) (by omega) (word (l.drop (4 * k))))
      rw [wcs_get _ (by rw [words_take_len l k (by omega)]; omega) k (by omega)] at hc
      go_wp2_with fail
      refine (word_any b (off + 4 * k) (64 - 4 * k) (cap - 4 * k) (l.drop (4 * k)) _ (by rw [List.length_drop, hL.out]; omega) (by omega) (by omega) (by have := HM.out; omega) ((HBL.out.keep (HG.out.block b hb (by simp))).drop (4 * k))).mono ?_
      rintro e w1 ⟨rfl, rfl⟩
      go_wp2_with fail
      go_roundw
      case rel => exact ⟨k + 1, by omega, by go_num, by rw [hw.out, ← hst.out]; exact HCB.out.set _ _, grown_set_new HG.out (Nat.le_refl _)⟩
      case measure => simp [intOf]; omega
    · have hke : k = 16 := by omega
      rw [hke] at hcb
      have HCB := Lib.hid hcb
      have tk : decide ((k : Int) < 16) = false := by simp; omega
      clear hcb hg hke
      go_wp2
      have hws : (words l).take 16 = words l := List.take_of_length_le (by rw [words_len]; omega)
      have hcb := HCB.out
      rw [hws] at hcb
      have HW := Lib.hid hcb
      have hwl := Lib.hid (words_len l)
      obtain ⟨ws, hwe⟩ : ∃ ws, words l = ws := ⟨_, rfl⟩
      rw [hwe] at HW hwl
      have Hwe := Lib.hid hwe
      clear hcb HCB hws hwe
      go_loopw [6] (fun i wr => W2Rel w.heap.size ws w i wr) (fun i _ => 64 - (intOf i).toNat)
      case atStart => exact ⟨0, by omega, rfl, HW.out, HG.out⟩
      case round =>
        obtain ⟨k, hk, rfl, hcb, hg⟩ := hrel
        obtain ⟨t, ht⟩ : ∃ t, k + 16 = t := ⟨_, rfl⟩
        rw [ht]
        have HG := Lib.hid hg
        have HCB := Lib.hid hcb
        by_cases hlt : k < 48
        · have hsl : (sched k ws).length = t := by rw [sched_len, hwl.out]; omega
          obtain ⟨x16, h16⟩ : ∃ x, (sched k ws).getD (t - 16) 0 = x := ⟨_, rfl⟩
          obtain ⟨x15, h15⟩ : ∃ x, (sched k ws).getD (t - 15) 0 = x := ⟨_, rfl⟩
          obtain ⟨x7, h7⟩ : ∃ x, (sched k ws).getD (t - 7) 0 = x := ⟨_, rfl⟩
          obtain ⟨x2, h2⟩ : ∃ x, (sched k ws).getD (t - 2) 0 = x := ⟨_, rfl⟩
          have hsc : Hid (sched (k + 1) ws = sched k ws ++ [wNext x16 x15 x7 x2]) := by
            show sched (k + 1) ws = _
            rw [← h16, ← h15, ← h7, ← h2, ← ht]; rfl
          have hst := Lib.hid (wcs_set (sched k ws) t hsl (by omega) (wNext x16 x15 x7 x2))
          have hcell : ∀ j, j < 64 → wr.cell? ⟨w.heap.size, j, none⟩ = some (.int .u32 (iw ((sched k ws).getD j 0))) := fun j hj => (hcb.cell j).trans (wcs_get _ (by omega) j hj)
          have c16 := hcell (t - 16) (by omega)
          have c15 := hcell (t - 15) (by omega)
          have c7 := hcell (t - 7) (by omega)
          have c2 := hcell (t - 2) (by omega)
          have c0 := hcell t (by omega)
          rw [h16] at c16; rw [h15] at c15; rw [h7] at c7; rw [h2] at c2
          have hfz := hcb.frozen t
          have n1 : t - 15 < 64 := by omega
          have n2 : t - 2 < 64 := by omega
          have n3 : t - 16 < 64 := by omega
          have n4 : t - 7 < 64 := by omega
          have n5 : (16 : Int) ≤ (t : Int) := by omega
          have n6 : (t : Int) < 64 := by omega
          have q15 : IntKind.i64.wrap ((t : Int) - 15) = (t : Int) - 15 := IntWalk.i64_in _ (by omega)
          have q2 : IntKind.i64.wrap ((t : Int) - 2) = (t : Int) - 2 := IntWalk.i64_in _ (by omega)
          have m15 : ((t : Int) - 15).toNat = t - 15 := by omega
          have m2 : ((t : Int) - 2).toNat = t - 2 := by omega
          have z15 : (0 : Int) ≤ (t : Int) - 15 := by omega
          have z2 : (0 : Int) ≤ (t : Int) - 2 := by omega
          have y15 : (t : Int) - 15 < 64 := by omega
          have y2 : (t : Int) - 2 < 64 := by omega
          have Ht := Lib.hid ht
          clear hcell hcb hg h16 h15 h7 h2 hsl ht
          go_wp2
          go_quiet (fail)
          have f1 := bxor (ror x15 7) (ror x15 18)
          have f6 := bxor (ror x2 17) (ror x2 19)
          have q16 : IntKind.i64.wrap ((t : Int) - 16) = (t : Int) - 16 := IntWalk.i64_in _ (by omega)
          have q7 : IntKind.i64.wrap ((t : Int) - 7) = (t : Int) - 7 := IntWalk.i64_in _ (by omega)
          have m16 : ((t : Int) - 16).toNat = t - 16 := by omega
          have m7 : ((t : Int) - 7).toNat = t - 7 := by omega
          have z16 : (0 : Int) ≤ (t : Int) - 16 := by omega
          have z7 : (0 : Int) ≤ (t : Int) - 7 := by omega
          have o7 : (7 : Int) ≤ (t : Int) := by omega
          have y16 : (t : Int) - 16 < 64 := by omega
          have y7 : (t : Int) - 7 < 64 := by omega
          have hcb2 : Hid (CB (wr.drewN nq) w.heap.size 84 (wcs (sched k ws))) := HCB.out
          have hg2 := Lib.hid (grown_drewN' HG.out nq)
          have d16 : (wr.drewN nq).cell? ⟨w.heap.size, t - 16, none⟩ = some (.int .u32 (iw x16)) := c16
          have d7 : (wr.drewN nq).cell? ⟨w.heap.size, t - 7, none⟩ = some (.int .u32 (iw x7)) := c7
          have d0 : (wr.drewN nq).cell? ⟨w.heap.size, t, none⟩ = some (.int .u32 (iw ((sched k ws).getD t 0))) := c0
          have df : (wr.drewN nq).frozen? ⟨w.heap.size, t, none⟩ = false := hfz
          clear HCB HG c16 c15 c7 c2 c0 hfz q15 q2 m15 m2 z15 z2 y15 y2
          generalize wr.drewN nq = w2 at *
          go_wp2
          go_still_tail 29, (by kernel_rfl)
          still_call (rot_still x15 7 _ rfl (by decide) (by decide) _)
          repeat still_step
          still_call (rot_still x15 18 _ rfl (by decide) (by decide) _)
          repeat still_step
          still_call (rot_still x2 17 _ rfl (by decide) (by decide) _)
          repeat still_step
          still_call (rot_still x2 19 _ rfl (by decide) (by decide) _)
          repeat still_step
          refine wpStill_nil ?_
          change wpList _ _ _ _ _ w2.drew
          have hcb3 : Hid (CB w2.drew w.heap.size 84 (wcs (sched k ws))) := hcb2.out
          have hg3 := Lib.hid (grown_drew' hg2.out)
          have b0 : w2.drew.cell? ⟨w.heap.size, t, none⟩ = some (.int .u32 (iw ((sched k ws).getD t 0))) := d0
          have bf : w2.drew.frozen? ⟨w.heap.size, t, none⟩ = false := df
          clear hcb2 hg2 d16 d7 d0 df
          generalize w2.drew = w3 at *
          go_wp2
          go_roundw
          case rel => exact ⟨k + 1, by omega, by have := Ht.out; go_num, by rw [hsc.out, ← hst.out, wnext_eq]; exact hcb3.out.set _ _, grown_set_new hg3.out (Nat.le_refl _)⟩
          case measure => simp [intOf]; omega
        · have hke : k = 48 := by omega
          rw [hke] at hcb
          have tk : decide ((t : Int) < 64) = false := by simp; omega
          have HT := Lib.hid hcb
          clear hcb hg hke HCB ht
          have hS0 := HS.out
          have hS1 : CB wr S 76 (s.l.map iw32) := hS0.keep (HG.out.block S hS0.lt (by simp))
          obtain ⟨s0, s1, s2, s3, s4, s5, s6, s7⟩ := cb8 hS1
          have HS1 := Lib.hid hS1
          clear hS0 hS1
          go_wp2
          have hV := Lib.hid (heap_alloc_new wr (.cells #[.int .u32 (iw s.a), .int .u32 (iw s.b), .int .u32 (iw s.c), .int .u32 (iw s.d), .int .u32 (iw s.e), .int .u32 (iw s.f), .int .u32 (iw s.g), .int .u32 (iw s.h)] 76))
          have hB := Lib.hid ((Below.refl wr.heap.size wr).alloc (Nat.le_refl _) (.cells #[.int .u32 (iw s.a), .int .u32 (iw s.b), .int .u32 (iw s.c), .int .u32 (iw s.d), .int .u32 (iw s.e), .int .u32 (iw s.f), .int .u32 (iw s.g), .int .u32 (iw s.h)] 76))
          clear s0 s1 s2 s3 s4 s5 s6 s7
          obtain ⟨W, hW⟩ : ∃ W, sched 48 ws = W := ⟨_, rfl⟩
          rw [hW] at HT
          have HW := Lib.hid hW
          clear hW
          obtain ⟨wo, rfl⟩ : ∃ wo : World, wo = wr := ⟨_, rfl⟩
          obtain ⟨V, hVe⟩ : ∃ V, wo.heap.size = V := ⟨_, rfl⟩
          rw [hVe] at hV hB ⊢
          go_loopw [69] (fun i wx => W3Rel V s W wo i wx) (fun i _ => 64 - (intOf i).toNat)
          case atStart => exact ⟨0, by omega, rfl, hV.out, hB.out⟩
          case round =>
            obtain ⟨t, hte, rfl, hcb, hbx⟩ := hrel
            have HCB := Lib.hid hcb; have HBX := Lib.hid hbx
            by_cases hlt : t < 64
            · have tk : decide ((t : Int) < 64) = true := by simp; omega
              clear hcb hbx
              go_wp2
              obtain ⟨v, hv⟩ : ∃ v, rounds s W t = v := ⟨_, rfl⟩
              have Hv := Lib.hid hv
              have hcb := HCB.out
              rw [hv] at hcb
              have HCB2 := Lib.hid hcb
              obtain ⟨v0, v1, v2, v3, v4, v5, v6, v7⟩ := cb8 hcb
              have hT := HT.out.lt
              have hTW : CB wr w.heap.size 84 (wcs W) := HT.out.keep (HBX.out.block _ (by omega))
              obtain ⟨wt, hwt⟩ : ∃ x, W.getD t 0 = x := ⟨_, rfl⟩
              obtain ⟨kt, hkt⟩ : ∃ x, kK t = x := ⟨_, rfl⟩
              have cw := (hTW.cell t).trans (wcs_get W (by rw [← HW.out, sched_len, hwl.out]; decide) t hlt)
              have hgx : wo.grownBy wr none := ⟨HBX.out.os, HBX.out.tape, HBX.out.output, HBX.out.size, fun j hj _ => HBX.out.block j (by rw [hVe] at hj; exact hj)⟩
              have ck := ((HLd.out.grown HG.out (by simp)).grown hgx (by simp)).num t hlt
              rw [hwt] at cw
              rw [hkt] at ck
              have Hwt := Lib.hid hwt; have Hkt := Lib.hid hkt
              have n6 : (t : Int) < 64 := by omega
              clear hcb HCB hTW hwt hkt hv hgx
              go_quiet ((go_at_call 74; exact Calls.quiet_of_same (rotated_still v.e 6 11 25 _ _ _ rfl rfl rfl (by decide) (by decide) (by decide) (by decide) (by decide) (by decide) _)))
              have hc2 : CB (wr.drewN nq) V 76 (v.l.map iw32) := HCB2.out
              have hB2 : Hid (Below V wo (wr.drewN nq)) := below_drewN HBX.out nq
              generalize wr.drewN nq = w2 at *
              clear v0 v1 v2 v3 v4 v5 v6 v7 cw ck HCB2
              obtain ⟨v0, v1, v2, v3, v4, v5, v6, v7⟩ := cb8 hc2
              have HC2 := Lib.hid hc2
              clear hc2
              rw [p_eq]
              obtain ⟨pp, hpp⟩ : ∃ x, rndP v kt wt = x := ⟨_, rfl⟩
              rw [hpp]
              have Hpp := Lib.hid hpp
              clear hpp
              go_wp2
              go_quiet ((go_at_call 74; exact Calls.quiet_of_same (rotated_still v.a 2 13 22 _ _ _ rfl rfl rfl (by decide) (by decide) (by decide) (by decide) (by decide) (by decide) _)))
              have hc3 : Hid (CB (w2.drewN nq) V 76 (v.l.map iw32)) := HC2.out
              have hB3 : Hid (Below V wo (w2.drewN nq)) := below_drewN hB2.out nq
              generalize w2.drewN nq = w3 at *
              clear v0 v1 v2 v3 v4 v5 v6 v7 HC2 hB2
              rw [q_eq]
              obtain ⟨qq, hqq⟩ : ∃ x, rndQ v = x := ⟨_, rfl⟩
              rw [hqq]
              have Hqq := Lib.hid hqq
              clear hqq
              go_wp2
              have hsrc := Lib.hid (copy_src hc3.out)
              go_region_law ((refine step_copy_splice rfl (.tmp 116) (.tmp 117) 88 88 rfl 74 Tryd.underlying88 (by kernel_rfl) (some ⟨V, 1, none⟩) (some ⟨V, 0, none⟩) 7 7 7 8 (by rfl) (by rfl) V 1 (v.l.map iw32) 76 hc3.out [iw32 v.a, iw32 v.b, iw32 v.c, iw32 v.d, iw32 v.e, iw32 v.f, iw32 v.g] rfl (fun _ => ⟨rfl, _, rfl, hsrc.out⟩) (by simp [S8.l]) (copy_one v) V wo (hB3.out.trans ⟨rfl, rfl, rfl, Nat.le_refl _, fun _ _ => rfl⟩) (Nat.le_refl _) ?_; intro w4 hc4 hB4))
              have hc5 : CB w4 V 76 ((⟨v.a, v.a, v.b, v.c, v.d, v.e, v.f, v.g⟩ : S8).l.map iw32) := by rw [← copy_cells]; exact hc4.out
              clear hc4 hsrc hc3 hB3
              obtain ⟨v0, v1, v2, v3, v4, v5, v6, v7⟩ := cb8 hc5
              have f0 := hc5.frozen 0
              have f4 := hc5.frozen 4
              have HC5 := Lib.hid hc5
              have HB4 := Lib.hid hB4
              clear hc5 hB4
              go_wp2
              go_roundw
              case rel =>
                refine ⟨t + 1, by omega, by go_num, ?_, ?_⟩
                · rw [badd, badd]
                  have h5 := (HC5.out.set 4 (.int .u32 (iw (v.d + pp)))).set 0 (.int .u32 (iw (pp + qq)))
                  have hr : (rounds s W (t + 1)).l.map iw32 = (((⟨v.a, v.a, v.b, v.c, v.d, v.e, v.f, v.g⟩ : S8).l.map iw32).set 4 (.int .u32 (iw (v.d + pp)))).set 0 (.int .u32 (iw (pp + qq))) := by
                    show (rnd (rounds s W t) (kK t) (W.getD t 0)).l.map iw32 = _
                    rw [Hv.out, Hkt.out, Hwt.out, ← Hpp.out, ← Hqq.out]; rfl
                  rw [hr]; exact h5
                · exact (HB4.out.setCell (p := ⟨V, 4, none⟩) (Nat.le_refl _) _).setCell (p := ⟨V, 0, none⟩) (Nat.le_refl _) _
              case measure => simp [intOf]; omega
            · have hte2 : t = 64 := by omega
              have hcb4 := hcb
              rw [hte2] at hcb4
              have tk : decide ((t : Int) < 64) = false := by simp; omega
              have hVS : S < V := by rw [← hVe]; exact Nat.lt_of_lt_of_le HS.out.lt HG.out.size
              have hgw : w.grownBy wr (some S) := ⟨HBX.out.os.trans HG.out.os, HBX.out.tape.trans HG.out.tape, HBX.out.output.trans HG.out.output, Nat.le_trans HG.out.size HBX.out.size, fun j hj _ => (HBX.out.block j (by rw [← hVe]; exact Nat.lt_of_lt_of_le hj HG.out.size)).trans (HG.out.block j hj (by simp))⟩
              have hSS : CB wr S 76 (s.l.map iw32) := HS1.out.keep (HBX.out.block S hVS)
              obtain ⟨v, hv⟩ : ∃ v, rounds s W 64 = v := ⟨_, rfl⟩
              rw [hv] at hcb4
              have Hv := Lib.hid hv
              have HSS := Lib.hid hSS; have HV4 := Lib.hid hcb4; have HGW := Lib.hid hgw
              clear hcb hbx HCB HBX hcb4 hSS hgw hv hte2 hV hB
              go_wp2
              obtain ⟨wp, rfl⟩ : ∃ wp : World, wp = wr := ⟨_, rfl⟩
              go_loopw [129] (fun i wx => W4Rel S V s v w i wx) (fun i _ => 8 - (intOf i).toNat)
              case atStart => exact ⟨0, by omega, rfl, HSS.out, HV4.out, HGW.out⟩
              case round =>
                obtain ⟨i, hi, rfl, hs4, hv4, hg4⟩ := hrel
                have HS4 := Lib.hid hs4; have HVV := Lib.hid hv4; have HG4 := Lib.hid hg4
                by_cases hlt : i < 8
                · have tk2 : decide ((i : Int) < 8) = true := by simp; omega
                  have hc := addTo_cell i s v hlt
                  have ci := (hs4.cell i).trans hc.1
                  have cv := (hv4.cell i).trans hc.2
                  have fi := hs4.frozen i
                  have n6 : (i : Int) < 8 := by omega
                  have hset := Lib.hid (addTo_set i s v hlt)
                  obtain ⟨a, ha⟩ : ∃ a, s.l.getD i 0 = a := ⟨_, rfl⟩
                  obtain ⟨c, hc'⟩ : ∃ c, v.l.getD i 0 = c := ⟨_, rfl⟩
                  rw [ha] at ci hset; rw [hc'] at cv hset
                  clear hs4 hv4 hg4 hc ha hc'
                  go_wp2
                  go_still_tail 11, (by kernel_rfl)
                  change wpList _ _ _ _ _ wr.drew
                  have d0 : wr.drew.cell? ⟨S, i, none⟩ = some (.int .u32 (iw a)) := ci
                  have df : wr.drew.frozen? ⟨S, i, none⟩ = false := fi
                  have hs5 : Hid (CB wr.drew S 76 ((addTo i s v).map iw32)) := HS4.out
                  have hv5 : Hid (CB wr.drew V 76 (v.l.map iw32)) := HVV.out
                  have hg5 := Lib.hid (grown_drew' HG4.out)
                  generalize wr.drew = w5 at *
                  clear ci cv fi HS4 HVV HG4
                  go_wp2
                  go_roundw
                  case rel => exact ⟨i + 1, by omega, by go_num, by rw [← hset.out, badd]; exact hs5.out.set _ _, hv5.out.far (by show V ≠ S; omega) _, grown_setR hg5.out⟩
                  case measure => simp [intOf]; omega
                · have hi8 : i = 8 := by omega
                  rw [hi8, addTo_all] at hs4
                  have HE := Lib.hid hs4
                  have tk2 : decide ((i : Int) < 8) = false := by simp; omega
                  clear hs4 hv4 hg4 HS4
                  go_wp2
                  go_end0
                  refine ⟨rfl, ?_, HG4.out⟩
                  have hbk : blockS s l = s.add v := by unfold blockS; rw [Hwe.out, HW.out, Hv.out]
                  rw [hbk]; exact HE.out
end Go.Proofs.YtmhmenmkgbebcaaDoor
