/- Parts of the proofs of chapter 49's laws: Dab Dsu Dsm. -/
import Derived.Test.YtdblnbnofjggnaaGreatDoorK09
import Derived.Deep.QuietTactic
import Derived.BigQuiet
import Derived.StillTailTactics
import Derived.Deep.RegionLaw
import Derived.Laws.Tables
namespace Go.Proofs.YtdblnbnofjggnaaGreatDoor
open Go.RowKit
def wcs (l : List W32) : List Value := (l ++ List.replicate (64 - l.length) 0).map iw32
theorem rot_still (x : W32) (r : Nat) (n : Int) (hn : n = -(r : Int)) (h1 : 1 ≤ r) (h2 : r ≤ 31) (w : World) : Calls Tryz.prog 211 #[.int .u32 (iw x), .int .i64 n] w fun e w' => e = .returned (.int .u32 (iw (ror x r))) ∧ w' = w := (rot_any x r n hn h1 h2 w).mono fun _ _ h => ⟨h.1, h.2.symm⟩
theorem badd4 (a b c d : W32) : (iw a + iw b + iw c + iw d) % 4294967296 = iw (a + b + c + d) := by unfold iw; simp only [BitVec.toNat_add]; omega
theorem wnext_eq (a x c y : W32) : (iw a + bits BinOp.xor .u32 (iw (ror x 7 ^^^ ror x 18)) (iw x / 8) + iw c + bits BinOp.xor .u32 (iw (ror y 17 ^^^ ror y 19)) (iw y / 1024)) % 4294967296 = iw (wNext a x c y) := by
 have f2 : iw x / (8 : Int) = iw (x >>> 3) := bshr x 3
 have f7 : iw y / (1024 : Int) = iw (y >>> 10) := bshr y 10
 rw [f2, f7, bxor, bxor]
 exact badd4 a (ssig0 x) c (ssig1 y)
theorem wcs_get (l : List W32) (h : l.length ≤ 64) (j : Nat) (hj : j < 64) : (wcs l)[j]? = some (.int .u32 (iw (l.getD j 0))) := by
 unfold wcs
 rw [List.getElem?_map]
 by_cases h1 : j < l.length
 · rw [List.getElem?_append_left h1, List.getElem?_eq_getElem h1]; simp [iw32, h1]
 · rw [List.getElem?_append_right (by omega), List.getElem?_replicate, if_pos (by omega)]; simp [iw32, List.getD, List.getElem?_eq_none (show l.length ≤ j by omega)]
theorem wcs_set (l : List W32) (k : Nat) (hk : l.length = k) (h : k < 64) (x : W32) : (wcs l).set k (.int .u32 (iw x)) = wcs (l ++ [x]) := by
 subst hk
 unfold wcs
 rw [show (64 - l.length) = (64 - (l ++ [x]).length) + 1 by simp; omega, List.replicate_succ]
 show (List.map iw32 _).set _ (iw32 x) = _
 rw [← List.map_set, List.set_append_right _ _ (Nat.le_refl _), Nat.sub_self]
 simp
theorem words_succ (l : List UInt8) (k : Nat) (hk : k < 16) : (words l).take (k + 1) = (words l).take k ++ [word (l.drop (4 * k))] := by
 rw [List.take_succ_eq_append_getElem (by rw [words_len]; exact hk)]; simp [words]
theorem words_take_len (l : List UInt8) (k : Nat) (hk : k ≤ 16) : ((words l).take k).length = k := by rw [List.length_take, words_len]; omega
def W2Rel (T : Nat) (ws : List W32) (w : World) (i : Value) (wr : World) : Prop :=
 ∃ k : Nat, k ≤ 48 ∧ i = .int .i64 (k + 16 : Nat) ∧ CB wr T 229 (wcs (sched k ws)) ∧ w.grownBy wr none
theorem p_eq (v : S8) (k x : W32) : ((iw v.h + iw (rot3 v.e 6 11 25) + bits BinOp.xor IntKind.u32 (iw v.g) (bits BinOp.and IntKind.u32 (iw v.e) (bits BinOp.xor IntKind.u32 (iw v.f) (iw v.g))) + iw k) % 4294967296 + iw x) % 4294967296 = iw (rndP v k x) := by
 rw [bxor, band, bxor, badd4, badd]; rfl
theorem q_eq (v : S8) : (iw (rot3 v.a 2 13 22) + bits BinOp.or IntKind.u32 (bits BinOp.and IntKind.u32 (iw v.a) (iw v.b)) (bits BinOp.and IntKind.u32 (iw v.c) (bits BinOp.or IntKind.u32 (iw v.a) (iw v.b)))) % 4294967296 = iw (rndQ v) := by
 rw [band, bor, band, bor, badd]; rfl
theorem below_drewN {B : Nat} {w0 w : World} (h : Below B w0 w) (n : Nat) : Below B w0 (w.drewN n) := h.trans ⟨rfl, rfl, rfl, Nat.le_refl _, fun _ _ => rfl⟩
theorem copy_cells (v : S8) : splice (v.l.map iw32) 1 [iw32 v.a, iw32 v.b, iw32 v.c, iw32 v.d, iw32 v.e, iw32 v.f, iw32 v.g] = ((⟨v.a, v.a, v.b, v.c, v.d, v.e, v.f, v.g⟩ : S8).l.map iw32) := rfl
theorem copy_src {w : World} {V : Nat} {t : TypeId} {v : S8} (h : CB w V t (v.l.map iw32)) : ∀ j x, [iw32 v.a, iw32 v.b, iw32 v.c, iw32 v.d, iw32 v.e, iw32 v.f, iw32 v.g][j]? = some x → w.drew.cell? ((⟨V, 0, none⟩ : Addr).add j) = some x := by
 intro j x hj
 have hpl : (⟨V, 0, none⟩ : Addr).add j = ⟨V, j, none⟩ := by unfold Addr.add; split <;> simp_all
 rw [hpl]
 have hjl : j < 7 := by
  rcases Nat.lt_or_ge j 7 with h | h
  · exact h
  · rw [List.getElem?_eq_none (by simpa using h)] at hj; cases hj
 have h2 : (v.l.map iw32)[j]? = some x := by
  rw [← hj]
  have : v.l.map iw32 = [iw32 v.a, iw32 v.b, iw32 v.c, iw32 v.d, iw32 v.e, iw32 v.f, iw32 v.g] ++ [iw32 v.h] := rfl
  rw [this, List.getElem?_append_left (by simpa using hjl)]
 exact (h.cell j).trans h2
theorem copy_one (v : S8) : ∀ x ∈ [iw32 v.a, iw32 v.b, iw32 v.c, iw32 v.d, iw32 v.e, iw32 v.f, iw32 v.g], x.oneCell' = true := by
 intro x hx; simp only [List.mem_cons, List.not_mem_nil, or_false] at hx
 rcases hx with rfl | rfl | rfl | rfl | rfl | rfl | rfl <;> rfl
def addTo (i : Nat) (s v : S8) : List W32 := s.l.zipWith (· + ·) v.l |>.take i |> (· ++ s.l.drop i)
theorem addTo_all (s v : S8) : addTo 8 s v = (s.add v).l := rfl
theorem addTo_cell (i : Nat) (s v : S8) (h : i < 8) : ((addTo i s v).map iw32)[i]? = some (.int .u32 (iw (s.l.getD i 0))) ∧ (v.l.map iw32)[i]? = some (.int .u32 (iw (v.l.getD i 0))) := by
 rcases (by omega : i = 0 ∨ i = 1 ∨ i = 2 ∨ i = 3 ∨ i = 4 ∨ i = 5 ∨ i = 6 ∨ i = 7) with rfl | rfl | rfl | rfl | rfl | rfl | rfl | rfl <;> exact ⟨rfl, rfl⟩
theorem addTo_set (i : Nat) (s v : S8) (h : i < 8) : ((addTo i s v).map iw32).set i (.int .u32 (iw (s.l.getD i 0 + v.l.getD i 0))) = (addTo (i + 1) s v).map iw32 := by
 rcases (by omega : i = 0 ∨ i = 1 ∨ i = 2 ∨ i = 3 ∨ i = 4 ∨ i = 5 ∨ i = 6 ∨ i = 7) with rfl | rfl | rfl | rfl | rfl | rfl | rfl | rfl <;> rfl
def W4Rel (S V : Nat) (s v : S8) (w : World) (i : Value) (wr : World) : Prop :=
 ∃ t : Nat, t ≤ 8 ∧ i = .int .i64 t ∧ CB wr S 217 ((addTo t s v).map iw32) ∧ CB wr V 217 (v.l.map iw32) ∧ w.grownBy wr (some S)
theorem cb8 {w : World} {V : Nat} {t : TypeId} {v : S8} (h : CB w V t (v.l.map iw32)) :
 w.cell? ⟨V, 0, none⟩ = some (.int .u32 (iw v.a)) ∧ w.cell? ⟨V, 1, none⟩ = some (.int .u32 (iw v.b)) ∧ w.cell? ⟨V, 2, none⟩ = some (.int .u32 (iw v.c)) ∧ w.cell? ⟨V, 3, none⟩ = some (.int .u32 (iw v.d)) ∧
  w.cell? ⟨V, 4, none⟩ = some (.int .u32 (iw v.e)) ∧ w.cell? ⟨V, 5, none⟩ = some (.int .u32 (iw v.f)) ∧ w.cell? ⟨V, 6, none⟩ = some (.int .u32 (iw v.g)) ∧ w.cell? ⟨V, 7, none⟩ = some (.int .u32 (iw v.h)) :=
 ⟨h.cell 0, h.cell 1, h.cell 2, h.cell 3, h.cell 4, h.cell 5, h.cell 6, h.cell 7⟩
def W3Rel (V : Nat) (s : S8) (W : List W32) (w : World) (i : Value) (wr : World) : Prop :=
 ∃ t : Nat, t ≤ 64 ∧ i = .int .i64 t ∧ CB wr V 217 ((rounds s W t).l.map iw32) ∧ Below V w wr
structure Laid (w : World) : Prop where
 num : ∀ t, t < 64 → w.cell? ⟨3, t, none⟩ = some (.int .u32 (iw (kK t)))
 start : ∀ t, t < 8 → w.cell? ⟨2, t, none⟩ = some (.int .u32 (iw (startS.l.getD t 0)))
theorem Laid.lt {w : World} (h : Laid w) : 3 < w.heap.size ∧ 2 < w.heap.size :=
 ⟨World.block_lt_of_cell? w _ (h.num 0 (by decide)), World.block_lt_of_cell? w _ (h.start 0 (by decide))⟩
theorem Laid.keep {w w' : World} (h : Laid w) (h1 : w'.heap[3]? = w.heap[3]?) (h2 : w'.heap[2]? = w.heap[2]?) : Laid w' :=
 ⟨fun t ht => by rw [World.cell?_of_block (w := w) h1]; exact h.num t ht, fun t ht => by rw [World.cell?_of_block (w := w) h2]; exact h.start t ht⟩
theorem Laid.below {B : Nat} {w w' : World} (h : Laid w) (hb : Below B w w') (hB : w.heap.size ≤ B) : Laid w' := h.keep (hb.block _ (by have := h.lt; omega)) (hb.block _ (by have := h.lt; omega))
theorem Laid.ext {w w' : World} (h : Laid w) (hb : Below w.heap.size w w') : Laid w' := h.below hb (Nat.le_refl _)
theorem Laid.grown {w w' : World} {G : Option Nat} (h : Laid w) (hb : w.grownBy w' G) (hG : ∀ g, G = some g → g ≠ 3 ∧ g ≠ 2) : Laid w' :=
 h.keep (hb.block _ h.lt.1 (fun e => (hG _ e.symm).1 rfl)) (hb.block _ h.lt.2 (fun e => (hG _ e.symm).2 rfl))
theorem rotated_still (x : W32) (a b c : Nat) (ai bi ci : Int) (ha : ai = (a : Int)) (hb : bi = (b : Int)) (hc : ci = (c : Int)) (ha1 : 1 ≤ a) (ha2 : a ≤ 31) (hb1 : 1 ≤ b) (hb2 : b ≤ 31) (hc1 : 1 ≤ c) (hc2 : c ≤ 31) (w : World) :
 Calls Tryz.prog 212 #[.int .u32 (iw x), .int .i64 ai, .int .i64 bi, .int .i64 ci] w fun e w' => e = .returned (.int .u32 (iw (rot3 x a b c))) ∧ w' = w :=
 (rotated_any x a b c ai bi ci ha hb hc ha1 ha2 hb1 hb2 hc1 hc2 w).mono fun _ _ h => ⟨h.1, h.2.symm⟩
def W1Rel (T : Nat) (l : List UInt8) (w : World) (i : Value) (wr : World) : Prop :=
 ∃ k : Nat, k ≤ 16 ∧ i = .int .i64 k ∧ CB wr T 229 (wcs ((words l).take k)) ∧ w.grownBy wr none
set_option maxRecDepth 100000 in
set_option maxHeartbeats 1000000 in
theorem absorb_any (S b off cap : Nat) (s : S8) (l : List UInt8) (w : World) (hl : l.length = 64) (hcap : 64 ≤ cap) (hm : cap ≤ maxLen) (hb : b < w.heap.size) (hbl : BL w b off l) (hS : CB w S 217 (s.l.map iw32)) (_hne : b ≠ S) (hLd : Laid w) :
 Calls Tryz.prog 200 #[.pointer (some ⟨S, 0, none⟩), .slice (some ⟨b, off, none⟩) 64 cap] w fun e w' => e = .returned (.tuple #[]) ∧ CB w' S 217 ((blockS s l).l.map iw32) ∧ w.grownBy w' (some S) := by
 have g1 : (64 : Int) ≤ (cap : Int) := by omega
 have hL := Lib.hid hl; have HBL := Lib.hid hbl; have HS := Lib.hid hS; have HM := Lib.hid hm
 unfold maxLen at hm
 clear hl hbl hS
 have HLd := Lib.hid hLd; clear hLd
 go_enter Tryz.func200, Tryz.ntmps200
 go_wp2
 go_loopw [14] (fun i wr => W1Rel w.heap.size l w i wr) (fun i _ => 16 - (intOf i).toNat)
 case atStart => exact ⟨0, by omega, rfl, heap_alloc_new w _, World.grownBy_alloc w _ none⟩
 case round =>
  obtain ⟨k, hk, rfl, hcb, hg⟩ := hrel
  have HG := Lib.hid hg
  by_cases hlt : k < 16
  · have hfz := hcb.frozen k
    have hc := hcb.cell k
    have HCB := Lib.hid hcb
    clear hcb hg
    have hw := Lib.hid (words_succ l k hlt)
    have hst := Lib.hid (wcs_set ((words l).take k) k (words_take_len l k (by omega)) (by omega) (word (l.drop (4 * k))))
    rw [wcs_get _ (by rw [words_take_len l k (by omega)]; omega) k (by omega)] at hc
    go_wp2_with fail
    refine (word_any b (off + 4 * k) (64 - 4 * k) (cap - 4 * k) (l.drop (4 * k)) _ (by rw [List.length_drop, hL.out]; omega) (by omega) (by omega) (by have := HM.out; omega) ((HBL.out.keep (HG.out.block b hb (by simp))).drop (4 * k))).mono ?_
    rintro e w1 ⟨rfl, rfl⟩
    go_wp2_with fail
    go_roundw
    case rel => exact ⟨k + 1, by omega, by go_num, by rw [hw.out, ← hst.out]; exact HCB.out.set _ _, grown_set_new HG.out (Nat.le_refl _)⟩
    case measure => simp [intOf]; omega
  · have hke : k = 16 := by omega
    rw [hke] at hcb
    have HCB := Lib.hid hcb
    have tk : decide ((k : Int) < 16) = false := by simp; omega
    clear hcb hg hke
    go_wp2
    have hws : (words l).take 16 = words l := List.take_of_length_le (by rw [words_len]; omega)
    have hcb := HCB.out
    rw [hws] at hcb
    have HW := Lib.hid hcb
    have hwl := Lib.hid (words_len l)
    obtain ⟨ws, hwe⟩ : ∃ ws, words l = ws := ⟨_, rfl⟩
    rw [hwe] at HW hwl
    have Hwe := Lib.hid hwe
    clear hcb HCB hws hwe
    go_loopw [6] (fun i wr => W2Rel w.heap.size ws w i wr) (fun i _ => 64 - (intOf i).toNat)
    case atStart => exact ⟨0, by omega, rfl, HW.out, HG.out⟩
    case round =>
     obtain ⟨k, hk, rfl, hcb, hg⟩ := hrel
     obtain ⟨t, ht⟩ : ∃ t, k + 16 = t := ⟨_, rfl⟩
     rw [ht]
     have HG := Lib.hid hg
     have HCB := Lib.hid hcb
     by_cases hlt : k < 48
     · have hsl : (sched k ws).length = t := by rw [sched_len, hwl.out]; omega
       obtain ⟨x16, h16⟩ : ∃ x, (sched k ws).getD (t - 16) 0 = x := ⟨_, rfl⟩
       obtain ⟨x15, h15⟩ : ∃ x, (sched k ws).getD (t - 15) 0 = x := ⟨_, rfl⟩
       obtain ⟨x7, h7⟩ : ∃ x, (sched k ws).getD (t - 7) 0 = x := ⟨_, rfl⟩
       obtain ⟨x2, h2⟩ : ∃ x, (sched k ws).getD (t - 2) 0 = x := ⟨_, rfl⟩
       have hsc : Hid (sched (k + 1) ws = sched k ws ++ [wNext x16 x15 x7 x2]) := by
        show sched (k + 1) ws = _
        rw [← h16, ← h15, ← h7, ← h2, ← ht]; rfl
       have hst := Lib.hid (wcs_set (sched k ws) t hsl (by omega) (wNext x16 x15 x7 x2))
       have hcell : ∀ j, j < 64 → wr.cell? ⟨w.heap.size, j, none⟩ = some (.int .u32 (iw ((sched k ws).getD j 0))) := fun j hj => (hcb.cell j).trans (wcs_get _ (by omega) j hj)
       have c16 := hcell (t - 16) (by omega)
       have c15 := hcell (t - 15) (by omega)
       have c7 := hcell (t - 7) (by omega)
       have c2 := hcell (t - 2) (by omega)
       have c0 := hcell t (by omega)
       rw [h16] at c16; rw [h15] at c15; rw [h7] at c7; rw [h2] at c2
       have hfz := hcb.frozen t
       have n1 : t - 15 < 64 := by omega
       have n2 : t - 2 < 64 := by omega
       have n3 : t - 16 < 64 := by omega
       have n4 : t - 7 < 64 := by omega
       have n5 : (16 : Int) ≤ (t : Int) := by omega
       have n6 : (t : Int) < 64 := by omega
       have q15 : IntKind.i64.wrap ((t : Int) - 15) = (t : Int) - 15 := IntWalk.i64_in _ (by omega)
       have q2 : IntKind.i64.wrap ((t : Int) - 2) = (t : Int) - 2 := IntWalk.i64_in _ (by omega)
       have m15 : ((t : Int) - 15).toNat = t - 15 := by omega
       have m2 : ((t : Int) - 2).toNat = t - 2 := by omega
       have z15 : (0 : Int) ≤ (t : Int) - 15 := by omega
       have z2 : (0 : Int) ≤ (t : Int) - 2 := by omega
       have y15 : (t : Int) - 15 < 64 := by omega
       have y2 : (t : Int) - 2 < 64 := by omega
       have Ht := Lib.hid ht
       clear hcell hcb hg h16 h15 h7 h2 hsl ht
       go_wp2
       go_quiet (fail)
       have f1 := bxor (ror x15 7) (ror x15 18)
       have f6 := bxor (ror x2 17) (ror x2 19)
       have q16 : IntKind.i64.wrap ((t : Int) - 16) = (t : Int) - 16 := IntWalk.i64_in _ (by omega)
       have q7 : IntKind.i64.wrap ((t : Int) - 7) = (t : Int) - 7 := IntWalk.i64_in _ (by omega)
       have m16 : ((t : Int) - 16).toNat = t - 16 := by omega
       have m7 : ((t : Int) - 7).toNat = t - 7 := by omega
       have z16 : (0 : Int) ≤ (t : Int) - 16 := by omega
       have z7 : (0 : Int) ≤ (t : Int) - 7 := by omega
       have o7 : (7 : Int) ≤ (t : Int) := by omega
       have y16 : (t : Int) - 16 < 64 := by omega
       have y7 : (t : Int) - 7 < 64 := by omega
       have hcb2 : Hid (CB (wr.drewN nq) w.heap.size 229 (wcs (sched k ws))) := HCB.out
       have hg2 := Lib.hid (grown_drewN' HG.out nq)
       have d16 : (wr.drewN nq).cell? ⟨w.heap.size, t - 16, none⟩ = some (.int .u32 (iw x16)) := c16
       have d7 : (wr.drewN nq).cell? ⟨w.heap.size, t - 7, none⟩ = some (.int .u32 (iw x7)) := c7
       have d0 : (wr.drewN nq).cell? ⟨w.heap.size, t, none⟩ = some (.int .u32 (iw ((sched k ws).getD t 0))) := c0
       have df : (wr.drewN nq).frozen? ⟨w.heap.size, t, none⟩ = false := hfz
       clear HCB HG c16 c15 c7 c2 c0 hfz q15 q2 m15 m2 z15 z2 y15 y2
       generalize wr.drewN nq = w2 at *
       go_wp2
       go_still_tail 29, (by kernel_rfl)
       still_call (rot_still x15 7 _ rfl (by decide) (by decide) _)
       repeat still_step
       still_call (rot_still x15 18 _ rfl (by decide) (by decide) _)
       repeat still_step
       still_call (rot_still x2 17 _ rfl (by decide) (by decide) _)
       repeat still_step
       still_call (rot_still x2 19 _ rfl (by decide) (by decide) _)
       repeat still_step
       refine wpStill_nil ?_
       change wpList _ _ _ _ _ w2.drew
       have hcb3 : Hid (CB w2.drew w.heap.size 229 (wcs (sched k ws))) := hcb2.out
       have hg3 := Lib.hid (grown_drew' hg2.out)
       have b0 : w2.drew.cell? ⟨w.heap.size, t, none⟩ = some (.int .u32 (iw ((sched k ws).getD t 0))) := d0
       have bf : w2.drew.frozen? ⟨w.heap.size, t, none⟩ = false := df
       clear hcb2 hg2 d16 d7 d0 df
       generalize w2.drew = w3 at *
       go_wp2
       go_roundw
       case rel => exact ⟨k + 1, by omega, by have := Ht.out; go_num, by rw [hsc.out, ← hst.out, wnext_eq]; exact hcb3.out.set _ _, grown_set_new hg3.out (Nat.le_refl _)⟩
       case measure => simp [intOf]; omega
     · have hke : k = 48 := by omega
       rw [hke] at hcb
       have tk : decide ((t : Int) < 64) = false := by simp; omega
       have HT := Lib.hid hcb
       clear hcb hg hke HCB ht
       have hS0 := HS.out
       have hS1 : CB wr S 217 (s.l.map iw32) := hS0.keep (HG.out.block S hS0.lt (by simp))
       obtain ⟨s0, s1, s2, s3, s4, s5, s6, s7⟩ := cb8 hS1
       have HS1 := Lib.hid hS1
       clear hS0 hS1
       go_wp2
       have hV := Lib.hid (heap_alloc_new wr (.cells #[.int .u32 (iw s.a), .int .u32 (iw s.b), .int .u32 (iw s.c), .int .u32 (iw s.d), .int .u32 (iw s.e), .int .u32 (iw s.f), .int .u32 (iw s.g), .int .u32 (iw s.h)] 217))
       have hB := Lib.hid ((Below.refl wr.heap.size wr).alloc (Nat.le_refl _) (.cells #[.int .u32 (iw s.a), .int .u32 (iw s.b), .int .u32 (iw s.c), .int .u32 (iw s.d), .int .u32 (iw s.e), .int .u32 (iw s.f), .int .u32 (iw s.g), .int .u32 (iw s.h)] 217))
       clear s0 s1 s2 s3 s4 s5 s6 s7
       obtain ⟨W, hW⟩ : ∃ W, sched 48 ws = W := ⟨_, rfl⟩
       rw [hW] at HT
       have HW := Lib.hid hW
       clear hW
       obtain ⟨wo, rfl⟩ : ∃ wo : World, wo = wr := ⟨_, rfl⟩
       obtain ⟨V, hVe⟩ : ∃ V, wo.heap.size = V := ⟨_, rfl⟩
       rw [hVe] at hV hB ⊢
       go_loopw [69] (fun i wx => W3Rel V s W wo i wx) (fun i _ => 64 - (intOf i).toNat)
       case atStart => exact ⟨0, by omega, rfl, hV.out, hB.out⟩
       case round =>
        obtain ⟨t, hte, rfl, hcb, hbx⟩ := hrel
        have HCB := Lib.hid hcb; have HBX := Lib.hid hbx
        by_cases hlt : t < 64
        · have tk : decide ((t : Int) < 64) = true := by simp; omega
          clear hcb hbx
          go_wp2
          obtain ⟨v, hv⟩ : ∃ v, rounds s W t = v := ⟨_, rfl⟩
          have Hv := Lib.hid hv
          have hcb := HCB.out
          rw [hv] at hcb
          have HCB2 := Lib.hid hcb
          obtain ⟨v0, v1, v2, v3, v4, v5, v6, v7⟩ := cb8 hcb
          have hT := HT.out.lt
          have hTW : CB wr w.heap.size 229 (wcs W) := HT.out.keep (HBX.out.block _ (by omega))
          obtain ⟨wt, hwt⟩ : ∃ x, W.getD t 0 = x := ⟨_, rfl⟩
          obtain ⟨kt, hkt⟩ : ∃ x, kK t = x := ⟨_, rfl⟩
          have cw := (hTW.cell t).trans (wcs_get W (by rw [← HW.out, sched_len, hwl.out]; decide) t hlt)
          have hgx : wo.grownBy wr none := ⟨HBX.out.os, HBX.out.tape, HBX.out.output, HBX.out.size, fun j hj _ => HBX.out.block j (by rw [hVe] at hj; exact hj)⟩
          have ck := ((HLd.out.grown HG.out (by simp)).grown hgx (by simp)).num t hlt
          rw [hwt] at cw
          rw [hkt] at ck
          have Hwt := Lib.hid hwt; have Hkt := Lib.hid hkt
          have n6 : (t : Int) < 64 := by omega
          clear hcb HCB hTW hwt hkt hv hgx
          go_quiet ((go_at_call 212; exact Calls.quiet_of_same (rotated_still v.e 6 11 25 _ _ _ rfl rfl rfl (by decide) (by decide) (by decide) (by decide) (by decide) (by decide) _)))
          have hc2 : CB (wr.drewN nq) V 217 (v.l.map iw32) := HCB2.out
          have hB2 : Hid (Below V wo (wr.drewN nq)) := below_drewN HBX.out nq
          generalize wr.drewN nq = w2 at *
          clear v0 v1 v2 v3 v4 v5 v6 v7 cw ck HCB2
          obtain ⟨v0, v1, v2, v3, v4, v5, v6, v7⟩ := cb8 hc2
          have HC2 := Lib.hid hc2
          clear hc2
          rw [p_eq]
          obtain ⟨pp, hpp⟩ : ∃ x, rndP v kt wt = x := ⟨_, rfl⟩
          rw [hpp]
          have Hpp := Lib.hid hpp
          clear hpp
          go_wp2
          go_quiet ((go_at_call 212; exact Calls.quiet_of_same (rotated_still v.a 2 13 22 _ _ _ rfl rfl rfl (by decide) (by decide) (by decide) (by decide) (by decide) (by decide) _)))
          have hc3 : Hid (CB (w2.drewN nq) V 217 (v.l.map iw32)) := HC2.out
          have hB3 : Hid (Below V wo (w2.drewN nq)) := below_drewN hB2.out nq
          generalize w2.drewN nq = w3 at *
          clear v0 v1 v2 v3 v4 v5 v6 v7 HC2 hB2
          rw [q_eq]
          obtain ⟨qq, hqq⟩ : ∃ x, rndQ v = x := ⟨_, rfl⟩
          rw [hqq]
          have Hqq := Lib.hid hqq
          clear hqq
          go_wp2
          have hsrc := Lib.hid (copy_src hc3.out)
          go_region_law ((refine step_copy_splice rfl (.tmp 116) (.tmp 117) 233 233 rfl 215 Tryz.underlying233 (by kernel_rfl) (some ⟨V, 1, none⟩) (some ⟨V, 0, none⟩) 7 7 7 8 (by rfl) (by rfl) V 1 (v.l.map iw32) 217 hc3.out [iw32 v.a, iw32 v.b, iw32 v.c, iw32 v.d, iw32 v.e, iw32 v.f, iw32 v.g] rfl (fun _ => ⟨rfl, _, rfl, hsrc.out⟩) (by simp [S8.l]) (copy_one v) V wo (hB3.out.trans ⟨rfl, rfl, rfl, Nat.le_refl _, fun _ _ => rfl⟩) (Nat.le_refl _) ?_; intro w4 hc4 hB4))
          have hc5 : CB w4 V 217 ((⟨v.a, v.a, v.b, v.c, v.d, v.e, v.f, v.g⟩ : S8).l.map iw32) := by rw [← copy_cells]; exact hc4.out
          clear hc4 hsrc hc3 hB3
          obtain ⟨v0, v1, v2, v3, v4, v5, v6, v7⟩ := cb8 hc5
          have f0 := hc5.frozen 0
          have f4 := hc5.frozen 4
          have HC5 := Lib.hid hc5
          have HB4 := Lib.hid hB4
          clear hc5 hB4
          go_wp2
          go_roundw
          case rel =>
           refine ⟨t + 1, by omega, by go_num, ?_, ?_⟩
           · rw [badd, badd]
             have h5 := (HC5.out.set 4 (.int .u32 (iw (v.d + pp)))).set 0 (.int .u32 (iw (pp + qq)))
             have hr : (rounds s W (t + 1)).l.map iw32 = (((⟨v.a, v.a, v.b, v.c, v.d, v.e, v.f, v.g⟩ : S8).l.map iw32).set 4 (.int .u32 (iw (v.d + pp)))).set 0 (.int .u32 (iw (pp + qq))) := by
              show (rnd (rounds s W t) (kK t) (W.getD t 0)).l.map iw32 = _
              rw [Hv.out, Hkt.out, Hwt.out, ← Hpp.out, ← Hqq.out]; rfl
             rw [hr]; exact h5
           · exact (HB4.out.setCell (p := ⟨V, 4, none⟩) (Nat.le_refl _) _).setCell (p := ⟨V, 0, none⟩) (Nat.le_refl _) _
          case measure => simp [intOf]; omega
        · have hte2 : t = 64 := by omega
          have hcb4 := hcb
          rw [hte2] at hcb4
          have tk : decide ((t : Int) < 64) = false := by simp; omega
          have hVS : S < V := by rw [← hVe]; exact Nat.lt_of_lt_of_le HS.out.lt HG.out.size
          have hgw : w.grownBy wr (some S) := ⟨HBX.out.os.trans HG.out.os, HBX.out.tape.trans HG.out.tape, HBX.out.output.trans HG.out.output, Nat.le_trans HG.out.size HBX.out.size, fun j hj _ => (HBX.out.block j (by rw [← hVe]; exact Nat.lt_of_lt_of_le hj HG.out.size)).trans (HG.out.block j hj (by simp))⟩
          have hSS : CB wr S 217 (s.l.map iw32) := HS1.out.keep (HBX.out.block S hVS)
          obtain ⟨v, hv⟩ : ∃ v, rounds s W 64 = v := ⟨_, rfl⟩
          rw [hv] at hcb4
          have Hv := Lib.hid hv
          have HSS := Lib.hid hSS; have HV4 := Lib.hid hcb4; have HGW := Lib.hid hgw
          clear hcb hbx HCB HBX hcb4 hSS hgw hv hte2 hV hB
          go_wp2
          obtain ⟨wp, rfl⟩ : ∃ wp : World, wp = wr := ⟨_, rfl⟩
          go_loopw [129] (fun i wx => W4Rel S V s v w i wx) (fun i _ => 8 - (intOf i).toNat)
          case atStart => exact ⟨0, by omega, rfl, HSS.out, HV4.out, HGW.out⟩
          case round =>
           obtain ⟨i, hi, rfl, hs4, hv4, hg4⟩ := hrel
           have HS4 := Lib.hid hs4; have HVV := Lib.hid hv4; have HG4 := Lib.hid hg4
           by_cases hlt : i < 8
           · have tk2 : decide ((i : Int) < 8) = true := by simp; omega
             have hc := addTo_cell i s v hlt
             have ci := (hs4.cell i).trans hc.1
             have cv := (hv4.cell i).trans hc.2
             have fi := hs4.frozen i
             have n6 : (i : Int) < 8 := by omega
             have hset := Lib.hid (addTo_set i s v hlt)
             obtain ⟨a, ha⟩ : ∃ a, s.l.getD i 0 = a := ⟨_, rfl⟩
             obtain ⟨c, hc'⟩ : ∃ c, v.l.getD i 0 = c := ⟨_, rfl⟩
             rw [ha] at ci hset; rw [hc'] at cv hset
             clear hs4 hv4 hg4 hc ha hc'
             go_wp2
             go_still_tail 11, (by kernel_rfl)
             change wpList _ _ _ _ _ wr.drew
             have d0 : wr.drew.cell? ⟨S, i, none⟩ = some (.int .u32 (iw a)) := ci
             have df : wr.drew.frozen? ⟨S, i, none⟩ = false := fi
             have hs5 : Hid (CB wr.drew S 217 ((addTo i s v).map iw32)) := HS4.out
             have hv5 : Hid (CB wr.drew V 217 (v.l.map iw32)) := HVV.out
             have hg5 := Lib.hid (grown_drew' HG4.out)
             generalize wr.drew = w5 at *
             clear ci cv fi HS4 HVV HG4
             go_wp2
             go_roundw
             case rel => exact ⟨i + 1, by omega, by go_num, by rw [← hset.out, badd]; exact hs5.out.set _ _, hv5.out.far (by show V ≠ S; omega) _, grown_setR hg5.out⟩
             case measure => simp [intOf]; omega
           · have hi8 : i = 8 := by omega
             rw [hi8, addTo_all] at hs4
             have HE := Lib.hid hs4
             have tk2 : decide ((i : Int) < 8) = false := by simp; omega
             clear hs4 hv4 hg4 HS4
             go_wp2
             go_end0
             refine ⟨rfl, ?_, HG4.out⟩
             have hbk : blockS s l = s.add v := by unfold blockS; rw [Hwe.out, HW.out, Hv.out]
             rw [hbk]; exact HE.out
end Go.Proofs.YtdblnbnofjggnaaGreatDoor
namespace Go.Proofs.YtdblnbnofjggnaaGreatDoor
open Go.RowKit
theorem absorbs_succ : ∀ (k : Nat) (s : S8) (l : List UInt8), absorbs (k + 1) s l = blockS (absorbs k s l) ((l.drop (64 * k)).take 64)
 | 0, s, l => by simp [absorbs]
 | k + 1, s, l => by
  rw [absorbs, absorbs_succ k, absorbs, List.drop_drop, show 64 + 64 * k = 64 * (k + 1) by omega]
theorem absorbs_add (m : Nat) : ∀ (k : Nat) (s : S8) (l : List UInt8), absorbs (k + m) s l = absorbs m (absorbs k s l) (l.drop (64 * k))
 | 0, s, l => by simp [absorbs]
 | k + 1, s, l => by
  rw [show k + 1 + m = (k + m) + 1 by omega, absorbs, absorbs_add m k, absorbs, List.drop_drop, show 64 + 64 * k = 64 * (k + 1) by omega]
theorem absorbs_app : ∀ (k : Nat) (s : S8) (l r : List UInt8), 64 * k ≤ l.length → absorbs k s (l ++ r) = absorbs k s l
 | 0, _, _, _, _ => rfl
 | k + 1, s, l, r, h => by
  rw [absorbs, absorbs, List.take_append_of_le_length (by omega), List.drop_append_of_le_length (by omega), absorbs_app k _ _ r (by simp; omega)]
def z128 : List UInt8 := List.replicate 128 0
def slen : Value → Nat | .slice _ n _ => n | _ => 0
theorem run_mk (w : World) : (Instr.makeSlice 50 (.int .i64 64) (.int .i64 128)).run Tryz.prog w = .ok (.slice (some ⟨w.heap.size, 0, none⟩) 64 128) (w.alloc (.cells (bcells z128).toArray 5)) := by kernel_rfl
theorem copy_from {wr : World} {B : Nat} {l : List UInt8} {oa : Option Addr} {n cap : Nat} (h : BtsAt B wr l (.slice oa n cap)) (hB : B ≤ wr.heap.size) (o : Obj) (hpos : 0 < (bcells l).length) : ∃ ad, oa = some ad ∧ ∀ j v, (bcells l)[j]? = some v → (wr.alloc o).cell? (ad.add j) = some v := by
 rcases h with ⟨rfl, _⟩ | ⟨_, b, off, cap', he, h2, h3, h4, h5⟩
 · simp [bcells] at hpos
 · injection he with he1 he2 he3
   refine ⟨_, he1, fun j v hv => ?_⟩
   obtain ⟨c, hc, rfl⟩ := bcells_getElem l j v hv
   have hpl : (⟨b, off, none⟩ : Addr).add j = ⟨b, off + j, none⟩ := by unfold Addr.add; split <;> simp_all
   rw [hpl, World.cell?_of_block (w := wr) (Below.heap_alloc wr o b (by omega))]
   exact h5 j c hc
theorem splice_map {α β : Type} (f : α → β) (L : List α) (off : Nat) (cs : List α) : splice (L.map f) off (cs.map f) = (splice L off cs).map f := by simp [splice]
def ub (c : UInt8) : Value := .int .u8 c.toNat
theorem bcells_map (l : List UInt8) : bcells l = l.map ub := rfl
theorem tail_list (r B : List UInt8) (m : Nat) (hB : B.length = 8) (h1 : r.length + 9 ≤ m) (h2 : m ≤ 128) :
 splice ((splice z128 0 r).set r.length 128) (m - 8) B = r ++ 128 :: (List.replicate (m - 9 - r.length) 0 ++ (B ++ List.replicate (128 - m) 0)) := by
 have e1 : splice z128 0 r = r ++ 0 :: List.replicate (127 - r.length) 0 := by
  simp only [splice, List.take_zero, List.nil_append, z128, List.drop_replicate]
  rw [← List.replicate_succ]; congr 2; omega
 have e2 : (splice z128 0 r).set r.length 128 = r ++ 128 :: List.replicate (127 - r.length) 0 := by
  rw [e1, List.set_append_right _ _ (Nat.le_refl _), Nat.sub_self]; rfl
 rw [e2]
 have e3 : (r ++ 128 :: List.replicate (127 - r.length) 0).take (m - 8) = r ++ 128 :: List.replicate (m - 9 - r.length) 0 := by
  rw [List.take_append, List.take_of_length_le (by omega), show m - 8 - r.length = (m - 9 - r.length) + 1 by omega, List.take_succ_cons, List.take_replicate]
  congr 3; omega
 have e4 : (r ++ 128 :: List.replicate (127 - r.length) 0).drop (m - 8 + B.length) = List.replicate (128 - m) (0 : UInt8) := by
  rw [List.drop_append, List.drop_of_length_le (by omega), hB, show m - 8 + 8 - r.length = (m - 1 - r.length) + 1 by omega, List.drop_succ_cons, List.drop_replicate, List.nil_append]
  congr 1; omega
 unfold splice
 rw [e3, e4]; simp
theorem tail_cells (r : List UInt8) (m n : Nat) (h1 : r.length + 9 ≤ m) (h2 : m ≤ 128) :
 splice ((splice (bcells z128) 0 (bcells r)).set r.length (.int .u8 128)) (m - 8) (bcells (be 8 n)) = bcells (r ++ 128 :: (List.replicate (m - 9 - r.length) 0 ++ (be 8 n ++ List.replicate (128 - m) 0))) := by
 have e : (Value.int .u8 128) = ub 128 := rfl
 rw [bcells_map z128, bcells_map r, splice_map, e, ← List.map_set, bcells_map (be 8 n), splice_map, tail_list r (be 8 n) m (be_len 8 n) h1 h2]; rfl
def endL (l r : List UInt8) (m : Nat) : List UInt8 := r ++ 128 :: (List.replicate (m - 9 - r.length) 0 ++ be 8 (8 * l.length))
theorem endL_len (l r : List UInt8) (m : Nat) (h1 : r.length + 9 ≤ m) : (endL l r m).length = m := by simp [endL, be_len]; omega
theorem pad_split (l : List UInt8) (k m : Nat) (hk : 64 * k ≤ l.length) (h63 : (l.drop (64 * k)).length ≤ 63) (hm : (m = 64 ∧ (l.drop (64 * k)).length ≤ 55) ∨ (m = 128 ∧ 55 < (l.drop (64 * k)).length)) :
 pad l = l.take (64 * k) ++ endL l (l.drop (64 * k)) m := by
 unfold pad endL
 conv => lhs; lhs; rw [← List.take_append_drop (64 * k) l]
 rw [List.append_assoc]
 rw [List.length_drop] at *
 congr 5; omega
theorem sha_split (l : List UInt8) (k m : Nat) (hk : 64 * k ≤ l.length) (h63 : (l.drop (64 * k)).length ≤ 63) (hm : (m = 64 ∧ (l.drop (64 * k)).length ≤ 55) ∨ (m = 128 ∧ 55 < (l.drop (64 * k)).length)) :
 sha l = (absorbs (m / 64) (absorbs k startS l) (endL l (l.drop (64 * k)) m)).l.flatMap fun x => be 4 x.toNat := by
 have hp := pad_split l k m hk h63 hm
 have hl : (l.take (64 * k)).length = 64 * k := by rw [List.length_take]; omega
 have hpl : (pad l).length / 64 = k + m / 64 := by rw [hp, List.length_append, hl, endL_len _ _ _ (by omega)]; omega
 unfold sha
 rw [hpl, absorbs_add]
 have h1 : (pad l).drop (64 * k) = endL l (l.drop (64 * k)) m := by rw [hp, List.drop_append_of_le_length (by omega), List.drop_of_length_le (by omega), List.nil_append]
 have h2 : absorbs k startS (pad l) = absorbs k startS l := by unfold pad; exact absorbs_app k startS l _ hk
 rw [h1, h2]
theorem absorbs_one (s : S8) (t : List UInt8) (h : t.length = 64) : absorbs (64 / 64) s t = blockS s t := by
 show absorbs 1 s t = _; simp only [absorbs]; rw [List.take_of_length_le (by omega)]
theorem absorbs_two (s : S8) (t : List UInt8) (h : t.length = 128) : absorbs (128 / 64) s t = blockS (blockS s (t.take 64)) (t.drop 64) := by
 show absorbs 2 s t = _; simp only [absorbs]; rw [List.take_of_length_le (l := t.drop 64) (by simp; omega)]
def SumRel (w : World) (l : List UInt8) (v : Value) (wr : World) : Prop :=
 ∃ k : Nat, 64 * k ≤ l.length ∧ BtsAt w.heap.size wr (l.drop (64 * k)) v ∧ CB wr (w.heap.size + 1) 217 ((absorbs k startS l).l.map iw32) ∧ CB wr w.heap.size 165 (bcells (List.replicate 32 0)) ∧ w.grownBy wr none
theorem sumRel_next {w wr w1 : World} {l : List UInt8} {k b off n cp cp' : Nat} {oa : Option Addr} (hk : 64 * k + 64 ≤ l.length) (hn : (l.drop (64 * k)).length = n) (h2 : n ≤ cp) (h3 : cp ≤ maxLen) (h4 : b < w.heap.size) (h5 : ∀ j c, (l.drop (64 * k))[j]? = some c → wr.cell? ⟨b, off + j, none⟩ = some (.int .u8 (c.toNat : Int)))
 (hcp : (n = 64 ∧ cp' ≤ maxLen) ∨ (oa = some ⟨b, off + 64, none⟩ ∧ cp' = cp - 64)) (hs : CB w1 (w.heap.size + 1) 217 ((blockS (absorbs k startS l) ((l.drop (64 * k)).take 64)).l.map iw32)) (hd : CB wr w.heap.size 165 (bcells (List.replicate 32 0)))
 (hg : w.grownBy wr none) (hg1 : wr.grownBy w1 (some (w.heap.size + 1))) : SumRel w l (.slice oa (n - 64) cp') w1 := by
 have hdl : (l.drop (64 * (k + 1))).length = n - 64 := by rw [List.length_drop] at *; omega
 have hgs := hg.size
 refine ⟨k + 1, by omega, ?_, by rw [absorbs_succ]; exact hs, hd.keep (hg1.block _ hd.lt (by simp)), grown_trans hg hg1 (.inr fun g hg => by injection hg; omega)⟩
 rcases hcp with ⟨h64, hcm⟩ | ⟨rfl, rfl⟩
 · have h0 : l.drop (64 * (k + 1)) = [] := List.eq_nil_of_length_eq_zero (by omega)
   rw [h0, h64]; exact .inl ⟨rfl, oa, cp', rfl, hcm⟩
 · refine BtsAt.mk' hdl.symm (by omega) (by omega) h4 fun j c hj => ?_
   have h1 : (l.drop (64 * k))[64 + j]? = some c := by rw [← hj, List.getElem?_drop, List.getElem?_drop]; congr 1; omega
   have h2 := h5 _ c h1
   rw [World.cell?_of_block (w := wr) (hg1.block b (by omega) (fun e => by injection e; omega)), Nat.add_assoc]; exact h2
structure SumMid (w w5 : World) (E : Nat) (e : List UInt8) (st : S8) : Prop where
 he : CB w5 E 5 (bcells e)
 hs : CB w5 (w.heap.size + 1) 217 (st.l.map iw32)
 hd : CB w5 w.heap.size 165 (bcells (List.replicate 32 0))
 hg : w.grownBy w5 none
 hE : w.heap.size + 2 ≤ E
theorem SumMid.next {w w5 w6 : World} {E : Nat} {e : List UInt8} {st st' : S8} (h : SumMid w w5 E e st) (hs : CB w6 (w.heap.size + 1) 217 (st'.l.map iw32)) (hg : w5.grownBy w6 (some (w.heap.size + 1))) : SumMid w w6 E e st' :=
 ⟨h.he.keep (hg.block E h.he.lt (by have := h.hE; intro e; injection e; omega)), hs, h.hd.keep (hg.block _ h.hd.lt (by simp)), grown_trans h.hg hg (.inr fun g hg => by injection hg; omega), h.hE⟩
theorem CB.bl {w : World} {E : Nat} {t : TypeId} {e : List UInt8} (h : CB w E t (bcells e)) (off : Nat) : BL w E off (e.drop off) := fun j c hj => by
 rw [h.cell, bcells]; rw [List.getElem?_drop] at hj; simp [hj]
theorem SumMid.absorb {w w5 : World} {E : Nat} {e : List UInt8} {st : S8} (h : SumMid w w5 E e st) (hL : Laid w) (off cap : Nat) (hoff : off + 64 ≤ e.length) (hcap : 64 ≤ cap) (hc : cap ≤ 128) :
 Calls Tryz.prog 200 #[.pointer (some ⟨w.heap.size + 1, 0, none⟩), .slice (some ⟨E, off, none⟩) 64 cap] w5 fun x w6 => x = .returned (.tuple #[]) ∧ SumMid w w6 E e (blockS st ((e.drop off).take 64)) := by
 refine (absorb_any (w.heap.size + 1) E off cap st ((e.drop off).take 64) w5 (by simp; omega) hcap (by unfold maxLen; omega) h.he.lt ((h.he.bl off).take 64) h.hs (by have := h.hE; omega) (hL.grown h.hg (by simp))).mono ?_
 rintro x w6 ⟨rfl, h1, h2⟩
 exact ⟨rfl, h.next h1 h2⟩
def OutRel (w : World) (st : S8) (i : Value) (wr : World) : Prop :=
 ∃ k : Nat, k ≤ 8 ∧ i = .int .i64 k ∧ CB wr w.heap.size 165 (bcells (((st.l.take k).flatMap fun x => be 4 x.toNat) ++ List.replicate (32 - 4 * k) 0)) ∧ w.grownBy wr none
theorem out_len (st : S8) (k : Nat) (h : k ≤ 8) : ((st.l.take k).flatMap fun x => be 4 x.toNat).length = 4 * k := by
 rcases (by omega : k = 0 ∨ k = 1 ∨ k = 2 ∨ k = 3 ∨ k = 4 ∨ k = 5 ∨ k = 6 ∨ k = 7 ∨ k = 8) with rfl | rfl | rfl | rfl | rfl | rfl | rfl | rfl | rfl <;> simp [S8.l, be_len]
theorem out_step (st : S8) (k : Nat) (h : k < 8) : splice (bcells (((st.l.take k).flatMap fun x => be 4 x.toNat) ++ List.replicate (32 - 4 * k) 0)) (4 * k) (bcells (be 4 (st.l.getD k 0).toNat)) = bcells (((st.l.take (k + 1)).flatMap fun x => be 4 x.toNat) ++ List.replicate (32 - 4 * (k + 1)) 0) := by
 have hl := out_len st k (by omega)
 have hk : k < st.l.length := by simp [S8.l]; omega
 have h1 : st.l.take (k + 1) = st.l.take k ++ [st.l.getD k 0] := by rw [List.take_succ_eq_append_getElem hk]; simp [hk]
 rw [h1, List.flatMap_append]
 generalize ((st.l.take k).flatMap fun x => be 4 x.toNat) = A at *
 rw [bcells_map, bcells_map (be 4 _), splice_map, bcells_map]
 congr 1
 unfold splice
 rw [List.take_append_of_le_length (by omega), List.take_of_length_le (by omega), be_len, List.drop_append, List.drop_of_length_le (by omega), List.nil_append, List.drop_replicate, hl]
 simp only [List.flatMap_cons, List.flatMap_nil, List.append_nil, List.append_assoc]
 congr 3; omega
theorem idx8 (st : S8) (k : Nat) (h : k < 8) (w : World) : (Instr.index 217 (.agg #[.int .u32 (iw st.a), .int .u32 (iw st.b), .int .u32 (iw st.c), .int .u32 (iw st.d), .int .u32 (iw st.e), .int .u32 (iw st.f), .int .u32 (iw st.g), .int .u32 (iw st.h)]) (.int .i64 (k : Int))).run Tryz.prog w = .ok (.int .u32 (iw (st.l.getD k 0))) w := by
 rcases (by omega : k = 0 ∨ k = 1 ∨ k = 2 ∨ k = 3 ∨ k = 4 ∨ k = 5 ∨ k = 6 ∨ k = 7) with rfl | rfl | rfl | rfl | rfl | rfl | rfl | rfl <;> kernel_rfl
end Go.Proofs.YtdblnbnofjggnaaGreatDoor
namespace Go.Proofs.YtdblnbnofjggnaaGreatDoor
open Go.RowKit
theorem slc8 (D : Nat) (j : Nat) (h : j < 8) (w : World) : (Instr.sliceAt 165 (.pointer (some ⟨D, 0, none⟩)) (some (.int .i64 (4 * (j : Int)))) (some (.int .i64 (4 * (j : Int) + 4))) none).run Tryz.prog w = .ok (.slice (some ⟨D, 4 * j, none⟩) 4 (32 - 4 * j)) w := by
 rcases (by omega : j = 0 ∨ j = 1 ∨ j = 2 ∨ j = 3 ∨ j = 4 ∨ j = 5 ∨ j = 6 ∨ j = 7) with rfl | rfl | rfl | rfl | rfl | rfl | rfl | rfl <;> kernel_rfl
theorem dig_one (l : List UInt8) : (bcells l).toArray.all (·.oneCell') = true := by
 rw [Array.all_eq_true_iff_forall_mem]; intro x hx; exact bcells_one l x (by simpa using hx)
theorem dig_info {l : List UInt8} (h : l.length = 32) : (Tryz.prog.info? 165).map (·.size) = some (bcells l).toArray.size := by
 rw [List.size_toArray, bcells_length, h]; kernel_rfl
theorem grown_none {w w' : World} (h : w.grownBy w' none) : Below w.heap.size w w' := ⟨h.os, h.tape, h.output, h.size, fun k hk => h.block k hk (by simp)⟩
theorem sumMid_mk {w wo w4 w5 : World} {E : Nat} {e : List UInt8} {st : S8} (hE : wo.heap.size = E) (hs : CB wo (w.heap.size + 1) 217 (st.l.map iw32)) (hd : CB wo w.heap.size 165 (bcells (List.replicate 32 0))) (hg : w.grownBy wo none)
 (hB : Below E wo w4) (he : CB w5 E 5 (bcells e)) (hg5 : w4.grownBy w5 (some E)) : SumMid w w5 E e st := by
 have h1 := hs.lt
 have hg4 : wo.grownBy w4 none := ⟨hB.os, hB.tape, hB.output, hB.size, fun j hj _ => hB.block j (by omega)⟩
 have hB5 : ∀ j, j < E → w5.heap[j]? = wo.heap[j]? := fun j hj => (hg5.block j (by have := hB.size; omega) (by intro e; injection e; omega)).trans (hB.block j hj)
 exact ⟨he, hs.keep (hB5 _ (by omega)), hd.keep (hB5 _ (by omega)), grown_trans (grown_trans hg hg4 (.inl rfl)) hg5 (.inr fun g hg' => by injection hg'; have := hg.size; omega), by omega⟩
set_option maxRecDepth 100000 in
set_option maxHeartbeats 1000000 in
theorem dsum_any (oa : Option Addr) (cap : Nat) (l : List UInt8) (w : World) (hl : l.length ≤ 1000000) (hbl : BtsAt w.heap.size w l (.slice oa l.length cap)) (hLd : Laid w) :
 Calls Tryz.prog 180 #[.slice oa l.length cap] w fun e w' => e = .returned (.agg (bcells (sha l)).toArray) ∧ Below w.heap.size w w' := by
 have hmf : ∀ (fn : Fn) (first cap : Array Value) (w : World), (Instr.makeFunc fn first cap).run Tryz.prog w = .ok (.func fn first cap) w := fun _ _ _ _ => rfl
 have hmk : ∀ w : World, (Instr.makeSlice 50 (.int .i64 64) (.int .i64 128)).run Tryz.prog w = .ok (.slice (some ⟨w.heap.size, 0, none⟩) 64 128) (w.alloc (.cells (bcells z128).toArray 5)) := fun w => run_mk w
 have hg2 : 2 < w.heap.size := hLd.lt.2
 have s0 : w.cell? ⟨2, 0, none⟩ = some (.int .u32 (iw startS.a)) := hLd.start 0 (by decide)
 have s1 : w.cell? ⟨2, 1, none⟩ = some (.int .u32 (iw startS.b)) := hLd.start 1 (by decide)
 have s2 : w.cell? ⟨2, 2, none⟩ = some (.int .u32 (iw startS.c)) := hLd.start 2 (by decide)
 have s3 : w.cell? ⟨2, 3, none⟩ = some (.int .u32 (iw startS.d)) := hLd.start 3 (by decide)
 have s4 : w.cell? ⟨2, 4, none⟩ = some (.int .u32 (iw startS.e)) := hLd.start 4 (by decide)
 have s5 : w.cell? ⟨2, 5, none⟩ = some (.int .u32 (iw startS.f)) := hLd.start 5 (by decide)
 have s6 : w.cell? ⟨2, 6, none⟩ = some (.int .u32 (iw startS.g)) := hLd.start 6 (by decide)
 have s7 : w.cell? ⟨2, 7, none⟩ = some (.int .u32 (iw startS.h)) := hLd.start 7 (by decide)
 go_enter Tryz.func180, Tryz.ntmps180
 go_wp2
 have HB := Lib.hid hbl; have HLd := Lib.hid hLd
 clear hbl hLd s0 s1 s2 s3 s4 s5 s6 s7
 go_loopw [5] (fun v wr => SumRel w l v wr) (fun v _ => slen v)
 case atStart =>
  refine ⟨0, Nat.zero_le _, ?_, ?_, ?_, grown_alloc (grown_alloc (grown_refl w _) _) _⟩
  · exact HB.out.keep (Nat.le_refl _) fun k hk => (Below.heap_alloc _ _ k (by rw [World.size_alloc]; omega)).trans (Below.heap_alloc w _ k hk)
  · have h := heap_alloc_new (w.alloc (.cells #[.int .u8 0, .int .u8 0, .int .u8 0, .int .u8 0, .int .u8 0, .int .u8 0, .int .u8 0, .int .u8 0, .int .u8 0, .int .u8 0, .int .u8 0, .int .u8 0, .int .u8 0, .int .u8 0, .int .u8 0, .int .u8 0, .int .u8 0, .int .u8 0, .int .u8 0, .int .u8 0, .int .u8 0, .int .u8 0, .int .u8 0, .int .u8 0, .int .u8 0, .int .u8 0, .int .u8 0, .int .u8 0, .int .u8 0, .int .u8 0, .int .u8 0, .int .u8 0] 165)) (.cells #[.int .u32 (iw startS.a), .int .u32 (iw startS.b), .int .u32 (iw startS.c), .int .u32 (iw startS.d), .int .u32 (iw startS.e), .int .u32 (iw startS.f), .int .u32 (iw startS.g), .int .u32 (iw startS.h)] 217)
    rw [World.size_alloc] at h
    exact h
  · exact (Below.heap_alloc _ _ _ (by rw [World.size_alloc]; omega)).trans (heap_alloc_new w _)
 case round =>
  obtain ⟨k, hk, hb, hs, hd, hg⟩ := hrel
  have HS := Lib.hid hs; have HD := Lib.hid hd; have HG := Lib.hid hg
  have hlen : (l.drop (64 * k)).length = l.length - 64 * k := List.length_drop
  by_cases hge : 64 * k + 64 ≤ l.length
  · rcases hb with ⟨h0, _⟩ | ⟨_, b, off, cp, rfl, h2, h3, h4, h5⟩
    · rw [h0] at hlen; simp at hlen; omega
    have H5 := Lib.hid h5; have Hlen := Lib.hid hlen
    obtain ⟨n, hn⟩ : ∃ n, (l.drop (64 * k)).length = n := ⟨_, rfl⟩
    rw [hn] at h2 ⊢
    have Hn := Lib.hid hn
    have g1 : (64 : Int) ≤ (n : Int) := by omega
    have g2 : (n : Int) ≤ (cp : Int) := by omega
    have h3' := Lib.hid h3
    unfold maxLen at h3
    have tk : decide ((64 : Int) ≤ (n : Int)) = true := by simp; omega
    clear hs hd hg h5 hlen hn
    have hne : b ≠ w.heap.size + 1 := by omega
    have hLw := Lib.hid (HLd.out.grown HG.out (by simp))
    have hbt : BL wr b off ((l.drop (64 * k)).take 64) := BL.take (fun j c hj => H5.out j c hj) 64
    have HBT := Lib.hid hbt
    have hwl : b < wr.heap.size := Nat.lt_of_lt_of_le h4 HG.out.size
    have hab := Lib.hid (absorbs_succ k startS l)
    clear hbt
    by_cases hcp : cp = 64
    · subst hcp
      go_wp2_with fail
      refine (absorb_any (w.heap.size + 1) b off 64 (absorbs k startS l) ((l.drop (64 * k)).take 64) wr (by rw [List.length_take, Hn.out]; omega) (by omega) h3'.out hwl HBT.out HS.out hne hLw.out).mono ?_
      rintro e w1 ⟨rfl, hs1, hg1⟩
      have HS1 := Lib.hid hs1; have HG1 := Lib.hid hg1
      clear hs1 hg1
      go_wp2_with fail
      go_roundw
      case rel =>
       have h0 := sumRel_next (oa := some ⟨b, off, none⟩) (cp' := 0) hge Hn.out h2 h3'.out h4 H5.out (.inl ⟨by omega, Nat.zero_le _⟩) HS1.out HD.out HG.out HG1.out
       rw [show n - 64 = 0 by omega] at h0; exact h0
      case measure => simp [slen]; omega
    · have hcp2 : ¬ (cp : Int) = 64 := by omega
      have hcp3 : 64 < cp := by omega
      go_wp2_with fail
      refine (absorb_any (w.heap.size + 1) b off cp (absorbs k startS l) ((l.drop (64 * k)).take 64) wr (by rw [List.length_take, Hn.out]; omega) (by omega) h3'.out hwl HBT.out HS.out hne hLw.out).mono ?_
      rintro e w1 ⟨rfl, hs1, hg1⟩
      have HS1 := Lib.hid hs1; have HG1 := Lib.hid hg1
      clear hs1 hg1
      go_wp2_with fail
      go_roundw
      case rel => exact sumRel_next hge Hn.out h2 h3'.out h4 H5.out (.inr ⟨rfl, rfl⟩) HS1.out HD.out HG.out HG1.out
      case measure => simp [slen]; omega
  · obtain ⟨oa2, cp, rfl, hc1, hc2⟩ := hb.form
    have HB2 := Lib.hid hb
    obtain ⟨r, hr⟩ : ∃ r, l.drop (64 * k) = r := ⟨_, rfl⟩
    rw [hr] at HB2 hlen hc1 ⊢
    have hr63 : r.length ≤ 63 := by omega
    have tk : decide ((64 : Int) ≤ (r.length : Int)) = false := by simp; omega
    have Hr := Lib.hid hr; have Hlen := Lib.hid hlen
    unfold maxLen at hc2
    clear hb hs hd hg hr hlen
    obtain ⟨wo, rfl⟩ : ∃ wo : World, wo = wr := ⟨_, rfl⟩
    have hE0 : (wo.alloc (.cells (bcells z128).toArray 5)).heap[wo.heap.size]? = some (.cells (bcells z128).toArray 5 (0, 0)) := heap_alloc_new wo _
    have HE0 := Lib.hid hE0
    have hB0 := Lib.hid ((Below.refl wo.heap.size wo).alloc (Nat.le_refl _) (.cells (bcells z128).toArray 5))
    have hsrc := Lib.hid (copy_from HB2.out HG.out.size (.cells (bcells z128).toArray 5))
    have hone := Lib.hid (bcells_one r)
    clear hE0
    go_wp2_with (with_reducible refine wpList_copy_splice rfl (.tmp 22) (.tmp 23) 50 50 rfl 5 Tryz.underlying50 (by kernel_rfl) (some ⟨wo.heap.size, 0, none⟩) oa2 64 128 r.length cp rfl rfl wo.heap.size 0 (bcells z128) 5 HE0.out (bcells r) ?c1 ?c2 ?c3 hone.out wo.heap.size wo hB0.out (Nat.le_refl _) ?_)
    case c1 => rw [bcells_length]; exact (Nat.min_eq_left (by omega)).symm
    case c2 => exact fun h => hsrc.out h
    case c3 => simp [bcells_length, z128]; omega
    intro w3 hE3 hB3
    have HE3 : Hid (CB w3 wo.heap.size 5 (splice (bcells z128) 0 (bcells r))) := hE3.out
    have HB3 := Lib.hid hB3
    clear hE3 hB3 HE0 hB0 hsrc hone
    obtain ⟨E, hE⟩ : ∃ E, wo.heap.size = E := ⟨_, rfl⟩
    rw [hE] at HE3 HB3
    have Hr63 := Lib.hid hr63
    have b1 : (r.length : Int) < 128 := by omega
    have b2 : (r.length : Int) < 64 := by omega
    have fz := HE3.out.frozen r.length
    have hlen3 : (splice (bcells z128) 0 (bcells r)).length = 128 := by rw [length_splice _ _ _ (by simp [bcells_length, z128]; omega)]; simp [bcells_length, z128]
    obtain ⟨x0, hx0⟩ : ∃ x, w3.cell? ⟨E, r.length, none⟩ = some x := ⟨_, (HE3.out.cell _).trans (List.getElem?_eq_getElem (by omega))⟩
    clear hlen3
    by_cases h55 : 55 < r.length
    · have t55 : decide ((55 : Int) < (r.length : Int)) = true := by simp; omega
      go_wp2_with fail
      have HE4 : Hid (CB (w3.setCell ⟨E, r.length, none⟩ (.int .u8 128)) E 5 ((splice (bcells z128) 0 (bcells r)).set r.length (.int .u8 128))) := HE3.out.set _ _
      have hB4 : Hid (Below E wo (w3.setCell ⟨E, r.length, none⟩ (.int .u8 128))) := HB3.out.setCell (Nat.le_refl _) _
      have hl8 : ((l.length : Int) * 8) = ((8 * l.length : Nat) : Int) := by omega
      refine (put_any E 120 8 8 (8 * l.length) _ hl8 5 _ _ HE4.out (by decide) (by decide) ?c128).mono ?_
      case c128 => rw [List.length_set, length_splice _ _ _ (by simp [bcells_length, z128]; omega)]; simp [bcells_length, z128]
      rintro e w5 ⟨rfl, hE5, hg5, hz5⟩
      rw [tail_cells r 128 (8 * l.length) (by omega) (by omega)] at hE5
      have HM0 := Lib.hid (sumMid_mk (e := endL l r 128 ++ List.replicate (128 - 128) 0) hE HS.out HD.out HG.out hB4.out (by unfold endL; simp only [List.append_assoc, List.cons_append]; exact hE5) hg5)
      have hel := Lib.hid (endL_len l r 128 (by omega))
      clear hE5 hg5 hz5 HE4 hB4 hl8
      go_wp2_with fail
      refine wp_loop_rounds 3 ?_
      rw [rounds_succ]; go_wp2_with fail
      refine (HM0.out.absorb HLd.out 0 128 (by rw [List.length_append, hel.out]; simp) (by decide) (by decide)).mono ?_
      rintro e w6 ⟨rfl, hm6⟩
      have HM1 := Lib.hid hm6
      clear hm6
      go_wp2_with fail
      rw [rounds_succ]; go_wp2_with fail
      refine (HM1.out.absorb HLd.out 64 64 (by rw [List.length_append, hel.out]; simp) (by decide) (by decide)).mono ?_
      rintro e w6 ⟨rfl, hm6⟩
      have HM2 := Lib.hid hm6
      clear hm6
      go_wp2_with fail
      have hfin : Hid (sha l = ((blockS (blockS (absorbs k startS l) ((endL l r 128 ++ List.replicate (128 - 128) 0).drop 0 |>.take 64)) ((endL l r 128 ++ List.replicate (128 - 128) 0).drop 64 |>.take 64)).l.flatMap fun x => be 4 x.toNat)) := by
       show sha l = _
       have h0 := sha_split l k 128 hk (by rw [Hr.out]; omega) (by rw [Hr.out]; omega)
       rw [Hr.out] at h0
       rw [h0, absorbs_two _ _ hel.out]
       rw [show (128 - 128) = 0 from rfl, List.replicate_zero, List.append_nil, List.drop_zero, List.take_of_length_le (l := List.drop 64 (endL l r 128)) (by rw [List.length_drop, hel.out]; decide)]
      have hm := HM2.out
      generalize (blockS (blockS (absorbs k startS l) ((endL l r 128 ++ List.replicate (128 - 128) 0).drop 0 |>.take 64)) ((endL l r 128 ++ List.replicate (128 - 128) 0).drop 64 |>.take 64)) = st at hm hfin
      obtain ⟨z0, z1, z2, z3, z4, z5, z6, z7⟩ := cb8 hm.hs
      have HMd := Lib.hid hm.hd; have HMg := Lib.hid hm.hg
      clear hm HM0 HM1 HM2 HE3 HB3 HB2 HS HD HG
      rw [rounds_succ]; go_wp2
      have hix := fun (k : Nat) (h : k < 8) => idx8 st k h
      have HIX := Lib.hid hix
      clear hix
      go_loopw [54] (fun i wr => OutRel w st i wr) (fun i _ => 8 - (intOf i).toNat)
      case atStart => exact ⟨0, by omega, rfl, HMd.out, HMg.out⟩
      case round =>
       obtain ⟨j, hj, rfl, hdj, hgj⟩ := hrel
       have HDJ := Lib.hid hdj; have HGJ := Lib.hid hgj
       by_cases hlt : j < 8
       · have tk2 : decide ((j : Int) < 8) = true := by simp; omega
         have hix := HIX.out j hlt
         obtain ⟨x, hx⟩ : ∃ x, st.l.getD j 0 = x := ⟨_, rfl⟩
         rw [hx] at hix
         have hst := Lib.hid (out_step st j hlt)
         rw [hx] at hst
         have e64 : IntKind.u64.wrap (iw x) = iw x := by have := iw_lt x; rw [IntKind.wrap_u64]; omega
         have n6 : (j : Int) < 8 := by omega
         have hsl := slc8 w.heap.size j hlt wr
         have hol := Lib.hid (out_len st j (by omega))
         clear hdj hgj hx
         go_wp2_with fail
         refine (put_any w.heap.size (4 * j) 4 (32 - 4 * j) x.toNat _ rfl 165 _ _ HDJ.out (by decide) (by decide) ?c3).mono ?_
         case c3 => rw [bcells_length, List.length_append, hol.out, List.length_replicate]; omega
         rintro e w7 ⟨rfl, hd7, hg7, hz7⟩
         rw [hst.out] at hd7
         have HD7 := Lib.hid hd7; have HG7 := Lib.hid hg7
         clear hd7 hg7 hz7
         go_wp2_with fail
         go_roundw
         case rel => exact ⟨j + 1, by omega, by go_num, HD7.out, grown_trans HGJ.out HG7.out (.inr fun g hg => by injection hg; omega)⟩
         case measure => simp [intOf]; omega
       · have hj8 : j = 8 := by omega
         rw [hj8] at hdj
         have tk2 : decide ((j : Int) < 8) = false := by simp; omega
         have hsha : Hid ((st.l.take 8).flatMap (fun x => be 4 x.toNat) ++ List.replicate (32 - 4 * 8) 0 = sha l) := by
          show _ = _; rw [hfin.out, List.take_of_length_le (by simp [S8.l])]; simp
         rw [hsha.out] at hdj
         have hrow : Hid (wr.heap[w.heap.size]? = some (.cells (bcells (sha l)).toArray 165 (0, 0))) := hdj
         have hone := Lib.hid (dig_one (sha l))
         have hi := Lib.hid (dig_info (l := sha l) (sha_len l))
         clear hgj hdj HDJ z0 z1 z2 z3 z4 z5 z6 z7
         go_wp2_with (first
          | (with_reducible refine wpList_load_row rfl 165 (.tmp 2) rfl w.heap.size rfl 165 (bcells (sha l)).toArray (0, 0) _ hrow.out Tryz.underlying165 rfl hi.out ?_)
          | (with_reducible refine wpList_store_row rfl 165 (.tmp 2) (.tmp 68) rfl w.heap.size (bcells (sha l)).toArray rfl rfl 165 (bcells (sha l)).toArray hrow.out hi.out rfl hone.out ?_))
         refine bodyPost_ret (v := .agg (bcells (sha l)).toArray) (results_cell_row rfl _ _ w.heap.size 165 (bcells (sha l)).toArray (0, 0) _ rfl (setRow_heap _ _ _ _ _ _ hrow.out) Tryz.underlying165 rfl hi.out) rfl ?_
         exact ⟨rfl, below_setRow (grown_none HGJ.out) (Nat.le_refl _) _⟩
    · have t55 : decide ((55 : Int) < (r.length : Int)) = false := by simp; omega
      go_wp2_with fail
      have HE4 : Hid (CB (w3.setCell ⟨E, r.length, none⟩ (.int .u8 128)) E 5 ((splice (bcells z128) 0 (bcells r)).set r.length (.int .u8 128))) := HE3.out.set _ _
      have hB4 : Hid (Below E wo (w3.setCell ⟨E, r.length, none⟩ (.int .u8 128))) := HB3.out.setCell (Nat.le_refl _) _
      have hl8 : ((l.length : Int) * 8) = ((8 * l.length : Nat) : Int) := by omega
      refine (put_any E 56 8 72 (8 * l.length) _ hl8 5 _ _ HE4.out (by decide) (by decide) ?c64).mono ?_
      case c64 => rw [List.length_set, length_splice _ _ _ (by simp [bcells_length, z128]; omega)]; simp [bcells_length, z128]
      rintro e w5 ⟨rfl, hE5, hg5, hz5⟩
      rw [tail_cells r 64 (8 * l.length) (by omega) (by omega)] at hE5
      have HM0 := Lib.hid (sumMid_mk (e := endL l r 64 ++ List.replicate (128 - 64) 0) hE HS.out HD.out HG.out hB4.out (by unfold endL; simp only [List.append_assoc, List.cons_append]; exact hE5) hg5)
      have hel := Lib.hid (endL_len l r 64 (by omega))
      clear hE5 hg5 hz5 HE4 hB4 hl8
      go_wp2_with fail
      refine wp_loop_rounds 2 ?_
      rw [rounds_succ]; go_wp2_with fail
      refine (HM0.out.absorb HLd.out 0 128 (by rw [List.length_append, hel.out]; simp) (by decide) (by decide)).mono ?_
      rintro e w6 ⟨rfl, hm6⟩
      have HM1 := Lib.hid hm6
      clear hm6
      go_wp2_with fail
      have hfin : Hid (sha l = ((blockS (absorbs k startS l) ((endL l r 64 ++ List.replicate (128 - 64) 0).drop 0 |>.take 64)).l.flatMap fun x => be 4 x.toNat)) := by
       show sha l = _
       have h0 := sha_split l k 64 hk (by rw [Hr.out]; omega) (by rw [Hr.out]; omega)
       rw [Hr.out] at h0
       rw [h0, absorbs_one _ _ hel.out]
       rw [List.drop_zero, List.take_append_of_le_length (by rw [hel.out]; exact Nat.le_refl _), List.take_of_length_le (by rw [hel.out]; exact Nat.le_refl _)]
      have hm := HM1.out
      generalize (blockS (absorbs k startS l) ((endL l r 64 ++ List.replicate (128 - 64) 0).drop 0 |>.take 64)) = st at hm hfin
      obtain ⟨z0, z1, z2, z3, z4, z5, z6, z7⟩ := cb8 hm.hs
      have HMd := Lib.hid hm.hd; have HMg := Lib.hid hm.hg
      clear hm HM0 HM1 HE3 HB3 HB2 HS HD HG
      rw [rounds_succ]; go_wp2
      have hix := fun (k : Nat) (h : k < 8) => idx8 st k h
      have HIX := Lib.hid hix
      clear hix
      go_loopw [54] (fun i wr => OutRel w st i wr) (fun i _ => 8 - (intOf i).toNat)
      case atStart => exact ⟨0, by omega, rfl, HMd.out, HMg.out⟩
      case round =>
       obtain ⟨j, hj, rfl, hdj, hgj⟩ := hrel
       have HDJ := Lib.hid hdj; have HGJ := Lib.hid hgj
       by_cases hlt : j < 8
       · have tk2 : decide ((j : Int) < 8) = true := by simp; omega
         have hix := HIX.out j hlt
         obtain ⟨x, hx⟩ : ∃ x, st.l.getD j 0 = x := ⟨_, rfl⟩
         rw [hx] at hix
         have hst := Lib.hid (out_step st j hlt)
         rw [hx] at hst
         have e64 : IntKind.u64.wrap (iw x) = iw x := by have := iw_lt x; rw [IntKind.wrap_u64]; omega
         have n6 : (j : Int) < 8 := by omega
         have hsl := slc8 w.heap.size j hlt wr
         have hol := Lib.hid (out_len st j (by omega))
         clear hdj hgj hx
         go_wp2_with fail
         refine (put_any w.heap.size (4 * j) 4 (32 - 4 * j) x.toNat _ rfl 165 _ _ HDJ.out (by decide) (by decide) ?c3).mono ?_
         case c3 => rw [bcells_length, List.length_append, hol.out, List.length_replicate]; omega
         rintro e w7 ⟨rfl, hd7, hg7, hz7⟩
         rw [hst.out] at hd7
         have HD7 := Lib.hid hd7; have HG7 := Lib.hid hg7
         clear hd7 hg7 hz7
         go_wp2_with fail
         go_roundw
         case rel => exact ⟨j + 1, by omega, by go_num, HD7.out, grown_trans HGJ.out HG7.out (.inr fun g hg => by injection hg; omega)⟩
         case measure => simp [intOf]; omega
       · have hj8 : j = 8 := by omega
         rw [hj8] at hdj
         have tk2 : decide ((j : Int) < 8) = false := by simp; omega
         have hsha : Hid ((st.l.take 8).flatMap (fun x => be 4 x.toNat) ++ List.replicate (32 - 4 * 8) 0 = sha l) := by
          show _ = _; rw [hfin.out, List.take_of_length_le (by simp [S8.l])]; simp
         rw [hsha.out] at hdj
         have hrow : Hid (wr.heap[w.heap.size]? = some (.cells (bcells (sha l)).toArray 165 (0, 0))) := hdj
         have hone := Lib.hid (dig_one (sha l))
         have hi := Lib.hid (dig_info (l := sha l) (sha_len l))
         clear hgj hdj HDJ z0 z1 z2 z3 z4 z5 z6 z7
         go_wp2_with (first
          | (with_reducible refine wpList_load_row rfl 165 (.tmp 2) rfl w.heap.size rfl 165 (bcells (sha l)).toArray (0, 0) _ hrow.out Tryz.underlying165 rfl hi.out ?_)
          | (with_reducible refine wpList_store_row rfl 165 (.tmp 2) (.tmp 68) rfl w.heap.size (bcells (sha l)).toArray rfl rfl 165 (bcells (sha l)).toArray hrow.out hi.out rfl hone.out ?_))
         refine bodyPost_ret (v := .agg (bcells (sha l)).toArray) (results_cell_row rfl _ _ w.heap.size 165 (bcells (sha l)).toArray (0, 0) _ rfl (setRow_heap _ _ _ _ _ _ hrow.out) Tryz.underlying165 rfl hi.out) rfl ?_
         exact ⟨rfl, below_setRow (grown_none HGJ.out) (Nat.le_refl _) _⟩
end Go.Proofs.YtdblnbnofjggnaaGreatDoor
