/- the reference's digest: block. -/
import Derived.Test.YtmhmenmkgbebcaaDoorErn
import Derived.Deep.DeepCutAuto
import Derived.Deep.RegionHeld3
namespace Go.Proofs.YtmhmenmkgbebcaaDoor
open Go.RowKit
theorem rror_i (x : W32) (ri : Int) (h1 : 1 ≤ ri) (h2 : ri ≤ 31) (w : World) : Calls Tryd.prog 76 #[.int .u32 (iw x), .int .i64 ri] w fun e w' => e = .returned (.int .u32 (iw (ror x ri.toNat))) ∧ ∃ n, w' = w.drewN n := rror_any x ri.toNat ri (by omega) (by omega) (by omega) w
def cellOf (w : World) (a : Addr) : Value := (w.cell? a).getD undef
theorem cellOf_some {w : World} {a : Addr} {x : Value} (h : w.cell? a = some x) : w.cell? a = some (cellOf w a) := by unfold cellOf; rw [h]; rfl
theorem keepS {w : World} {T t i j : Nat} {x y : Value} (hi : i ≠ t) (hj : j ≠ t) (h : w.cell? ⟨T, i, none⟩ = some x ∧ w.cell? ⟨T, j, none⟩ = some y ∧ w.cell? ⟨T, t, none⟩ = some (cellOf w ⟨T, t, none⟩) ∧ w.frozen? ⟨T, t, none⟩ = false) (v : Value) :
    (w.setCell ⟨T, t, none⟩ v).cell? ⟨T, i, none⟩ = some x ∧ (w.setCell ⟨T, t, none⟩ v).cell? ⟨T, j, none⟩ = some y ∧ (w.setCell ⟨T, t, none⟩ v).cell? ⟨T, t, none⟩ = some (cellOf (w.setCell ⟨T, t, none⟩ v) ⟨T, t, none⟩) ∧ (w.setCell ⟨T, t, none⟩ v).frozen? ⟨T, t, none⟩ = false :=
  ⟨(World.cell?_setCell_other _ _ _ _ (by simp)).trans h.1, (World.cell?_setCell_other _ _ _ _ (by simp)).trans h.2.1, cellOf_some (World.cell?_setCell_same' _ _ _ (by rw [h.2.2.1]; rfl)), by rw [World.frozen?_setCell]; exact h.2.2.2⟩
theorem keepN {w : World} {T t i j : Nat} {x y : Value} (h : w.cell? ⟨T, i, none⟩ = some x ∧ w.cell? ⟨T, j, none⟩ = some y ∧ w.cell? ⟨T, t, none⟩ = some (cellOf w ⟨T, t, none⟩) ∧ w.frozen? ⟨T, t, none⟩ = false) (n : Nat) :
    (w.drewN n).cell? ⟨T, i, none⟩ = some x ∧ (w.drewN n).cell? ⟨T, j, none⟩ = some y ∧ (w.drewN n).cell? ⟨T, t, none⟩ = some (cellOf (w.drewN n) ⟨T, t, none⟩) ∧ (w.drewN n).frozen? ⟨T, t, none⟩ = false := h
theorem wnext_eq2 (a x c y : W32) : IntKind.u32.wrap (IntKind.u32.wrap (IntKind.u32.wrap (iw a + bits BinOp.xor IntKind.u32 (iw (ror x 7 ^^^ ror x 18)) (iw x / 8)) + iw c) + bits BinOp.xor IntKind.u32 (iw (ror y 17 ^^^ ror y 19)) (iw y / 1024)) = iw (wNext a x c y) := by
  have f2 : iw x / (8 : Int) = iw (x >>> 3) := bshr x 3
  have f7 : iw y / (1024 : Int) = iw (y >>> 10) := bshr y 10
  rw [f2, f7, bxor, bxor, IntKind.wrap_u32, IntKind.wrap_u32, IntKind.wrap_u32, badd, badd, badd]
  rfl
def R3Rel (s : S8) (W : List W32) (w : World) (a b c d e f g h i : Value) (wr : World) : Prop :=
  ∃ t n : Nat, t ≤ 64 ∧ i = .int .i64 t ∧ wr = w.drewN n ∧ a = .int .u32 (iw (rounds s W t).a) ∧ b = .int .u32 (iw (rounds s W t).b) ∧ c = .int .u32 (iw (rounds s W t).c) ∧ d = .int .u32 (iw (rounds s W t).d) ∧ e = .int .u32 (iw (rounds s W t).e) ∧ f = .int .u32 (iw (rounds s W t).f) ∧ g = .int .u32 (iw (rounds s W t).g) ∧ h = .int .u32 (iw (rounds s W t).h)
theorem ch_id (e f g : W32) : e &&& f ^^^ ~~~e &&& g = g ^^^ e &&& (f ^^^ g) := by
  apply BitVec.eq_of_getLsbD_eq; intro i hi
  simp only [BitVec.getLsbD_xor, BitVec.getLsbD_and, BitVec.getLsbD_not, hi, decide_true, Bool.true_and]
  cases e.getLsbD i <;> cases f.getLsbD i <;> cases g.getLsbD i <;> rfl
theorem maj_id (a b c : W32) : a &&& b ^^^ a &&& c ^^^ b &&& c = a &&& b ||| c &&& (a ||| b) := by
  apply BitVec.eq_of_getLsbD_eq; intro i hi
  simp only [BitVec.getLsbD_xor, BitVec.getLsbD_and, BitVec.getLsbD_or]
  cases a.getLsbD i <;> cases b.getLsbD i <;> cases c.getLsbD i <;> rfl
theorem bnot (x : W32) : bits BinOp.xor IntKind.u32 (if IntKind.u32.signed = true then -1 else IntKind.u32.max) (iw x) = iw (~~~x) := by
  have h1 : (if IntKind.u32.signed = true then -1 else IntKind.u32.max) = iw (BitVec.allOnes 32) := by decide +kernel
  rw [h1, bxor, BitVec.allOnes_xor]
theorem rp_eq (v : S8) (k x : W32) : (((iw v.h + bits BinOp.xor IntKind.u32 (bits BinOp.xor IntKind.u32 (iw (ror v.e 6)) (iw (ror v.e 11))) (iw (ror v.e 25)) + bits BinOp.xor IntKind.u32 (bits BinOp.and IntKind.u32 (iw v.e) (iw v.f)) (bits BinOp.and IntKind.u32 (iw (~~~v.e)) (iw v.g)) + iw k) % 4294967296 + iw x) % 4294967296) = iw (rndP v k x) := by
  rw [bxor, bxor, band, band, bxor, badd4, badd, ch_id]; rfl
theorem rq_eq (v : S8) : (bits BinOp.xor IntKind.u32 (bits BinOp.xor IntKind.u32 (iw (ror v.a 2)) (iw (ror v.a 13))) (iw (ror v.a 22)) + bits BinOp.xor IntKind.u32 (bits BinOp.xor IntKind.u32 (bits BinOp.and IntKind.u32 (iw v.a) (iw v.b)) (bits BinOp.and IntKind.u32 (iw v.a) (iw v.c))) (bits BinOp.and IntKind.u32 (iw v.b) (iw v.c))) % 4294967296 = iw (rndQ v) := by
  rw [bxor, bxor, band, band, bxor, band, bxor, badd, maj_id]; rfl
def z64 : List Value := List.replicate 64 (.int .u32 0)
theorem z64_wcs : z64 = wcs [] := rfl
def R1Rel (T : Nat) (l : List UInt8) (w : World) (i : Value) (wr : World) : Prop :=
  ∃ k : Nat, k ≤ 16 ∧ i = .int .i64 k ∧ CB wr T 84 (wcs ((words l).take k)) ∧ w.grownBy wr (some T)
def R2Rel (T : Nat) (ws : List W32) (w : World) (i : Value) (wr : World) : Prop :=
  ∃ k : Nat, k ≤ 48 ∧ i = .int .i64 (k + 16 : Nat) ∧ CB wr T 84 (wcs (sched k ws)) ∧ w.grownBy wr (some T)
theorem kcs_one : ∀ u ∈ kcs, u.oneCell' = true := map_one kL
theorem wt_info : (Tryd.prog.info? 84).map (·.size) = some 64 := by kernel_rfl
set_option maxRecDepth 100000 in
set_option maxHeartbeats 2500000 in
theorem rblock_any (b off cap : Nat) (s : S8) (l : List UInt8) (w : World) (hl : l.length = 64) (hcap : 64 ≤ cap) (hm : cap ≤ maxLen) (hb : b < w.heap.size) (hbl : BL w b off l) :
    Calls Tryd.prog 71 #[.agg (s.l.map iw32).toArray, .slice (some ⟨b, off, none⟩) 64 cap] w fun e w' => e = .returned (.agg ((blockS s l).l.map iw32).toArray) ∧ Below w.heap.size w w' := by
  have g1 : (64 : Int) ≤ (cap : Int) := by omega
  have hL := Lib.hid hl; have HBL := Lib.hid hbl; have HM := Lib.hid hm
  unfold maxLen at hm
  clear hl hbl
  change Calls Tryd.prog 71 #[.agg #[.int .u32 (iw s.a), .int .u32 (iw s.b), .int .u32 (iw s.c), .int .u32 (iw s.d), .int .u32 (iw s.e), .int .u32 (iw s.f), .int .u32 (iw s.g), .int .u32 (iw s.h)], .slice (some ⟨b, off, none⟩) 64 cap] w _
  go_enter Tryd.func71, Tryd.ntmps71
  go_upto_region 1 with (fail)
  have hB0 : Hid (CB ((w.alloc (.cells #[.int .u32 (iw s.a), .int .u32 (iw s.b), .int .u32 (iw s.c), .int .u32 (iw s.d), .int .u32 (iw s.e), .int .u32 (iw s.f), .int .u32 (iw s.g), .int .u32 (iw s.h)] 75)).alloc (.cells #[.int .u32 0, .int .u32 0, .int .u32 0, .int .u32 0, .int .u32 0, .int .u32 0, .int .u32 0, .int .u32 0] 75)) w.heap.size 75 (s.l.map iw32)) := (Below.heap_alloc _ _ _ (by rw [World.size_alloc]; omega)).trans (heap_alloc_new w _)
  have hG0 := Lib.hid (grown_alloc (G := none) (grown_alloc (grown_refl w _) (.cells #[.int .u32 (iw s.a), .int .u32 (iw s.b), .int .u32 (iw s.c), .int .u32 (iw s.d), .int .u32 (iw s.e), .int .u32 (iw s.f), .int .u32 (iw s.g), .int .u32 (iw s.h)] 75)) (.cells #[.int .u32 0, .int .u32 0, .int .u32 0, .int .u32 0, .int .u32 0, .int .u32 0, .int .u32 0, .int .u32 0] 75))
  have hR0 := Lib.hid (heap_alloc_new (w.alloc (.cells #[.int .u32 (iw s.a), .int .u32 (iw s.b), .int .u32 (iw s.c), .int .u32 (iw s.d), .int .u32 (iw s.e), .int .u32 (iw s.f), .int .u32 (iw s.g), .int .u32 (iw s.h)] 75)) (.cells #[.int .u32 0, .int .u32 0, .int .u32 0, .int .u32 0, .int .u32 0, .int .u32 0, .int .u32 0, .int .u32 0] 75))
  rw [World.size_alloc] at hR0
  have hz0 : ((w.alloc (.cells #[.int .u32 (iw s.a), .int .u32 (iw s.b), .int .u32 (iw s.c), .int .u32 (iw s.d), .int .u32 (iw s.e), .int .u32 (iw s.f), .int .u32 (iw s.g), .int .u32 (iw s.h)] 75)).alloc (.cells #[.int .u32 0, .int .u32 0, .int .u32 0, .int .u32 0, .int .u32 0, .int .u32 0, .int .u32 0, .int .u32 0] 75)).heap.size = w.heap.size + 2 := by rw [World.size_alloc, World.size_alloc]
  generalize (w.alloc (.cells #[.int .u32 (iw s.a), .int .u32 (iw s.b), .int .u32 (iw s.c), .int .u32 (iw s.d), .int .u32 (iw s.e), .int .u32 (iw s.f), .int .u32 (iw s.g), .int .u32 (iw s.h)] 75)).alloc (.cells #[.int .u32 0, .int .u32 0, .int .u32 0, .int .u32 0, .int .u32 0, .int .u32 0, .int .u32 0, .int .u32 0] 75) = w0 at *
  have Hz0 := Lib.hid hz0
  clear hz0
  refine wp_region_list ?_
  refine wpList_build rfl 84 _ rfl (by kernel_rfl) ?_
  generalize hX : (Program.built _ _ _).getD #[] = X
  obtain rfl : X = z64.toArray := by rw [← hX]; kernel_rfl
  clear hX
  go_wp2_with (with_reducible refine wpList_store_c (hgd := rfl) 84 (.tmp 5) (.tmp 22) rfl w0.heap.size z64 64 ?z1 ?z2 rfl rfl 84 _ (heap_alloc_new _ _) rfl ?z3 ?_)
  case z1 => kernel_rfl
  case z2 => exact map_one (List.replicate 64 0)
  case z3 => kernel_rfl
  intro w1 hc1 hg1 hz1
  have HC1 := hc1
  have hgw : w0.grownBy w1 none := grown_trans (World.grownBy_alloc w0 _ none) hg1.out (.inr fun g hg => by injection hg; omega)
  have HGW := Lib.hid (grown_trans hG0.out hgw (.inl rfl))
  have HGW0 := Lib.hid hgw
  have HB1 : Hid (CB w1 w.heap.size 75 (s.l.map iw32)) := hB0.out.keep (hgw.block _ hB0.out.lt (by simp))
  have hTs : w0.heap.size < w1.heap.size := hc1.out.lt
  have hTw : w.heap.size < w0.heap.size := by rw [Hz0.out]; omega
  obtain ⟨T, hT⟩ : ∃ T, w0.heap.size = T := ⟨_, rfl⟩
  have hTz : Hid (w0.heap.size ≤ T) := Nat.le_of_eq hT
  have hRz : Hid (w.heap.size + 1 < w0.heap.size) := by show _ < _; rw [Hz0.out]; omega
  rw [hT] at HC1 hTs hTw ⊢
  rw [z64_wcs] at HC1
  clear hc1 hg1 hz1 hgw hB0 hG0 hT Hz0
  go_wp2
  go_loopw [6] (fun i wr => R1Rel T l w1 i wr) (fun i _ => 16 - (intOf i).toNat)
  case atStart => exact ⟨0, by omega, rfl, HC1.out, grown_refl _ _⟩
  case round =>
    obtain ⟨k, hk, rfl, hcb, hg⟩ := hrel
    have HG := Lib.hid hg; have HCB := Lib.hid hcb
    by_cases hlt : k < 16
    · have tk : decide ((k : Int) < 16) = true := by simp; omega
      have hfz := hcb.frozen k
      have hc := hcb.cell k
      have hw := Lib.hid (words_succ l k hlt)
      have hst := Lib.hid (wcs_set ((words l).take k) k (words_take_len l k (by omega)) (by omega) (word (l.drop (4 * k))))
      rw [wcs_get _ (by rw [words_take_len l k (by omega)]; omega) k (by omega)] at hc
      have hbT : b ≠ T := by omega
      have hbw : b < w1.heap.size := by omega
      clear hcb hg
      go_wp2_with fail
      refine (rword_any b (off + 4 * k) 4 (cap - 4 * k) (l.drop (4 * k)) _ (by rw [List.length_drop, hL.out]; omega) (by omega) (((HBL.out.keep (HGW.out.block b hb (by simp))).keep (HG.out.block b hbw (by intro e; injection e; omega))).drop (4 * k))).mono ?_
      rintro e w2 ⟨rfl, nq, rfl⟩
      have hcb2 : Hid (CB (wr.drewN nq) T 84 (wcs ((words l).take k))) := HCB.out
      have hg2 := Lib.hid (grown_drewN' HG.out nq)
      have hc2 : (wr.drewN nq).cell? ⟨T, k, none⟩ = some (.int .u32 (iw (((words l).take k).getD k 0))) := hc
      have hf2 : (wr.drewN nq).frozen? ⟨T, k, none⟩ = false := hfz
      generalize wr.drewN nq = w3 at *
      clear HCB HG hc hfz
      go_wp2_with fail
      go_roundw
      case rel => exact ⟨k + 1, by omega, by go_num, by rw [hw.out, ← hst.out]; exact hcb2.out.set _ _, grown_setR hg2.out⟩
      case measure => simp [intOf]; omega
    · have hke : k = 16 := by omega
      rw [hke] at hcb
      have tk : decide ((k : Int) < 16) = false := by simp; omega
      have hws : (words l).take 16 = words l := List.take_of_length_le (by rw [words_len]; omega)
      rw [hws] at hcb
      have HW := Lib.hid hcb
      have hwl := Lib.hid (words_len l)
      obtain ⟨ws, hwe⟩ : ∃ ws, words l = ws := ⟨_, rfl⟩
      rw [hwe] at HW hwl
      have Hwe := Lib.hid hwe
      clear hcb hg hke HCB hws hwe
      go_wp2
      go_loopw [7] (fun i wr => R2Rel T ws w1 i wr) (fun i _ => 64 - (intOf i).toNat)
      case atStart => exact ⟨0, by omega, rfl, HW.out, HG.out⟩
      case round =>
        obtain ⟨k, hk, rfl, hcb, hg⟩ := hrel
        obtain ⟨t, ht⟩ : ∃ t, k + 16 = t := ⟨_, rfl⟩
        rw [ht]
        have HG := Lib.hid hg
        have HCB := Lib.hid hcb
        by_cases hlt : k < 48
        · have hsl : (sched k ws).length = t := by rw [sched_len, hwl.out]; omega
          obtain ⟨x16, h16⟩ : ∃ x, (sched k ws).getD (t - 16) 0 = x := ⟨_, rfl⟩
          obtain ⟨x15, h15⟩ : ∃ x, (sched k ws).getD (t - 15) 0 = x := ⟨_, rfl⟩
          obtain ⟨x7, h7⟩ : ∃ x, (sched k ws).getD (t - 7) 0 = x := ⟨_, rfl⟩
          obtain ⟨x2, h2⟩ : ∃ x, (sched k ws).getD (t - 2) 0 = x := ⟨_, rfl⟩
          have hsc : Hid (sched (k + 1) ws = sched k ws ++ [wNext x16 x15 x7 x2]) := by
            show sched (k + 1) ws = _
            rw [← h16, ← h15, ← h7, ← h2, ← ht]; rfl
          have hst := Lib.hid (wcs_set (sched k ws) t hsl (by omega) (wNext x16 x15 x7 x2))
          have hcell : ∀ j, j < 64 → wr.cell? ⟨T, j, none⟩ = some (.int .u32 (iw ((sched k ws).getD j 0))) := fun j hj => (hcb.cell j).trans (wcs_get _ (by omega) j hj)
          have c16 := hcell (t - 16) (by omega)
          have c15 := hcell (t - 15) (by omega)
          have c7 := hcell (t - 7) (by omega)
          have c2 := hcell (t - 2) (by omega)
          have c0 := cellOf_some (hcell t (by omega))
          rw [h16] at c16; rw [h15] at c15; rw [h7] at c7; rw [h2] at c2
          have hfz := hcb.frozen t
          have n5 : (16 : Int) ≤ (t : Int) := by omega
          have n6 : (t : Int) < 64 := by omega
          have n1 : t - 15 < 64 := by omega
          have n2 : t - 2 < 64 := by omega
          have n3 : t - 16 < 64 := by omega
          have n4 : t - 7 < 64 := by omega
          have tk : decide ((t : Int) < 64) = true := by simp; omega
          have Ht := Lib.hid ht
          have f1 := bxor (ror x15 7) (ror x15 18)
          have f6 := bxor (ror x2 17) (ror x2 19)
          have q16 : IntKind.i64.wrap ((t : Int) - 16) = (t : Int) - 16 := IntWalk.i64_in _ (by omega)
          have q7 : IntKind.i64.wrap ((t : Int) - 7) = (t : Int) - 7 := IntWalk.i64_in _ (by omega)
          have m16 : ((t : Int) - 16).toNat = t - 16 := by omega
          have m7 : ((t : Int) - 7).toNat = t - 7 := by omega
          have z16 : (0 : Int) ≤ (t : Int) - 16 := by omega
          have z7 : (0 : Int) ≤ (t : Int) - 7 := by omega
          have o7 : (7 : Int) ≤ (t : Int) := by omega
          have y16 : (t : Int) - 16 < 64 := by omega
          have y7 : (t : Int) - 7 < 64 := by omega
          have hSw := And.intro c16 (And.intro c7 (And.intro c0 hfz))
          have hSd : wr.drew.cell? ⟨T, t - 16, none⟩ = some (.int .u32 (iw x16)) ∧ wr.drew.cell? ⟨T, t - 7, none⟩ = some (.int .u32 (iw x7)) ∧ wr.drew.cell? ⟨T, t, none⟩ = some (cellOf wr.drew ⟨T, t, none⟩) ∧ wr.drew.frozen? ⟨T, t, none⟩ = false := hSw
          have nt16 : t - 16 ≠ t := by omega
          have nt7 : t - 7 ≠ t := by omega
          clear hcell hcb hg h16 h15 h7 h2 hsl ht
          go_wp2
          go_region_held3 (fun w' => w'.cell? ⟨T, t - 16, none⟩ = some (.int .u32 (iw x16)) ∧ w'.cell? ⟨T, t - 7, none⟩ = some (.int .u32 (iw x7)) ∧ w'.cell? ⟨T, t, none⟩ = some (cellOf w' ⟨T, t, none⟩) ∧ w'.frozen? ⟨T, t, none⟩ = false)
            (first | assumption | exact keepN hSw _ | exact keepS nt16 nt7 (keepN hSw _) _)
            ((go_at_call 76; refine (rror_i _ _ (by decide) (by decide) _).mono ?_; rintro e w4 ⟨rfl, n4', rfl⟩))
          rw [wnext_eq2]
          generalize (1 + _ + _ + _ + _ : Nat) = N
          have hcb3 : Hid (CB (wr.drewN N) T 84 (wcs (sched k ws))) := HCB.out
          have hg3 := Lib.hid (grown_drewN' HG.out N)
          generalize wr.drewN N = w3 at *
          clear HCB HG c16 c15 c7 c2 c0 hfz hSw hSd
          go_wp2
          go_roundw
          case rel => exact ⟨k + 1, by omega, by have := Ht.out; go_num, by rw [hsc.out, ← hst.out]; exact hcb3.out.set _ _, grown_setR hg3.out⟩
          case measure => simp [intOf]; omega
        · have hke : k = 48 := by omega
          rw [hke] at hcb
          have tk : decide ((t : Int) < 64) = false := by simp; omega
          have HT := Lib.hid hcb
          obtain ⟨W, hW⟩ : ∃ W, sched 48 ws = W := ⟨_, rfl⟩
          rw [hW] at HT
          have HW2 := Lib.hid hW
          obtain ⟨wo, rfl⟩ : ∃ wo : World, wo = wr := ⟨_, rfl⟩
          have hBB : Hid (CB wo w.heap.size 75 (s.l.map iw32)) := HB1.out.keep (HG.out.block _ HB1.out.lt (by intro e; injection e; omega))
          have HWO := Lib.hid (grown_trans HGW.out HG.out (.inr fun g hg => by injection hg; omega))
          have HWO0 := Lib.hid (grown_trans HGW0.out HG.out (.inr fun g hg => by injection hg; have := hTz.out; omega))
          have hTo := Lib.hid hcb.lt
          clear hcb hg hke HCB ht hW HG HB1 HGW
          go_wp2_with fail
          obtain ⟨kc, hkc⟩ : ∃ kc, kcs = kc := ⟨_, rfl⟩
          have Kl := Lib.hid kcs_len
          have Ko := Lib.hid kcs_one
          have Kg := Lib.hid kcs_get
          rw [hkc] at Kl Ko Kg
          have Hkc := Lib.hid hkc
          clear hkc
          refine (numbers_any _).mono ?_
          rw [Hkc.out]
          rintro e w2 ⟨rfl, hb2⟩
          have Hb2 := Lib.hid hb2
          clear hb2
          go_wp2_with (with_reducible refine wpList_store_c (hgd := rfl) 84 (.tmp 10) (.tmp 78) rfl w2.heap.size kc 64 Kl.out Ko.out rfl rfl 84 _ (heap_alloc_new _ _) rfl wt_info ?_; intro w3 hc3 hg3 hz3)
          have hg23 : wo.grownBy w3 none := grown_trans (grown_trans ⟨Hb2.out.os, Hb2.out.tape, Hb2.out.output, Hb2.out.size, fun j hj _ => Hb2.out.block j hj⟩ (World.grownBy_alloc w2 _ none) (.inl rfl)) hg3.out (.inr fun g hg => by injection hg; have := Hb2.out.size; omega)
          have hB3 : Hid (CB w3 w.heap.size 75 (s.l.map iw32)) := hBB.out.keep (hg23.block _ hBB.out.lt (by simp))
          have hT3 : Hid (CB w3 T 84 (wcs W)) := HT.out.keep (hg23.block _ hTo.out (by simp))
          have HG3 := Lib.hid (grown_trans HWO.out hg23 (.inl rfl))
          have HG30 := Lib.hid (grown_trans HWO0.out hg23 (.inl rfl))
          obtain ⟨s0, s1, s2, s3, s4, s5, s6, s7⟩ := cb8 hB3.out
          obtain ⟨K, hK⟩ : ∃ K, w2.heap.size = K := ⟨_, rfl⟩
          rw [hK] at hc3 ⊢
          clear hg23 hg3 hz3 Hb2 hBB HT HWO hTo hK
          go_wp2
          go_quiet (fail)
          have hB4 : Hid (CB (w3.drewN nq) w.heap.size 75 (s.l.map iw32)) := hB3.out
          have hT4 : Hid (CB (w3.drewN nq) T 84 (wcs W)) := hT3.out
          have hK4 : Hid (CB (w3.drewN nq) K 84 kc) := hc3.out
          have HG4 := Lib.hid (grown_drewN' HG3.out nq)
          have HG40 := Lib.hid (grown_drewN' HG30.out nq)
          generalize w3.drewN nq = w4 at *
          clear hB3 hT3 hc3 HG3 s0 s1 s2 s3 s4 s5 s6 s7
          go_wp2
          go_loopw [11, 12, 13, 14, 15, 16, 17, 18, 19] (fun a b c d e f g h i wr => R3Rel s W w4 a b c d e f g h i wr) (fun _ _ _ _ _ _ _ _ i _ => 64 - (intOf i).toNat)
          case atStart => exact ⟨0, 0, by omega, rfl, rfl, rfl, rfl, rfl, rfl, rfl, rfl, rfl, rfl⟩
          case round =>
            obtain ⟨t, n, ht64, rfl, rfl, rfl, rfl, rfl, rfl, rfl, rfl, rfl, rfl⟩ := hrel
            obtain ⟨v, hv⟩ : ∃ v, rounds s W t = v := ⟨_, rfl⟩
            rw [hv]
            have Hv := Lib.hid hv
            clear hv
            by_cases hlt : t < 64
            · have tk : decide ((t : Int) < 64) = true := by simp; omega
              have n6 : (t : Int) < 64 := by omega
              obtain ⟨wt, hwt⟩ : ∃ x, W.getD t 0 = x := ⟨_, rfl⟩
              obtain ⟨kt, hkt⟩ : ∃ x, kK t = x := ⟨_, rfl⟩
              have cw : (w4.drewN n).cell? ⟨T, t, none⟩ = some (.int .u32 (iw (W.getD t 0))) := (hT4.out.cell t).trans (wcs_get W (by rw [← HW2.out, sched_len, hwl.out]; decide) t hlt)
              have ck : (w4.drewN n).cell? ⟨K, t, none⟩ = some (.int .u32 (iw (kK t))) := (hK4.out.cell t).trans (Kg.out t hlt)
              rw [hwt] at cw
              rw [hkt] at ck
              have Hwt := Lib.hid hwt; have Hkt := Lib.hid hkt
              generalize hwn : w4.drewN n = w5 at *
              have Hwn := Lib.hid hwn
              clear hwt hkt hwn
              go_wp2
              go_quiet ((go_at_call 76; exact Calls.quiet_of (rror_i _ _ (by decide) (by decide) _)))
              rw [bnot, rp_eq]
              obtain ⟨nv, hnv⟩ : ∃ x, ~~~v.e = x := ⟨_, rfl⟩
              rw [hnv]
              clear hnv
              obtain ⟨pp, hpp⟩ : ∃ x, rndP v kt wt = x := ⟨_, rfl⟩
              rw [hpp]
              have Hpp := Lib.hid hpp
              have hW6 : Hid (∃ N, w5.drewN nq = w4.drewN N) := ⟨n + nq, by rw [← Hwn.out, World.drewN_drewN]⟩
              generalize w5.drewN nq = w6 at *
              clear hpp cw ck n6
              go_wp2_with fail
              refine (rror_i _ _ (by decide) (by decide) _).mono ?_
              rintro e w6 ⟨rfl, n1, rfl⟩
              go_wp2_with fail
              refine (rror_i _ _ (by decide) (by decide) _).mono ?_
              rintro e w6 ⟨rfl, n2, rfl⟩
              go_wp2_with fail
              refine (rror_i _ _ (by decide) (by decide) _).mono ?_
              rintro e w6 ⟨rfl, n3, rfl⟩
              go_upto_region 19 with (fail)
              rw [rq_eq]
              obtain ⟨qq, hqq⟩ : ∃ x, rndQ v = x := ⟨_, rfl⟩
              rw [hqq]
              have Hqq := Lib.hid hqq
              clear hqq
              go_wp2
              go_roundw
              case rel =>
                obtain ⟨N, hN⟩ := hW6.out
                have hr : rounds s W (t + 1) = rnd v kt wt := by
                  show rnd (rounds s W t) (kK t) (W.getD t 0) = _
                  rw [Hv.out, Hkt.out, Hwt.out]
                refine ⟨t + 1, N + (n1 + n2 + n3), by omega, by go_num, by rw [hN, World.drewN_drewN], ?_, ?_, ?_, ?_, ?_, ?_, ?_, ?_⟩
                all_goals rw [hr]
                · rw [badd, ← Hpp.out, ← Hqq.out]; rfl
                · rfl
                · rfl
                · rfl
                · rw [badd, ← Hpp.out]; rfl
                · rfl
                · rfl
                · rfl
              case measure => simp [intOf]; omega
            · have hte : t = 64 := by omega
              have tk : decide ((t : Int) < 64) = false := by simp; omega
              have hbx : CB (w4.drewN n) w.heap.size 75 (s.l.map iw32) := hB4.out
              have hrx : Hid ((w4.drewN n).heap[w.heap.size + 1]? = some (.cells #[.int .u32 0, .int .u32 0, .int .u32 0, .int .u32 0, .int .u32 0, .int .u32 0, .int .u32 0, .int .u32 0] 75 (0, 0))) := (HG40.out.block (w.heap.size + 1) hRz.out (by simp)).trans hR0.out
              have hbl : Hid (blockS s l = s.add v) := by
                show blockS s l = _
                unfold blockS; rw [Hwe.out, HW2.out, ← hte, Hv.out]
              have HGN := Lib.hid (grown_drewN' HG4.out n)
              generalize w4.drewN n = w5 at *
              obtain ⟨s0, s1, s2, s3, s4, s5, s6, s7⟩ := cb8 hbx
              have b0 := badd s.a v.a
              have b1 := badd s.b v.b
              have b2 := badd s.c v.c
              have b3 := badd s.d v.d
              have b4 := badd s.e v.e
              have b5 := badd s.f v.f
              have b6 := badd s.g v.g
              have b7 := badd s.h v.h
              have r0 : w5.cell? ⟨w.heap.size + 1, 0, none⟩ = some (.int .u32 0) := by simp [World.cell?, hrx.out]
              have r1 : w5.cell? ⟨w.heap.size + 1, 1, none⟩ = some (.int .u32 0) := by simp [World.cell?, hrx.out]
              have r2 : w5.cell? ⟨w.heap.size + 1, 2, none⟩ = some (.int .u32 0) := by simp [World.cell?, hrx.out]
              have r3 : w5.cell? ⟨w.heap.size + 1, 3, none⟩ = some (.int .u32 0) := by simp [World.cell?, hrx.out]
              have r4 : w5.cell? ⟨w.heap.size + 1, 4, none⟩ = some (.int .u32 0) := by simp [World.cell?, hrx.out]
              have r5 : w5.cell? ⟨w.heap.size + 1, 5, none⟩ = some (.int .u32 0) := by simp [World.cell?, hrx.out]
              have r6 : w5.cell? ⟨w.heap.size + 1, 6, none⟩ = some (.int .u32 0) := by simp [World.cell?, hrx.out]
              have r7 : w5.cell? ⟨w.heap.size + 1, 7, none⟩ = some (.int .u32 0) := by simp [World.cell?, hrx.out]
              have rf : ∀ o, w5.frozen? ⟨w.heap.size + 1, o, none⟩ = false := fun o => by simp [World.frozen?, hrx.out]
              clear hbx hte
              go_wp2
              refine bodyPost_ret (v := .agg #[.int .u32 (iw (s.a + v.a)), .int .u32 (iw (s.b + v.b)), .int .u32 (iw (s.c + v.c)), .int .u32 (iw (s.d + v.d)), .int .u32 (iw (s.e + v.e)), .int .u32 (iw (s.f + v.f)), .int .u32 (iw (s.g + v.g)), .int .u32 (iw (s.h + v.h))]) (by simp [results, Tryd.results71, go_sem, r0, r1, r2, r3, r4, r5, r6, r7]) rfl ?_
              refine ⟨by rw [hbl.out]; rfl, ?_⟩
              have h0 := grown_none HGN.out
              exact ((((((((h0.setCell (p := ⟨w.heap.size + 1, 0, none⟩) (Nat.le_succ _) _).setCell (p := ⟨w.heap.size + 1, 1, none⟩) (Nat.le_succ _) _).setCell (p := ⟨w.heap.size + 1, 2, none⟩) (Nat.le_succ _) _).setCell (p := ⟨w.heap.size + 1, 3, none⟩) (Nat.le_succ _) _).setCell (p := ⟨w.heap.size + 1, 4, none⟩) (Nat.le_succ _) _).setCell (p := ⟨w.heap.size + 1, 5, none⟩) (Nat.le_succ _) _).setCell (p := ⟨w.heap.size + 1, 6, none⟩) (Nat.le_succ _) _).setCell (p := ⟨w.heap.size + 1, 7, none⟩) (Nat.le_succ _) _)
end Go.Proofs.YtmhmenmkgbebcaaDoor
