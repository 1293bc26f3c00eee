/- Merged: Erb Ers Ert. -/
import Derived.Test.YtbonebmboolemaaDoorK18
import Derived.Deep.DeepCutAuto
import Derived.Deep.RegionHeld3
import Derived.StillTailTactics
/- the reference's digest: block. -/
namespace Go.Proofs.YtbonebmboolemaaDoor
open Go.RowKit
theorem rror_i (x : W32) (ri : Int) (h1 : 1 ≤ ri) (h2 : ri ≤ 31) (w : World) : Calls Tryd.prog 92 #[.int .u32 (iw x), .int .i64 ri] w fun e w' => e = .returned (.int .u32 (iw (ror x ri.toNat))) ∧ ∃ n, w' = w.drewN n := rror_any x ri.toNat ri (by omega) (by omega) (by omega) w
def cellOf (w : World) (a : Addr) : Value := (w.cell? a).getD undef
theorem cellOf_some {w : World} {a : Addr} {x : Value} (h : w.cell? a = some x) : w.cell? a = some (cellOf w a) := by unfold cellOf; rw [h]; rfl
theorem keepS {w : World} {T t i j : Nat} {x y : Value} (hi : i ≠ t) (hj : j ≠ t) (h : w.cell? ⟨T, i, none⟩ = some x ∧ w.cell? ⟨T, j, none⟩ = some y ∧ w.cell? ⟨T, t, none⟩ = some (cellOf w ⟨T, t, none⟩) ∧ w.frozen? ⟨T, t, none⟩ = false) (v : Value) :
    (w.setCell ⟨T, t, none⟩ v).cell? ⟨T, i, none⟩ = some x ∧ (w.setCell ⟨T, t, none⟩ v).cell? ⟨T, j, none⟩ = some y ∧ (w.setCell ⟨T, t, none⟩ v).cell? ⟨T, t, none⟩ = some (cellOf (w.setCell ⟨T, t, none⟩ v) ⟨T, t, none⟩) ∧ (w.setCell ⟨T, t, none⟩ v).frozen? ⟨T, t, none⟩ = false :=
  ⟨(World.cell?_setCell_other _ _ _ _ (by simp)).trans h.1, (World.cell?_setCell_other _ _ _ _ (by simp)).trans h.2.1, cellOf_some (World.cell?_setCell_same' _ _ _ (by rw [h.2.2.1]; rfl)), by rw [World.frozen?_setCell]; exact h.2.2.2⟩
theorem keepN {w : World} {T t i j : Nat} {x y : Value} (h : w.cell? ⟨T, i, none⟩ = some x ∧ w.cell? ⟨T, j, none⟩ = some y ∧ w.cell? ⟨T, t, none⟩ = some (cellOf w ⟨T, t, none⟩) ∧ w.frozen? ⟨T, t, none⟩ = false) (n : Nat) :
    (w.drewN n).cell? ⟨T, i, none⟩ = some x ∧ (w.drewN n).cell? ⟨T, j, none⟩ = some y ∧ (w.drewN n).cell? ⟨T, t, none⟩ = some (cellOf (w.drewN n) ⟨T, t, none⟩) ∧ (w.drewN n).frozen? ⟨T, t, none⟩ = false := h
theorem wnext_eq2 (a x c y : W32) : IntKind.u32.wrap (IntKind.u32.wrap (IntKind.u32.wrap (iw a + bits BinOp.xor IntKind.u32 (iw (ror x 7 ^^^ ror x 18)) (iw x / 8)) + iw c) + bits BinOp.xor IntKind.u32 (iw (ror y 17 ^^^ ror y 19)) (iw y / 1024)) = iw (wNext a x c y) := by
  have f2 : iw x / (8 : Int) = iw (x >>> 3) := bshr x 3
  have f7 : iw y / (1024 : Int) = iw (y >>> 10) := bshr y 10
  rw [f2, f7, bxor, bxor, IntKind.wrap_u32, IntKind.wrap_u32, IntKind.wrap_u32, badd, badd, badd]
  rfl
def R3Rel (s : S8) (W : List W32) (w : World) (a b c d e f g h i : Value) (wr : World) : Prop :=
  ∃ t n : Nat, t ≤ 64 ∧ i = .int .i64 t ∧ wr = w.drewN n ∧ a = .int .u32 (iw (rounds s W t).a) ∧ b = .int .u32 (iw (rounds s W t).b) ∧ c = .int .u32 (iw (rounds s W t).c) ∧ d = .int .u32 (iw (rounds s W t).d) ∧ e = .int .u32 (iw (rounds s W t).e) ∧ f = .int .u32 (iw (rounds s W t).f) ∧ g = .int .u32 (iw (rounds s W t).g) ∧ h = .int .u32 (iw (rounds s W t).h)
theorem ch_id (e f g : W32) : e &&& f ^^^ ~~~e &&& g = g ^^^ e &&& (f ^^^ g) := by
  apply BitVec.eq_of_getLsbD_eq; intro i hi
  simp only [BitVec.getLsbD_xor, BitVec.getLsbD_and, BitVec.getLsbD_not, hi, decide_true, Bool.true_and]
  cases e.getLsbD i <;> cases f.getLsbD i <;> cases g.getLsbD i <;> rfl
theorem maj_id (a b c : W32) : a &&& b ^^^ a &&& c ^^^ b &&& c = a &&& b ||| c &&& (a ||| b) := by
  apply BitVec.eq_of_getLsbD_eq; intro i hi
  simp only [BitVec.getLsbD_xor, BitVec.getLsbD_and, BitVec.getLsbD_or]
  cases a.getLsbD i <;> cases b.getLsbD i <;> cases c.getLsbD i <;> rfl
theorem bnot (x : W32) : bits BinOp.xor IntKind.u32 (if IntKind.u32.signed = true then -1 else IntKind.u32.max) (iw x) = iw (~~~x) := by
  have h1 : (if IntKind.u32.signed = true then -1 else IntKind.u32.max) = iw (BitVec.allOnes 32) := by decide +kernel
  rw [h1, bxor, BitVec.allOnes_xor]
theorem rp_eq (v : S8) (k x : W32) : (((iw v.h + bits BinOp.xor IntKind.u32 (bits BinOp.xor IntKind.u32 (iw (ror v.e 6)) (iw (ror v.e 11))) (iw (ror v.e 25)) + bits BinOp.xor IntKind.u32 (bits BinOp.and IntKind.u32 (iw v.e) (iw v.f)) (bits BinOp.and IntKind.u32 (iw (~~~v.e)) (iw v.g)) + iw k) % 4294967296 + iw x) % 4294967296) = iw (rndP v k x) := by
  rw [bxor, bxor, band, band, bxor, badd4, badd, ch_id]; rfl
theorem rq_eq (v : S8) : (bits BinOp.xor IntKind.u32 (bits BinOp.xor IntKind.u32 (iw (ror v.a 2)) (iw (ror v.a 13))) (iw (ror v.a 22)) + bits BinOp.xor IntKind.u32 (bits BinOp.xor IntKind.u32 (bits BinOp.and IntKind.u32 (iw v.a) (iw v.b)) (bits BinOp.and IntKind.u32 (iw v.a) (iw v.c))) (bits BinOp.and IntKind.u32 (iw v.b) (iw v.c))) % 4294967296 = iw (rndQ v) := by
  rw [bxor, bxor, band, band, bxor, band, bxor, badd, maj_id]; rfl
def z64 : List Value := List.replicate 64 (.int .u32 0)
theorem z64_wcs : z64 = wcs [] := rfl
def R1Rel (T : Nat) (l : List UInt8) (w : World) (i : Value) (wr : World) : Prop :=
  ∃ k : Nat, k ≤ 16 ∧ i = .int .i64 k ∧ CB wr T 110 (wcs ((words l).take k)) ∧ w.grownBy wr (some T)
def R2Rel (T : Nat) (ws : List W32) (w : World) (i : Value) (wr : World) : Prop :=
  ∃ k : Nat, k ≤ 48 ∧ i = .int .i64 (k + 16 : Nat) ∧ CB wr T 110 (wcs (sched k ws)) ∧ w.grownBy wr (some T)
theorem kcs_one : ∀ u ∈ kcs, u.oneCell' = true := map_one kL
theorem wt_info : (Tryd.prog.info? 110).map (·.size) = some 64 := by kernel_rfl
set_option maxRecDepth 100000 in
set_option maxHeartbeats 2500000 in
theorem rblock_any (b off cap : Nat) (s : S8) (l : List UInt8) (w : World) (hl : l.length = 64) (hcap : 64 ≤ cap) (hm : cap ≤ maxLen) (hb : b < w.heap.size) (hbl : BL w b off l) :
    Calls Tryd.prog 87 #[.agg (s.l.map iw32).toArray, .slice (some ⟨b, off, none⟩) 64 cap] w fun e w' => e = .returned (.agg ((blockS s l).l.map iw32).toArray) ∧ Below w.heap.size w w' := by
  have g1 : (64 : Int) ≤ (cap : Int) := by omega
  have hL := Lib.hid hl; have HBL := Lib.hid hbl; have HM := Lib.hid hm
  unfold maxLen at hm
  clear hl hbl
  change Calls Tryd.prog 87 #[.agg #[.int .u32 (iw s.a), .int .u32 (iw s.b), .int .u32 (iw s.c), .int .u32 (iw s.d), .int .u32 (iw s.e), .int .u32 (iw s.f), .int .u32 (iw s.g), .int .u32 (iw s.h)], .slice (some ⟨b, off, none⟩) 64 cap] w _
  go_enter Tryd.func87, Tryd.ntmps87
  go_upto_region 1 with (fail)
  have hB0 : Hid (CB ((w.alloc (.cells #[.int .u32 (iw s.a), .int .u32 (iw s.b), .int .u32 (iw s.c), .int .u32 (iw s.d), .int .u32 (iw s.e), .int .u32 (iw s.f), .int .u32 (iw s.g), .int .u32 (iw s.h)] 92)).alloc (.cells #[.int .u32 0, .int .u32 0, .int .u32 0, .int .u32 0, .int .u32 0, .int .u32 0, .int .u32 0, .int .u32 0] 92)) w.heap.size 92 (s.l.map iw32)) := (Below.heap_alloc _ _ _ (by rw [World.size_alloc]; omega)).trans (heap_alloc_new w _)
  have hG0 := Lib.hid (grown_alloc (G := none) (grown_alloc (grown_refl w _) (.cells #[.int .u32 (iw s.a), .int .u32 (iw s.b), .int .u32 (iw s.c), .int .u32 (iw s.d), .int .u32 (iw s.e), .int .u32 (iw s.f), .int .u32 (iw s.g), .int .u32 (iw s.h)] 92)) (.cells #[.int .u32 0, .int .u32 0, .int .u32 0, .int .u32 0, .int .u32 0, .int .u32 0, .int .u32 0, .int .u32 0] 92))
  have hR0 := Lib.hid (heap_alloc_new (w.alloc (.cells #[.int .u32 (iw s.a), .int .u32 (iw s.b), .int .u32 (iw s.c), .int .u32 (iw s.d), .int .u32 (iw s.e), .int .u32 (iw s.f), .int .u32 (iw s.g), .int .u32 (iw s.h)] 92)) (.cells #[.int .u32 0, .int .u32 0, .int .u32 0, .int .u32 0, .int .u32 0, .int .u32 0, .int .u32 0, .int .u32 0] 92))
  rw [World.size_alloc] at hR0
  have hz0 : ((w.alloc (.cells #[.int .u32 (iw s.a), .int .u32 (iw s.b), .int .u32 (iw s.c), .int .u32 (iw s.d), .int .u32 (iw s.e), .int .u32 (iw s.f), .int .u32 (iw s.g), .int .u32 (iw s.h)] 92)).alloc (.cells #[.int .u32 0, .int .u32 0, .int .u32 0, .int .u32 0, .int .u32 0, .int .u32 0, .int .u32 0, .int .u32 0] 92)).heap.size = w.heap.size + 2 := by rw [World.size_alloc, World.size_alloc]
  generalize (w.alloc (.cells #[.int .u32 (iw s.a), .int .u32 (iw s.b), .int .u32 (iw s.c), .int .u32 (iw s.d), .int .u32 (iw s.e), .int .u32 (iw s.f), .int .u32 (iw s.g), .int .u32 (iw s.h)] 92)).alloc (.cells #[.int .u32 0, .int .u32 0, .int .u32 0, .int .u32 0, .int .u32 0, .int .u32 0, .int .u32 0, .int .u32 0] 92) = w0 at *
  have Hz0 := Lib.hid hz0
  clear hz0
  refine wp_region_list ?_
  refine wpList_build rfl 110 _ rfl (by kernel_rfl) ?_
  generalize hX : (Program.built _ _ _).getD #[] = X
  obtain rfl : X = z64.toArray := by rw [← hX]; kernel_rfl
  clear hX
  go_wp2_with (with_reducible refine wpList_store_c (hgd := rfl) 110 (.tmp 5) (.tmp 22) rfl w0.heap.size z64 64 ?z1 ?z2 rfl rfl 110 _ (heap_alloc_new _ _) rfl ?z3 ?_)
  case z1 => kernel_rfl
  case z2 => exact map_one (List.replicate 64 0)
  case z3 => kernel_rfl
  intro w1 hc1 hg1 hz1
  have HC1 := hc1
  have hgw : w0.grownBy w1 none := grown_trans (World.grownBy_alloc w0 _ none) hg1.out (.inr fun g hg => by injection hg; omega)
  have HGW := Lib.hid (grown_trans hG0.out hgw (.inl rfl))
  have HGW0 := Lib.hid hgw
  have HB1 : Hid (CB w1 w.heap.size 92 (s.l.map iw32)) := hB0.out.keep (hgw.block _ hB0.out.lt (by simp))
  have hTs : w0.heap.size < w1.heap.size := hc1.out.lt
  have hTw : w.heap.size < w0.heap.size := by rw [Hz0.out]; omega
  obtain ⟨T, hT⟩ : ∃ T, w0.heap.size = T := ⟨_, rfl⟩
  have hTz : Hid (w0.heap.size ≤ T) := Nat.le_of_eq hT
  have hRz : Hid (w.heap.size + 1 < w0.heap.size) := by show _ < _; rw [Hz0.out]; omega
  rw [hT] at HC1 hTs hTw ⊢
  rw [z64_wcs] at HC1
  clear hc1 hg1 hz1 hgw hB0 hG0 hT Hz0
  go_wp2
  go_loopw [6] (fun i wr => R1Rel T l w1 i wr) (fun i _ => 16 - (intOf i).toNat)
  case atStart => exact ⟨0, by omega, rfl, HC1.out, grown_refl _ _⟩
  case round =>
    obtain ⟨k, hk, rfl, hcb, hg⟩ := hrel
    have HG := Lib.hid hg; have HCB := Lib.hid hcb
    by_cases hlt : k < 16
    · have tk : decide ((k : Int) < 16) = true := by simp; omega
      have hfz := hcb.frozen k
      have hc := hcb.cell k
      have hw := Lib.hid (words_succ l k hlt)
      have hst := Lib.hid (wcs_set ((words l).take k) k (words_take_len l k (by omega)) (by omega) (word (l.drop (4 * k))))
      rw [wcs_get _ (by rw [words_take_len l k (by omega)]; omega) k (by omega)] at hc
      have hbT : b ≠ T := by omega
      have hbw : b < w1.heap.size := by omega
      clear hcb hg
      go_wp2_with fail
      refine (rword_any b (off + 4 * k) 4 (cap - 4 * k) (l.drop (4 * k)) _ (by rw [List.length_drop, hL.out]; omega) (by omega) (((HBL.out.keep (HGW.out.block b hb (by simp))).keep (HG.out.block b hbw (by intro e; injection e; omega))).drop (4 * k))).mono ?_
      rintro e w2 ⟨rfl, nq, rfl⟩
      have hcb2 : Hid (CB (wr.drewN nq) T 110 (wcs ((words l).take k))) := HCB.out
      have hg2 := Lib.hid (grown_drewN' HG.out nq)
      have hc2 : (wr.drewN nq).cell? ⟨T, k, none⟩ = some (.int .u32 (iw (((words l).take k).getD k 0))) := hc
      have hf2 : (wr.drewN nq).frozen? ⟨T, k, none⟩ = false := hfz
      generalize wr.drewN nq = w3 at *
      clear HCB HG hc hfz
      go_wp2_with fail
      go_roundw
      case rel => exact ⟨k + 1, by omega, by go_num, by rw [hw.out, ← hst.out]; exact hcb2.out.set _ _, grown_setR hg2.out⟩
      case measure => simp [intOf]; omega
    · have hke : k = 16 := by omega
      rw [hke] at hcb
      have tk : decide ((k : Int) < 16) = false := by simp; omega
      have hws : (words l).take 16 = words l := List.take_of_length_le (by rw [words_len]; omega)
      rw [hws] at hcb
      have HW := Lib.hid hcb
      have hwl := Lib.hid (words_len l)
      obtain ⟨ws, hwe⟩ : ∃ ws, words l = ws := ⟨_, rfl⟩
      rw [hwe] at HW hwl
      have Hwe := Lib.hid hwe
      clear hcb hg hke HCB hws hwe
      go_wp2
      go_loopw [7] (fun i wr => R2Rel T ws w1 i wr) (fun i _ => 64 - (intOf i).toNat)
      case atStart => exact ⟨0, by omega, rfl, HW.out, HG.out⟩
      case round =>
        obtain ⟨k, hk, rfl, hcb, hg⟩ := hrel
        obtain ⟨t, ht⟩ : ∃ t, k + 16 = t := ⟨_, rfl⟩
        rw [ht]
        have HG := Lib.hid hg
        have HCB := Lib.hid hcb
        by_cases hlt : k < 48
        · have hsl : (sched k ws).length = t := by rw [sched_len, hwl.out]; omega
          obtain ⟨x16, h16⟩ : ∃ x, (sched k ws).getD (t - 16) 0 = x := ⟨_, rfl⟩
          obtain ⟨x15, h15⟩ : ∃ x, (sched k ws).getD (t - 15) 0 = x := ⟨_, rfl⟩
          obtain ⟨x7, h7⟩ : ∃ x, (sched k ws).getD (t - 7) 0 = x := ⟨_, rfl⟩
          obtain ⟨x2, h2⟩ : ∃ x, (sched k ws).getD (t - 2) 0 = x := ⟨_, rfl⟩
          have hsc : Hid (sched (k + 1) ws = sched k ws ++ [wNext x16 x15 x7 x2]) := by
            show sched (k + 1) ws = _
            rw [← h16, ← h15, ← h7, ← h2, ← ht]; rfl
          have hst := Lib.hid (wcs_set (sched k ws) t hsl (by omega) (wNext x16 x15 x7 x2))
          have hcell : ∀ j, j < 64 → wr.cell? ⟨T, j, none⟩ = some (.int .u32 (iw ((sched k ws).getD j 0))) := fun j hj => (hcb.cell j).trans (wcs_get _ (by omega) j hj)
          have c16 := hcell (t - 16) (by omega)
          have c15 := hcell (t - 15) (by omega)
          have c7 := hcell (t - 7) (by omega)
          have c2 := hcell (t - 2) (by omega)
          have c0 := cellOf_some (hcell t (by omega))
          rw [h16] at c16; rw [h15] at c15; rw [h7] at c7; rw [h2] at c2
          have hfz := hcb.frozen t
          have n5 : (16 : Int) ≤ (t : Int) := by omega
          have n6 : (t : Int) < 64 := by omega
          have n1 : t - 15 < 64 := by omega
          have n2 : t - 2 < 64 := by omega
          have n3 : t - 16 < 64 := by omega
          have n4 : t - 7 < 64 := by omega
          have tk : decide ((t : Int) < 64) = true := by simp; omega
          have Ht := Lib.hid ht
          have f1 := bxor (ror x15 7) (ror x15 18)
          have f6 := bxor (ror x2 17) (ror x2 19)
          have q16 : IntKind.i64.wrap ((t : Int) - 16) = (t : Int) - 16 := IntWalk.i64_in _ (by omega)
          have q7 : IntKind.i64.wrap ((t : Int) - 7) = (t : Int) - 7 := IntWalk.i64_in _ (by omega)
          have m16 : ((t : Int) - 16).toNat = t - 16 := by omega
          have m7 : ((t : Int) - 7).toNat = t - 7 := by omega
          have z16 : (0 : Int) ≤ (t : Int) - 16 := by omega
          have z7 : (0 : Int) ≤ (t : Int) - 7 := by omega
          have o7 : (7 : Int) ≤ (t : Int) := by omega
          have y16 : (t : Int) - 16 < 64 := by omega
          have y7 : (t : Int) - 7 < 64 := by omega
          have hSw := And.intro c16 (And.intro c7 (And.intro c0 hfz))
          have hSd : wr.drew.cell? ⟨T, t - 16, none⟩ = some (.int .u32 (iw x16)) ∧ wr.drew.cell? ⟨T, t - 7, none⟩ = some (.int .u32 (iw x7)) ∧ wr.drew.cell? ⟨T, t, none⟩ = some (cellOf wr.drew ⟨T, t, none⟩) ∧ wr.drew.frozen? ⟨T, t, none⟩ = false := hSw
          have nt16 : t - 16 ≠ t := by omega
          have nt7 : t - 7 ≠ t := by omega
          clear hcell hcb hg h16 h15 h7 h2 hsl ht
          go_wp2
          go_region_held3 (fun w' => w'.cell? ⟨T, t - 16, none⟩ = some (.int .u32 (iw x16)) ∧ w'.cell? ⟨T, t - 7, none⟩ = some (.int .u32 (iw x7)) ∧ w'.cell? ⟨T, t, none⟩ = some (cellOf w' ⟨T, t, none⟩) ∧ w'.frozen? ⟨T, t, none⟩ = false)
            (first | assumption | exact keepN hSw _ | exact keepS nt16 nt7 (keepN hSw _) _)
            ((go_at_call 92; refine (rror_i _ _ (by decide) (by decide) _).mono ?_; rintro e w4 ⟨rfl, n4', rfl⟩))
          rw [wnext_eq2]
          generalize (1 + _ + _ + _ + _ : Nat) = N
          have hcb3 : Hid (CB (wr.drewN N) T 110 (wcs (sched k ws))) := HCB.out
          have hg3 := Lib.hid (grown_drewN' HG.out N)
          generalize wr.drewN N = w3 at *
          clear HCB HG c16 c15 c7 c2 c0 hfz hSw hSd
          go_wp2
          go_roundw
          case rel => exact ⟨k + 1, by omega, by have := Ht.out; go_num, by rw [hsc.out, ← hst.out]; exact hcb3.out.set _ _, grown_setR hg3.out⟩
          case measure => simp [intOf]; omega
        · have hke : k = 48 := by omega
          rw [hke] at hcb
          have tk : decide ((t : Int) < 64) = false := by simp; omega
          have HT := Lib.hid hcb
          obtain ⟨W, hW⟩ : ∃ W, sched 48 ws = W := ⟨_, rfl⟩
          rw [hW] at HT
          have HW2 := Lib.hid hW
          obtain ⟨wo, rfl⟩ : ∃ wo : World, wo = wr := ⟨_, rfl⟩
          have hBB : Hid (CB wo w.heap.size 92 (s.l.map iw32)) := HB1.out.keep (HG.out.block _ HB1.out.lt (by intro e; injection e; omega))
          have HWO := Lib.hid (grown_trans HGW.out HG.out (.inr fun g hg => by injection hg; omega))
          have HWO0 := Lib.hid (grown_trans HGW0.out HG.out (.inr fun g hg => by injection hg; have := hTz.out; omega))
          have hTo := Lib.hid hcb.lt
          clear hcb hg hke HCB ht hW HG HB1 HGW
          go_wp2_with fail
          obtain ⟨kc, hkc⟩ : ∃ kc, kcs = kc := ⟨_, rfl⟩
          have Kl := Lib.hid kcs_len
          have Ko := Lib.hid kcs_one
          have Kg := Lib.hid kcs_get
          rw [hkc] at Kl Ko Kg
          have Hkc := Lib.hid hkc
          clear hkc
          refine (numbers_any _).mono ?_
          rw [Hkc.out]
          rintro e w2 ⟨rfl, hb2⟩
          have Hb2 := Lib.hid hb2
          clear hb2
          go_wp2_with (with_reducible refine wpList_store_c (hgd := rfl) 110 (.tmp 10) (.tmp 78) rfl w2.heap.size kc 64 Kl.out Ko.out rfl rfl 110 _ (heap_alloc_new _ _) rfl wt_info ?_; intro w3 hc3 hg3 hz3)
          have hg23 : wo.grownBy w3 none := grown_trans (grown_trans ⟨Hb2.out.os, Hb2.out.tape, Hb2.out.output, Hb2.out.size, fun j hj _ => Hb2.out.block j hj⟩ (World.grownBy_alloc w2 _ none) (.inl rfl)) hg3.out (.inr fun g hg => by injection hg; have := Hb2.out.size; omega)
          have hB3 : Hid (CB w3 w.heap.size 92 (s.l.map iw32)) := hBB.out.keep (hg23.block _ hBB.out.lt (by simp))
          have hT3 : Hid (CB w3 T 110 (wcs W)) := HT.out.keep (hg23.block _ hTo.out (by simp))
          have HG3 := Lib.hid (grown_trans HWO.out hg23 (.inl rfl))
          have HG30 := Lib.hid (grown_trans HWO0.out hg23 (.inl rfl))
          obtain ⟨s0, s1, s2, s3, s4, s5, s6, s7⟩ := cb8 hB3.out
          obtain ⟨K, hK⟩ : ∃ K, w2.heap.size = K := ⟨_, rfl⟩
          rw [hK] at hc3 ⊢
          clear hg23 hg3 hz3 Hb2 hBB HT HWO hTo hK
          go_wp2
          go_quiet (fail)
          have hB4 : Hid (CB (w3.drewN nq) w.heap.size 92 (s.l.map iw32)) := hB3.out
          have hT4 : Hid (CB (w3.drewN nq) T 110 (wcs W)) := hT3.out
          have hK4 : Hid (CB (w3.drewN nq) K 110 kc) := hc3.out
          have HG4 := Lib.hid (grown_drewN' HG3.out nq)
          have HG40 := Lib.hid (grown_drewN' HG30.out nq)
          generalize w3.drewN nq = w4 at *
          clear hB3 hT3 hc3 HG3 s0 s1 s2 s3 s4 s5 s6 s7
          go_wp2
          go_loopw [11, 12, 13, 14, 15, 16, 17, 18, 19] (fun a b c d e f g h i wr => R3Rel s W w4 a b c d e f g h i wr) (fun _ _ _ _ _ _ _ _ i _ => 64 - (intOf i).toNat)
          case atStart => exact ⟨0, 0, by omega, rfl, rfl, rfl, rfl, rfl, rfl, rfl, rfl, rfl, rfl⟩
          case round =>
            obtain ⟨t, n, ht64, rfl, rfl, rfl, rfl, rfl, rfl, rfl, rfl, rfl, rfl⟩ := hrel
            obtain ⟨v, hv⟩ : ∃ v, rounds s W t = v := ⟨_, rfl⟩
            rw [hv]
            have Hv := Lib.hid hv
            clear hv
            by_cases hlt : t < 64
            · have tk : decide ((t : Int) < 64) = true := by simp; omega
              have n6 : (t : Int) < 64 := by omega
              obtain ⟨wt, hwt⟩ : ∃ x, W.getD t 0 = x := ⟨_, rfl⟩
              obtain ⟨kt, hkt⟩ : ∃ x, kK t = x := ⟨_, rfl⟩
              have cw : (w4.drewN n).cell? ⟨T, t, none⟩ = some (.int .u32 (iw (W.getD t 0))) := (hT4.out.cell t).trans (wcs_get W (by rw [← HW2.out, sched_len, hwl.out]; decide) t hlt)
              have ck : (w4.drewN n).cell? ⟨K, t, none⟩ = some (.int .u32 (iw (kK t))) := (hK4.out.cell t).trans (Kg.out t hlt)
              rw [hwt] at cw
              rw [hkt] at ck
              have Hwt := Lib.hid hwt; have Hkt := Lib.hid hkt
              generalize hwn : w4.drewN n = w5 at *
              have Hwn := Lib.hid hwn
              clear hwt hkt hwn
              go_wp2
              go_quiet ((go_at_call 92; exact Calls.quiet_of (rror_i _ _ (by decide) (by decide) _)))
              rw [bnot, rp_eq]
              obtain ⟨nv, hnv⟩ : ∃ x, ~~~v.e = x := ⟨_, rfl⟩
              rw [hnv]
              clear hnv
              obtain ⟨pp, hpp⟩ : ∃ x, rndP v kt wt = x := ⟨_, rfl⟩
              rw [hpp]
              have Hpp := Lib.hid hpp
              have hW6 : Hid (∃ N, w5.drewN nq = w4.drewN N) := ⟨n + nq, by rw [← Hwn.out, World.drewN_drewN]⟩
              generalize w5.drewN nq = w6 at *
              clear hpp cw ck n6
              go_wp2_with fail
              refine (rror_i _ _ (by decide) (by decide) _).mono ?_
              rintro e w6 ⟨rfl, n1, rfl⟩
              go_wp2_with fail
              refine (rror_i _ _ (by decide) (by decide) _).mono ?_
              rintro e w6 ⟨rfl, n2, rfl⟩
              go_wp2_with fail
              refine (rror_i _ _ (by decide) (by decide) _).mono ?_
              rintro e w6 ⟨rfl, n3, rfl⟩
              go_upto_region 19 with (fail)
              rw [rq_eq]
              obtain ⟨qq, hqq⟩ : ∃ x, rndQ v = x := ⟨_, rfl⟩
              rw [hqq]
              have Hqq := Lib.hid hqq
              clear hqq
              go_wp2
              go_roundw
              case rel =>
                obtain ⟨N, hN⟩ := hW6.out
                have hr : rounds s W (t + 1) = rnd v kt wt := by
                  show rnd (rounds s W t) (kK t) (W.getD t 0) = _
                  rw [Hv.out, Hkt.out, Hwt.out]
                refine ⟨t + 1, N + (n1 + n2 + n3), by omega, by go_num, by rw [hN, World.drewN_drewN], ?_, ?_, ?_, ?_, ?_, ?_, ?_, ?_⟩
                all_goals rw [hr]
                · rw [badd, ← Hpp.out, ← Hqq.out]; rfl
                · rfl
                · rfl
                · rfl
                · rw [badd, ← Hpp.out]; rfl
                · rfl
                · rfl
                · rfl
              case measure => simp [intOf]; omega
            · have hte : t = 64 := by omega
              have tk : decide ((t : Int) < 64) = false := by simp; omega
              have hbx : CB (w4.drewN n) w.heap.size 92 (s.l.map iw32) := hB4.out
              have hrx : Hid ((w4.drewN n).heap[w.heap.size + 1]? = some (.cells #[.int .u32 0, .int .u32 0, .int .u32 0, .int .u32 0, .int .u32 0, .int .u32 0, .int .u32 0, .int .u32 0] 92 (0, 0))) := (HG40.out.block (w.heap.size + 1) hRz.out (by simp)).trans hR0.out
              have hbl : Hid (blockS s l = s.add v) := by
                show blockS s l = _
                unfold blockS; rw [Hwe.out, HW2.out, ← hte, Hv.out]
              have HGN := Lib.hid (grown_drewN' HG4.out n)
              generalize w4.drewN n = w5 at *
              obtain ⟨s0, s1, s2, s3, s4, s5, s6, s7⟩ := cb8 hbx
              have b0 := badd s.a v.a
              have b1 := badd s.b v.b
              have b2 := badd s.c v.c
              have b3 := badd s.d v.d
              have b4 := badd s.e v.e
              have b5 := badd s.f v.f
              have b6 := badd s.g v.g
              have b7 := badd s.h v.h
              have r0 : w5.cell? ⟨w.heap.size + 1, 0, none⟩ = some (.int .u32 0) := by simp [World.cell?, hrx.out]
              have r1 : w5.cell? ⟨w.heap.size + 1, 1, none⟩ = some (.int .u32 0) := by simp [World.cell?, hrx.out]
              have r2 : w5.cell? ⟨w.heap.size + 1, 2, none⟩ = some (.int .u32 0) := by simp [World.cell?, hrx.out]
              have r3 : w5.cell? ⟨w.heap.size + 1, 3, none⟩ = some (.int .u32 0) := by simp [World.cell?, hrx.out]
              have r4 : w5.cell? ⟨w.heap.size + 1, 4, none⟩ = some (.int .u32 0) := by simp [World.cell?, hrx.out]
              have r5 : w5.cell? ⟨w.heap.size + 1, 5, none⟩ = some (.int .u32 0) := by simp [World.cell?, hrx.out]
              have r6 : w5.cell? ⟨w.heap.size + 1, 6, none⟩ = some (.int .u32 0) := by simp [World.cell?, hrx.out]
              have r7 : w5.cell? ⟨w.heap.size + 1, 7, none⟩ = some (.int .u32 0) := by simp [World.cell?, hrx.out]
              have rf : ∀ o, w5.frozen? ⟨w.heap.size + 1, o, none⟩ = false := fun o => by simp [World.frozen?, hrx.out]
              clear hbx hte
              go_wp2
              refine bodyPost_ret (v := .agg #[.int .u32 (iw (s.a + v.a)), .int .u32 (iw (s.b + v.b)), .int .u32 (iw (s.c + v.c)), .int .u32 (iw (s.d + v.d)), .int .u32 (iw (s.e + v.e)), .int .u32 (iw (s.f + v.f)), .int .u32 (iw (s.g + v.g)), .int .u32 (iw (s.h + v.h))]) (by simp [results, Tryd.results87, go_sem, r0, r1, r2, r3, r4, r5, r6, r7]) rfl ?_
              refine ⟨by rw [hbl.out]; rfl, ?_⟩
              have h0 := grown_none HGN.out
              exact ((((((((h0.setCell (p := ⟨w.heap.size + 1, 0, none⟩) (Nat.le_succ _) _).setCell (p := ⟨w.heap.size + 1, 1, none⟩) (Nat.le_succ _) _).setCell (p := ⟨w.heap.size + 1, 2, none⟩) (Nat.le_succ _) _).setCell (p := ⟨w.heap.size + 1, 3, none⟩) (Nat.le_succ _) _).setCell (p := ⟨w.heap.size + 1, 4, none⟩) (Nat.le_succ _) _).setCell (p := ⟨w.heap.size + 1, 5, none⟩) (Nat.le_succ _) _).setCell (p := ⟨w.heap.size + 1, 6, none⟩) (Nat.le_succ _) _).setCell (p := ⟨w.heap.size + 1, 7, none⟩) (Nat.le_succ _) _)
end Go.Proofs.YtbonebmboolemaaDoor
/- the reference's digest: Sum. -/
namespace Go.Proofs.YtbonebmboolemaaDoor
open Go.RowKit
theorem rblock_lit (b off cap : Nat) (s : S8) (l : List UInt8) (w : World) (hl : l.length = 64) (hcap : 64 ≤ cap) (hm : cap ≤ maxLen) (hb : b < w.heap.size) (hbl : BL w b off l) :
    Calls Tryd.prog 87 #[.agg #[.int .u32 (iw s.a), .int .u32 (iw s.b), .int .u32 (iw s.c), .int .u32 (iw s.d), .int .u32 (iw s.e), .int .u32 (iw s.f), .int .u32 (iw s.g), .int .u32 (iw s.h)], .slice (some ⟨b, off, none⟩) 64 cap] w fun e w' => (∃ t, blockS s l = t ∧ e = .returned (.agg #[.int .u32 (iw t.a), .int .u32 (iw t.b), .int .u32 (iw t.c), .int .u32 (iw t.d), .int .u32 (iw t.e), .int .u32 (iw t.f), .int .u32 (iw t.g), .int .u32 (iw t.h)])) ∧ Below w.heap.size w w' :=
  (rblock_any b off cap s l w hl hcap hm hb hbl).mono fun _ _ h => ⟨⟨_, rfl, h.1⟩, h.2⟩
def outB (st : S8) : List UInt8 := st.l.flatMap fun x => be 4 x.toNat
theorem outB_len (st : S8) : (outB st).length = 32 := by simp [outB, S8.l, be_len]
theorem l8_get (st : S8) (j : Nat) (h : j < 8) : (st.l.map iw32)[j]? = some (.int .u32 (iw (st.l.getD j 0))) := by
  rcases (by omega : j = 0 ∨ j = 1 ∨ j = 2 ∨ j = 3 ∨ j = 4 ∨ j = 5 ∨ j = 6 ∨ j = 7) with rfl | rfl | rfl | rfl | rfl | rfl | rfl | rfl <;> rfl
theorem outB_at (st : S8) (j q : Nat) (h : j < 8) (hq : q < 4) : (bcells (outB st))[4 * j + q]? = some (.int .u8 (iw (st.l.getD j 0) / 2 ^ (24 - 8 * q) % 256)) := by
  have h1 : ∀ x : W32, (bcells (be 4 x.toNat))[q]? = some (.int .u8 (iw x / 2 ^ (24 - 8 * q) % 256)) := fun x => by
    have := be_get 4 x.toNat (3 - q) (by omega)
    rw [show 4 - 1 - (3 - q) = q by omega, show 8 * (3 - q) = 24 - 8 * q by omega] at this
    exact this
  have h2 : (bcells (outB st))[4 * j + q]? = (bcells (be 4 (st.l.getD j 0).toNat))[q]? := by
    rcases (by omega : j = 0 ∨ j = 1 ∨ j = 2 ∨ j = 3 ∨ j = 4 ∨ j = 5 ∨ j = 6 ∨ j = 7) with rfl | rfl | rfl | rfl | rfl | rfl | rfl | rfl <;>
      rcases (by omega : q = 0 ∨ q = 1 ∨ q = 2 ∨ q = 3) with rfl | rfl | rfl | rfl <;> rfl
  rw [h2]; exact h1 _
theorem fill_set (o : List UInt8) (k : Nat) (ho : o.length = 32) (hk : k < 32) (u : Value) (hu : (bcells o)[k]? = some u) : (bcells (o.take k ++ List.replicate (32 - k) 0)).set k u = bcells (o.take (k + 1) ++ List.replicate (32 - (k + 1)) 0) := by
  obtain ⟨c, hc, rfl⟩ := bcells_getElem o k u hu
  obtain ⟨h1, h2⟩ := List.getElem?_eq_some_iff.1 hc
  have e : (Value.int .u8 (c.toNat : Int)) = ub c := rfl
  rw [bcells_map, e, ← List.map_set, bcells_map]
  congr 1
  rw [show 32 - k = (32 - (k + 1)) + 1 by omega, List.replicate_succ, List.set_append_right _ _ (by rw [List.length_take]; omega), List.length_take, Nat.min_eq_left (by omega), Nat.sub_self, List.set_cons_zero, List.take_succ_eq_append_getElem h1, h2]
  simp
def O2Rel (D : Nat) (o : List UInt8) (w : World) (i : Value) (wr : World) : Prop :=
  ∃ k : Nat, k ≤ 32 ∧ i = .int .i64 k ∧ CB wr D 29 (bcells (o.take k ++ List.replicate (32 - k) 0)) ∧ w.grownBy wr (some D)
def S1Rel (S : Nat) (p : List UInt8) (w : World) (i : Value) (wr : World) : Prop :=
  ∃ k : Nat, 64 * k ≤ p.length ∧ i = .int .i64 (64 * k : Nat) ∧ CB wr S 92 ((absorbs k startS p).l.map iw32) ∧ w.grownBy wr (some S)
set_option maxRecDepth 100000 in
set_option maxHeartbeats 3000000 in
theorem rsum_any (v : Value) (l : List UInt8) (w : World) (hl : l.length ≤ 1000000) (hb : BtsAt w.heap.size w l v) :
    Calls Tryd.prog 71 #[v] w fun e w' => e = .returned (dv (sha l)) ∧ Below w.heap.size w w' := by
  have HB := Lib.hid hb
  obtain ⟨oa, cap, rfl⟩ := hb.shape
  clear hb
  go_enter Tryd.func71, Tryd.ntmps71
  go_wp2_with fail
  have hw0 : ∃ w0, (w.alloc (.cells #[.int .u8 0, .int .u8 0, .int .u8 0, .int .u8 0, .int .u8 0, .int .u8 0, .int .u8 0, .int .u8 0, .int .u8 0, .int .u8 0, .int .u8 0, .int .u8 0, .int .u8 0, .int .u8 0, .int .u8 0, .int .u8 0, .int .u8 0, .int .u8 0, .int .u8 0, .int .u8 0, .int .u8 0, .int .u8 0, .int .u8 0, .int .u8 0, .int .u8 0, .int .u8 0, .int .u8 0, .int .u8 0, .int .u8 0, .int .u8 0, .int .u8 0, .int .u8 0] 29)).alloc (.cells #[.int .u32 1779033703, .int .u32 3144134277, .int .u32 1013904242, .int .u32 2773480762, .int .u32 1359893119, .int .u32 2600822924, .int .u32 528734635, .int .u32 1541459225] 92) = w0 := ⟨_, rfl⟩
  obtain ⟨w0, hw0⟩ := hw0
  rw [hw0]
  have hA : CB w0 w.heap.size 29 (bcells (List.replicate 32 0)) := by
    rw [← hw0]; exact (Below.heap_alloc _ _ _ (by rw [World.size_alloc]; omega)).trans (heap_alloc_new w _)
  have hSx := heap_alloc_new (w.alloc (.cells #[.int .u8 0, .int .u8 0, .int .u8 0, .int .u8 0, .int .u8 0, .int .u8 0, .int .u8 0, .int .u8 0, .int .u8 0, .int .u8 0, .int .u8 0, .int .u8 0, .int .u8 0, .int .u8 0, .int .u8 0, .int .u8 0, .int .u8 0, .int .u8 0, .int .u8 0, .int .u8 0, .int .u8 0, .int .u8 0, .int .u8 0, .int .u8 0, .int .u8 0, .int .u8 0, .int .u8 0, .int .u8 0, .int .u8 0, .int .u8 0, .int .u8 0, .int .u8 0] 29)) (.cells #[.int .u32 1779033703, .int .u32 3144134277, .int .u32 1013904242, .int .u32 2773480762, .int .u32 1359893119, .int .u32 2600822924, .int .u32 528734635, .int .u32 1541459225] 92)
  rw [hw0, World.size_alloc] at hSx
  have hst : (#[.int .u32 1779033703, .int .u32 3144134277, .int .u32 1013904242, .int .u32 2773480762, .int .u32 1359893119, .int .u32 2600822924, .int .u32 528734635, .int .u32 1541459225] : Array Value) = (startS.l.map iw32).toArray := by kernel_rfl
  rw [hst] at hSx
  have hS : CB w0 (w.heap.size + 1) 92 (startS.l.map iw32) := hSx
  have hG : w.grownBy w0 none := by rw [← hw0]; exact grown_alloc (grown_alloc (grown_refl w _) _) _
  have HA := Lib.hid hA; have HS := Lib.hid hS; have HG := Lib.hid hG
  clear hA hSx hst hS hG hw0
  refine (padded_any _ l w0 hl (HB.out.ext (grown_none HG.out))).mono ?_
  rintro e w1 ⟨v1, rfl, ho1, hb1⟩
  obtain ⟨p, hp⟩ : ∃ p, pad l = p := ⟨_, rfl⟩
  have hpl := pad_len l
  rw [hp] at ho1 hpl
  have Hp := Lib.hid hp
  obtain ⟨g, cp, rfl, hg0, hpc, hcm⟩ : ∃ g cp, v1 = .slice (some ⟨g, 0, none⟩) p.length cp ∧ w0.heap.size ≤ g ∧ p.length ≤ cp ∧ cp ≤ maxLen := by
    rcases ho1.2 with ⟨_, h⟩ | ⟨g', cap', cur, h, h2, _, h3, h4, _⟩
    · omega
    · exact ⟨g', cap', h, h2, h3, h4⟩
  have HBL : Hid (BL w1 g 0 p) := fun j c hj => by
    have h := World.ownsRow.cells (e := 5) ho1 (g := g) rfl j (.int .u8 c.toNat) (by simp [bcells, hj])
    have hpl : (⟨g, 0, none⟩ : Addr).add j = ⟨g, 0 + j, none⟩ := by unfold Addr.add; split <;> simp_all
    rw [hpl] at h; exact h
  have hgw1 := (World.ownsRow.lt ho1 g rfl).2
  have hSl : w.heap.size + 1 < w0.heap.size := HS.out.lt
  have HS1 : Hid (CB w1 (w.heap.size + 1) 92 (startS.l.map iw32)) := HS.out.keep (hb1.block _ hSl)
  have HA1 : Hid (CB w1 w.heap.size 29 (bcells (List.replicate 32 0))) := HA.out.keep (hb1.block _ HA.out.lt)
  have HG1 := Lib.hid (grown_trans HG.out (G1 := none) ⟨hb1.os, hb1.tape, hb1.output, hb1.size, fun j hj _ => hb1.block j hj⟩ (.inl rfl))
  obtain ⟨P, hP⟩ : ∃ P, p.length = P := ⟨_, rfl⟩
  have hP64 : P % 64 = 0 := by rw [← hP]; exact hpl.1
  have hPb : P ≤ 2000000 := by rw [← hP, hpl.2]; omega
  rw [hP] at hpc ⊢
  have HP := Lib.hid hP
  have HP64 := Lib.hid hP64; have Hcm := Lib.hid hcm
  unfold maxLen at hcm
  clear ho1 hb1 hp hpl hP HS HA HG hP64
  have bP : (P : Int) ≤ 2000000 := by omega
  have bc : (P : Int) ≤ (cp : Int) := by omega
  go_wp2
  go_loopw [5] (fun i wr => S1Rel (w.heap.size + 1) p w1 i wr) (fun i _ => P + 64 - (intOf i).toNat)
  case atStart => exact ⟨0, Nat.zero_le _, rfl, HS1.out, grown_refl _ _⟩
  case round =>
    obtain ⟨k, hk, rfl, hs, hg⟩ := hrel
    obtain ⟨m, hm⟩ : ∃ m, 64 * k = m := ⟨_, rfl⟩
    rw [hm]
    have Hm := Lib.hid hm
    rw [hm, HP.out] at hk
    have hm64 : m % 64 = 0 := by omega
    by_cases hlt : m < P
    · have hmP : m + 64 ≤ P := by have := HP64.out; omega
      have tk : decide (m < P) = true := by simp; omega
      obtain ⟨s0, s1, s2, s3, s4, s5, s6, s7⟩ := cb8 hs
      obtain ⟨st, hst⟩ : ∃ st, absorbs k startS p = st := ⟨_, rfl⟩
      rw [hst] at s0 s1 s2 s3 s4 s5 s6 s7 hs
      have Hst := Lib.hid hst
      have fz : ∀ o, wr.frozen? ⟨w.heap.size + 1, o, none⟩ = false := fun o => hs.frozen o
      have e1 : IntKind.i64.wrap ((m : Int) + 64) = (m : Int) + 64 := IntWalk.i64_in _ (by omega)
      have b1 : (m : Int) + 64 ≤ (cp : Int) := by omega
      have b2 : (m : Int) ≤ (m : Int) + 64 := by omega
      have b3 : (0 : Int) ≤ (m : Int) + 64 := by omega
      have e2 : ((m : Int) + 64).toNat = m + 64 := by omega
      have HSr := Lib.hid hs; have HGr := Lib.hid hg
      clear hst hs hg hm hm64
      go_wp2
      go_still_tail 6, (by kernel_rfl)
      change wpList _ _ _ _ _ wr.drew
      have hS5 : Hid (CB wr.drew (w.heap.size + 1) 92 (st.l.map iw32)) := HSr.out
      have hG5 := Lib.hid (grown_drew' HGr.out)
      generalize wr.drew = w5 at *
      clear HSr HGr s0 s1 s2 s3 s4 s5 s6 s7 fz
      have hgw5 : g < w5.heap.size := Nat.lt_of_lt_of_le hgw1 hG5.out.size
      have hgS : g ≠ w.heap.size + 1 := by omega
      have hblk : BL w5 g m (p.drop m) := by
        have h := (HBL.out.keep (hG5.out.block g hgw1 (by intro e; injection e; omega))).drop m
        rwa [Nat.zero_add] at h
      have HBk := Lib.hid (hblk.take 64)
      have hl64 := Lib.hid (show ((p.drop m).take 64).length = 64 by rw [List.length_take, List.length_drop, HP.out]; omega)
      have hcm2 := Lib.hid (show cp - m ≤ maxLen by have := Hcm.out; omega)
      have hc64 : 64 ≤ cp - m := by omega
      clear hblk
      go_wp2_with fail
      refine (rblock_lit g m (cp - m) st ((p.drop m).take 64) w5 hl64.out hc64 hcm2.out hgw5 HBk.out).mono ?_
      rintro e w6 ⟨⟨t, ht, rfl⟩, hb6⟩
      have hS6 := hS5.out.keep (hb6.block _ hS5.out.lt)
      have HS6 := Lib.hid hS6
      have hG6 := Lib.hid (grown_trans hG5.out (G1 := none) ⟨hb6.os, hb6.tape, hb6.output, hb6.size, fun j hj _ => hb6.block j hj⟩ (.inr (by simp)))
      obtain ⟨s0, s1, s2, s3, s4, s5, s6, s7⟩ := cb8 hS6
      have fz : ∀ o, w6.frozen? ⟨w.heap.size + 1, o, none⟩ = false := fun o => hS6.frozen o
      have Ht := Lib.hid ht
      clear hS6 hb6 ht hS5 hG5
      go_wp2
      go_roundw
      case rel =>
        refine ⟨k + 1, by rw [HP.out]; have := Hm.out; omega, by have := Hm.out; go_num, ?_, ?_⟩
        · have h8 := (((((((HS6.out.set 0 (iw32 t.a)).set 1 (iw32 t.b)).set 2 (iw32 t.c)).set 3 (iw32 t.d)).set 4 (iw32 t.e)).set 5 (iw32 t.f)).set 6 (iw32 t.g)).set 7 (iw32 t.h)
          have hr : absorbs (k + 1) startS p = t := by rw [absorbs_succ, Hst.out, Hm.out, Ht.out]
          rw [hr]; exact h8
        · exact grown_setR (grown_setR (grown_setR (grown_setR (grown_setR (grown_setR (grown_setR (grown_setR hG6.out)))))))
      case measure => simp [intOf]; omega
    · have hmP : m = P := by omega
      have tk : decide (m < P) = false := by simp; omega
      obtain ⟨wo, rfl⟩ : ∃ wo : World, wo = wr := ⟨_, rfl⟩
      obtain ⟨st, hst⟩ : ∃ st, absorbs k startS p = st := ⟨_, rfl⟩
      rw [hst] at hs
      have hsha : sha l = st.l.flatMap fun x => be 4 x.toNat := by
        unfold sha; rw [Hp.out, HP.out, ← hst, ← hmP, ← hm, Nat.mul_div_cancel_left k (by decide)]
      have Hsha := Lib.hid hsha
      have HSo := Lib.hid hs
      have HAo : Hid (CB wo w.heap.size 29 (bcells (List.replicate 32 0))) := HA1.out.keep (hg.block _ HA1.out.lt (by intro e; injection e; omega))
      have HGo := Lib.hid (grown_trans HG1.out hg (.inr fun g' hg' => by injection hg'; omega))
      clear hst hs hg hm hm64 hmP hsha
      go_upto_region 7 with (fail)
      refine wp_region_list ?_
      refine wpList_build rfl 29 _ rfl (by kernel_rfl) ?_
      generalize hX : (Program.built _ _ _).getD #[] = X
      have hX2 : Value.agg X = dv (List.replicate 32 0) := by rw [← hX]; kernel_rfl
      rw [hX2]
      clear hX hX2
      obtain ⟨z, hz⟩ : ∃ z, List.replicate 32 (0 : UInt8) = z := ⟨_, rfl⟩
      have hzl : Hid (z.length = 32) := by show _ = _; rw [← hz]; rfl
      rw [hz]
      have Hz := Lib.hid hz
      clear hz
      go_wp2_with (with_reducible refine wpList_store_d (hgd := rfl) 29 (.tmp 6) (.tmp 24) rfl wo.heap.size z hzl.out rfl rfl 29 _ (heap_alloc_new _ _) rfl dig_sz ?_; intro w3 hc3 hg3 hz3)
      have hg23 : wo.grownBy w3 none := grown_trans (World.grownBy_alloc wo _ none) hg3.out (.inr fun g hg => by injection hg; omega)
      have HS3 : Hid (CB w3 (w.heap.size + 1) 92 (st.l.map iw32)) := HSo.out.keep (hg23.block _ HSo.out.lt (by simp))
      have HA3 : Hid (CB w3 w.heap.size 29 (bcells (List.replicate 32 0))) := HAo.out.keep (hg23.block _ HAo.out.lt (by simp))
      have HG3 := Lib.hid (grown_trans HGo.out hg23 (.inl rfl))
      have hSD : w.heap.size + 1 < wo.heap.size := HSo.out.lt
      have hgD : Hid (w.heap.size ≤ wo.heap.size) := HGo.out.size
      obtain ⟨D, hD⟩ : ∃ D, wo.heap.size = D := ⟨_, rfl⟩
      rw [hD] at hc3 hSD hgD ⊢
      obtain ⟨o, ho⟩ : ∃ o, outB st = o := ⟨_, rfl⟩
      have hol := Lib.hid (outB_len st)
      have hoa := Lib.hid (outB_at st)
      have Hsho : Hid (sha l = o) := by show sha l = o; rw [Hsha.out, ← ho]; rfl
      rw [ho] at hol hoa
      have HC3 : Hid (CB w3 D 29 (bcells (o.take 0 ++ List.replicate (32 - 0) 0))) := by
        have h := hc3.out; rw [← Hz.out] at h; exact h
      clear hc3 hg3 hz3 hg23 hD ho Hsha HSo HAo HGo
      go_loopw [7] (fun i wr => O2Rel D o w3 i wr) (fun i _ => 32 - (intOf i).toNat)
      case atStart => exact ⟨0, by omega, rfl, HC3.out, grown_refl _ _⟩
      case round =>
        obtain ⟨k, hk, rfl, hc, hg⟩ := hrel
        have HC := Lib.hid hc; have HGr := Lib.hid hg
        by_cases hlt : k < 32
        · have tk : decide ((k : Int) < 32) = true := by simp; omega
          obtain ⟨j, hj⟩ : ∃ j, k / 4 = j := ⟨_, rfl⟩
          obtain ⟨q, hq⟩ : ∃ q, k % 4 = q := ⟨_, rfl⟩
          have hj8 : j < 8 := by omega
          have hq4 : q < 4 := by omega
          have hkjq : 4 * j + q = k := by omega
          have e0 : (k : Int) / 4 = (j : Int) := by omega
          have e1 : (k : Int) % 4 = (q : Int) := by omega
          have b0 : (q : Int) ≤ 3 := by omega
          have b1 : (j : Int) < 8 := by omega
          have b2 : (k : Int) < 32 := by omega
          have e2 : ((24 : Int) - 8 * (q : Int)).toNat = 24 - 8 * q := by omega
          have b3 : (0 : Int) ≤ 24 - 8 * (q : Int) := by omega
          have b4 : (8 : Int) * (q : Int) ≤ 24 := by omega
          have cx : wr.cell? ⟨w.heap.size + 1, j, none⟩ = some (.int .u32 (iw (st.l.getD j 0))) := by
            rw [World.cell?_of_block (w := w3) (HGr.out.block (w.heap.size + 1) HS3.out.lt (by intro e; injection e; omega))]
            exact (HS3.out.cell j).trans (l8_get st j hj8)
          have hat := hoa.out j q hj8 hq4
          obtain ⟨x, hx⟩ : ∃ x, st.l.getD j 0 = x := ⟨_, rfl⟩
          rw [hx] at cx hat
          rw [hkjq] at hat
          have hset := Lib.hid (fill_set o k hol.out hlt _ hat)
          have fz := hc.frozen k
          have hlen : (bcells (o.take k ++ List.replicate (32 - k) (0 : UInt8))).length = 32 := by rw [bcells_length, List.length_append, List.length_take, List.length_replicate, hol.out]; omega
          obtain ⟨y, hy⟩ : ∃ y, wr.cell? ⟨D, k, none⟩ = some y := ⟨_, (hc.cell k).trans (List.getElem?_eq_getElem (by omega))⟩
          obtain ⟨bx1, bx2⟩ := iw_lt x
          clear hc hg hj hq hkjq hx hat hlen
          go_wp2
          go_roundw
          case rel => exact ⟨k + 1, by omega, by go_num, by rw [← hset.out]; exact HC.out.set _ _, grown_setR HGr.out⟩
          case measure => simp [intOf]; omega
        · have hk32 : k = 32 := by omega
          have tk : decide ((k : Int) < 32) = false := by simp; omega
          rw [hk32, List.take_of_length_le (by rw [hol.out]; exact Nat.le_refl _), Nat.sub_self, List.replicate_zero, List.append_nil] at hc
          have HD := Lib.hid hc
          have hT : Hid (wr.heap[w.heap.size]? = some (.cells (bcells (List.replicate 32 0)).toArray 29 (0, 0))) := (HGr.out.block w.heap.size HA3.out.lt (by intro e; injection e; omega)).trans HA3.out
          have HGf := Lib.hid (grown_trans HG3.out HGr.out (.inr fun g' hg' => by injection hg'; have := hgD.out; omega))
          clear hc hg hk32 HC
          go_wp2_with (first
            | (with_reducible refine wpList_load_d (hgd := rfl) 29 (.tmp 6) rfl D o hol.out rfl 29 _ HD.out Tryd.underlying29 rfl dig_sz ?_)
            | (with_reducible refine wpList_store_d (hgd := rfl) 29 (.tmp 2) (.tmp 41) rfl w.heap.size o hol.out rfl rfl 29 _ hT.out rfl dig_sz ?_; intro w7 hc7 hg7 hz7))
          refine bodyPost_ret (v := dv o) (results_cell_row rfl _ _ w.heap.size 29 (bcells o).toArray (0, 0) _ rfl hc7.out Tryd.underlying29 rfl (by rw [List.size_toArray, bcells_length, hol.out]; exact dig_sz)) rfl ?_
          exact ⟨by rw [Hsho.out], (grown_none HGf.out).grown hg7.out HGf.out.size (fun k hk => by injection hk; omega)⟩
end Go.Proofs.YtbonebmboolemaaDoor
/- the reference's digest: Tagged. -/
namespace Go.Proofs.YtbonebmboolemaaDoor
open Go.RowKit
set_option maxRecDepth 100000 in
set_option maxHeartbeats 1000000 in
theorem rtagged_any (s : ByteArray) (v : Value) (l : List UInt8) (w : World) (hs : s.size ≤ 100000) (hl : l.length ≤ 100000) (hb : BtsAt w.heap.size w l v) :
    Calls Tryd.prog 54 #[.string s, v] w fun e w' => e = .returned (dv (tagged s.data.toList l)) ∧ Below w.heap.size w w' := by
  have HB := Lib.hid hb
  obtain ⟨oa, cap, rfl⟩ := hb.shape
  clear hb
  go_enter Tryd.func54, Tryd.ntmps54
  obtain ⟨w0, hw0⟩ : ∃ w0, w.alloc (.cells #[.int .u8 0, .int .u8 0, .int .u8 0, .int .u8 0, .int .u8 0, .int .u8 0, .int .u8 0, .int .u8 0, .int .u8 0, .int .u8 0, .int .u8 0, .int .u8 0, .int .u8 0, .int .u8 0, .int .u8 0, .int .u8 0, .int .u8 0, .int .u8 0, .int .u8 0, .int .u8 0, .int .u8 0, .int .u8 0, .int .u8 0, .int .u8 0, .int .u8 0, .int .u8 0, .int .u8 0, .int .u8 0, .int .u8 0, .int .u8 0, .int .u8 0, .int .u8 0] 29) = w0 := ⟨_, rfl⟩
  obtain ⟨k1, w1, hcv, hb1, hbt1⟩ := run_bytes_of s (by omega) w0
  have H0 : Hid (CB w0 w.heap.size 29 (bcells (List.replicate 32 0)) ∧ Below w.heap.size w w0 ∧ w0.heap.size = w.heap.size + 1) := by
    show _ ∧ _ ∧ _
    rw [← hw0]
    exact ⟨heap_alloc_new w _, (Below.refl _ w).alloc (Nat.le_refl _) _, World.size_alloc _ _⟩
  rw [← hw0] at hcv
  rw [H0.out.2.2] at hbt1
  have Hb1 := Lib.hid hb1; have Hbt1 := Lib.hid hbt1
  rw [hw0] at hcv
  subst hw0
  clear hb1 hbt1
  obtain ⟨d1, hd1⟩ : ∃ d, sha s.data.toList = d := ⟨_, rfl⟩
  have Hd1 := Lib.hid hd1
  have hlen := Lib.hid (sha_len s.data.toList)
  rw [hd1] at hlen
  clear hd1
  go_wp2_with fail
  clear hcv
  generalize w.alloc (.cells #[.int .u8 0, .int .u8 0, .int .u8 0, .int .u8 0, .int .u8 0, .int .u8 0, .int .u8 0, .int .u8 0, .int .u8 0, .int .u8 0, .int .u8 0, .int .u8 0, .int .u8 0, .int .u8 0, .int .u8 0, .int .u8 0, .int .u8 0, .int .u8 0, .int .u8 0, .int .u8 0, .int .u8 0, .int .u8 0, .int .u8 0, .int .u8 0, .int .u8 0, .int .u8 0, .int .u8 0, .int .u8 0, .int .u8 0, .int .u8 0, .int .u8 0, .int .u8 0] 29) = w0 at *
  obtain ⟨H00, H01, H02⟩ := H0.out
  have HT := Lib.hid H00; have HW := Lib.hid H01
  clear H0 H00 H01 H02
  refine (rsum_any _ s.data.toList w1 (by simp; omega) Hbt1.out).mono ?_
  rw [Hd1.out]
  rintro e w2 ⟨rfl, hb2⟩
  have HB2 := Lib.hid (below_ext Hb1.out hb2)
  clear hb2
  go_wp2_with (first
    | (with_reducible refine wpList_store_d (hgd := rfl) 29 (.tmp 5) (.tmp 8) rfl w2.heap.size d1 hlen.out rfl rfl 29 _ (heap_alloc_new _ _) rfl dig_sz ?_
       intro w3 hc3 hg3 hz3
       have hz3' : w3.heap.size = w2.heap.size + 1 := by rw [hz3]; exact World.size_alloc _ _
       have hb3 : Below w2.heap.size w2 w3 := (((Below.refl _ w2).alloc (Nat.le_refl _) _).grown hg3.out (by simp) (fun k hk => by injection hk; omega))
       have hb4 : Below w0.heap.size w0 (w3.alloc (.cells #[] 5)) := (below_ext HB2.out hb3).alloc (below_ext HB2.out hb3).size _
       have HB4 := Lib.hid hb4
       have hO := Lib.hid (made_own w3)
       have hbd := Lib.hid (SrcB.ofBts (P := Tryd.prog) Tryd.underlying50 (dig_bts (hc3.out.alloc (.cells #[] 5)) hlen.out))
       have Hz3 := Lib.hid hz3'
       clear hc3 hg3 hz3 hz3' hb3 hb4)
    | (at_builtin; refine wpList_append_B (e := 5) Tryd.underlying50 (by kernel_rfl) rfl (.tmp 9) (.tmp 10) rfl w3.heap.size _ [] rfl hO.out _ d1 rfl ?src (by simp [hlen.out]) ?sz ?_
       case src => exact hbd.out
       case sz => simp
       intro v4 w4 ho4 hg4 hn4
       have hb5 : Below w0.heap.size w0 w4 := HB4.out.grown hg4 HB4.out.size (fun g hg => by have h : some w3.heap.size = some g := hg
                                                                                             injection h; have := Hz3.out; have := HB2.out.size; omega)
       rw [List.nil_append] at ho4
       have HO4 := Lib.hid ho4; have HB45 := Lib.hid hb5
       have hlt4 := Lib.hid (fun g hg => (World.ownsRow.lt ho4 g hg).1)
       have hS2 := Lib.hid (SrcB.ofBts (P := Tryd.prog) Tryd.underlying50 (HB.out.ext (below_ext HW.out hb5)))
       have hsz4 : Hid (w3.heap.size ≤ w4.heap.size) := Nat.le_trans (by simp) hg4.size
       clear ho4 hg4 hn4 hb5 hbd hO)
    | (at_builtin; refine wpList_append_B (e := 5) Tryd.underlying50 (by kernel_rfl) rfl (.tmp 11) (.tmp 12) rfl w3.heap.size v4 d1 rfl HO4.out _ l rfl hS2.out (by rw [hlen.out]; omega) hsz4.out ?_
       intro v5 w5 ho5 hg5 hn5
       have hb5 : Below w0.heap.size w0 w5 := HB45.out.grown hg5 HB45.out.size (fun g hg => by have := hlt4.out g hg; have := Hz3.out; have := HB2.out.size; omega)
       have HB5 := Lib.hid hb5
       have HO5 := Lib.hid (own_bts ho5)
       clear ho5 hg5 hn5 hb5 HO4 HB45 hlt4 hS2 hsz4))
  obtain ⟨d2, hd2⟩ : ∃ d, sha (d1 ++ l) = d := ⟨_, rfl⟩
  have Hd2 := Lib.hid hd2
  have hlen2 := Lib.hid (sha_len (d1 ++ l))
  rw [hd2] at hlen2
  clear hd2
  refine (rsum_any _ (d1 ++ l) w5 (by rw [List.length_append, hlen.out]; omega) HO5.out).mono ?_
  rw [Hd2.out]
  rintro e w6 ⟨rfl, hb6⟩
  have hb6' := below_ext HB5.out hb6
  have hT : Hid (w6.heap[w.heap.size]? = some (.cells (bcells (List.replicate 32 0)).toArray 29 (0, 0))) := (hb6'.block _ HT.out.lt).trans HT.out
  have HB6 := Lib.hid (below_ext HW.out hb6')
  clear hb6 hb6'
  go_wp2_with (with_reducible refine wpList_store_d (hgd := rfl) 29 (.tmp 4) (.tmp 14) rfl w.heap.size d2 hlen2.out rfl rfl 29 _ hT.out rfl dig_sz ?_; intro w7 hc7 hg7 hz7)
  refine bodyPost_ret (v := dv d2) (results_cell_row rfl _ _ w.heap.size 29 (bcells d2).toArray (0, 0) _ rfl hc7.out Tryd.underlying29 rfl (by rw [List.size_toArray, bcells_length, hlen2.out]; exact dig_sz)) rfl ?_
  refine ⟨?_, HB6.out.grown hg7.out HB6.out.size (fun k hk => by injection hk; omega)⟩
  rw [← Hd2.out, ← Hd1.out]; rfl
end Go.Proofs.YtbonebmboolemaaDoor
