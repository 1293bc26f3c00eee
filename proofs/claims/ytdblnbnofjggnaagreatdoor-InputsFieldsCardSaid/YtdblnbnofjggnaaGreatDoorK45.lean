/- Parts of the proofs of chapter 49's laws: Gti Gpw Gpo Gch Gsc Gex Sla. -/
import Derived.Test.YtdblnbnofjggnaaGreatDoorK03
import Derived.Test.YtdblnbnofjggnaaGreatDoorK01
import Derived.Test.YtdblnbnofjggnaaGreatDoorK05
import Derived.RangeFuncFrom
import Derived.RangeFuncNested
import Derived.RangeFuncBound
import Derived.RangeFuncCalls
import Derived.RangeFuncLeaves
import Derived.Shelf.Abstract
import Derived.Shelf.RegionOpen
import Derived.OwnWalkIn
import Derived.TacticsInMore
import Derived.LoopNIn
import Derived.LoopIn
import Derived.LoopN
namespace Go.Proofs.YtdblnbnofjggnaaGreatDoor
open Go.RowKit Go.Shelf
theorem keepsOthers_of_below {w w' : World} (h : Below w.heap.size w w') : KeepsOthers w w' :=
 KeepsOthers.of_grownBy (row := none) ⟨h.os, h.tape, h.output, h.size, fun k hk _ => h.block k hk⟩ (by simp)
theorem bitLen_P : Lib.bitLen cP + 2 = 64 := by decide +kernel
theorem bitLen_Q : Lib.bitLen cQ + 3 = 64 := by decide +kernel
theorem divP_any (hi lo : Nat) (yi : Int) (hyi : yi = (cP : Int)) (hh : hi < cP) (hlo : Hid (lo < 18446744073709551616)) (w : World) :
 Calls Tryz.prog 179 #[.int .u64 hi, .int .u64 lo, .int .u64 yi] w fun e w' => e = .returned (.tuple #[.int .u64 (((hi * 18446744073709551616 + lo) / cP : Nat) : Int), .int .u64 (((hi * 18446744073709551616 + lo) % cP : Nat) : Int)]) ∧ Below w.heap.size w w' := by
 subst hyi
 exact div64_any hi lo cP 2 bitLen_P (by decide) (by decide) (by decide) (by decide) hh hlo w
theorem divQ_any (hi lo : Nat) (yi : Int) (hyi : yi = (cQ : Int)) (hh : hi < cQ) (hlo : Hid (lo < 18446744073709551616)) (w : World) :
 Calls Tryz.prog 179 #[.int .u64 hi, .int .u64 lo, .int .u64 yi] w fun e w' => e = .returned (.tuple #[.int .u64 (((hi * 18446744073709551616 + lo) / cQ : Nat) : Int), .int .u64 (((hi * 18446744073709551616 + lo) % cQ : Nat) : Int)]) ∧ Below w.heap.size w w' := by
 subst hyi
 exact div64_any hi lo cQ 3 bitLen_Q (by decide) (by decide) (by decide) (by decide) hh hlo w
theorem prod_hi {x y m : Nat} (hx : x < m) (hy : y < m) (hm : m ≤ 18446744073709551616) : x * y / 18446744073709551616 < m := by
 refine (Nat.div_lt_iff_lt_mul (by decide)).2 ?_
 have h1 : x * y < m * m := Nat.mul_lt_mul'' hx hy
 have h2 : m * m ≤ m * 18446744073709551616 := Nat.mul_le_mul_left _ hm
 omega
set_option maxRecDepth 100000 in
set_option maxHeartbeats 1000000 in
theorem times_any (x y : Nat) (hx : Hid (x < cP)) (hy : Hid (y < cP)) (w : World) : Calls Tryz.prog 189 #[.int .u64 x, .int .u64 y] w fun e w' => e = .returned (.int .u64 ((x * y % cP : Nat) : Int)) ∧ Below w.heap.size w w' := by
 have hP : cP ≤ 18446744073709551616 := by decide
 have hhi := Lib.hid (prod_hi hx.out hy.out hP)
 have hlo : Hid (x * y % 18446744073709551616 < 18446744073709551616) := Nat.mod_lt _ (by decide)
 have hdm : Hid (x * y / 18446744073709551616 * 18446744073709551616 + x * y % 18446744073709551616 = x * y) := by show _ = _; rw [Nat.mul_comm]; exact Nat.div_add_mod _ _
 clear hP
 go_enter Tryz.func189, Tryz.ntmps189
 go_wp2_with fail
 refine (mul64_any x y (Nat.lt_trans hx.out (by decide)) (Nat.lt_trans hy.out (by decide)) _).mono ?_
 rintro e w1 ⟨rfl, rfl⟩
 generalize x * y / 18446744073709551616 = hi at *
 generalize x * y % 18446744073709551616 = lo at *
 go_wp2_with fail
 refine (divP_any hi lo _ rfl hhi.out hlo _).mono ?_
 rw [hdm.out]
 rintro e w2 ⟨rfl, hb⟩
 generalize x * y / cP = qq
 generalize hR : x * y % cP = R
 have HR := Lib.hid hR; clear hR
 go_wp2_with fail
 go_ret
 exact ⟨by rw [HR.out]; rfl, hb⟩
theorem bitLen_lt (k : Nat) (h : k < 18446744073709551616) : k < 2 ^ Lib.bitLen k ∧ Lib.bitLen k ≤ 64 := by
 refine ⟨?_, Lib.bitLen_le k 64 (Nat.le_refl _) (by simpa using h)⟩
 induction k using Nat.strongRecOn with
 | ind k ih =>
  by_cases h0 : k = 0
  · subst h0; exact Nat.two_pow_pos _
  · have hk := Lib.bitLen_half k h0 (by simpa using h)
    have := ih (k / 2) (by omega) (by omega)
    rw [hk, Nat.add_comm, Nat.pow_succ]; omega
end Go.Proofs.YtdblnbnofjggnaaGreatDoor
namespace Go.Proofs.YtdblnbnofjggnaaGreatDoor
open Go.RowKit Go.Shelf
attribute [local go_sem] Oper.semAt_some
set_option maxRecDepth 100000 in
set_option maxHeartbeats 1000000 in
theorem digits_any (k : Nat) (w : World) : Calls Tryz.prog 205 #[.int .u64 k] w fun e w' => e = .returned (.func (.func 216) #[] #[.pointer (some ⟨w.heap.size, 0, none⟩)]) ∧ w' = w.alloc (.cells #[.int .u64 k] 183) := by
 have hmf : ∀ (fn : Fn) (first cap : Array Value) (w : World), (Instr.makeFunc fn first cap).run Tryz.prog w = .ok (.func fn first cap) w := fun _ _ _ _ => rfl
 go_enter Tryz.func205, Tryz.ntmps205
 go_wp2
 go_ret
 exact ⟨rfl, rfl⟩
theorem bitsF_take (n k c : Nat) (h : c < n) : (bitsF n k).take (c + 1) = (bitsF n k).take c ++ [k / 2 ^ (n - 1 - c) % 2 == 1] := by
 rw [List.take_add_one, bitsF_get n k c h]; rfl
theorem and_one (d : Nat) (h : d < 18446744073709551616) : bits .and .u64 (d : Int) 1 = ((d % 2 : Nat) : Int) := by
 have := bits_and_u64_nat d 1 h (by decide)
 rw [Nat.and_one_is_mod] at this
 exact this
def SameAt (Bk : Nat) (A B : World) : Prop := B.heap[Bk]? = A.heap[Bk]?
theorem SameAt.trans {Bk : Nat} {A B C : World} (h : SameAt Bk A B) (h2 : SameAt Bk B C) : SameAt Bk A C := Eq.trans h2 h
set_option maxRecDepth 100000 in
set_option maxHeartbeats 2000000 in
theorem digits1_in (n : Nat) (hn : 1 ≤ n) (l Bk k : Nat) (hk : Hid (k < 18446744073709551616)) (J Jx : List Bool → World → Prop)
 (hY : ∀ pre x W, J pre W → pre.length < Lib.bitLen k → YieldAt Fence.wide (n - 1) Tryz.prog l #[.bool x] W fun e W' =>
  (e = .returned (.bool true) ∧ J (pre ++ [x]) W' ∧ SameAt Bk W W') ∨ (e = .returned (.bool false) ∧ Jx (pre ++ [x]) W'))
 (W : World) (hc : W.cell? ⟨Bk, 0, none⟩ = some (.int .u64 k)) (h0 : J [] W) :
 CallsIn Fence.wide n Tryz.prog 216 #[.func (.yield l) #[] #[], .pointer (some ⟨Bk, 0, none⟩)] W fun e W' => (∃ v, e = .returned v) ∧
  ((∃ ys, ys = bitsF (Lib.bitLen k) k ∧ J ys W') ∨ (∃ pre, (pre <+: bitsF (Lib.bitLen k) k) ∧ Jx pre W')) := by
 have hlen := (bitLen_lt k hk.out).2
 refine callsIn_of_wp Tryz.func216 rfl trivial ?_ rfl
 simp only [Tryz.ntmps216, List.size_toArray, List.length_cons, List.length_nil, Nat.reduceAdd, Nat.reduceSub, Array.replicate_succ, Array.replicate_zero, List.push_toArray, List.append_toArray, List.nil_append, List.cons_append]
 have HY := Lib.hid hY; clear hY
 gi_wp2_with (refine ⟨trivial, ?_⟩; gi_at_call 209; refine (callsIn_wide.2 (bits_Len64 (k : Int) _ (by omega) (by have := hk.out; omega))).mono ?_; rintro e w' ⟨rfl, hw⟩; obtain rfl := hw.symm)
 obtain ⟨L, hL⟩ : ∃ L, Lib.bitLen k = L := ⟨_, rfl⟩
 rw [hL] at hlen HY ⊢
 have HL := Lib.hid hL; clear hL
 gi_loopw [3] (fun i wr => ∃ (c : Nat) (z : Int), c ≤ L ∧ i = .int .i64 z ∧ Hid (z = (L : Int) - 1 - (c : Int)) ∧ J ((bitsF L k).take c) wr ∧ SameAt Bk W wr) (fun i _ => (intOf i + 1).toNat)
 case atStart => exact ⟨0, _, Nat.zero_le _, rfl, (by show _ = _; omega), by simpa using h0, (rfl : SameAt Bk W W)⟩
 case round =>
  obtain ⟨c, z, hcl, rfl, hz, hJ, hb⟩ := hrel
  have hkc : wr.cell? ⟨Bk, 0, none⟩ = some (.int .u64 k) := (World.cell?_of_block (w := W) (show wr.heap[Bk]? = W.heap[Bk]? from hb)).trans hc
  by_cases hlt : c < L
  case neg =>
   have hz' : z < 0 := by have := hz.out; omega
   gi_wp2
   go_end0
   exact ⟨⟨_, rfl⟩, .inl ⟨_, rfl, by rw [List.take_of_length_le (by rw [bitsF_len]; omega)] at hJ; rw [HL.out]; exact hJ⟩⟩
  case pos =>
   obtain ⟨j, hj⟩ : ∃ j : Nat, z = (j : Int) := ⟨L - 1 - c, by have := hz.out; omega⟩
   subst hj
   have hjL : L - 1 - c = j := by have := hz.out; omega
   have hj63 : (j : Int) ≤ 63 := by omega
   obtain ⟨d, hd⟩ : ∃ d, k / 2 ^ j = d := ⟨_, rfl⟩
   have hdk : d < 18446744073709551616 := by rw [← hd]; exact Nat.lt_of_le_of_lt (Nat.div_le_self _ _) hk.out
   have g1 : (k : Int) / 2 ^ j = (d : Int) := by rw [← hd, Int.natCast_ediv, Int.natCast_pow]; rfl
   have g2 := and_one d hdk
   have Ht := Lib.hid (bitsF_take L k c hlt)
   have Hd := Lib.hid hd
   have HjL := Lib.hid hjL
   clear hdk hd hjL
   rcases Nat.mod_two_eq_zero_or_one d with hm | hm
   all_goals
    have Hm := Lib.hid hm
    rw [hm] at g2
    clear hm
   · obtain ⟨fn, tmps, assign, body, hy, hR⟩ := HY.out _ false wr hJ (by rw [List.length_take, bitsF_len]; omega)
     gi_wp2
     refine hR.mono ?_
     rintro e W3 (⟨rfl, hJ3, hk3⟩ | ⟨rfl, hJx3⟩)
     · gi_wp2
       have ht := Ht.out
       rw [HjL.out, Hd.out, Hm.out] at ht
       refine ⟨⟨c + 1, _, by omega, rfl, (by show _ = _; have := hz.out; omega), by rw [ht]; exact hJ3, hb.trans hk3⟩, by simp [intOf] <;> omega⟩
     · gi_wp2
       refine bodyPost_ret (results_none rfl _ _ _) rfl ?_
       have ht := Ht.out
       rw [HjL.out, Hd.out, Hm.out] at ht
       exact ⟨⟨_, rfl⟩, .inr ⟨_, List.take_prefix (c + 1) _, by rw [HL.out, ht]; exact hJx3⟩⟩
   · obtain ⟨fn, tmps, assign, body, hy, hR⟩ := HY.out _ true wr hJ (by rw [List.length_take, bitsF_len]; omega)
     gi_wp2
     refine hR.mono ?_
     rintro e W3 (⟨rfl, hJ3, hk3⟩ | ⟨rfl, hJx3⟩)
     · gi_wp2
       have ht := Ht.out
       rw [HjL.out, Hd.out, Hm.out] at ht
       refine ⟨⟨c + 1, _, by omega, rfl, (by show _ = _; have := hz.out; omega), by rw [ht]; exact hJ3, hb.trans hk3⟩, by simp [intOf] <;> omega⟩
     · gi_wp2
       refine bodyPost_ret (results_none rfl _ _ _) rfl ?_
       have ht := Ht.out
       rw [HjL.out, Hd.out, Hm.out] at ht
       exact ⟨⟨_, rfl⟩, .inr ⟨_, List.take_prefix (c + 1) _, by rw [HL.out, ht]; exact hJx3⟩⟩
end Go.Proofs.YtdblnbnofjggnaaGreatDoor
namespace Go.Proofs.YtdblnbnofjggnaaGreatDoor
open Go.RowKit Go.Shelf
attribute [local go_sem] Oper.semAt_some
theorem cell_of_box_l {W : World} {B : Nat} {v : Value} {t : TypeId} (h : W.heap[B]? = some (.cells #[v] t (0, 0))) : W.cell? ⟨B, 0, none⟩ = some v ∧ W.frozen? ⟨B, 0, none⟩ = false := by
 constructor <;> simp [World.cell?, World.frozen?, h]
theorem cell_new_l (W : World) (v : Value) (t : TypeId) : (W.alloc (.cells #[v] t)).cell? ⟨W.heap.size, 0, none⟩ = some v ∧ (W.alloc (.cells #[v] t)).frozen? ⟨W.heap.size, 0, none⟩ = false :=
 cell_of_box_l (World.alloc_heap_new W _)
theorem cell_alloc_l {W : World} {a : Addr} {v : Value} (o : Obj) (h : W.cell? a = some v) : (W.alloc o).cell? a = some v := cell_kept h (World.grownBy_alloc W o none) (fun r e => by cases e)
theorem frozen_alloc_l {W : World} {a : Addr} {v : Value} (o : Obj) (h : W.cell? a = some v) (hf : W.frozen? a = false) : (W.alloc o).frozen? a = false := (frozen_kept h (World.grownBy_alloc W o none) (fun r e => by cases e)).trans hf
theorem times_is (x y r : Nat) (hr : Hid (x * y % cP = r)) (hx : Hid (x < cP)) (hy : Hid (y < cP)) (w : World) : Calls Tryz.prog 189 #[.int .u64 x, .int .u64 y] w fun e w' => e = .returned (.int .u64 (r : Int)) ∧ Below w.heap.size w w' := by
 have h := times_any x y hx hy w
 rw [hr.out] at h; exact h
theorem digits_stops (n : Nat) (hn : 1 ≤ n) (Bk k : Nat) (hk : Hid (k < 18446744073709551616)) (w : World) (hBk : Bk < w.heap.size) (hc : w.cell? ⟨Bk, 0, none⟩ = some (.int .u64 k)) :
 SeqStopsK Fence.wide n Tryz.prog 216 #[.pointer (some ⟨Bk, 0, none⟩)] (fun x : Bool => #[Value.bool x]) (SameAt Bk) (fun ys => ys = bitsF (Lib.bitLen k) k) (fun pre => pre <+: bitsF (Lib.bitLen k) k) (Lib.bitLen k) w := fun l J Jx W hW _ _ hY h0 => by
 have hc' := (hW.cell (p := ⟨Bk, 0, none⟩) (by show Bk < w.heap.size; omega)).trans hc
 exact (digits1_in n hn l Bk k hk J Jx hY W hc' h0)
theorem sameAt_b {w : World} {Bk : Nat} (h : Bk < w.heap.size) : ∀ (W : World) (l : Nat) (o o' : Obj), w.heap.size ≤ l → W.heap[l]? = some o → o.isCells = false → o.isWalk = false → SameAt Bk W (W.putObj l o') :=
 fun W l o o' hl _ _ _ => World.putObj_heap_other (by omega)
set_option maxRecDepth 100000 in
set_option maxHeartbeats 2000000 in
theorem power_any (a k : Nat) (ha : Hid (a < cP)) (hk : Hid (k < 18446744073709551616)) (w : World) : Calls Tryz.prog 188 #[.int .u64 a, .int .u64 k] w fun e w' => e = .returned (.int .u64 ((pw a k : Nat) : Int)) ∧ Below w.heap.size w w' := by
 refine (callsIn_wide (n := 9)).1 ?_
 refine callsIn_of_wp_marks Tryz.func188 rfl trivial ?_ rfl
 simp only [Tryz.ntmps188, List.size_toArray, List.length_cons, List.length_nil, Nat.reduceAdd, Nat.reduceSub, Array.replicate_succ, Array.replicate_zero, List.push_toArray, List.append_toArray, List.nil_append, List.cons_append]
 gi_wp2_with (refine ⟨trivial, ?_⟩; gi_at_call 205; refine (callsIn_wide.2 (digits_any k _)).mono ?_; rintro e w' ⟨rfl, hw⟩; obtain rfl := hw.symm)
 obtain ⟨W0, hW0⟩ : ∃ W0, ((w.alloc (.cells #[.int .u64 a] 183)).alloc (.cells #[.int .u64 1] 183)).alloc (.cells #[.int .u64 k] 183) = W0 := ⟨_, rfl⟩
 have hs0 : W0.heap.size = w.heap.size + 1 + 1 + 1 := by rw [← hW0, World.size_alloc, World.size_alloc, World.size_alloc]
 have ca : W0.cell? ⟨w.heap.size, 0, none⟩ = some (.int .u64 a) := by rw [← hW0]; exact cell_alloc_l _ (cell_alloc_l _ (cell_new_l w _ _).1)
 have cc : W0.cell? ⟨w.heap.size + 1, 0, none⟩ = some (.int .u64 1) := by
  rw [← hW0]
  have h := (cell_new_l (w.alloc (.cells #[.int .u64 a] 183)) (.int .u64 1) 183).1
  rw [World.size_alloc] at h; exact cell_alloc_l _ h
 have fc : W0.frozen? ⟨w.heap.size + 1, 0, none⟩ = false := by
  rw [← hW0]
  have h := cell_new_l (w.alloc (.cells #[.int .u64 a] 183)) (.int .u64 1) 183
  rw [World.size_alloc] at h
  exact frozen_alloc_l _ h.1 h.2
 have ck : W0.cell? ⟨w.heap.size + 1 + 1, 0, none⟩ = some (.int .u64 k) := by
  rw [← hW0]
  have h := (cell_new_l ((w.alloc (.cells #[.int .u64 a] 183)).alloc (.cells #[.int .u64 1] 183)) (.int .u64 k) 183).1
  rw [World.size_alloc, World.size_alloc] at h; exact h
 have hB0 : Below w.heap.size w W0 := by rw [← hW0]; exact (((Below.refl _ w).alloc (Nat.le_refl _) _).alloc (by simp) _).alloc (by simp; omega) _
 rw [hW0]
 clear hW0
 refine wpIn_rangeFunc_ownF rfl (by decide) (gf := 216) (lb := #[.pointer (some ⟨w.heap.size + 1 + 1, 0, none⟩)]) rfl trivial (enters_of Tryz.func216 (by kernel_rfl) rfl)
  (digits_stops 8 (by decide) (w.heap.size + 1 + 1) k hk W0 (by omega) ck) SameAt.trans (sameAt_b (by omega)) (Below.refl _ _) (fun _ => rfl)
  (fun pre W => (W.cell? ⟨w.heap.size, 0, none⟩ = some (.int .u64 a) ∧ W.cell? ⟨w.heap.size + 1, 0, none⟩ = some (.int .u64 ((pw a (bval pre) : Nat) : Int)) ∧ W.frozen? ⟨w.heap.size + 1, 0, none⟩ = false ∧ W.cell? ⟨w.heap.size + 1 + 1, 0, none⟩ = some (.int .u64 k)) ∧ Below w.heap.size w W)
  (fun _ _ _ => False)
  (OwnFrom.and (Own.from (fun s A B row hs hg hr => ⟨cell_kept hs.1 hg hr, cell_kept hs.2.1 hg hr, (frozen_kept hs.2.1 hg hr).trans hs.2.2.1, cell_kept hs.2.2.2 hg hr⟩) _) (ownFrom_below (Nat.le_refl _) (by omega)))
  (fun _ _ _ _ _ hs _ _ => hs)
  ⟨⟨ca, by rw [cc]; exact congrArg (fun z => some (Value.int .u64 z)) (by have := pw_zero a; show (1 : Int) = ((pw a (bval []) : Nat) : Int); rw [show bval [] = 0 from rfl, this]; rfl), fc, ck⟩, hB0⟩
  (fun x => { tmps := #[.int .u64 a, .int .u64 k, .pointer (some ⟨w.heap.size, 0, none⟩), undef, .int .u64 0, .pointer (some ⟨w.heap.size + 1, 0, none⟩), .bool x, .int .u64 k, .func (.func 216) #[] #[.pointer (some ⟨w.heap.size + 1 + 1, 0, none⟩)], .bool x, undef, undef, undef, undef, undef, undef, undef, undef], defers := [] }) ?assign ?body ?done ?stop
 case assign =>
  intro l x W K hK
  gi_wp2
  exact hK
 case body =>
  rintro l pre x W ⟨⟨hc1, hc2, hf2, hc4⟩, hB⟩ _
  have hW2 : w.heap.size + 1 + 1 < W.heap.size := World.block_lt_of_cell? W _ hc4
  have hbl : w.heap.size + 1 < W.heap.size := World.block_lt_of_cell? W _ hc2
  have hlt := pw_lt a (bval pre)
  obtain ⟨v, hv⟩ : ∃ v, bval pre = v := ⟨_, rfl⟩
  have hsn := Lib.hid (bval_snoc pre x)
  rw [hv] at hc2 hlt hsn
  obtain ⟨c, hc⟩ : ∃ c, pw a v = c := ⟨_, rfl⟩
  rw [hc] at hc2 hlt
  have Hlt := Lib.hid hlt
  have h0 := Lib.hid (pw_step0 a v)
  have h1 := Lib.hid (pw_step1 a v)
  rw [hc] at h0
  clear hlt hv hc
  obtain ⟨c2, e2⟩ : ∃ c2, pw a (2 * v) = c2 := ⟨_, rfl⟩
  obtain ⟨c3, e3⟩ : ∃ c3, pw a (2 * v + 1) = c3 := ⟨_, rfl⟩
  rw [e2] at h0 h1
  rw [e3] at h1
  have Hc2 : Hid (c2 < cP) := by show _ < _; rw [← e2]; exact pw_lt _ _
  have E2 := Lib.hid e2; have E3 := Lib.hid e3
  clear e2 e3
  cases x with
  | false =>
   gi_wp2_with fail
   refine ⟨trivial, ?_⟩
   refine (CallsIn.inRound l (callsIn_wide.2 (times_is c c c2 h0 Hlt Hlt _))).mono ?_
   rintro e W1 ⟨rfl, hb1⟩
   have d1 := cell_ext hb1 hc1
   have d2 := cell_ext hb1 hc2
   have d4 := cell_ext hb1 hc4
   have df : W1.frozen? ⟨w.heap.size + 1, 0, none⟩ = false := (hb1.frozen (p := ⟨w.heap.size + 1, 0, none⟩) hbl).trans hf2
   have hbl1 : w.heap.size + 1 < W1.heap.size := World.block_lt_of_cell? W1 _ d2
   clear hc1 hc2 hf2 hc4
   gi_wp2_with fail
   refine ⟨(keepsOthers_of_below hb1).trans (KeepsOthers.setCell _ _ _), (Below.heap_setCell _ _ _ _ (by show w.heap.size + 1 + 1 ≠ w.heap.size + 1; omega)).trans (hb1.block _ hW2), ⟨?_, ?_, ?_, ?_⟩, ?_⟩
   · rw [World.cell?_setCell_other _ _ _ _ (by simp)]; exact d1
   · rw [hsn.out]; simp only [Bool.false_eq_true, if_false, Nat.add_zero]; rw [E2.out]; exact World.cell?_setCell_same' _ _ _ (by rw [d2]; rfl)
   · rw [World.frozen?_setCell]; exact df
   · rw [World.cell?_setCell_other _ _ _ _ (by simp)]; exact d4
   · exact (below_ext hB hb1).setCell (p := ⟨w.heap.size + 1, 0, none⟩) (by show _ ≤ w.heap.size + 1; omega) _
  | true =>
   gi_wp2_with fail
   refine ⟨trivial, ?_⟩
   refine (CallsIn.inRound l (callsIn_wide.2 (times_is c c c2 h0 Hlt Hlt _))).mono ?_
   rintro e W1 ⟨rfl, hb1⟩
   have d1 := cell_ext hb1 hc1
   have d2 := cell_ext hb1 hc2
   have d4 := cell_ext hb1 hc4
   have df : W1.frozen? ⟨w.heap.size + 1, 0, none⟩ = false := (hb1.frozen (p := ⟨w.heap.size + 1, 0, none⟩) hbl).trans hf2
   have hbl1 : w.heap.size + 1 < W1.heap.size := World.block_lt_of_cell? W1 _ d2
   clear hc1 hc2 hf2 hc4
   have s1 : (W1.setCell ⟨w.heap.size + 1, 0, none⟩ (.int .u64 (c2 : Int))).cell? ⟨w.heap.size, 0, none⟩ = some (.int .u64 a) := by rw [World.cell?_setCell_other _ _ _ _ (by simp)]; exact d1
   have s2 : (W1.setCell ⟨w.heap.size + 1, 0, none⟩ (.int .u64 (c2 : Int))).cell? ⟨w.heap.size + 1, 0, none⟩ = some (.int .u64 (c2 : Int)) := World.cell?_setCell_same' _ _ _ (by rw [d2]; rfl)
   have s4 : (W1.setCell ⟨w.heap.size + 1, 0, none⟩ (.int .u64 (c2 : Int))).cell? ⟨w.heap.size + 1 + 1, 0, none⟩ = some (.int .u64 k) := by rw [World.cell?_setCell_other _ _ _ _ (by simp)]; exact d4
   have sf : (W1.setCell ⟨w.heap.size + 1, 0, none⟩ (.int .u64 (c2 : Int))).frozen? ⟨w.heap.size + 1, 0, none⟩ = false := by rw [World.frozen?_setCell]; exact df
   gi_wp2_with fail
   refine ⟨trivial, ?_⟩
   refine (CallsIn.inRound l (callsIn_wide.2 (times_is c2 a c3 h1 Hc2 ha _))).mono ?_
   rintro e W2 ⟨rfl, hb2⟩
   have z1 := cell_ext hb2 s1
   have z2 := cell_ext hb2 s2
   have z4 := cell_ext hb2 s4
   have zf : W2.frozen? ⟨w.heap.size + 1, 0, none⟩ = false := (hb2.frozen (p := ⟨w.heap.size + 1, 0, none⟩) (World.block_lt_of_cell? _ _ s2)).trans sf
   have hW12 : w.heap.size + 1 + 1 < W1.heap.size := World.block_lt_of_cell? W1 _ d4
   have hsz : (W1.setCell ⟨w.heap.size + 1, 0, none⟩ (.int .u64 (c2 : Int))).heap.size = W1.heap.size := by simp [World.setCell]
   have hB1 := (below_ext hB hb1).setCell (p := ⟨w.heap.size + 1, 0, none⟩) (by show _ ≤ w.heap.size + 1; omega) (.int .u64 (c2 : Int))
   clear s1 s2 s4 sf d1 d2 d4 df
   gi_wp2_with fail
   refine ⟨(((keepsOthers_of_below hb1).trans (KeepsOthers.setCell _ _ _)).trans (keepsOthers_of_below hb2)).trans (KeepsOthers.setCell _ _ _), ?_, ⟨?_, ?_, ?_, ?_⟩, ?_⟩
   · exact (Below.heap_setCell _ _ _ _ (by show w.heap.size + 1 + 1 ≠ w.heap.size + 1; omega)).trans ((hb2.block _ (by rw [hsz]; exact hW12)).trans ((Below.heap_setCell _ _ _ _ (by show w.heap.size + 1 + 1 ≠ w.heap.size + 1; omega)).trans (hb1.block _ hW2)))
   · rw [World.cell?_setCell_other _ _ _ _ (by simp)]; exact z1
   · rw [hsn.out]; simp only [if_true]; rw [E3.out]; exact World.cell?_setCell_same' _ _ _ (by rw [z2]; rfl)
   · rw [World.frozen?_setCell]; exact zf
   · rw [World.cell?_setCell_other _ _ _ _ (by simp)]; exact z4
   · exact (hB1.trans (hb2.mono hB1.size)).setCell (p := ⟨w.heap.size + 1, 0, none⟩) (by show _ ≤ w.heap.size + 1; omega) _
 case done =>
  rintro D ys W hD rfl ⟨⟨_, hc, _, _⟩, hB⟩ hK
  gi_wp2
  refine ⟨by simp, .inl ⟨_, _, rfl, run_takeDeferred hK, ?_⟩⟩
  have hv : bval (bitsF (Lib.bitLen k) k) = k := bval_bitsF _ _ (bitLen_lt k hk.out).1
  exact ⟨_, results_tmp rfl _ _ _, by show Ending.returned (.int .u64 ((pw a (bval (bitsF (Lib.bitLen k) k)) : Nat) : Int)) = _; rw [hv], hB.trans (belowK_b (w := w) (Nat.le_refl _) W D _ _ (by omega) hK rfl rfl)⟩
 case stop =>
  rintro D c pre W _ _ h _
  exact h.elim
end Go.Proofs.YtdblnbnofjggnaaGreatDoor
namespace Go.Proofs.YtdblnbnofjggnaaGreatDoor
open Go.RowKit Go.Shelf
theorem power_isP (a r : Nat) (hr : Hid (pw a cQ = r)) (ha : Hid (a < cP)) (yi : Int) (hy : yi = (cQ : Int)) (w : World) : Calls Tryz.prog 188 #[.int .u64 a, .int .u64 yi] w fun e w' => e = .returned (.int .u64 (r : Int)) ∧ Below w.heap.size w w' := by
 subst hy
 have h := power_any a cQ ha (Lib.hid (by decide)) w
 rw [hr.out] at h; exact h
theorem power_is (a k r : Nat) (hr : Hid (pw a k = r)) (ha : Hid (a < cP)) (hk : Hid (k < 18446744073709551616)) (w : World) : Calls Tryz.prog 188 #[.int .u64 a, .int .u64 k] w fun e w' => e = .returned (.int .u64 (r : Int)) ∧ Below w.heap.size w w' := by
 have h := power_any a k ha hk w
 rw [hr.out] at h; exact h
theorem check_low (a : Int) (ha : Hid (a < 1)) (w : World) : Calls Tryz.prog 142 #[.int .i64 a] w fun e w' => e = .returned (.int .i64 30) ∧ Below w.heap.size w w' := by
 have t1 : decide (a < 1) = true := decide_eq_true ha.out
 go_enter Tryz.func142, Tryz.ntmps142
 go_wp2
 go_ret
 exact ⟨rfl, Below.refl _ w⟩
theorem check_high (a : Int) (ha : Hid ((cP : Int) ≤ a)) (w : World) : Calls Tryz.prog 142 #[.int .i64 a] w fun e w' => e = .returned (.int .i64 30) ∧ Below w.heap.size w w' := by
 have h := ha.out
 have t1 : decide (a < 1) = false := by rw [decide_eq_false_iff_not]; have : (1 : Int) ≤ (cP : Int) := by decide
                                        omega
 have t2 : decide ((4611686018427377339 : Int) ≤ a) = true := decide_eq_true h
 clear h
 go_enter Tryz.func142, Tryz.ntmps142
 go_wp2
 go_ret
 exact ⟨rfl, Below.refl _ w⟩
theorem check_mid (a r : Nat) (h1 : Hid (1 ≤ a)) (h2 : Hid (a < cP)) (hr : Hid (pw a cQ = r)) (w : World) : Calls Tryz.prog 142 #[.int .i64 a] w fun e w' => e = .returned (.int .i64 (if r = 1 then 0 else 30)) ∧ Below w.heap.size w w' := by
 have t1 : decide ((a : Int) < 1) = false := by rw [decide_eq_false_iff_not]; have := h1.out; omega
 have t2 : decide ((4611686018427377339 : Int) ≤ (a : Int)) = false := by rw [decide_eq_false_iff_not]; have h : (a : Int) < (cP : Int) := Int.ofNat_lt.2 h2.out
                                                                          exact Int.not_le.2 h
 have e1 : IntKind.u64.wrap (a : Int) = (a : Int) := Go.Proofs.Mul64.wrapN _ (Nat.lt_trans h2.out (by decide))
 go_enter Tryz.func142, Tryz.ntmps142
 go_wp2_with fail
 refine (power_isP a r hr h2 _ rfl _).mono ?_
 rintro e w1 ⟨rfl, hb⟩
 by_cases hr1 : r = 1
 · subst hr1
   go_wp2_with fail
   go_ret
   exact ⟨rfl, hb⟩
 · have t3 : ((r : Int) == 1) = false := by rw [beq_eq_false_iff_ne]; omega
   go_wp2_with fail
   go_ret
   exact ⟨rfl, hb⟩
theorem check_ok (a : Nat) (h : Hid (isEl a)) (w : World) : Calls Tryz.prog 142 #[.int .i64 a] w fun e w' => e = .returned (.int .i64 0) ∧ Below w.heap.size w w' :=
 check_mid a 1 (Lib.hid h.out.1) (Lib.hid h.out.2.1) (Lib.hid h.out.2.2) w
def ZEl (a : Int) : Prop := 1 ≤ a ∧ isEl a.toNat
theorem check_bad (a : Int) (h : Hid (¬ ZEl a)) (w : World) : Calls Tryz.prog 142 #[.int .i64 a] w fun e w' => e = .returned (.int .i64 30) ∧ Below w.heap.size w w' := by
 by_cases h1 : a < 1
 · exact check_low a (Lib.hid h1) w
 · by_cases h2 : (cP : Int) ≤ a
   · exact check_high a (Lib.hid h2) w
   · obtain ⟨n, rfl⟩ : ∃ n : Nat, a = (n : Int) := ⟨a.toNat, by omega⟩
     have hn1 : 1 ≤ n := by omega
     have hn2 : n < cP := by omega
     have hne : pw n cQ ≠ 1 := fun hh => h.out ⟨by omega, hn1, hn2, hh⟩
     have := check_mid n _ (Lib.hid hn1) (Lib.hid hn2) (Lib.hid rfl) w
     rw [if_neg hne] at this
     exact this
end Go.Proofs.YtdblnbnofjggnaaGreatDoor
namespace Go.Proofs.YtdblnbnofjggnaaGreatDoor
open Go.RowKit Go.Shelf
theorem sc_tests {x : Int} (h : 0 ≤ x ∧ x < (cQ : Int)) : decide (x < 0) = false ∧ decide ((2305843009213688669 : Int) ≤ x) = false := by
 refine ⟨decide_eq_false (by omega), decide_eq_false ?_⟩
 have : x < (2305843009213688669 : Int) := h.2
 omega
theorem scalars_one (x : Int) (b cap : Nat) (h : Hid (0 ≤ x ∧ x < (cQ : Int))) (w : World) (hc : w.cell? ⟨b, 0, none⟩ = some (.int .i64 x)) :
 Calls Tryz.prog 177 #[.slice (some ⟨b, 0, none⟩) 1 cap] w fun e w' => e = .returned (.bool true) ∧ w = w' := by
 obtain ⟨t1, t2⟩ := sc_tests h.out
 go_enter Tryz.func177, Tryz.ntmps177
 go_wp2
 refine wp_loop_rounds 2 ?_
 rw [rounds_succ]; go_wp2
 rw [rounds_succ]; go_wp2
 go_ret
 exact ⟨rfl, rfl⟩
theorem scalars_two (x y : Int) (b cap : Nat) (h : Hid (0 ≤ x ∧ x < (cQ : Int))) (h2 : Hid (0 ≤ y ∧ y < (cQ : Int))) (w : World) (hc : w.cell? ⟨b, 0, none⟩ = some (.int .i64 x)) (hc2 : w.cell? ⟨b, 1, none⟩ = some (.int .i64 y)) :
 Calls Tryz.prog 177 #[.slice (some ⟨b, 0, none⟩) 2 cap] w fun e w' => e = .returned (.bool true) ∧ w = w' := by
 obtain ⟨t1, t2⟩ := sc_tests h.out
 obtain ⟨t3, t4⟩ := sc_tests h2.out
 go_enter Tryz.func177, Tryz.ntmps177
 go_wp2
 refine wp_loop_rounds 3 ?_
 rw [rounds_succ]; go_wp2
 rw [rounds_succ]; go_wp2
 rw [rounds_succ]; go_wp2
 go_ret
 exact ⟨rfl, rfl⟩
theorem sum_any (x y r : Nat) (hx : Hid (x < cQ)) (hy : Hid (y < cQ)) (hr : Hid ((x + y) % cQ = r)) (w : World) :
 Calls Tryz.prog 132 #[.int .i64 x, .int .i64 y] w fun e w' => e = .returned (.tuple #[.int .i64 r, .int .i64 0]) ∧ Below w.heap.size w w' := by
 obtain ⟨s, hs⟩ : ∃ s, x + y = s := ⟨_, rfl⟩
 have e1 : IntKind.i64.wrap ((x : Int) + (y : Int)) = (s : Int) := by
  have h1 : x < 2305843009213688669 := hx.out
  have h2 : y < 2305843009213688669 := hy.out
  rw [show (x : Int) + (y : Int) = (s : Int) from by omega]; simp only [IntKind.wrap_i64]; omega
 have e2 : (s : Int).tmod 2305843009213688669 = (r : Int) := by
  rw [← hr.out, hs, Int.ofNat_tmod]; rfl
 have hxx : Hid (0 ≤ (x : Int) ∧ (x : Int) < (cQ : Int)) := ⟨by omega, Int.ofNat_lt.2 hx.out⟩
 have hyy : Hid (0 ≤ (y : Int) ∧ (y : Int) < (cQ : Int)) := ⟨by omega, Int.ofNat_lt.2 hy.out⟩
 clear hs
 go_enter Tryz.func132, Tryz.ntmps132
 go_wp2_with fail
 refine (scalars_two x y _ _ hxx hyy _ (by simp) (by simp)).mono ?_
 rintro e w1 ⟨rfl, rfl⟩
 go_wp2
 go_ret2
 exact ⟨rfl, (Below.refl _ w).alloc (Nat.le_refl _) _⟩
end Go.Proofs.YtdblnbnofjggnaaGreatDoor
namespace Go.Proofs.YtdblnbnofjggnaaGreatDoor
open Go.RowKit Go.Shelf
theorem prod_any (x y r : Nat) (hx : Hid (x < cQ)) (hy : Hid (y < cQ)) (hr : Hid (x * y % cQ = r)) (w : World) :
 Calls Tryz.prog 131 #[.int .i64 x, .int .i64 y] w fun e w' => e = .returned (.tuple #[.int .i64 r, .int .i64 0]) ∧ Below w.heap.size w w' := by
 have hxx : Hid (0 ≤ (x : Int) ∧ (x : Int) < (cQ : Int)) := ⟨by omega, Int.ofNat_lt.2 hx.out⟩
 have hyy : Hid (0 ≤ (y : Int) ∧ (y : Int) < (cQ : Int)) := ⟨by omega, Int.ofNat_lt.2 hy.out⟩
 have e1 : IntKind.u64.wrap (x : Int) = (x : Int) := Go.Proofs.Mul64.wrapN _ (Nat.lt_trans hx.out (by decide))
 have e2 : IntKind.u64.wrap (y : Int) = (y : Int) := Go.Proofs.Mul64.wrapN _ (Nat.lt_trans hy.out (by decide))
 have hrl : r < cQ := by rw [← hr.out]; exact Nat.mod_lt _ (by decide)
 have e3 : IntKind.i64.wrap (r : Int) = (r : Int) := by
  have h : r < 2305843009213688669 := hrl
  simp only [IntKind.wrap_i64]; omega
 have hhi := Lib.hid (prod_hi hx.out hy.out (by decide : cQ ≤ 18446744073709551616))
 have hlo : Hid (x * y % 18446744073709551616 < 18446744073709551616) := Nat.mod_lt _ (by decide)
 have hdm : Hid (x * y / 18446744073709551616 * 18446744073709551616 + x * y % 18446744073709551616 = x * y) := by show _ = _; rw [Nat.mul_comm]; exact Nat.div_add_mod _ _
 clear hrl
 go_enter Tryz.func131, Tryz.ntmps131
 go_wp2_with fail
 refine (scalars_two x y _ _ hxx hyy _ (by simp) (by simp)).mono ?_
 rintro e w1 ⟨rfl, rfl⟩
 go_wp2_with fail
 refine (mul64_any x y (Nat.lt_trans hx.out (by decide)) (Nat.lt_trans hy.out (by decide)) _).mono ?_
 rintro e w1 ⟨rfl, rfl⟩
 generalize x * y / 18446744073709551616 = hi at *
 generalize x * y % 18446744073709551616 = lo at *
 go_wp2_with fail
 refine (divQ_any hi lo _ rfl hhi.out hlo _).mono ?_
 rw [hdm.out, hr.out]
 rintro e w2 ⟨rfl, hb⟩
 generalize x * y / cQ = qq
 go_wp2_with fail
 go_ret2
 exact ⟨rfl, below_after hb⟩
theorem exp_ok (a k r : Nat) (ha : Hid (isEl a)) (hk : Hid (k < cQ)) (hr : Hid (pw a k = r)) (w : World) :
 Calls Tryz.prog 144 #[.int .i64 a, .int .i64 k] w fun e w' => e = .returned (.tuple #[.int .i64 r, .int .i64 0]) ∧ Below w.heap.size w w' := by
 have hkk : Hid (0 ≤ (k : Int) ∧ (k : Int) < (cQ : Int)) := ⟨by omega, Int.ofNat_lt.2 hk.out⟩
 have hal : Hid (a < cP) := ha.out.2.1
 have hk2 : Hid (k < 18446744073709551616) := Nat.lt_trans hk.out (by decide)
 have e1 : IntKind.u64.wrap (a : Int) = (a : Int) := Go.Proofs.Mul64.wrapN _ (Nat.lt_trans hal.out (by decide))
 have e2 : IntKind.u64.wrap (k : Int) = (k : Int) := Go.Proofs.Mul64.wrapN _ hk2.out
 have hrl : r < cP := by rw [← hr.out]; exact pw_lt _ _
 have e3 : IntKind.i64.wrap (r : Int) = (r : Int) := by
  have h : r < 4611686018427377339 := hrl
  simp only [IntKind.wrap_i64]; omega
 clear hrl
 go_enter Tryz.func144, Tryz.ntmps144
 go_wp2_with fail
 refine (check_ok a ha _).mono ?_
 rintro e w1 ⟨rfl, hb1⟩
 go_wp2_with fail
 refine (scalars_one k _ _ hkk _ (by simp)).mono ?_
 rintro e w2 ⟨rfl, rfl⟩
 go_wp2_with fail
 refine (power_is a k r hr hal hk2 _).mono ?_
 rintro e w3 ⟨rfl, hb3⟩
 go_wp2_with fail
 go_ret2
 exact ⟨rfl, below_ext hb1 (below_after hb3)⟩
theorem el_four : isEl 4 := ⟨by decide, by decide, by rw [← powM_eq cP 64 4 cQ (by decide)]; decide +kernel⟩
theorem base_ok (k r : Nat) (hk : Hid (k < cQ)) (hr : Hid (pw 4 k = r)) (w : World) :
 Calls Tryz.prog 130 #[.int .i64 k] w fun e w' => e = .returned (.tuple #[.int .i64 r, .int .i64 0]) ∧ Below w.heap.size w w' := by
 go_enter Tryz.func130, Tryz.ntmps130
 go_wp2_with fail
 refine (exp_ok 4 k r (Lib.hid el_four) hk hr _).mono ?_
 rintro e w1 ⟨rfl, hb1⟩
 go_wp2_with fail
 go_ret2
 exact ⟨rfl, hb1⟩
theorem mul_ok (a b r : Nat) (ha : Hid (isEl a)) (hb : Hid (isEl b)) (hr : Hid (a * b % cP = r)) (w : World) :
 Calls Tryz.prog 145 #[.int .i64 a, .int .i64 b] w fun e w' => e = .returned (.tuple #[.int .i64 r, .int .i64 0]) ∧ Below w.heap.size w w' := by
 have hal : Hid (a < cP) := ha.out.2.1
 have hbl : Hid (b < cP) := hb.out.2.1
 have e1 : IntKind.u64.wrap (a : Int) = (a : Int) := Go.Proofs.Mul64.wrapN _ (Nat.lt_trans hal.out (by decide))
 have e2 : IntKind.u64.wrap (b : Int) = (b : Int) := Go.Proofs.Mul64.wrapN _ (Nat.lt_trans hbl.out (by decide))
 have hrl : r < cP := by rw [← hr.out]; exact Nat.mod_lt _ (by decide)
 have e3 : IntKind.i64.wrap (r : Int) = (r : Int) := by
  have h : r < 4611686018427377339 := hrl
  simp only [IntKind.wrap_i64]; omega
 clear hrl
 have i0 : ∀ w : World, (Instr.index 203 (.agg #[.int .i64 a, .int .i64 b]) (.int .i64 0)).run Tryz.prog w = .ok (.int .i64 a) w := fun _ => by kernel_rfl
 have i1 : ∀ w : World, (Instr.index 203 (.agg #[.int .i64 a, .int .i64 b]) (.int .i64 1)).run Tryz.prog w = .ok (.int .i64 b) w := fun _ => by kernel_rfl
 go_enter Tryz.func145, Tryz.ntmps145
 go_wp2_with fail
 refine wp_loop_rounds 3 ?_
 rw [rounds_succ]; go_wp2_with fail
 refine (check_ok a ha _).mono ?_
 rintro e w1 ⟨rfl, hb1⟩
 go_wp2_with fail
 rw [rounds_succ]; go_wp2_with fail
 refine (check_ok b hb _).mono ?_
 rintro e w2 ⟨rfl, hb2⟩
 go_wp2_with fail
 rw [rounds_succ]; go_wp2_with fail
 refine (times_is a b r hr hal hbl _).mono ?_
 rintro e w3 ⟨rfl, hb3⟩
 go_wp2_with fail
 go_ret2
 exact ⟨rfl, below_ext (below_ext hb1 hb2) hb3⟩
end Go.Proofs.YtdblnbnofjggnaaGreatDoor
namespace Go.Proofs.YtdblnbnofjggnaaGreatDoor
def sigS (k c x : Nat) : Nat := (k + c * x % cQ) % cQ
theorem pw4_mod (k : Nat) : pw 4 (k % cQ) = pw 4 k := pw_mod el_four k
theorem sig_eq (k c x : Nat) : pw 4 (sigS k c x) = pw 4 k * pw (pw 4 x) c % cP := by
 unfold sigS
 rw [pw4_mod, ← pw_add, pw4_mod, pw_mul, Nat.mul_comm c x]
theorem q1 : cQ - 1 + 1 = cQ := by decide
end Go.Proofs.YtdblnbnofjggnaaGreatDoor
