/- Merged: Tno Tch Tnr Top Trh. -/
import Derived.Test.YtbonebmboolemaaDoorK10
import Derived.Test.YtbonebmboolemaaDoorK15
import Derived.Test.YtbonebmboolemaaDoorK21
import Derived.StillTailTactics
import Derived.Deep.MidRow
/- digest: leaf, node; the reference's node. -/
namespace Go.Proofs.YtbonebmboolemaaDoor
open Go.RowKit
theorem tagD_1 (t l : List UInt8) : (tagD t l).1 = tagged t l := rfl
def ZD : Obj := .cells (bcells dgZ.1).toArray 29
def bD (d : Dg) : Obj := .cells (bcells d.1).toArray 29
theorem cb_one (w : World) (o : Obj) (t : TypeId) (cs : List Value) (h : o = .cells cs.toArray t) : CB (w.alloc o) w.heap.size t cs := by subst h; exact CB.new w _ _
theorem b_al {w : World} (o : Obj) : Below w.heap.size w (w.alloc o) := (Below.refl w.heap.size w).alloc (Nat.le_refl _) o
set_option maxRecDepth 100000 in
set_option maxHeartbeats 1000000 in
theorem dleaf_any (d : Dg) (w : World) (hL : Laid w) : Calls Tryd.prog 50 #[dv d.1] w fun e w' => e = .returned (dv (leafD d).1) ∧ Below w.heap.size w w' := by
  have HL := Lib.hid hL
  clear hL
  obtain ⟨l, hl⟩ := d
  have Hl := Lib.hid hl
  have H0 : Hid (CB ((w.alloc (bD ⟨l, hl⟩)).alloc ZD) w.heap.size 29 (bcells l)) := (cb_one w _ _ _ rfl).alloc _
  have H1 : Hid (CB ((w.alloc (bD ⟨l, hl⟩)).alloc ZD) (w.heap.size + 1) 29 (bcells dgZ.1)) := by
    have := cb_one (w.alloc (bD ⟨l, hl⟩)) ZD _ _ rfl
    rw [World.size_alloc] at this; exact this
  have HB : Hid (Below w.heap.size w ((w.alloc (bD ⟨l, hl⟩)).alloc ZD)) := by
    refine Below.alloc ((Below.refl w.heap.size w).alloc (Nat.le_refl _) _) ?_ _; simp only [World.size_alloc]; omega
  change Calls Tryd.prog 50 #[dv l] w fun e w' => e = .returned (dv (tagged leafT l)) ∧ Below w.heap.size w w'
  have hrl := tagged_len leafT l
  obtain ⟨r, hr⟩ : ∃ r, tagged leafT l = r := ⟨_, rfl⟩
  rw [hr] at hrl ⊢
  have Hr := Lib.hid hr; have Hrl := Lib.hid hrl
  clear hr hrl
  change Calls Tryd.prog 50 #[.agg (bcells l).toArray] w _
  go_enter Tryd.func50, Tryd.ntmps50
  go_upto_region 1 with fail
  change Code.wp _ _ _ _ ((w.alloc (bD ⟨l, hl⟩)).alloc ZD)
  generalize (w.alloc (bD ⟨l, hl⟩)).alloc ZD = w0 at *
  clear hl
  have hcall := Lib.hid (tagged_any ⟨#[108, 101, 97, 102]⟩ _ l w0 (by decide) (by rw [Hl.out]; decide) (dig_bts H0.out Hl.out) (HL.out.ext HB.out))
  go_wp2_with fail
  refine hcall.out.mono ?_
  rintro e w6 ⟨rfl, hb6⟩
  rw [show tagged (ByteArray.data ⟨#[108, 101, 97, 102]⟩).toList l = r from Hr.out]
  have HT : Hid (w6.heap[w.heap.size + 1]? = some (.cells (bcells dgZ.1).toArray 29 (0, 0))) := H1.out.ext hb6
  have HB6 := Lib.hid (below_ext HB.out hb6)
  clear hb6
  go_wp2_with (with_reducible refine wpList_store_d (hgd := rfl) 29 (.tmp 2) (.tmp 4) rfl (w.heap.size + 1) r Hrl.out rfl rfl 29 _ HT.out rfl dig_sz ?_; intro w7 hc7 hg7 hz7)
  refine bodyPost_ret (v := dv r) (results_cell_row rfl _ _ (w.heap.size + 1) 29 (bcells r).toArray (0, 0) _ rfl hc7.out Tryd.underlying29 rfl (by rw [List.size_toArray, bcells_length, Hrl.out]; exact dig_sz)) rfl ?_
  exact ⟨rfl, HB6.out.grown hg7.out HB6.out.size (fun k hk => by injection hk; omega)⟩
set_option maxRecDepth 100000 in
set_option maxHeartbeats 2000000 in
theorem dnode_any (a b : Dg) (w : World) (hL : Laid w) : Calls Tryd.prog 52 #[dv a.1, dv b.1] w fun e w' => e = .returned (dv (nodeD a b).1) ∧ Below w.heap.size w w' := by
  have HL := Lib.hid hL
  clear hL
  obtain ⟨l, hl⟩ := a
  obtain ⟨m, hm⟩ := b
  have Hl := Lib.hid hl; have Hm := Lib.hid hm
  have H0 : Hid (CB (((w.alloc (bD ⟨l, hl⟩)).alloc (bD ⟨m, hm⟩)).alloc ZD) w.heap.size 29 (bcells l)) := ((cb_one w _ _ _ rfl).alloc _).alloc _
  have H1 : Hid (CB (((w.alloc (bD ⟨l, hl⟩)).alloc (bD ⟨m, hm⟩)).alloc ZD) (w.heap.size + 1) 29 (bcells m)) := by
    have := cb_one (w.alloc (bD ⟨l, hl⟩)) (bD ⟨m, hm⟩) _ _ rfl
    rw [World.size_alloc] at this; exact this.alloc _
  have H2 : Hid (CB (((w.alloc (bD ⟨l, hl⟩)).alloc (bD ⟨m, hm⟩)).alloc ZD) (w.heap.size + 1 + 1) 29 (bcells dgZ.1)) := by
    have := cb_one ((w.alloc (bD ⟨l, hl⟩)).alloc (bD ⟨m, hm⟩)) ZD _ _ rfl
    rw [World.size_alloc, World.size_alloc] at this; exact this
  have HB : Hid (Below w.heap.size w (((w.alloc (bD ⟨l, hl⟩)).alloc (bD ⟨m, hm⟩)).alloc ZD)) := by
    refine Below.alloc (Below.alloc ((Below.refl w.heap.size w).alloc (Nat.le_refl _) _) ?_ _) ?_ _ <;> simp only [World.size_alloc] <;> omega
  change Calls Tryd.prog 52 #[dv l, dv m] w fun e w' => e = .returned (dv (tagged nodeT (l ++ m))) ∧ Below w.heap.size w w'
  have hrl := tagged_len nodeT (l ++ m)
  obtain ⟨r, hr⟩ : ∃ r, tagged nodeT (l ++ m) = r := ⟨_, rfl⟩
  rw [hr] at hrl ⊢
  have Hr := Lib.hid hr; have Hrl := Lib.hid hrl
  clear hr hrl
  change Calls Tryd.prog 52 #[.agg (bcells l).toArray, .agg (bcells m).toArray] w _
  go_enter Tryd.func52, Tryd.ntmps52
  go_upto_region 1 with fail
  change Code.wp _ _ _ _ (((w.alloc (bD ⟨l, hl⟩)).alloc (bD ⟨m, hm⟩)).alloc ZD)
  generalize ((w.alloc (bD ⟨l, hl⟩)).alloc (bD ⟨m, hm⟩)).alloc ZD = w0 at *
  clear hl hm
  go_still_tail 2, (by kernel_rfl)
  change wpList _ _ _ _ _ w0.drew
  have K0 := Lib.hid (H0.out.ext (Below.refl w0.heap.size w0).drew); have K1 := Lib.hid (H1.out.ext (Below.refl w0.heap.size w0).drew); have K2 := Lib.hid (H2.out.ext (Below.refl w0.heap.size w0).drew); have KB := Lib.hid HB.out.drew
  clear H0 H1 H2 HB
  generalize w0.drew = w1 at *
  have k0 := (cb_one w1 (.cells #[.slice (some ⟨w.heap.size, 0, none⟩) 32 32, .slice (some ⟨w.heap.size + 1, 0, none⟩) 32 32] 50) 50 [.slice (some ⟨w.heap.size, 0, none⟩) 32 32, .slice (some ⟨w.heap.size + 1, 0, none⟩) 32 32] rfl)
  have hcat := Lib.hid (concat2 w1.heap.size _ _ l m (w1.alloc (.cells #[.slice (some ⟨w.heap.size, 0, none⟩) 32 32, .slice (some ⟨w.heap.size + 1, 0, none⟩) 32 32] 50)) (k0.cell 0) (k0.cell 1) (dig_bts (K0.out.alloc _) Hl.out) (dig_bts (K1.out.alloc _) Hm.out) (by rw [Hl.out]; decide) (by rw [Hl.out, Hm.out]; decide))
  clear k0
  have KB2 := Lib.hid (below_ext KB.out (b_al (.cells #[.slice (some ⟨w.heap.size, 0, none⟩) 32 32, .slice (some ⟨w.heap.size + 1, 0, none⟩) 32 32] 50)))
  have K22 := Lib.hid (K2.out.alloc (.cells #[.slice (some ⟨w.heap.size, 0, none⟩) 32 32, .slice (some ⟨w.heap.size + 1, 0, none⟩) 32 32] 50))
  go_wp2_with fail
  refine hcat.out.mono ?_
  rintro e w5 ⟨v5, rfl, ho5, hb5⟩
  have KB5 := Lib.hid (below_ext KB2.out hb5); have K25 := Lib.hid (K22.out.ext hb5); have HO5 := Lib.hid (own_bts ho5)
  clear hb5 ho5 hcat
  have hcall := Lib.hid (tagged_any ⟨#[110, 111, 100, 101]⟩ v5 (l ++ m) w5 (by decide) (by rw [List.length_append, Hl.out, Hm.out]; decide) HO5.out (HL.out.ext KB5.out))
  go_wp2_with fail
  refine hcall.out.mono ?_
  rintro e w6 ⟨rfl, hb6⟩
  rw [show tagged (ByteArray.data ⟨#[110, 111, 100, 101]⟩).toList (l ++ m) = r from Hr.out]
  have HT : Hid (w6.heap[w.heap.size + 1 + 1]? = some (.cells (bcells dgZ.1).toArray 29 (0, 0))) := K25.out.ext hb6
  have HB6 := Lib.hid (below_ext KB5.out hb6)
  clear hb6
  go_wp2_with (with_reducible refine wpList_store_d (hgd := rfl) 29 (.tmp 4) (.tmp 9) rfl (w.heap.size + 1 + 1) r Hrl.out rfl rfl 29 _ HT.out rfl dig_sz ?_; intro w7 hc7 hg7 hz7)
  refine bodyPost_ret (v := dv r) (results_cell_row rfl _ _ (w.heap.size + 1 + 1) 29 (bcells r).toArray (0, 0) _ rfl hc7.out Tryd.underlying29 rfl (by rw [List.size_toArray, bcells_length, Hrl.out]; exact dig_sz)) rfl ?_
  exact ⟨rfl, HB6.out.grown hg7.out HB6.out.size (fun k hk => by injection hk; omega)⟩
end Go.Proofs.YtbonebmboolemaaDoor
/- commitment: known, cost, Check. -/
namespace Go.Proofs.YtbonebmboolemaaDoor
open Go.RowKit
set_option maxHeartbeats 1000000 in
theorem known_any (a f : Int) (w : World) : Calls Tryd.prog 27 #[.int .i64 a, .int .i64 f] w fun e w' => e = .returned (.bool (knownB a f)) ∧ w = w' := by
  unfold knownB
  obtain ⟨p, hp⟩ : ∃ p, decide (0 ≤ a) = p := ⟨_, rfl⟩
  obtain ⟨q, hq⟩ : ∃ q, decide (a < 8) = q := ⟨_, rfl⟩
  obtain ⟨r, hr⟩ : ∃ r, decide (0 ≤ f) = r := ⟨_, rfl⟩
  obtain ⟨s, hs⟩ : ∃ s, decide (f ≤ 4095) = s := ⟨_, rfl⟩
  rw [hp, hq, hr, hs]
  cases p <;> cases q <;> cases r
  all_goals
    go_enter Tryd.func27, Tryd.ntmps27
    go_wp2
    go_ret
    exact ⟨by simp, rfl⟩
theorem cost_any (c : Int) (w : World) : Calls Tryd.prog 30 #[.int .i64 c] w fun e w' => e = .returned (.bool (costB c)) ∧ w = w' := by
  unfold costB
  obtain ⟨p, hp⟩ : ∃ p, decide (-1 ≤ c) = p := ⟨_, rfl⟩
  obtain ⟨q, hq⟩ : ∃ q, decide (c ≤ 1048576) = q := ⟨_, rfl⟩
  rw [hp, hq]
  cases p
  all_goals
    go_enter Tryd.func30, Tryd.ntmps30
    go_wp2
    go_ret
    exact ⟨by simp, rfl⟩
theorem check1_any (c : Int) (w : World) : Calls Tryd.prog 29 #[.int .i64 c] w fun e w' => e = .returned (.bool (!costB c)) ∧ w = w' := by
  obtain ⟨z, hz⟩ : ∃ z, costB c = z := ⟨_, rfl⟩
  have Hz := Lib.hid hz
  rw [hz]; clear hz
  go_enter Tryd.func29, Tryd.ntmps29
  go_wp2_with (go_at_call 30; refine (cost_any _ _).mono ?_; rw [Hz.out]; rintro e w' ⟨rfl, rfl⟩)
  go_ret
  exact ⟨rfl, rfl⟩
structure IxR (l : List Int) (w : World) (i : Value) (wr : World) : Prop where
  h : ∃ k : Nat, k ≤ l.length ∧ i = .int .i64 (k : Int) ∧ (∀ j y, j < k → l[j]? = some y → costB y = true) ∧ Below w.heap.size w wr
def intO : Value → Int
  | .int _ n => n
  | _ => 0
theorem all_of {l : List Int} (h : ∀ j y, j < l.length → l[j]? = some y → costB y = true) : l.all costB = true := by
  rw [List.all_eq_true]
  intro x hx
  obtain ⟨j, hj, rfl⟩ := List.getElem_of_mem hx
  exact h j _ hj (List.getElem?_eq_getElem hj)
theorem not_all {l : List Int} {j : Nat} {y : Int} (h : l[j]? = some y) (hy : costB y = false) : l.all costB = false := by
  rw [List.all_eq_false]
  obtain ⟨h1, h2⟩ := List.getElem?_eq_some_iff.1 h
  exact ⟨y, by rw [← h2]; exact List.getElem_mem h1, by simp [hy]⟩
set_option maxRecDepth 100000 in
set_option maxHeartbeats 2000000 in
theorem indexC_any (l : List Int) (v : Value) (w : World) (hl : LsAt nuK w.heap.size w l v) :
    Calls Tryd.prog 53 #[v, .func (.func 29) #[] #[]] w fun e w' => ∃ i : Int, e = .returned (.int .i64 i) ∧ decide (0 ≤ i) = !l.all costB ∧ Below w.heap.size w w' := by
  obtain ⟨oa, cap, rfl, hlm⟩ := hl.shape
  have bl : (l.length : Int) ≤ 9223372036854775807 := by omega
  have HL := Lib.hid hl
  clear hl hlm
  go_enter Tryd.func53, Tryd.ntmps53
  go_wp2_with fail
  go_loopw [5, 8] (fun _ i wr => IxR l w i wr) (fun _ i _ => l.length - (intO i).toNat)
  case atStart => exact ⟨⟨0, by omega, rfl, fun j y h => by omega, Below.refl _ _⟩⟩
  case round =>
    obtain ⟨k, hk, rfl, hn, hb⟩ := hrel.h
    have HN := Lib.hid hn; have HB := Lib.hid hb
    clear hn hb hrel
    by_cases hlt : k < l.length
    · have tj : decide ((k : Int) < (l.length : Int)) = true := by simp; omega
      have tj' : decide (k < l.length) = true := by simp; omega
      have kb : (k : Int) < (l.length : Int) := by omega
      obtain ⟨x, hx⟩ : ∃ x, l[k]? = some x := ⟨_, List.getElem?_eq_getElem hlt⟩
      obtain ⟨b, off, rfl, _, hat⟩ := (HL.out.ext HB.out).at hlt
      have c0 := hat k x hx 0 _ rfl
      have HX := Lib.hid hx
      clear hat hx
      have c0 : wr.cell? ⟨b, off + k, none⟩ = some (.int .i64 x) := by simpa [nuK] using c0
      obtain ⟨z, hz⟩ : ∃ z, costB x = z := ⟨_, rfl⟩
      have Hz := Lib.hid hz
      clear hz
      cases z
      · go_wp2_with (go_at_call 29; refine (check1_any x _).mono ?_; rw [Hz.out]; rintro e w7 ⟨rfl, rfl⟩)
        go_ret
        exact ⟨_, rfl, by rw [not_all HX.out Hz.out]; simp, HB.out⟩
      · go_wp2_with (go_at_call 29; refine (check1_any x _).mono ?_; rw [Hz.out]; rintro e w7 ⟨rfl, rfl⟩)
        go_roundw
        case rel => exact ⟨⟨k + 1, by omega, by go_num, fun j y hj hy => by
          by_cases e : j = k
          · subst e; rw [HX.out] at hy; injection hy with hy; subst hy; exact Hz.out
          · exact HN.out j y (by omega) hy, HB.out⟩⟩
        case measure => simp [intO]; omega
    · obtain rfl : k = l.length := by omega
      have tj : decide ((l.length : Int) < (l.length : Int)) = false := by simp
      go_wp2_with fail
      go_ret
      exact ⟨_, rfl, by rw [all_of HN.out]; rfl, HB.out⟩
set_option maxRecDepth 100000 in
theorem contains_any (l : List Int) (v : Value) (w : World) (hl : LsAt nuK w.heap.size w l v) :
    Calls Tryd.prog 28 #[v, .func (.func 29) #[] #[]] w fun e w' => e = .returned (.bool (!l.all costB)) ∧ Below w.heap.size w w' := by
  have HI := Lib.hid (indexC_any l v w hl)
  obtain ⟨oa, cap, rfl, hlm⟩ := hl.shape
  clear hl hlm
  obtain ⟨z, hz⟩ : ∃ z, (!l.all costB) = z := ⟨_, rfl⟩
  rw [hz] at HI ⊢
  clear hz
  go_enter Tryd.func28, Tryd.ntmps28
  go_wp2_with (go_at_call 53; refine HI.out.mono ?_; rintro e w' ⟨i, rfl, hi, hb⟩; have HB := Lib.hid hb; clear hb)
  go_ret
  exact ⟨by first | rfl | rw [hi], HB.out⟩
set_option maxRecDepth 100000 in
set_option maxHeartbeats 2000000 in
theorem check_any2 (t : Tab) (r : Tb) (w : World) (hr : TabR w t r) :
    Calls Tryd.prog 11 #[r.v] w fun e w' => e = .returned (.int .i64 (ckT t)) ∧ Below w.heap.size w w' := by
  have HB := Lib.hid (b_al (w := w) (bT r))
  have HT := Lib.hid (hr.ext HB.out)
  obtain ⟨ta, tf, cs, ts⟩ := t
  obtain ⟨h1, h2, h3, h4⟩ := hr
  obtain ⟨ra, rf, oa, n, cap, rs⟩ := r
  simp only at h1 h2 h3
  subst h1 h2 h3
  obtain ⟨_, _, he, _⟩ := h4.shape
  injection he with e1 e2 e3
  subst e2
  clear e1 e3
  have C := tb_cell (cb_one w (bT ⟨ra, rf, oa, cs.length, cap, rs⟩) _ _ rfl)
  obtain ⟨c0, c1, c2⟩ := C
  have HC := Lib.hid (contains_any cs _ _ HT.out.cs)
  have bl : cs.length ≤ 9223372036854775807 := by obtain ⟨_, _, _, h⟩ := h4.shape; exact h
  unfold ckT okT
  simp only
  obtain ⟨p, hp⟩ : ∃ p, knownB ra rf = p := ⟨_, rfl⟩
  obtain ⟨q, hq⟩ : ∃ q, cs.all costB = q := ⟨_, rfl⟩
  have Hp := Lib.hid hp
  rw [hp, hq]
  rw [hq] at HC
  clear h4 HT hp hq
  change Calls Tryd.prog 11 #[.agg (Tb.cells ⟨ra, rf, oa, cs.length, cap, rs⟩).toArray] w _
  obtain ⟨m, hm⟩ : ∃ m, cs.length = m := ⟨_, rfl⟩
  change Hid (Calls _ _ #[.slice oa cs.length cap, _] _ _) at HC
  change _ = some (Value.slice oa cs.length cap) at c2
  change _ = some (Value.int .i64 ra) at c0
  change _ = some (Value.int .i64 rf) at c1
  rw [hm] at HB HC c0 c1 c2 bl ⊢
  clear hm
  cases p
  · go_enter Tryd.func11, Tryd.ntmps11
    go_upto_region 1 with fail
    change Code.wp _ _ _ _ (w.alloc (bT ⟨ra, rf, oa, m, cap, rs⟩))
    generalize w.alloc (bT ⟨ra, rf, oa, m, cap, rs⟩) = w0 at *
    go_wp2_with (go_at_call 27; refine (known_any _ _ _).mono ?_; rw [Hp.out]; rintro e w' ⟨rfl, rfl⟩)
    go_ret
    exact ⟨rfl, HB.out⟩
  by_cases hm1 : m < 1
  · have t1 : decide ((m : Int) < 1) = true := by simp; omega
    have t1' : decide (m < 1) = true := by simpa using hm1
    have e1 : decide (1 ≤ m) = false := by simp; omega
    have e1' : decide (m = 0) = true := by simp; omega
    go_enter Tryd.func11, Tryd.ntmps11
    go_upto_region 1 with fail
    change Code.wp _ _ _ _ (w.alloc (bT ⟨ra, rf, oa, m, cap, rs⟩))
    generalize w.alloc (bT ⟨ra, rf, oa, m, cap, rs⟩) = w0 at *
    go_wp2_with (go_at_call 27; refine (known_any _ _ _).mono ?_; rw [Hp.out]; rintro e w' ⟨rfl, rfl⟩)
    all_goals (go_ret; exact ⟨by simp, HB.out⟩)
  have t1 : decide ((m : Int) < 1) = false := by simp; omega
  have t1' : decide (m < 1) = false := by simpa using hm1
  have e1 : decide (1 ≤ m) = true := by simp; omega
  have e1' : decide (m = 0) = false := by simp; omega
  by_cases h8 : 8 < m
  · have t2 : decide ((8 : Int) < (m : Int)) = true := by simp; omega
    have t2' : decide (8 < m) = true := by simpa using h8
    have e2 : decide (m ≤ 8) = false := by simp; omega
    go_enter Tryd.func11, Tryd.ntmps11
    go_upto_region 1 with fail
    change Code.wp _ _ _ _ (w.alloc (bT ⟨ra, rf, oa, m, cap, rs⟩))
    generalize w.alloc (bT ⟨ra, rf, oa, m, cap, rs⟩) = w0 at *
    go_wp2_with (go_at_call 27; refine (known_any _ _ _).mono ?_; rw [Hp.out]; rintro e w' ⟨rfl, rfl⟩)
    all_goals (go_ret; exact ⟨by simp, HB.out⟩)
  have t2 : decide ((8 : Int) < (m : Int)) = false := by simp; omega
  have t2' : decide (8 < m) = false := by simpa using h8
  have e2 : decide (m ≤ 8) = true := by simp; omega
  rw [e1, e2]
  cases q
  all_goals
    go_enter Tryd.func11, Tryd.ntmps11
    go_upto_region 1 with fail
    change Code.wp _ _ _ _ (w.alloc (bT ⟨ra, rf, oa, m, cap, rs⟩))
    generalize w.alloc (bT ⟨ra, rf, oa, m, cap, rs⟩) = w0 at *
    go_wp2_with (first
      | (go_at_call 27; refine (known_any _ _ _).mono ?_; rw [Hp.out]; rintro e w' ⟨rfl, rfl⟩)
      | (go_at_call 28; refine HC.out.mono ?_; rintro e w2 ⟨rfl, hb2⟩; have HB2 := Lib.hid (below_ext HB.out hb2); clear hb2))
    go_ret
    exact ⟨rfl, HB2.out⟩
end Go.Proofs.YtbonebmboolemaaDoor
/- the reference's node. -/
namespace Go.Proofs.YtbonebmboolemaaDoor
open Go.RowKit
theorem ownB_bts {e : TypeId} {w : World} {base : Nat} {v : Value} {l : List UInt8} (h : OwnB e w base v l) : BtsAt w.heap.size w l v := h.rd.bts
section
variable {P : Program} {w : World} {ops : Array Oper} {o : Oper} {a : Act} {K : Act → World → Prop} {Q : Exit → Act → World → Prop} {E : Prop}
theorem wpIf_store_d (hw : Region.wanted o (yielded ops a.tmps) = true) (ty : TypeId) (x y : Operand) (ho : o.op = .store ty x y) (g : Nat) (l : List UInt8) (hl : l.length = 32) (hx : a.eval x = .pointer (some ⟨g, 0, none⟩)) (hy : a.eval y = dv l)
    (t : TypeId) (old : Array Value) (hg : w.heap[g]? = some (.cells old t (0, 0))) (hold : old.size = 32) (hi : (P.info? ty).map (·.size) = some 32)
    (h : ∀ w', Hid (CB w' g t (bcells l)) → Hid (w.grownBy w' (some g)) → w'.heap.size = w.heap.size → K (a.put o.dst undef) w') : if Region.wanted o (yielded ops a.tmps) = true then Oper.wp P o a w K Q else E := by
  rw [if_pos hw]
  have hsz : (bcells l).toArray.size = 32 := by rw [List.size_toArray, bcells_length, hl]
  refine wp_store_row ty x y ho g (bcells l).toArray hx hy t old hg (by rw [hsz]; exact hi) (by rw [hsz, hold]) (dig_one l) ?_
  refine h _ (setRow_heap _ _ _ _ _ _ hg) ?_ (size_setRow _ _ _)
  exact ⟨rfl, rfl, rfl, by rw [size_setRow]; exact Nat.le_refl _, fun k hk hne => by
    have hkg : k ≠ g := fun e => hne (by rw [e])
    simp [World.setRow, Array.getElem?_modify, Ne.symm hkg]⟩
end
set_option maxRecDepth 100000 in
set_option maxHeartbeats 2000000 in
theorem rnode_any (a b : Dg) (w : World) : Calls Tryd.prog 56 #[dv a.1, dv b.1] w fun e w' => e = .returned (dv (nodeD a b).1) ∧ Below w.heap.size w w' := by
  obtain ⟨l, hl⟩ := a
  obtain ⟨m, hm⟩ := b
  have Hl := Lib.hid hl; have Hm := Lib.hid hm
  have H0 : Hid (CB (((w.alloc (bD ⟨l, hl⟩)).alloc (bD ⟨m, hm⟩)).alloc ZD) w.heap.size 29 (bcells l)) := ((cb_one w _ _ _ rfl).alloc _).alloc _
  have H1 : Hid (CB (((w.alloc (bD ⟨l, hl⟩)).alloc (bD ⟨m, hm⟩)).alloc ZD) (w.heap.size + 1) 29 (bcells m)) := by
    have := cb_one (w.alloc (bD ⟨l, hl⟩)) (bD ⟨m, hm⟩) _ _ rfl
    rw [World.size_alloc] at this; exact this.alloc _
  have H2 : Hid (CB (((w.alloc (bD ⟨l, hl⟩)).alloc (bD ⟨m, hm⟩)).alloc ZD) (w.heap.size + 1 + 1) 29 (bcells dgZ.1)) := by
    have := cb_one ((w.alloc (bD ⟨l, hl⟩)).alloc (bD ⟨m, hm⟩)) ZD _ _ rfl
    rw [World.size_alloc, World.size_alloc] at this; exact this
  have HB : Hid (Below w.heap.size w (((w.alloc (bD ⟨l, hl⟩)).alloc (bD ⟨m, hm⟩)).alloc ZD)) := by
    refine Below.alloc (Below.alloc ((Below.refl w.heap.size w).alloc (Nat.le_refl _) _) ?_ _) ?_ _ <;> simp only [World.size_alloc] <;> omega
  change Calls Tryd.prog 56 #[dv l, dv m] w fun e w' => e = .returned (dv (tagged nodeT (l ++ m))) ∧ Below w.heap.size w w'
  have hrl := tagged_len nodeT (l ++ m)
  obtain ⟨r, hr⟩ : ∃ r, tagged nodeT (l ++ m) = r := ⟨_, rfl⟩
  rw [hr] at hrl ⊢
  have Hr := Lib.hid hr; have Hrl := Lib.hid hrl
  clear hr hrl
  change Calls Tryd.prog 56 #[.agg (bcells l).toArray, .agg (bcells m).toArray] w _
  go_enter Tryd.func56, Tryd.ntmps56
  go_upto_region 1 with fail
  change Code.wp _ _ _ _ (((w.alloc (bD ⟨l, hl⟩)).alloc (bD ⟨m, hm⟩)).alloc ZD)
  generalize ((w.alloc (bD ⟨l, hl⟩)).alloc (bD ⟨m, hm⟩)).alloc ZD = w0 at *
  clear hl hm
  refine wp_region_held_drew (S := fun w' => True) (by kernel_rfl) trivial (fun hHeld => ?_)
  have K0 := Lib.hid (H0.out.ext (Below.refl w0.heap.size w0).drew); have K1 := Lib.hid (H1.out.ext (Below.refl w0.heap.size w0).drew); have K2 := Lib.hid (H2.out.ext (Below.refl w0.heap.size w0).drew); have KB := Lib.hid HB.out.drew
  clear H0 H1 H2 HB
  generalize w0.drew = w1 at *
  refine take_dst (some 6) (i := 1) (v := ?vN1) rfl rfl (by kernel_rfl) (by kernel_rfl) (by kernel_rfl) (fun _ _ _ h => h) (Or.inl ⟨by rfl, fun wS hSw => ?hyN1⟩) (by assumption) ?restN1
  case hyN1 => (obtain _ := hSw; go_simp; first | done | with_reducible rfl)
  try simp only [Act.put, List.setIfInBounds_toArray, List.set_cons_zero, List.set_cons_succ]
  refine take_dst (some 8) (i := 3) (v := ?vN3) rfl rfl (by kernel_rfl) (by kernel_rfl) (by kernel_rfl) (fun _ _ _ h => h) (Or.inl ⟨by rfl, fun wS hSw => ?hyN3⟩) (by assumption) ?restN3
  case hyN3 => (obtain _ := hSw; go_simp; first | done | with_reducible rfl)
  try simp only [Act.put, List.setIfInBounds_toArray, List.set_cons_zero, List.set_cons_succ]
  refine wpAnyH_ready (rs := [0]) (by kernel_rfl) (by simp) ?_
  refine AllReadyH.cons rfl (fun K hK => ?_) AllReadyH.nil
  go_simp
  have hO := Lib.hid (made_own w1)
  have KB2 := Lib.hid (below_ext KB.out (b_al (.cells #[] 5)))
  have K02 := Lib.hid (K0.out.alloc (.cells #[] 5)); have K12 := Lib.hid (K1.out.alloc (.cells #[] 5)); have K22 := Lib.hid (K2.out.alloc (.cells #[] 5))
  have hbs : w.heap.size + 1 + 1 + 1 ≤ w1.heap.size := K2.out.lt
  have hb1 : w1.heap.size ≤ (w1.alloc (.cells #[] 5)).heap.size := by rw [World.size_alloc]; omega
  have Hbs := Lib.hid hbs; have Hb1 := Lib.hid hb1
  clear hbs hb1 K0 K1 K2 KB
  generalize hw2 : w1.alloc (.cells #[] 5) = w2 at *
  clear hw2
  generalize w1.heap.size = B at *
  refine hK.out _ _ trivial (fun hHeld => ?_)
  clear hK K
  try simp only [Act.put, List.setIfInBounds_toArray, List.set_cons_zero, List.set_cons_succ]
  refine wpAnyH_ready (rs := [2]) (by kernel_rfl) (by simp) ?_
  refine AllReadyH.cons rfl (fun K hK => ?_) AllReadyH.nil
  refine step_append_B (e := 5) Tryd.underlying50 (by kernel_rfl) rfl _ _ rfl B _ [] rfl hO.out _ l rfl (SrcB.ofBts Tryd.underlying50 (dig_bts K02.out Hl.out)) (by simp [Hl.out]) Hb1.out ?_
  intro v7 w3 ho7 hg7 hn7
  rw [List.nil_append] at ho7
  have HO3 := Lib.hid ho7
  have hlt := hO.out
  have Hb3 : Hid (B ≤ w3.heap.size) := Nat.le_trans Hb1.out hg7.size
  have KB3 := Lib.hid (KB2.out.grown hg7 KB2.out.size (fun g hg => by have hB : B = g := Option.some.inj hg; have := Hbs.out; omega))
  have K13 := Lib.hid (K12.out.keep (hg7.block _ K12.out.lt (fun e => by have hB : w.heap.size + 1 = B := Option.some.inj e; have := Hbs.out; omega)))
  have K23 := Lib.hid (K22.out.keep (hg7.block _ K22.out.lt (fun e => by have hB : w.heap.size + 1 + 1 = B := Option.some.inj e; have := Hbs.out; omega)))
  have hlt3 := Lib.hid (fun g hg => (World.ownsRow.lt ho7 g hg).1)
  clear ho7 hg7 hn7 hlt K02 K12 K22 KB2 hO
  refine hK.out (Act.put _ (some 7) v7) w3 trivial (fun hHeld => ?_)
  clear hK K
  try simp only [Act.put, List.setIfInBounds_toArray, List.set_cons_zero, List.set_cons_succ]
  refine wpAnyH_ready (rs := [4]) (by kernel_rfl) (by simp) ?_
  refine AllReadyH.cons rfl (fun K hK => ?_) AllReadyH.nil
  refine step_append_B (e := 5) Tryd.underlying50 (by kernel_rfl) rfl _ _ rfl B _ l rfl HO3.out _ m rfl (SrcB.ofBts Tryd.underlying50 (dig_bts K13.out Hm.out)) (by simp [Hl.out, Hm.out]) Hb3.out ?_
  intro v9 w4 ho9 hg9 hn9
  have HO4 := Lib.hid (ownB_bts ho9)
  have KB4 := Lib.hid (KB3.out.grown hg9 KB3.out.size (fun g hg => by have := hlt3.out g hg; have := Hbs.out; omega))
  have K24 := Lib.hid (K23.out.keep (hg9.block _ K23.out.lt (fun e => by have := hlt3.out _ e.symm; have := Hbs.out; omega)))
  clear ho9 hg9 hn9 K13 K23 KB3 hlt3 HO3
  refine hK.out (Act.put _ (some 9) v9) w4 trivial (fun hHeld => ?_)
  clear hK K
  try simp only [Act.put, List.setIfInBounds_toArray, List.set_cons_zero, List.set_cons_succ]
  refine wpAnyH_ready (rs := [5]) (by kernel_rfl) (by simp) ?_
  refine AllReadyH.cons rfl (fun K hK => ?_) AllReadyH.nil
  have hcall := Lib.hid (rtagged_any ⟨#[110, 111, 100, 101]⟩ v9 (l ++ m) w4 (by decide) (by rw [List.length_append, Hl.out, Hm.out]; decide) HO4.out)
  go_simp
  refine hcall.out.mono ?_
  rintro e w6 ⟨rfl, hb6⟩
  rw [show tagged (ByteArray.data ⟨#[110, 111, 100, 101]⟩).toList (l ++ m) = r from Hr.out]
  have HT : Hid (w6.heap[w.heap.size + 1 + 1]? = some (.cells (bcells dgZ.1).toArray 29 (0, 0))) := K24.out.ext hb6
  have HB6 := Lib.hid (below_ext KB4.out hb6)
  clear hb6 hcall
  refine hK.out _ _ trivial (fun hHeld => ?_)
  clear hK K
  try simp only [Act.put, List.setIfInBounds_toArray, List.set_cons_zero, List.set_cons_succ]
  refine wpAnyH_ready (rs := [6]) (by kernel_rfl) (by simp) ?_
  refine AllReadyH.cons rfl (fun K hK => ?_) AllReadyH.nil
  skip
  refine wpIf_store_d (by rfl) 29 (.tmp 4) (.tmp 10) rfl (w.heap.size + 1 + 1) r Hrl.out rfl rfl 29 _ HT.out rfl dig_sz ?_
  intro w7 hc7 hg7 hz7
  refine hK.out (Act.put _ none undef) w7 trivial (fun hHeld => ?_)
  clear hK K
  try simp only [Act.put]
  refine wpAnyH_done (by kernel_rfl) ?_ _
  go_wp2_with fail
  refine bodyPost_ret (v := dv r) (results_cell_row rfl _ _ (w.heap.size + 1 + 1) 29 (bcells r).toArray (0, 0) _ rfl hc7.out Tryd.underlying29 rfl (by rw [List.size_toArray, bcells_length, Hrl.out]; exact dig_sz)) rfl ?_
  exact ⟨rfl, HB6.out.grown hg7.out HB6.out.size (fun k hk => by injection hk; omega)⟩
end Go.Proofs.YtbonebmboolemaaDoor
/- openings, plain and in memory. -/
namespace Go.Proofs.YtbonebmboolemaaDoor
open Go.RowKit
/-- an opening -/
structure Opn where
  air : Int
  fl : Int
  slot : Int
  cost : Int
  salt : Dg
  path : List Dg
deriving DecidableEq
instance : Inhabited Opn := ⟨⟨0, 0, 0, 0, dgZ, []⟩⟩
/-- an opening as it lies in memory -/
structure Ob where
  air : Int
  fl : Int
  slot : Int
  cost : Int
  salt : Dg
  oa : Option Addr
  n : Nat
  cap : Nat
instance : Inhabited Ob := ⟨⟨0, 0, 0, 0, dgZ, none, 0, 0⟩⟩
def Ob.pv (r : Ob) : Value := .slice r.oa r.n r.cap
def Ob.cells (r : Ob) : List Value := .int .i64 r.air :: .int .i64 r.fl :: .int .i64 r.slot :: .int .i64 r.cost :: (bcells r.salt.1 ++ [r.pv])
def Ob.v (r : Ob) : Value := .agg r.cells.toArray
theorem ob_len (r : Ob) : r.cells.length = 37 := by show (bcells r.salt.1 ++ [r.pv]).length + 1 + 1 + 1 + 1 = 37; rw [List.length_append, bcells_length, r.salt.2]; rfl
theorem ob_one (r : Ob) : ∀ u ∈ r.cells, u.oneCell' = true := fun u hu => by
  rcases List.mem_cons.1 hu with rfl | hu
  · rfl
  rcases List.mem_cons.1 hu with rfl | hu
  · rfl
  rcases List.mem_cons.1 hu with rfl | hu
  · rfl
  rcases List.mem_cons.1 hu with rfl | hu
  · rfl
  rcases List.mem_append.1 hu with hu | hu
  · exact (Array.all_eq_true_iff_forall_mem.1 (dig_one r.salt.1)) u (by simpa using hu)
  · rw [List.mem_singleton] at hu; rw [hu]; rfl
/-- what lies there is the opening -/
structure OpR (w : World) (o : Opn) (r : Ob) : Prop where
  air : r.air = o.air
  fl : r.fl = o.fl
  slot : r.slot = o.slot
  cost : r.cost = o.cost
  salt : r.salt = o.salt
  path : LsAt digK w.heap.size w o.path r.pv
theorem OpR.ext {w w' : World} {o : Opn} {r : Ob} (h : OpR w o r) (hb : Below w.heap.size w w') : OpR w' o r := ⟨h.air, h.fl, h.slot, h.cost, h.salt, h.path.ext hb⟩
def bO (r : Ob) : Obj := .cells r.cells.toArray 36
theorem ob_cell {w : World} {g : Nat} {r : Ob} {t : TypeId} (h : CB w g t r.cells) :
    w.cell? ⟨g, 0, none⟩ = some (.int .i64 r.air) ∧ w.cell? ⟨g, 1, none⟩ = some (.int .i64 r.fl) ∧ w.cell? ⟨g, 2, none⟩ = some (.int .i64 r.slot) ∧ w.cell? ⟨g, 3, none⟩ = some (.int .i64 r.cost) ∧ w.rangeAt g 4 (bcells r.salt.1) ∧ w.cell? ⟨g, 36, none⟩ = some r.pv := by
  refine ⟨h.cell 0, h.cell 1, h.cell 2, h.cell 3, fun i u hu => ?_, ?_⟩
  · rw [h.cell, Nat.add_comm]
    show (bcells r.salt.1 ++ [r.pv])[i]? = some u
    rw [List.getElem?_append_left (List.getElem?_eq_some_iff.1 hu).1]; exact hu
  · rw [h.cell]
    show (bcells r.salt.1 ++ [r.pv])[32]? = some r.pv
    rw [List.getElem?_append_right (by rw [bcells_length, r.salt.2]; exact Nat.le_refl _), bcells_length, r.salt.2]; rfl
theorem ob_sz : (Tryd.prog.info? 36).map (·.size) = some 37 := by kernel_rfl
/-- few enough, and right in all but the path: what Verify asks first -/
def preV (air tables slots : Int) (o : Opn) : Bool :=
  decide (1 ≤ tables) && decide (tables ≤ 8) && decide (1 ≤ slots) && decide (slots ≤ 8) && decide (o.air = air) && knownB o.air o.fl && decide (0 ≤ o.slot) && decide (o.slot < slots) && costB o.cost
end Go.Proofs.YtbonebmboolemaaDoor
/- the reference's Check (printed by gen36h.py). -/
namespace Go.Proofs.YtbonebmboolemaaDoor
open Go.RowKit
structure RcR (l : List Int) (w0 : World) (i : Value) (wr : World) : Prop where
  h : ∃ k : Nat, k ≤ l.length ∧ i = .int .i64 (k : Int) ∧ (∀ j y, j < k → l[j]? = some y → costB y = true) ∧ w0 = wr
theorem known_no {a f : Int} (h : a < 0 ∨ 8 ≤ a ∨ f < 0 ∨ 4095 < f) : knownB a f = false := by
  unfold knownB; rw [Bool.eq_false_iff]; intro h2; simp at h2; omega
theorem known_yes {a f : Int} (h1 : ¬ a < 0) (h2 : ¬ 8 ≤ a) (h3 : ¬ f < 0) (h4 : ¬ 4095 < f) : knownB a f = true := by
  unfold knownB; simp; omega
theorem cost_no {c : Int} (h : c < -1 ∨ 1048576 < c) : costB c = false := by
  unfold costB; rw [Bool.eq_false_iff]; intro h2; simp at h2; omega
theorem cost_yes {c : Int} (h1 : ¬ c < -1) (h2 : ¬ 1048576 < c) : costB c = true := by
  unfold costB; simp; omega
theorem ck_no {a f : Int} {cs : List Int} {s : Dg} (h : knownB a f = false ∨ cs.length < 1 ∨ 8 < cs.length ∨ cs.all costB = false) : ckT ⟨a, f, cs, s⟩ = 360 := by
  unfold ckT okT
  rw [if_neg]
  intro h2
  simp only [Bool.and_eq_true, decide_eq_true_eq] at h2
  obtain ⟨⟨⟨h3, h4⟩, h5⟩, h6⟩ := h2
  rcases h with h | h | h | h
  · rw [h] at h3; cases h3
  · omega
  · omega
  · rw [h] at h6; cases h6
theorem ck_yes {a f : Int} {cs : List Int} {s : Dg} (h1 : knownB a f = true) (h2 : ¬ cs.length < 1) (h3 : ¬ 8 < cs.length) (h4 : cs.all costB = true) : ckT ⟨a, f, cs, s⟩ = 0 := by
  unfold ckT okT
  rw [if_pos]
  simp only [Bool.and_eq_true, decide_eq_true_eq]
  exact ⟨⟨⟨h1, by omega⟩, by omega⟩, h4⟩
set_option maxRecDepth 100000 in
set_option maxHeartbeats 4000000 in
theorem rtcheck_any (t : Tab) (r : Tb) (w : World) (hr : TabR w t r) :
    Calls Tryd.prog 12 #[r.v] w fun e w' => e = .returned (.int .i64 (ckT t)) ∧ Below w.heap.size w w' := by
  have HB := Lib.hid (b_al (w := w) (bT r))
  have HT := hr.ext HB.out
  obtain ⟨ta, tf, cs, ts⟩ := t
  obtain ⟨h1, h2, h3, h4⟩ := hr
  obtain ⟨ra, rf, oa, n, cap, rs⟩ := r
  simp only at h1 h2 h3
  subst h1 h2 h3
  obtain ⟨_, _, he, _⟩ := h4.shape
  injection he with e1 e2 e3
  subst e2
  clear e1 e3
  obtain ⟨c0, c1, c2⟩ := tb_cell (cb_one w (bT ⟨ra, rf, oa, cs.length, cap, rs⟩) _ _ rfl)
  have bl : cs.length ≤ 9223372036854775807 := by obtain ⟨_, _, _, h⟩ := h4.shape; exact h
  have HL : Hid (LsAt nuK (w.alloc (bT ⟨ra, rf, oa, cs.length, cap, rs⟩)).heap.size (w.alloc (bT ⟨ra, rf, oa, cs.length, cap, rs⟩)) cs (.slice oa cs.length cap)) := HT.cs
  change _ = some (Value.slice oa cs.length cap) at c2
  change _ = some (Value.int .i64 ra) at c0
  change _ = some (Value.int .i64 rf) at c1
  clear h4 HT
  obtain ⟨m, hm⟩ : ∃ m, cs.length = m := ⟨_, rfl⟩
  rw [hm] at HB HL c0 c1 c2 bl
  have Hm := Lib.hid hm
  change Calls Tryd.prog 12 #[.agg (Tb.cells ⟨ra, rf, oa, cs.length, cap, rs⟩).toArray] w _
  obtain ⟨z, hz⟩ : ∃ z, ckT ⟨ra, rf, cs, rs⟩ = z := ⟨_, rfl⟩
  have Hz := Lib.hid hz
  rw [hm, hz]
  clear hm hz
  by_cases ht : ra < 0
  · have hzz := Lib.hid (Hz.out.symm.trans (ck_no (.inl (known_no (.inl ht)))))
    have f00 : decide (ra < 0) = true := by simp; omega
    clear ht
    go_enter Tryd.func12, Tryd.ntmps12
    go_upto_region 1 with fail
    change Code.wp _ _ _ _ (w.alloc (bT ⟨ra, rf, oa, m, cap, rs⟩))
    generalize w.alloc (bT ⟨ra, rf, oa, m, cap, rs⟩) = w0 at *
    go_wp2_with fail
    all_goals (go_ret; exact ⟨by rw [hzz.out]; rfl, HB.out⟩)
  have f00 : decide (ra < 0) = false := by simp; omega
  have T0 := Lib.hid ht
  clear ht
  by_cases ht : 8 ≤ ra
  · have hzz := Lib.hid (Hz.out.symm.trans (ck_no (.inl (known_no (.inr (.inl ht))))))
    have f10 : decide (8 ≤ ra) = true := by simp; omega
    clear ht
    go_enter Tryd.func12, Tryd.ntmps12
    go_upto_region 1 with fail
    change Code.wp _ _ _ _ (w.alloc (bT ⟨ra, rf, oa, m, cap, rs⟩))
    generalize w.alloc (bT ⟨ra, rf, oa, m, cap, rs⟩) = w0 at *
    go_wp2_with fail
    all_goals (go_ret; exact ⟨by rw [hzz.out]; rfl, HB.out⟩)
  have f10 : decide (8 ≤ ra) = false := by simp; omega
  have T1 := Lib.hid ht
  clear ht
  by_cases ht : rf < 0
  · have hzz := Lib.hid (Hz.out.symm.trans (ck_no (.inl (known_no (.inr (.inr (.inl ht)))))))
    have f20 : decide (rf < 0) = true := by simp; omega
    clear ht
    go_enter Tryd.func12, Tryd.ntmps12
    go_upto_region 1 with fail
    change Code.wp _ _ _ _ (w.alloc (bT ⟨ra, rf, oa, m, cap, rs⟩))
    generalize w.alloc (bT ⟨ra, rf, oa, m, cap, rs⟩) = w0 at *
    go_wp2_with fail
    all_goals (go_ret; exact ⟨by rw [hzz.out]; rfl, HB.out⟩)
  have f20 : decide (rf < 0) = false := by simp; omega
  have T2 := Lib.hid ht
  clear ht
  by_cases ht : 4095 < rf
  · have hzz := Lib.hid (Hz.out.symm.trans (ck_no (.inl (known_no (.inr (.inr (.inr ht)))))))
    have f30 : decide (4095 < rf) = true := by simp; omega
    clear ht
    go_enter Tryd.func12, Tryd.ntmps12
    go_upto_region 1 with fail
    change Code.wp _ _ _ _ (w.alloc (bT ⟨ra, rf, oa, m, cap, rs⟩))
    generalize w.alloc (bT ⟨ra, rf, oa, m, cap, rs⟩) = w0 at *
    go_wp2_with fail
    all_goals (go_ret; exact ⟨by rw [hzz.out]; rfl, HB.out⟩)
  have f30 : decide (4095 < rf) = false := by simp; omega
  have T3 := Lib.hid ht
  clear ht
  by_cases ht : m < 1
  · have hzz := Lib.hid (Hz.out.symm.trans (ck_no (.inr (.inl (by rw [Hm.out]; exact ht)))))
    have f40 : decide ((m : Int) < 1) = true := by simp; omega
    have f41 : decide (m < 1) = true := by simp; omega
    have f42 : decide (m = 0) = true := by simp; omega
    clear ht
    go_enter Tryd.func12, Tryd.ntmps12
    go_upto_region 1 with fail
    change Code.wp _ _ _ _ (w.alloc (bT ⟨ra, rf, oa, m, cap, rs⟩))
    generalize w.alloc (bT ⟨ra, rf, oa, m, cap, rs⟩) = w0 at *
    go_wp2_with fail
    all_goals (go_ret; exact ⟨by rw [hzz.out]; rfl, HB.out⟩)
  have f40 : decide ((m : Int) < 1) = false := by simp; omega
  have f41 : decide (m < 1) = false := by simp; omega
  have f42 : decide (m = 0) = false := by simp; omega
  have T4 := Lib.hid ht
  clear ht
  by_cases ht : 8 < m
  · have hzz := Lib.hid (Hz.out.symm.trans (ck_no (.inr (.inr (.inl (by rw [Hm.out]; exact ht))))))
    have f50 : decide ((8 : Int) < (m : Int)) = true := by simp; omega
    have f51 : decide (8 < m) = true := by simp; omega
    clear ht
    go_enter Tryd.func12, Tryd.ntmps12
    go_upto_region 1 with fail
    change Code.wp _ _ _ _ (w.alloc (bT ⟨ra, rf, oa, m, cap, rs⟩))
    generalize w.alloc (bT ⟨ra, rf, oa, m, cap, rs⟩) = w0 at *
    go_wp2_with fail
    all_goals (go_ret; exact ⟨by rw [hzz.out]; rfl, HB.out⟩)
  have f50 : decide ((8 : Int) < (m : Int)) = false := by simp; omega
  have f51 : decide (8 < m) = false := by simp; omega
  have T5 := Lib.hid ht
  clear ht
  go_enter Tryd.func12, Tryd.ntmps12
  go_upto_region 1 with fail
  change Code.wp _ _ _ _ (w.alloc (bT ⟨ra, rf, oa, m, cap, rs⟩))
  generalize w.alloc (bT ⟨ra, rf, oa, m, cap, rs⟩) = w0 at *
  go_wp2_with fail
  go_loopw [3] (fun i wr => RcR cs w0 i wr) (fun i _ => cs.length - (intO i).toNat)
  case atStart => exact ⟨⟨0, by omega, rfl, fun j y h => by omega, rfl⟩⟩
  case round =>
    obtain ⟨k, hk, rfl, hn, rfl⟩ := hrel.h
    have HN := Lib.hid hn
    have hm := Hm.out
    clear hn hrel
    by_cases hlt : k < m
    · have tj : decide ((k : Int) < (m : Int)) = true := by simp; omega
      have tj' : decide (k < m) = true := by simp; omega
      have kb : (k : Int) < (m : Int) := by omega
      obtain ⟨x, hx⟩ : ∃ x, cs[k]? = some x := ⟨_, List.getElem?_eq_getElem (by omega)⟩
      have HL2 := HL.out
      rw [← Hm.out] at HL2
      obtain ⟨b, off, rfl, _, hat⟩ := HL2.at (k := k) (by omega)
      have c3 := hat k x hx 0 _ rfl
      have c3 : w0.cell? ⟨b, off + k, none⟩ = some (.int .i64 x) := by simpa [nuK] using c3
      have HX := Lib.hid hx
      clear hat hx HL2 hm
      by_cases h1 : x < -1
      · have g1 : decide (x < -1) = true := by simp; omega
        have hzz := Lib.hid (Hz.out.symm.trans (ck_no (.inr (.inr (.inr (not_all HX.out (cost_no (.inl h1))))))))
        clear h1
        go_wp2_with fail
        go_ret
        exact ⟨by rw [hzz.out]; rfl, HB.out⟩
      have g1 : decide (x < -1) = false := by simp; omega
      by_cases h2 : 1048576 < x
      · have g2 : decide (1048576 < x) = true := by simp; omega
        have hzz := Lib.hid (Hz.out.symm.trans (ck_no (.inr (.inr (.inr (not_all HX.out (cost_no (.inr h2))))))))
        clear h1 h2
        go_wp2_with fail
        go_ret
        exact ⟨by rw [hzz.out]; rfl, HB.out⟩
      have g2 : decide (1048576 < x) = false := by simp; omega
      have hcy := Lib.hid (cost_yes h1 h2)
      clear h1 h2
      go_wp2_with fail
      go_roundw
      case rel => exact ⟨⟨k + 1, by have := Hm.out; omega, by go_num, fun j y hj hy => by
        by_cases e : j = k
        · subst e; rw [HX.out] at hy; injection hy with hy; subst hy; exact hcy.out
        · exact HN.out j y (by omega) hy, rfl⟩⟩
      case measure => simp [intO]; have := Hm.out; omega
    · have tj : decide ((k : Int) < (m : Int)) = false := by simp; omega
      have tj' : decide (k < m) = false := by simp; omega
      have hzz := Lib.hid (Hz.out.symm.trans (ck_yes (known_yes (by have := T0.out; omega) (by have := T1.out; omega) (by have := T2.out; omega) (by have := T3.out; omega)) (by have := Hm.out; have := T4.out; omega) (by have := Hm.out; have := T5.out; omega) (all_of fun j y h1 h2 => HN.out j y (by omega) h2)))
      clear hm
      go_wp2_with fail
      go_ret
      exact ⟨by rw [hzz.out]; rfl, HB.out⟩
end Go.Proofs.YtbonebmboolemaaDoor
