/- Merged: Rin Rqe Ran Rcv Rdc Rdd. -/
import Derived.Test.YtgdbmoggpfpkkaaK04
import Derived.Test.YtgdbmoggpfpkkaaK05
import Derived.Test.YtgdbmoggpfpkkaaK06
import Derived.Test.YtgdbmoggpfpkkaaK07
import Derived.Laws.IdiomCopy
import Derived.Laws.NewBlocks
import Derived.Shelf.RegionOpenPlain
import Derived.Laws.StructEq
import Derived.StillTailTactics
/- slices.Insert of one report. -/
namespace Go.Proofs.Ytgdbmoggpfpkkaa
open Go.RowKit
theorem rcells_append (a b : List Rp) : rcells (a ++ b) = rcells a ++ rcells b := by unfold rcells; rw [List.flatMap_append]
theorem rcells_cons (r : Rp) (b : List Rp) : rcells (r :: b) = r.cells ++ rcells b := by unfold rcells; rw [List.flatMap_cons]
theorem rp_cells_len (r : Rp) : r.cells.length = 6 := rfl
theorem rp_size : (Try.prog.info? 23).map (·.size) = some 6 := by kernel_rfl
theorem rp_sizeOf (w : World) : (Go.sizeOf 23).run Try.prog w = .ok 6 w := by kernel_rfl
theorem rp_one (r : Rp) : ∀ u ∈ r.cells, u.oneCell' = true := by
  have h := rcells_one [r]
  rw [rcells_cons, show rcells [] = [] from rfl, List.append_nil] at h; exact h
/-- a list with a report put in -/
def insL (l : List Rp) (i : Nat) (r : Rp) : List Rp := l.take i ++ r :: l.drop i
theorem insL_len {l : List Rp} {i : Nat} (r : Rp) (h : i ≤ l.length) : (insL l i r).length = l.length + 1 := by
  unfold insL; simp only [List.length_append, List.length_cons, List.length_take, List.length_drop]; omega
theorem insL_cells (l : List Rp) (i : Nat) (r : Rp) : rcells (insL l i r) = rcells (l.take i) ++ r.cells ++ rcells (l.drop i) := by
  unfold insL; rw [rcells_append, rcells_cons, List.append_assoc]
theorem insL_end (l : List Rp) (r : Rp) : insL l l.length r = l ++ [r] := by
  unfold insL; rw [List.take_of_length_le (Nat.le_refl _), List.drop_of_length_le (Nat.le_refl _)]
theorem own_mk {w : World} {base g cap n : Nat} {cur : Array Value} {x : List Rp} (hl : x.length = n) (hb : base ≤ g) (hg : w.heap[g]? = some (.cells cur 23 (0, 0))) (hn : n ≤ cap) (hm : cap ≤ maxLen) (hcs : cur.size = cap * 6) (ht : cur.toList.take (n * 6) = rcells x) :
    OwnR w base (.slice (some ⟨g, 0, none⟩) n cap) x := by
  subst hl
  exact ⟨rcells_len x, .inr ⟨g, cap, cur, rfl, hb, hg, hn, hm, hcs, ht⟩⟩
theorem cur_take {l : List Rp} {i : Nat} {cur : Array Value} (hi : i ≤ l.length) (ht : cur.toList.take (l.length * 6) = rcells l) : cur.toList.take (i * 6) = rcells (l.take i) := by
  have h1 : (cur.toList.take (l.length * 6)).take (i * 6) = cur.toList.take (i * 6) := by rw [List.take_take, Nat.min_eq_left (by omega)]
  rw [← h1, ht]
  conv => lhs; arg 2; rw [← List.take_append_drop i l]
  rw [rcells_append, take_len_append (by rw [rcells_len, List.length_take, Nat.min_eq_left hi])]
theorem rdrop_at {l : List Rp} {i : Nat} (hi : i ≤ l.length) {j : Nat} {u : Value} (hu : (rcells (l.drop i))[j]? = some u) : (rcells l)[i * 6 + j]? = some u := by
  have htl : (rcells (l.take i)).length = i * 6 := by rw [rcells_len, List.length_take, Nat.min_eq_left hi]
  conv => lhs; rw [← List.take_append_drop i l]
  rw [rcells_append, List.getElem?_append_right (by omega), htl, Nat.add_sub_cancel_left]; exact hu
set_option maxRecDepth 100000 in
set_option maxHeartbeats 4000000 in
theorem insert_end (l : List Rp) (oa : Option Addr) (cap base : Nat) (r : Rp) (vb : Nat) (w : World) (HO : Hid (OwnR w base (.slice oa l.length cap) l)) (Hbase : Hid (base ≤ w.heap.size)) (Hlen : Hid (l.length ≤ 2000)) (hr : CB w vb 23 r.cells) :
    Calls Try.prog 45 #[.slice oa l.length cap, .int .i64 (l.length : Int), .slice (some ⟨vb, 0, none⟩) 1 1] w fun e w' => ∃ v', e = .returned v' ∧ OwnR w' base v' (insL l l.length r) ∧ w.grownBy w' (Value.slice oa l.length cap).ownBlock := by
  have hrsrc : ∀ j u, r.cells[j]? = some u → w.cell? ((⟨vb, 0, none⟩ : Addr).add j) = some u := fun j u hu => by rw [add0, Nat.zero_add, hr.cell]; exact hu
  have hsrc : Hid (Src Try.prog 6 39 (.slice (some ⟨vb, 0, none⟩) 1 1) 1 r.cells w) := Src.ofSlice w Try.underlying39 ⟨vb, 0, none⟩ 1 1 _ rfl hrsrc (rp_one r)
  have bl : (l.length : Int) ≤ 9223372036854775807 := by have := Hlen.out; omega
  clear hrsrc hr
  go_enter Try.func45, Try.ntmps45
  go_wp2_with (at_builtin; refine wpList_append_x (e := 23) (z := (.agg #[.int .i64 0, .int .i64 0, .int .i64 0, .int .i64 0, .string ⟨#[]⟩, .int .i64 0])) (size := 6) (bytes := 56) Try.underlying39 rp_info rfl rfl _ _ rfl base (.slice oa l.length cap) l.length (rcells l) rfl HO.out _ 1 r.cells rfl hsrc.out (by have := Hlen.out; unfold maxLen; omega) (by have := Hlen.out; omega) Hbase.out ?_; intro v5 w5 ho5 hg5 hn5)
  all_goals
    have HG5 : ∀ c, Hid (w.grownBy w5 (Value.slice oa l.length c).ownBlock) := fun c => by
      show w.grownBy _ _
      rw [show (Value.slice oa l.length c).ownBlock = (Value.slice oa l.length cap).ownBlock by cases oa <;> rfl]; exact hg5
    have HO5 : Hid (OwnR w5 base v5 (insL l l.length r)) := by
      show w5.ownsRow _ _ _ _ _ _
      rw [insL_end, rcells_append, List.length_append]
      simpa [rcells] using ho5
    clear ho5 hg5 hn5
    go_ret
    exact ⟨v5, rfl, HO5.out, (HG5 _).out⟩
set_option maxRecDepth 100000 in
set_option maxHeartbeats 4000000 in
theorem insert_room (l : List Rp) (g cap base n i vb : Nat) (cur : Array Value) (r : Rp) (w : World) (hln : l.length = n) (hb : base ≤ g) (hg : w.heap[g]? = some (.cells cur 23 (0, 0))) (hm : cap ≤ maxLen) (hcs : cur.size = cap * 6) (ht : cur.toList.take (l.length * 6) = rcells l)
    (hi : i < n) (hroom : n + 1 ≤ cap) (hr : CB w vb 23 r.cells) (hne : vb ≠ g) :
    Calls Try.prog 45 #[.slice (some ⟨g, 0, none⟩) n cap, .int .i64 (i : Int), .slice (some ⟨vb, 0, none⟩) 1 1] w fun e w' => ∃ v', e = .returned v' ∧ OwnR w' base v' (insL l i r) ∧ w.grownBy w' (some g) := by
  have hrsrc : ∀ j u, r.cells[j]? = some u → w.cell? ((⟨vb, 0, none⟩ : Addr).add j) = some u := fun j u hu => by rw [add0, Nat.zero_add, hr.cell]; exact hu
  have hdl : (rcells (l.drop i)).length = (n - i) * 6 := by rw [rcells_len, List.length_drop, hln]
  have hct := cur_take (i := i) (by omega) ht
  have hdrop : ∀ j u, (rcells (l.drop i))[j]? = some u → w.cell? ⟨g, i * 6 + j, none⟩ = some u := fun j u hu => by
    have h2 := rdrop_at (i := i) (by omega) hu
    rw [cell_row hg, ← Array.getElem?_toList]
    rw [← ht, List.getElem?_take] at h2
    split at h2
    · exact h2
    · cases h2
  have hfit : i * 6 + r.cells.length + (rcells (l.drop i)).length ≤ cur.toList.length := by rw [hdl, rp_cells_len, Array.length_toList, hcs]; omega
  have hov : ∀ lb cb o, (callFunc 64 #[.slice (some ⟨vb, 0, none⟩) 1 1, .slice (some ⟨g, o, none⟩) lb cb]).run Try.prog w = .ok (.value (.bool false)) w := fun lb cb o => by
    rw [run_callFunc_extern Try.func64 (by kernel_rfl) (by kernel_rfl) (by kernel_rfl) (e := Extern.SlicesOverlaps.overlaps #[39, 39] #[4]) (by kernel_rfl),
      Lib.run_overlaps_apart w 39 4 23 Try.underlying39 6 rp_sizeOf ⟨vb, 0, none⟩ ⟨g, o, none⟩ 1 1 lb cb hne 23 23 6 cur.size (by unfold CB at hr; simp [World.shape?, hr, Rp.cells]) (by simp [World.shape?, hg]) (by omega) (hr.frozen _) (hr.frozen _)]
    rfl
  obtain ⟨c1, hc1⟩ : ∃ c1, putL cur.toList (i * 6 + r.cells.length) (rcells (l.drop i)) = c1 := ⟨_, rfl⟩
  have hc1l : c1.length = cur.size := by rw [← hc1, putL_len (by omega), Array.length_toList]
  have hcp1 : ∀ ty dc sc o p a b, o = (i + 1) * 6 → p = i * 6 → a = n - i → b = n + 1 - i → (Builtin.copy_ #[39, 39] ty #[.slice (some ⟨g, o, none⟩) a dc, .slice (some ⟨g, p, none⟩) b sc]).run Try.prog w.drew = .ok (goInt ((n - i : Nat) : Int)) (w.drew.setRow g c1.toArray) := fun ty dc sc o p a b ho hp ha hb => by
    subst ho hp ha hb
    rw [← hc1, rp_cells_len, show i * 6 + 6 = (i + 1) * 6 by omega]
    exact run_copy_put w.drew _ _ ty 23 6 g ((i + 1) * 6) (n - i) dc cur ⟨g, i * 6, none⟩ (n + 1 - i) sc (n - i) (rcells (l.drop i)) Try.underlying39 rp_size (by simp only [Nat.min_def]; split <;> omega) hdl (fun j v hj => by rw [add0]; exact hdrop j v hj) hg (by rw [hdl, hcs]; omega) (rcells_one _)
  obtain ⟨w1, hw1⟩ : ∃ w1, w.drew.setRow g c1.toArray = w1 := ⟨_, rfl⟩
  have hg1 : w1.heap[g]? = some (.cells c1.toArray 23 (0, 0)) := by rw [← hw1]; exact row_set (w := w.drew) hg _
  have hgr1 : w.grownBy w1 (some g) := by rw [← hw1]; exact grown_setRow' (grown_drew' (grown_refl w (some g))) _
  have hr1 : CB w1 vb 23 r.cells := hr.keep (hgr1.block _ hr.lt (by simpa using hne))
  rw [hw1] at hcp1
  obtain ⟨c2, hc2⟩ : ∃ c2, putL c1 (i * 6) r.cells = c2 := ⟨_, rfl⟩
  have hc2l : c2.length = cur.size := by rw [← hc2, putL_len (by rw [hc1l, rp_cells_len, hcs]; omega), hc1l]
  have hcp2 : ∀ ty dc o a, o = i * 6 → a = n + 1 - i → (Builtin.copy_ #[39, 39] ty #[.slice (some ⟨g, o, none⟩) a dc, .slice (some ⟨vb, 0, none⟩) 1 1]).run Try.prog w1 = .ok (goInt 1) (w1.setRow g c2.toArray) := fun ty dc o a ho ha => by
    subst ho ha
    rw [← hc2]
    exact run_copy_put w1 _ _ ty 23 6 g (i * 6) (n + 1 - i) dc c1.toArray ⟨vb, 0, none⟩ 1 1 1 r.cells Try.underlying39 rp_size (by simp only [Nat.min_def]; split <;> omega) rfl (fun j v hj => by rw [add0, Nat.zero_add, hr1.cell]; exact hj) hg1 (by simp only [List.size_toArray, hc1l, rp_cells_len, hcs]; omega) (rp_one r)
  have hfin : Hid (OwnR (w1.setRow g c2.toArray) base (.slice (some ⟨g, 0, none⟩) (n + 1) cap) (insL l i r)) := by
    refine own_mk (cur := c2.toArray) (by rw [insL_len r (by omega), hln]) hb (row_set hg1 _) hroom hm (by simp only [List.size_toArray, hc2l, hcs]) ?_
    show List.take _ c2 = _
    rw [← hc2, ← hc1, insL_cells, ← hct, ← put_back rfl hfit, show (n + 1) * 6 = i * 6 + r.cells.length + (rcells (l.drop i)).length by rw [hdl, rp_cells_len]; omega]
  have hgr2 := Lib.hid (grown_setRow' hgr1 c2.toArray)
  have Hcp1 := Lib.hid hcp1; have Hcp2 := Lib.hid hcp2
  have bcap : (cap : Int) ≤ 9223372036854775807 := by unfold maxLen at hm; omega
  have mixed : Try.prog.follows Departure.mixedOrders = true := by kernel_rfl
  have e1 : IntKind.i64.wrap ((i : Int) + 1) = (i : Int) + 1 := IntWalk.i64_in _ (by omega)
  have e2 : IntKind.i64.wrap ((n : Int) + 1) = (n : Int) + 1 := IntWalk.i64_in _ (by omega)
  have t1 : decide ((cap : Int) < (n : Int) + 1) = false := by simp; omega
  have hb1 : (0 : Int) ≤ (i : Int) + 1 := by omega
  have hb3 : (i : Int) ≤ (n : Int) + 1 := by omega
  have htn : ((i : Int) + 1).toNat = i + 1 := by omega
  have t2 : decide ((i : Int) = (n : Int)) = false := by simp; omega
  have t2' : ((i : Int) == (n : Int)) = false := by rw [beq_eq_false_iff_ne]; omega
  have hin : i ≤ n := by omega
  have hb2 : ¬ (cap = i + 1) := by omega
  have hb4 : ¬ (cap = i) := by omega
  clear hcp1 hcp2 hc1 hc2 hc1l hc2l hr1 hgr1 hg1 hrsrc hdl hct hdrop hfit hr hg ht hcs
  go_enter Try.func45, Try.ntmps45
  go_wp2_with (simp only [hov])
  go_region_law_o (refine step_copy_h rfl _ _ 39 39 rfl (.slice (some ⟨g, (i + 1) * 6, none⟩) (n - i) (cap - (i + 1))) (.slice (some ⟨g, i * 6, none⟩) (n + 1 - i) (cap - i)) (by simp [Act.eval, Act.put]) (by simp [Act.eval, Act.put]) (Hcp1.out _ _ _ _ _ _ _ rfl rfl rfl rfl) ?_)
  go_wp2_with (refine wpList_copy_h _ rfl _ _ 39 39 rfl _ _ rfl rfl (Hcp2.out _ _ _ _ (by omega) (by omega)) ?_)
  go_ret
  exact ⟨_, rfl, hfin.out, hgr2.out⟩
set_option maxRecDepth 100000 in
set_option maxHeartbeats 4000000 in
theorem insert_grow (l : List Rp) (g cap base n i vb : Nat) (cur : Array Value) (r : Rp) (w : World) (hln : l.length = n) (hbase : base ≤ w.heap.size) (hg : w.heap[g]? = some (.cells cur 23 (0, 0))) (hnc : n ≤ cap) (hcs : cur.size = cap * 6) (ht : cur.toList.take (l.length * 6) = rcells l)
    (hi : i < n) (hn2 : n ≤ 2000) (hroom : ¬ n + 1 ≤ cap) (hr : CB w vb 23 r.cells) :
    Calls Try.prog 45 #[.slice (some ⟨g, 0, none⟩) n cap, .int .i64 (i : Int), .slice (some ⟨vb, 0, none⟩) 1 1] w fun e w' => ∃ v', e = .returned v' ∧ OwnR w' base v' (insL l i r) ∧ w.grownBy w' (some g) := by
  obtain rfl : cap = n := by omega
  have hgw : g < w.heap.size := (Array.getElem?_eq_some_iff.1 hg).1
  have hdl : (rcells (l.drop i)).length = (cap - i) * 6 := by rw [rcells_len, List.length_drop, hln]
  have htl : (rcells (l.take i)).length = i * 6 := by rw [rcells_len, List.length_take, Nat.min_eq_left (by omega)]
  have hct := cur_take (i := i) (by omega) ht
  have hdrop : ∀ (W : World), W.heap[g]? = w.heap[g]? → ∀ j u, (rcells (l.drop i))[j]? = some u → W.cell? ⟨g, i * 6 + j, none⟩ = some u := fun W hW j u hu => by
    have h2 := rdrop_at (i := i) (by omega) hu
    rw [cell_row (hW.trans hg), ← Array.getElem?_toList]
    rw [← ht, List.getElem?_take] at h2
    split at h2
    · exact h2
    · cases h2
  obtain ⟨i0, hi0, hz0, hz1, hz2⟩ := info_parts rp_info
  have hold : (Builtin.firstCells i0.size i (.slice (some ⟨g, 0, none⟩) i cap)).run Try.prog w.drew = .ok (rcells (l.take i)).toArray w.drew := by
    rw [hz1]
    exact run_firstCells_some w.drew 6 i ⟨g, 0, none⟩ i cap _ (by rw [htl]) (fun j v hj => by
      rw [add0, Nat.zero_add, cell_row (w := w.drew) hg, ← Array.getElem?_toList]
      rw [← hct, List.getElem?_take] at hj
      split at hj
      · exact hj
      · cases hj)
  have hik : i + (cap + 1 - i) = cap + 1 := by omega
  obtain ⟨G, hG⟩ : ∃ G, grownCap w (cap + 1) cap 23 = G := ⟨_, rfl⟩
  have hGn : cap + 1 ≤ G := by rw [← hG]; exact grownCap_ge w _ _ _
  have hGm : G ≤ maxLen := by rw [← hG]; exact grownCap_le_maxLen w _ _ _ (by unfold maxLen; omega)
  obtain ⟨ROW, hROW⟩ : ∃ R : Array Value, (rcells (l.take i)).toArray ++ Builtin.zeroCells (Value.agg #[.int .i64 0, .int .i64 0, .int .i64 0, .int .i64 0, .string ⟨#[]⟩, .int .i64 0]).cells (cap + 1 - i) ++ Builtin.zeroCells (Value.agg #[.int .i64 0, .int .i64 0, .int .i64 0, .int .i64 0, .string ⟨#[]⟩, .int .i64 0]).cells (G - (cap + 1)) = R := ⟨_, rfl⟩
  have hRs : ROW.size = G * 6 := by
    rw [← hROW]; simp only [Array.size_append, List.size_toArray, htl, size_zeroCells, Value.cells]; show i * 6 + (cap + 1 - i) * 6 + (G - (cap + 1)) * 6 = _; omega
  have hRt : ROW.toList.take (i * 6) = rcells (l.take i) := by
    rw [← hROW]; simp only [Array.toList_append, List.append_assoc]
    exact take_len_append htl.symm
  have hrz : ∀ ty (k : Int), k = ((cap + 1 - i : Nat) : Int) → (Builtin.append_ #[39, 3] ty #[.slice (some ⟨g, 0, none⟩) i cap, .int .i64 k]).run Try.prog w = .ok (.slice (some ⟨w.heap.size, 0, none⟩) (cap + 1) G) (w.drew.alloc (.cells ROW 23)) := fun ty k hk => by
    subst hk
    have h := Lib.run_append_grow_zeros w 39 3 ty 23 i0 _ .i64 .i64 Try.underlying39 Try.underlying3 hi0 hz0 (some ⟨g, 0, none⟩) i cap (rcells (l.take i)) hold (cap + 1 - i) (by omega) (by rw [hz1]; omega) (by omega) (by omega) (by rw [hz2]; omega) (by rw [hz2, hik]; exact growslice_fits (by omega) (by omega))
    rw [hik, hG, hROW] at h
    exact h
  obtain ⟨w1, hw1⟩ : ∃ w1, w.drew.alloc (.cells ROW 23) = w1 := ⟨_, rfl⟩
  have hg1 : w1.heap[w.heap.size]? = some (.cells ROW 23 (0, 0)) := by rw [← hw1]; exact heap_alloc_new w.drew _
  have hgr1 : w.grownBy w1 (some g) := by rw [← hw1]; exact grown_alloc (grown_drew' (grown_refl w _)) _
  have hk1 : ∀ k, k < w.heap.size → w1.heap[k]? = w.heap[k]? := fun k hk => by rw [← hw1]; exact Below.heap_alloc w.drew _ k hk
  have hr1 : CB w1 vb 23 r.cells := hr.keep (hk1 _ hr.lt)
  rw [hw1] at hrz
  obtain ⟨c1, hc1⟩ : ∃ c1, putL ROW.toList (i * 6) r.cells = c1 := ⟨_, rfl⟩
  have hc1l : c1.length = ROW.size := by rw [← hc1, putL_len (by rw [rp_cells_len, Array.length_toList, hRs]; omega), Array.length_toList]
  have hcp1 : ∀ ty dc o a, o = i * 6 → a = cap + 1 - i → (Builtin.copy_ #[39, 39] ty #[.slice (some ⟨w.heap.size, o, none⟩) a dc, .slice (some ⟨vb, 0, none⟩) 1 1]).run Try.prog w1 = .ok (goInt 1) (w1.setRow w.heap.size c1.toArray) := fun ty dc o a ho ha => by
    subst ho ha
    rw [← hc1]
    exact run_copy_put w1 _ _ ty 23 6 w.heap.size (i * 6) (cap + 1 - i) dc ROW ⟨vb, 0, none⟩ 1 1 1 r.cells Try.underlying39 rp_size (by simp only [Nat.min_def]; split <;> omega) rfl (fun j v hj => by rw [add0, Nat.zero_add, hr1.cell]; exact hj) hg1 (by rw [rp_cells_len, hRs]; omega) (rp_one r)
  obtain ⟨w2, hw2⟩ : ∃ w2, w1.setRow w.heap.size c1.toArray = w2 := ⟨_, rfl⟩
  have hg2 : w2.heap[w.heap.size]? = some (.cells c1.toArray 23 (0, 0)) := by rw [← hw2]; exact row_set hg1 _
  have hgr2 : w.grownBy w2 (some g) := by rw [← hw2]; exact grown_setRow_new hgr1 (Nat.le_refl _) _
  have hk2 : w2.heap[g]? = w.heap[g]? := by rw [← hw2, setRow_other _ _ _ _ (by omega)]; exact hk1 _ hgw
  rw [hw2] at hcp1
  obtain ⟨c2, hc2⟩ : ∃ c2, putL c1 (i * 6 + r.cells.length) (rcells (l.drop i)) = c2 := ⟨_, rfl⟩
  have hc2l : c2.length = ROW.size := by rw [← hc2, putL_len (by rw [hc1l, rp_cells_len, hdl, hRs]; omega), hc1l]
  have hcp2 : ∀ ty dc sc o p a b, o = (i + 1) * 6 → p = i * 6 → a = cap - i → b = cap - i → (Builtin.copy_ #[39, 39] ty #[.slice (some ⟨w.heap.size, o, none⟩) a dc, .slice (some ⟨g, p, none⟩) b sc]).run Try.prog w2.drew = .ok (goInt ((cap - i : Nat) : Int)) (w2.drew.setRow w.heap.size c2.toArray) := fun ty dc sc o p a b ho hp ha hb => by
    subst ho hp ha hb
    rw [← hc2, rp_cells_len, show i * 6 + 6 = (i + 1) * 6 by omega]
    exact run_copy_put w2.drew _ _ ty 23 6 w.heap.size ((i + 1) * 6) (cap - i) dc c1.toArray ⟨g, i * 6, none⟩ (cap - i) sc (cap - i) (rcells (l.drop i)) Try.underlying39 rp_size (Nat.min_self _) hdl (fun j v hj => by rw [add0]; exact hdrop w2.drew hk2 j v hj) hg2 (by simp only [List.size_toArray, hc1l, hdl, hRs]; omega) (rcells_one _)
  have hfin : Hid (OwnR (w2.drew.setRow w.heap.size c2.toArray) base (.slice (some ⟨w.heap.size, 0, none⟩) (cap + 1) G) (insL l i r)) := by
    refine own_mk (cur := c2.toArray) (by rw [insL_len r (by omega), hln]) hbase (row_set (w := w2.drew) hg2 _) hGn hGm (by simp only [List.size_toArray, hc2l, hRs]) ?_
    show List.take _ c2 = _
    rw [← hc2, ← hc1, insL_cells, ← hRt, ← put_forth rfl (by rw [hdl, rp_cells_len, Array.length_toList, hRs]; omega), show (cap + 1) * 6 = i * 6 + r.cells.length + (rcells (l.drop i)).length by rw [hdl, rp_cells_len]; omega]
  have hgr3 := Lib.hid (grown_setRow_new (grown_drew' hgr2) (Nat.le_refl _) c2.toArray)
  have Hcp1 := Lib.hid hcp1; have Hcp2 := Lib.hid hcp2; have Hrz := Lib.hid hrz
  have bG : (G : Int) ≤ 9223372036854775807 := by unfold maxLen at hGm; omega
  have bcap : (cap : Int) ≤ 2000 := by omega
  have mixed : Try.prog.follows Departure.mixedOrders = true := by kernel_rfl
  have e1 : IntKind.i64.wrap ((i : Int) + 1) = (i : Int) + 1 := IntWalk.i64_in _ (by omega)
  have e2 : IntKind.i64.wrap ((cap : Int) + 1) = (cap : Int) + 1 := IntWalk.i64_in _ (by omega)
  have e3 : IntKind.i64.wrap ((cap : Int) + 1 - (i : Int)) = (cap : Int) + 1 - (i : Int) := IntWalk.i64_in _ (by omega)
  have t1 : decide ((cap : Int) < (cap : Int) + 1) = true := by simp; omega
  have hz3 : (cap : Int) < (cap : Int) + 1 := by omega
  have hb0 : (0 : Int) ≤ (i : Int) + 1 := by omega
  have hb3 : (i : Int) ≤ (cap : Int) := by omega
  have htn : ((i : Int) + 1).toNat = i + 1 := by omega
  have t2' : ((i : Int) == (cap : Int)) = false := by rw [beq_eq_false_iff_ne]; omega
  have hin : i ≤ cap := by omega
  have hb1 : ¬ (cap = i) := by omega
  have hb2 : ¬ (G = i + 1) := by omega
  have hb4 : ¬ (G = i) := by omega
  clear hcp1 hcp2 hrz hc1 hc2 hc1l hc2l hr1 hgr1 hgr2 hg1 hg2 hdl htl hct hdrop hr hg ht hcs hi0 hz0 hz1 hz2 hold hik hG hROW hRs hRt hk1 hk2 hw1 hw2 hroom hnc
  go_enter Try.func45, Try.ntmps45
  go_wp2_with (first
    | (at_builtin; refine wpList_append_h _ rfl _ _ _ _ rfl _ _ rfl rfl (Hrz.out _ _ (by omega)) ?_)
    | (refine wpList_copy_h _ rfl _ _ _ _ rfl _ _ rfl rfl (Hcp1.out _ _ _ _ (by omega) (by omega)) ?_))
  go_region_law_o (refine step_copy_h rfl _ _ 39 39 rfl (.slice (some ⟨w.heap.size, (i + 1) * 6, none⟩) (cap - i) (G - (i + 1))) (.slice (some ⟨g, i * 6, none⟩) (cap - i) (cap - i)) (by simp [Act.eval, Act.put]) (by simp [Act.eval, Act.put]) (Hcp2.out _ _ _ _ _ _ _ rfl rfl rfl rfl) ?_)
  go_wp2
  go_ret
  exact ⟨_, rfl, hfin.out, hgr3.out⟩
/-- slices.Insert of one report, into a row of the own -/
theorem insert_any (l : List Rp) (v : Value) (base : Nat) (r : Rp) (i vb : Nat) (w : World) (hO : OwnR w base v l) (hbase : base ≤ w.heap.size) (hi : i ≤ l.length) (hlen : l.length ≤ 2000) (hr : CB w vb 23 r.cells) (hne : v.ownBlock ≠ some vb) :
    Calls Try.prog 45 #[v, .int .i64 (i : Int), .slice (some ⟨vb, 0, none⟩) 1 1] w fun e w' => ∃ v', e = .returned v' ∧ OwnR w' base v' (insL l i r) ∧ w.grownBy w' v.ownBlock := by
  by_cases hin : i = l.length
  · obtain ⟨oa, cap, rfl, hlm⟩ := hO.rd.shape
    subst hin
    exact insert_end l oa cap base r vb w hO hbase hlen hr
  · rcases hO.2 with ⟨rfl, h0⟩ | ⟨g, cap, cur, rfl, hbg, hg, hnc, hm, hcs, ht⟩
    · omega
    · by_cases hroom : l.length + 1 ≤ cap
      · exact insert_room l g cap base l.length i vb cur r w rfl hbg hg hm hcs ht (by omega) hroom hr (fun h => hne (by rw [h]; rfl))
      · exact insert_grow l g cap base l.length i vb cur r w rfl hbase hg hnc hcs ht (by omega) hlen hroom hr
end Go.Proofs.Ytgdbmoggpfpkkaa
/- two reports compared. -/
namespace Go.Proofs.Ytgdbmoggpfpkkaa
open Go.RowKit
/-- are two reports the same? -/
def rpEq (a b : Rp) : Bool := a.st == b.st && a.no == b.no && a.mi == b.mi && a.ar == b.ar && a.cl == b.cl && a.vo == b.vo
theorem ba_eq {a b : ByteArray} (h : (a == b) = true) : a = b := by
  obtain ⟨⟨x⟩⟩ := a
  obtain ⟨⟨y⟩⟩ := b
  have : ((⟨x⟩ : Array UInt8) == ⟨y⟩) = true := h
  simpa using this
theorem ba_refl (a : ByteArray) : (a == a) = true := by
  obtain ⟨⟨x⟩⟩ := a
  show ((⟨x⟩ : Array UInt8) == ⟨x⟩) = true
  simp
theorem rpEq_iff (a b : Rp) : rpEq a b = true ↔ a = b := by
  obtain ⟨a1, a2, a3, a4, a5, a6⟩ := a
  obtain ⟨b1, b2, b3, b4, b5, b6⟩ := b
  unfold rpEq
  simp only [Bool.and_eq_true, beq_iff_eq, Rp.mk.injEq]
  constructor
  · rintro ⟨⟨⟨⟨⟨h1, h2⟩, h3⟩, h4⟩, h5⟩, h6⟩
    exact ⟨h1, h2, h3, h4, ba_eq h5, h6⟩
  · rintro ⟨h1, h2, h3, h4, rfl, h6⟩
    exact ⟨⟨⟨⟨⟨h1, h2⟩, h3⟩, h4⟩, ba_refl _⟩, h6⟩
set_option maxRecDepth 100000 in
set_option maxHeartbeats 1000000 in
theorem eq_rp (a b : Rp) (w : World) : (Op.equalIn 10000 23 a.v b.v).run Try.prog w = .ok (rpEq a b) w := by
  unfold Rp.v
  rw [show (10000 : Nat) = 9999 + 1 from rfl, run_equalIn_struct w 9999 _ _ _ (by kernel_rfl) (by kernel_rfl)]
  have hi := Try.underlying3
  have hs := Try.underlying9
  have hu := Try.underlying23
  simp only [Program.fieldsOf, hu]
  have p1 : (isAgg 3).run Try.prog w = .ok false w := by kernel_rfl
  have p2 : (isAgg 9).run Try.prog w = .ok false w := by kernel_rfl
  have q : ∀ x y : Int, (Op.equalIn 9999 3 (.int .i64 x) (.int .i64 y)).run Try.prog w = .ok (x == y) w := fun x y => run_equalIn_int w 9998 _ .i64 .i64 _ _ hi
  have qs : ∀ x y : ByteArray, (Op.equalIn 9999 9 (.string x) (.string y)).run Try.prog w = .ok (x == y) w := fun x y => by
    rw [show (9999 : Nat) = 9998 + 1 from rfl, Op.equalIn]
    simp only [Sem.run_bind, run_underlying hs, Result.andThen_ok]
    rfl
  have g : ∀ (c : List Value) (t : TypeId) (i : Nat) (v : Value), (isAgg t).run Try.prog w = .ok false w → c[i]? = some v → (part t c.toArray i).run Try.prog w = .ok v w := fun c t i v h1 h2 => by
    simp [part, h1, h2]
  have a0 := fun r : Rp => g r.cells _ 0 (.int .i64 r.st) p1 rfl
  have a1 := fun r : Rp => g r.cells _ 1 (.int .i64 r.no) p1 rfl
  have a2 := fun r : Rp => g r.cells _ 2 (.int .i64 r.mi) p1 rfl
  have a3 := fun r : Rp => g r.cells _ 3 (.int .i64 r.ar) p1 rfl
  have a4 := fun r : Rp => g r.cells _ 4 (.string r.cl) p2 rfl
  have a5 := fun r : Rp => g r.cells _ 5 (.int .i64 r.vo) p1 rfl
  simp only [Op.eqFields, ne_eq, String.reduceEq, not_false_eq_true, if_true, Sem.run_bind, a0, a1, a2, a3, a4, a5, q, qs, Result.andThen_ok, Sem.run_ite, Sem.run_pure]
  unfold rpEq
  cases (a.st == b.st) <;> cases (a.no == b.no) <;> cases (a.mi == b.mi) <;> cases (a.ar == b.ar) <;> cases (a.cl == b.cl) <;> cases (a.vo == b.vo) <;> rfl
theorem gd_rp (op : BinOp) (x y : Operand) (a b : Rp) (w : World) : (eqGuard op 23 x y a.v b.v).run Try.prog w = .ok () w :=
  run_eqGuard_agg w op _ x y _ _ (by kernel_rfl)
end Go.Proofs.Ytgdbmoggpfpkkaa
/- what Add answers: plain. -/
namespace Go.Proofs.Ytgdbmoggpfpkkaa
open Go.RowKit
def befB (t m : Int) (r : Rp) : Bool := decide (cmpP r.st r.no t m < 0)
/-- how many reports lie before a place -/
def lowN (l : List Rp) (t m : Int) : Nat := (l.takeWhile (befB t m)).length
theorem cmpP_lt (s n t m : Int) : cmpP s n t m < 0 ↔ (s < t ∨ (s = t ∧ n < m)) := by
  have h := cmpP_neg s n t m
  rw [Bool.eq_iff_iff] at h
  simpa using h
theorem cmpP_zero (s n t m : Int) : cmpP s n t m = 0 ↔ (s = t ∧ n = m) := by
  unfold cmpP orZ cmpZ
  split <;> split <;> (try split) <;> (try split) <;> simp_all <;> omega
theorem col_all : ∀ (l : List Rp) (s n : Int), colF (some (s, n)) l = true → ∀ x ∈ l, cmpP s n x.st x.no < 0
  | [], _, _, _, x, hx => by simp at hx
  | r :: t, s, n, h, x, hx => by
    simp only [colF, Bool.and_eq_true, decide_eq_true_eq] at h
    rcases List.mem_cons.1 hx with rfl | hx
    · exact h.1.2
    · have := col_all t r.st r.no h.2 x hx
      have h1 := h.1.2
      rw [cmpP_lt] at this h1 ⊢
      omega
theorem low_of_col (t m : Int) : ∀ (l : List Rp) (p : Option (Int × Int)), colF p l = true → LowB l t m (lowN l t m)
  | [], _, _ => ⟨by simp [lowN], fun k r h => by simp at h⟩
  | r :: u, p, h => by
    simp only [colF, Bool.and_eq_true] at h
    have ih := low_of_col t m u _ h.2
    have hall := col_all u _ _ h.2
    by_cases hb : befB t m r = true
    · have e : lowN (r :: u) t m = lowN u t m + 1 := by unfold lowN; rw [List.takeWhile_cons_of_pos hb]; rfl
      rw [e]
      refine ⟨by simpa using ih.1, fun k x hk => ?_⟩
      cases k with
      | zero => simp at hk; subst hk; unfold befB at hb; rw [hb]; simp
      | succ k =>
        have := ih.2 k x (by simpa using hk)
        rw [this, Bool.eq_iff_iff]; simp
    · have e : lowN (r :: u) t m = 0 := by unfold lowN; rw [List.takeWhile_cons_of_neg hb]; rfl
      rw [e]
      refine ⟨by simp, fun k x hk => ?_⟩
      have hnb : ¬ cmpP r.st r.no t m < 0 := by unfold befB at hb; simpa using hb
      have : ¬ cmpP x.st x.no t m < 0 := by
        cases k with
        | zero => simp at hk; subst hk; exact hnb
        | succ k =>
          have hm := hall x (List.mem_of_getElem? (by simpa using hk))
          rw [cmpP_lt] at hm hnb ⊢
          omega
      simp [this]
def eqAt (l : List Rp) (n : Nat) (r : Rp) : Bool := match l[n]? with | none => false | some x => rpEq x r
theorem eqAt_some {l : List Rp} {n : Nat} {x : Rp} (r : Rp) (h : l[n]? = some x) : eqAt l n r = rpEq x r := by unfold eqAt; rw [h]
/-- the list that Add answers, and the error -/
def addX (l : List Rp) (r : Rp) : List Rp × Int :=
  if colB l = false then ([], 220) else if repB 4 3 r = false then ([], 220)
  else if hitB l r.st r.no (lowN l r.st r.no) = true then (if eqAt l (lowN l r.st r.no) r = true then (l, 0) else ([], 220))
  else if l.length = 1024 then ([], 2) else (insL l (lowN l r.st r.no) r, 0)
theorem addX_1 {l : List Rp} (r : Rp) (h : colB l = false) : addX l r = ([], 220) := by unfold addX; rw [if_pos h]
theorem addX_2 {l : List Rp} {r : Rp} (h2 : repB 4 3 r = false) : addX l r = ([], 220) := by unfold addX; rw [if_pos h2]; simp
theorem addX_3 {l : List Rp} {r : Rp} (h : colB l = true) (h2 : repB 4 3 r = true) (h3 : hitB l r.st r.no (lowN l r.st r.no) = true) (h4 : eqAt l (lowN l r.st r.no) r = true) : addX l r = (l, 0) := by unfold addX; simp [h, h2, h3, h4]
theorem addX_4 {l : List Rp} {r : Rp} (h : colB l = true) (h2 : repB 4 3 r = true) (h3 : hitB l r.st r.no (lowN l r.st r.no) = true) (h4 : eqAt l (lowN l r.st r.no) r = false) : addX l r = ([], 220) := by unfold addX; simp [h, h2, h3, h4]
theorem addX_5 {l : List Rp} {r : Rp} (h : colB l = true) (h2 : repB 4 3 r = true) (h3 : hitB l r.st r.no (lowN l r.st r.no) = false) (h4 : l.length = 1024) : addX l r = ([], 2) := by unfold addX; simp [h, h2, h3, h4]
theorem addX_6 {l : List Rp} {r : Rp} (h : colB l = true) (h2 : repB 4 3 r = true) (h3 : hitB l r.st r.no (lowN l r.st r.no) = false) (h4 : l.length ≠ 1024) : addX l r = (insL l (lowN l r.st r.no) r, 0) := by unfold addX; simp [h, h2, h3, h4]
def AddPost (l : List Rp) (r : Rp) (w : World) (e : Ending) (w' : World) : Prop :=
  ∃ oa cap, e = .returned (.tuple #[.slice oa (addX l r).1.length cap, .int .i64 (addX l r).2]) ∧ RpsAt w'.heap.size w' (addX l r).1 (.slice oa (addX l r).1.length cap) ∧ Below w.heap.size w w'
theorem rps_nil (B : Nat) (w : World) (oa : Option Addr) (cap : Nat) : RpsAt B w [] (.slice oa 0 cap) := .inl ⟨rfl, _, _, rfl⟩
theorem add_nil {l : List Rp} {r : Rp} {w w' : World} {k : Int} (h : addX l r = ([], k)) (hb : Below w.heap.size w w') : AddPost l r w (.returned (.tuple #[.slice none 0 0, .int .i64 k])) w' := by
  unfold AddPost
  rw [h]
  exact ⟨none, 0, rfl, rps_nil _ _ _ _, hb⟩
theorem add_list {l x : List Rp} {r : Rp} {w w' : World} {k : Int} {v : Value} (h : addX l r = (x, k)) (hv : RpsAt w'.heap.size w' x v) (hb : Below w.heap.size w w') : AddPost l r w (.returned (.tuple #[v, .int .i64 k])) w' := by
  unfold AddPost
  rw [h]
  obtain ⟨oa, cap, rfl, _⟩ := hv.shape
  exact ⟨oa, cap, rfl, hv, hb⟩
end Go.Proofs.Ytgdbmoggpfpkkaa
/- a report as a value of the codec: plain. -/
namespace Go.Proofs.Ytgdbmoggpfpkkaa
open Go.RowKit
def leafI (n : Int) : V := .mk 1 n ⟨#[]⟩ []
def leafT (s : ByteArray) : V := .mk 2 0 s []
def listV (l : List V) : V := .mk 3 0 ⟨#[]⟩ l
def repL (r : Rp) : List V := [leafI r.st, leafI r.no, leafI r.mi, leafI r.ar, leafT r.cl, leafI r.vo]
def repV (r : Rp) : V := listV (repL r)
theorem emp : (ByteArray.toList ⟨#[]⟩).isEmpty = true := by rw [ByteArray.toList_eq]; rfl
theorem repV_ck (r : Rp) : ck (repV r) = 0 := by
  unfold ck
  have h1 : fm (repV r) = true := by simp [repV, repL, listV, leafI, leafT, fm, fms, emp]
  have h2 : ¬ 16 < dp (repV r) := by simp [repV, repL, listV, leafI, leafT, dp, dps]
  rw [if_pos h1, if_neg h2]
theorem repV_sz (r : Rp) : sz (repV r) = 168 + r.cl.size := by
  have e : (⟨#[]⟩ : ByteArray).size = 0 := rfl
  simp only [repV, repL, listV, leafI, leafT, sz, szs, e]; omega
structure RpI (r : Rp) : Prop where
  st : I64 r.st
  no : I64 r.no
  mi : I64 r.mi
  ar : I64 r.ar
  vo : I64 r.vo
theorem badL_f {n a b : Int} (h : badL (n, a, b) = false) : a ≤ n ∧ n ≤ b := by
  unfold badL at h; simp at h; omega
theorem repB_sound {r : Rp} (h : repB 4 3 r = true) : RpI r ∧ 1 ≤ r.cl.size ∧ r.cl.size ≤ 32 := by
  unfold repB limsR at h
  simp only [List.any_cons, List.any_nil, Bool.or_false, Bool.and_eq_true, Bool.not_eq_true', Bool.or_eq_false_iff] at h
  obtain ⟨⟨_, h1, h2, h3, h4, h5⟩, h6⟩ := h
  have h1 := badL_f h1; have h2 := badL_f h2; have h3 := badL_f h3; have h4 := badL_f h4; have h5 := badL_f h5
  have h6 := nameB_len h6
  refine ⟨⟨?_, ?_, ?_, ?_, ?_⟩, ?_⟩
  · unfold I64; omega
  · unfold I64; omega
  · unfold I64; omega
  · unfold I64; omega
  · unfold I64; omega
  · simpa using h6
theorem i64_1 : I64 1 := by unfold I64; omega
theorem i64_0 : I64 0 := by unfold I64; omega
theorem i64_2 : I64 2 := by unfold I64; omega
theorem i64_3 : I64 3 := by unfold I64; omega
theorem repV_ok {r : Rp} (h : RpI r) (hs : r.cl.size ≤ maxLen) : okV (repV r) := by
  have e : (⟨#[]⟩ : ByteArray).size ≤ maxLen := Nat.zero_le _
  have f : ([] : List V).length ≤ maxLen := Nat.zero_le _
  have g : (6 : Nat) ≤ maxLen := by unfold maxLen; omega
  simp [repV, repL, listV, leafI, leafT, okV, okVs, i64_0, i64_1, i64_2, i64_3, h.st, h.no, h.mi, h.ar, h.vo, hs, g]
  unfold ByteArray.size at e; exact e
/-- what Encode answers -/
def encR (r : Rp) : List UInt8 := if repB 4 3 r then enc (repV r) else []
def EncRP (r : Rp) (w : World) (e : Ending) (w' : World) : Prop :=
  ∃ v, e = .returned (.tuple #[v, .int .i64 (if repB 4 3 r then 0 else 220)]) ∧ RdB w' v (encR r) ∧ Below w.heap.size w w'
theorem encRP_bad {r : Rp} {w w' : World} (h : repB 4 3 r = false) (hb : Below w.heap.size w w') : EncRP r w (.returned (.tuple #[.slice none 0 0, .int .i64 220])) w' := by
  unfold EncRP encR; rw [h]; exact ⟨_, rfl, .inl ⟨rfl, rfl⟩, hb⟩
theorem encRP_ok {r : Rp} {w w' : World} {v : Value} (h : repB 4 3 r = true) (hv : RdB w' v (enc (repV r))) (hb : Below w.heap.size w w') : EncRP r w (.returned (.tuple #[v, .int .i64 0])) w' := by
  unfold EncRP encR; rw [h]; exact ⟨v, rfl, hv, hb⟩
/-- the report that a value says, by its fields -/
def rpOf (x : V) : Rp := match x.l with
  | [a, b, c, d, e, f] => ⟨a.n, b.n, c.n, d.n, e.s, f.n⟩
  | _ => ⟨0, 0, 0, 0, ⟨#[]⟩, 0⟩
def kindsR : List Int := [1, 1, 1, 1, 2, 1]
def isRp (x : V) : Bool := x.kind == 3 && (x.l.map V.kind == kindsR)
theorem rpOf_repV (r : Rp) : rpOf (repV r) = r := rfl
theorem isRp_repV (r : Rp) : isRp (repV r) = true := rfl
theorem leafI_of {x : V} (h : fm x = true) (hk : x.kind = 1) : x = leafI x.n := by
  obtain ⟨k, n, s, l⟩ := x
  have hk : k = 1 := hk
  subst hk
  simp only [fm, if_pos, Bool.and_eq_true, List.isEmpty_iff] at h
  obtain ⟨h1, rfl⟩ := h
  have : s = ⟨#[]⟩ := str_eq (by rw [h1, ByteArray.toList_eq])
  subst this; rfl
theorem leafT_of {x : V} (h : fm x = true) (hk : x.kind = 2) : x = leafT x.s := by
  obtain ⟨k, n, s, l⟩ := x
  have hk : k = 2 := hk
  subst hk
  have h : (n == 0 && l.isEmpty) = true := by simpa [fm] using h
  simp only [Bool.and_eq_true, List.isEmpty_iff, beq_iff_eq] at h
  obtain ⟨rfl, rfl⟩ := h
  rfl
theorem isRp_eq {x : V} (h : fm x = true) (hr : isRp x = true) : x = repV (rpOf x) := by
  obtain ⟨k, n, s, l⟩ := x
  unfold isRp at hr
  simp only [Bool.and_eq_true, beq_iff_eq] at hr
  obtain ⟨hk, hl⟩ := hr
  have hk : k = 3 := hk
  subst hk
  have h : (n == 0 && s.toList.isEmpty && fms l) = true := by simpa [fm] using h
  simp only [Bool.and_eq_true, List.isEmpty_iff, beq_iff_eq] at h
  obtain ⟨⟨rfl, h1⟩, h2⟩ := h
  have : s = ⟨#[]⟩ := str_eq (by rw [h1, ByteArray.toList_eq])
  subst this
  have hl : l.map V.kind = [1, 1, 1, 1, 2, 1] := hl
  have hlen : l.length = 6 := by have := congrArg List.length hl; simpa using this
  match l, hlen, hl, h2 with
  | [a, b, c, d, e, f], _, hl, h2 =>
    simp only [List.map_cons, List.map_nil, List.cons.injEq, and_true] at hl
    obtain ⟨ha, hb, hc, hd, he, hf⟩ := hl
    simp only [fms, Bool.and_eq_true, and_true] at h2
    obtain ⟨ga, gb, gc, gd, ge, gf⟩ := h2
    show V.mk 3 0 ⟨#[]⟩ [a, b, c, d, e, f] = listV [leafI a.n, leafI b.n, leafI c.n, leafI d.n, leafT e.s, leafI f.n]
    rw [← leafI_of ga ha, ← leafI_of gb hb, ← leafI_of gc hc, ← leafI_of gd hd, ← leafT_of ge he, ← leafI_of gf hf]; rfl
/-- what Decode answers: the report, and the error -/
def decR (l : List UInt8) : Option Rp × Int := match decF l with
  | none => (none, 10)
  | some x => if isRp x && repB 4 3 (rpOf x) then (some (rpOf x), 0) else (none, 220)
def rpZ : Rp := ⟨0, 0, 0, 0, ⟨#[]⟩, 0⟩
def DecRP (l : List UInt8) (w : World) (e : Ending) (w' : World) : Prop :=
  e = .returned (.tuple #[.agg #[.int .i64 ((decR l).1.getD rpZ).st, .int .i64 ((decR l).1.getD rpZ).no, .int .i64 ((decR l).1.getD rpZ).mi, .int .i64 ((decR l).1.getD rpZ).ar, .string ((decR l).1.getD rpZ).cl, .int .i64 ((decR l).1.getD rpZ).vo], .int .i64 (decR l).2]) ∧ Below w.heap.size w w'
theorem decR_code {l : List UInt8} (h : decF l = none) : decR l = (none, 10) := by unfold decR; rw [h]
theorem decR_bad {l : List UInt8} {x : V} (h : decF l = some x) (hb : (isRp x && repB 4 3 (rpOf x)) = false) : decR l = (none, 220) := by unfold decR; rw [h]; simp [hb]
theorem decR_ok {l : List UInt8} {x : V} (h : decF l = some x) (hb : (isRp x && repB 4 3 (rpOf x)) = true) : decR l = (some (rpOf x), 0) := by unfold decR; rw [h]; simp [hb]
theorem decRP_none {l : List UInt8} {w w' : World} {k : Int} (h : decR l = (none, k)) (hb : Below w.heap.size w w') : DecRP l w (.returned (.tuple #[.agg #[.int .i64 0, .int .i64 0, .int .i64 0, .int .i64 0, .string ⟨#[]⟩, .int .i64 0], .int .i64 k])) w' := by
  unfold DecRP; rw [h]; exact ⟨rfl, hb⟩
theorem decRP_some {l : List UInt8} {w w' : World} {r : Rp} (h : decR l = (some r, 0)) (hb : Below w.heap.size w w') : DecRP l w (.returned (.tuple #[.agg #[.int .i64 r.st, .int .i64 r.no, .int .i64 r.mi, .int .i64 r.ar, .string r.cl, .int .i64 r.vo], .int .i64 0])) w' := by
  unfold DecRP; rw [h]; exact ⟨rfl, hb⟩
/-- the reference's test: six elements, and the encoding again -/
theorem again_iff {l : List UInt8} {x : V} (h : decF l = some x) (hl : l.length ≤ maxLen) (hk : x.kind = 3) (h6 : x.l.length = 6) : (repB 4 3 (rpOf x) && decide (enc (repV (rpOf x)) = l)) = (isRp x && repB 4 3 (rpOf x)) := by
  obtain ⟨h1, h2, h3, _⟩ := decF_sound h hl
  cases hr : repB 4 3 (rpOf x) with
  | false => simp
  | true =>
    simp only [Bool.true_and, Bool.and_true]
    rw [Bool.eq_iff_iff, decide_eq_true_eq]
    constructor
    · intro he
      have hs := repB_sound hr
      have := decF_enc (repV_ck (rpOf x)) (repV_ok hs.1 (by unfold maxLen; omega))
      rw [he, h] at this
      injection this with this
      rw [this]; exact isRp_repV _
    · intro hi
      rw [← isRp_eq (ck_fm h2) hi]; exact h1
/-- Decode undoes Encode -/
theorem decR_enc {r : Rp} (h : repB 4 3 r = true) : decR (enc (repV r)) = (some r, 0) := by
  have hs := repB_sound h
  have := decR_ok (decF_enc (repV_ck r) (repV_ok hs.1 (by unfold maxLen; omega))) (by rw [isRp_repV, rpOf_repV, h]; rfl)
  rw [rpOf_repV] at this; exact this
theorem decR_sound {l : List UInt8} {r : Rp} {k : Int} (h : decR l = (some r, k)) (hl : l.length ≤ maxLen) : k = 0 ∧ repB 4 3 r = true ∧ enc (repV r) = l := by
  unfold decR at h
  cases hd : decF l with
  | none => rw [hd] at h; cases h
  | some x =>
    rw [hd] at h
    simp only at h
    split at h
    · rename_i hb
      simp only [Bool.and_eq_true] at hb
      injection h with h1 h2
      injection h1 with h1
      subst h1
      obtain ⟨g1, g2, _, _⟩ := decF_sound hd hl
      exact ⟨h2.symm, hb.2, by rw [← isRp_eq (ck_fm g2) hb.1]; exact g1⟩
    · cases h
end Go.Proofs.Ytgdbmoggpfpkkaa
/- Decode's helpers: the kinds of a list compared. -/
namespace Go.Proofs.Ytgdbmoggpfpkkaa
open Go.RowKit
set_option maxRecDepth 100000 in
set_option maxHeartbeats 1000000 in
theorem dec1_any (x : V) (oa : Option Addr) (cap : Nat) (n : Int) (w : World) : Calls Try.prog 38 #[.agg #[.int .i64 x.kind, .int .i64 x.n, .string x.s, .slice oa x.l.length cap], .int .i64 n] w fun e w' => e = .returned (.bool (x.kind == n)) ∧ Below w.heap.size w w' := by
  obtain ⟨b, hb⟩ : ∃ b, (x.kind == n) = b := ⟨_, rfl⟩
  rw [hb]
  go_enter Try.func38, Try.ntmps38
  go_wp2
  go_ret
  exact ⟨by rfl, (Below.refl _ _).alloc (Nat.le_refl _) _⟩
def EqkRel (w : World) (a : List V) (ks : List Int) (i : Value) (wr : World) : Prop := ∃ k : Nat, k ≤ a.length ∧ i = .int .i64 k ∧ (a.map V.kind == ks) = ((a.drop k).map V.kind == ks.drop k) ∧ Below w.heap.size w wr
theorem drop_V {l : List V} {k : Nat} {x : V} (h : l[k]? = some x) : l.drop k = x :: l.drop (k + 1) := by
  obtain ⟨h1, h2⟩ := List.getElem?_eq_some_iff.1 h
  rw [List.drop_eq_getElem_cons h1, h2]
theorem IntsAt.at {B : Nat} {w : World} {l : List Int} {oa : Option Addr} {cap k : Nat} (h : IntsAt B w l (.slice oa l.length cap)) (hk : k < l.length) :
    ∃ b off, oa = some ⟨b, off, none⟩ ∧ ∀ j r, l[j]? = some r → w.cell? ⟨b, off + j, none⟩ = some (.int .i64 r) := by
  rcases h with ⟨rfl, _⟩ | ⟨b, off, cp, h1, _, _, _, h5⟩
  · simp at hk
  · injection h1 with h1 _ _
    exact ⟨b, off, h1, h5⟩
set_option maxRecDepth 100000 in
set_option maxHeartbeats 1000000 in
theorem eqk_any (a : List V) (ks : List Int) (oa : Option Addr) (ca : Nat) (kv : Value) (w : World) (ha : SlV w.heap.size w a (.slice oa a.length ca)) (hb : IntsAt w.heap.size w ks kv) :
    Calls Try.prog 37 #[.slice oa a.length ca, kv, .func (.func 38) #[] #[]] w (BoolPost (a.map V.kind == ks) w) := by
  obtain ⟨ob, cb, rfl, hbl⟩ := hb.shape
  have HA := Lib.hid ha; have HB := Lib.hid hb; clear ha hb
  by_cases hlen : a.length = ks.length
  case neg =>
    have hne : (((a.length : Nat) : Int) != ((ks.length : Nat) : Int)) = true := by rw [bne_iff_ne]; omega
    have hs : Hid ((a.map V.kind == ks) = false) := by
      show _ = _
      rw [beq_eq_false_iff_ne]; intro h; exact hlen (by rw [← h, List.length_map])
    clear hbl
    go_enter Try.func37, Try.ntmps37
    go_wp2
    go_ret
    exact ⟨by rw [hs.out]; rfl, Below.refl _ _⟩
  case pos =>
    have hne : (((a.length : Nat) : Int) != ((ks.length : Nat) : Int)) = false := by rw [bne_eq_false_iff_eq]; omega
    have bla : (a.length : Int) ≤ 9223372036854775807 := by omega
    have Hlen := Lib.hid hlen
    clear hbl hlen
    go_enter Try.func37, Try.ntmps37
    go_wp2_with fail
    clear hne
    go_loopw [17] (fun i wr => EqkRel w a ks i wr) (fun i _ => a.length - (intOf i).toNat)
    case atStart => exact ⟨0, Nat.zero_le _, rfl, rfl, Below.refl _ _⟩
    case round =>
      obtain ⟨k, hkl, rfl, hsm, hbw⟩ := hrel
      have Hsm := Lib.hid hsm; have HBW := Lib.hid hbw
      clear hsm
      by_cases hlt : k < a.length
      case neg =>
        have hss : Hid ((a.map V.kind == ks) = true) := by
          show _ = _
          rw [Hsm.out, List.drop_of_length_le (by omega), List.drop_of_length_le (by have := Hlen.out; omega)]; rfl
        clear hbw
        have tj : decide ((k : Int) < (a.length : Int)) = false := by simp; omega
        go_wp2_with fail
        go_ret
        exact ⟨by rw [hss.out]; rfl, HBW.out⟩
      case pos =>
        have hlb : k < ks.length := by have := Hlen.out; omega
        have tj : decide ((k : Int) < (a.length : Int)) = true := by simp; omega
        have tj1 : (k : Int) < (a.length : Int) := by omega
        have tj2 : (k : Int) < (ks.length : Int) := by omega
        obtain ⟨x, hx'⟩ : ∃ x, a[k]? = some x := ⟨a[k], by simp [hlt]⟩
        obtain ⟨y, hy'⟩ : ∃ y, ks[k]? = some y := ⟨ks[k], by simp [hlb]⟩
        obtain ⟨c, o, xo, xc, rfl, hcb, c0, c1, c2, c3, hrd⟩ := HA.out.elem hbw.block hbw.size hx'
        obtain ⟨d, p, rfl, hat⟩ := (HB.out.ext hbw).at hlb
        have d0 := hat k y hy'
        have d0' := cell_ext ((Below.refl wr.heap.size wr).alloc (Nat.le_refl _) (.cells #[.int .i64 x.kind, .int .i64 x.n, .string x.s, .slice xo x.l.length xc] 57)) d0
        obtain ⟨q, hq⟩ : ∃ q, (x.kind == y) = q := ⟨_, rfl⟩
        have hst : Hid ((a.map V.kind == ks) = (q && ((a.drop (k + 1)).map V.kind == ks.drop (k + 1)))) := by
          show _ = _
          rw [Hsm.out, drop_V hx', idrop_at hy', List.map_cons, ← hq]; rfl
        have Hq := Lib.hid hq
        have HB2 := Lib.hid (hbw.alloc hbw.size (.cells #[.int .i64 x.kind, .int .i64 x.n, .string x.s, .slice xo x.l.length xc] 57))
        clear hx' hy' hat hbw hrd hq
        cases q
        · go_wp2_with (go_at_call 38; refine (dec1_any x xo xc y _).mono ?_; rw [Hq.out]; rintro e w3 ⟨rfl, hb3⟩)
          go_ret
          exact ⟨by rw [hst.out]; rfl, below_ext HBW.out (below_after hb3)⟩
        · go_wp2_with (go_at_call 38; refine (dec1_any x xo xc y _).mono ?_; rw [Hq.out]; rintro e w3 ⟨rfl, hb3⟩)
          go_roundw
          case rel => exact ⟨k + 1, by omega, by go_num, by rw [hst.out]; rfl, below_ext HBW.out (below_after hb3)⟩
          case measure => simp [intOf]; omega
end Go.Proofs.Ytgdbmoggpfpkkaa
/- Decode of a report: the program's. -/
namespace Go.Proofs.Ytgdbmoggpfpkkaa
open Go.RowKit
/-- a report stored over a report -/
def set6 (w : World) (g : Nat) (r : Rp) : World := (((((w.setCell ⟨g, 0, none⟩ (.int .i64 r.st)).setCell ⟨g, 1, none⟩ (.int .i64 r.no)).setCell ⟨g, 2, none⟩ (.int .i64 r.mi)).setCell ⟨g, 3, none⟩ (.int .i64 r.ar)).setCell ⟨g, 4, none⟩ (.string r.cl)).setCell ⟨g, 5, none⟩ (.int .i64 r.vo)
theorem set6_cb {w : World} {g : Nat} {t : TypeId} {r0 : Rp} (r : Rp) (h : CB w g t r0.cells) : CB (set6 w g r) g t r.cells :=
  ((((((h.set 0 _).set 1 _).set 2 _).set 3 _).set 4 _).set 5 _)
theorem set6_below {B g : Nat} {w0 w : World} (r : Rp) (h : Below B w0 w) (hg : B ≤ g) : Below B w0 (set6 w g r) :=
  (((((h.setCell (p := ⟨g, 0, none⟩) hg _).setCell (p := ⟨g, 1, none⟩) hg _).setCell (p := ⟨g, 2, none⟩) hg _).setCell (p := ⟨g, 3, none⟩) hg _).setCell (p := ⟨g, 4, none⟩) hg _).setCell (p := ⟨g, 5, none⟩) hg _
theorem set6_far {g k : Nat} {w : World} (r : Rp) (h : k ≠ g) : (set6 w g r).heap[k]? = w.heap[k]? := by
  unfold set6
  repeat rw [Below.heap_setCell _ _ _ _ h]
theorem sl_alloc {w : World} {l : List V} {v : Value} (h : SlV w.heap.size w l v) (o : Obj) : SlV (w.alloc o).heap.size (w.alloc o) l v := h.ext ((Below.refl w.heap.size w).alloc (Nat.le_refl _) o)
theorem kinds_at {w : World} {g : Nat} {t : TypeId} (h : CB w g t (kindsR.map (Value.int .i64))) : IntsAt w.heap.size w kindsR (.slice (some ⟨g, 0, none⟩) 6 6) :=
  .inr ⟨g, 0, 6, rfl, by decide, by unfold maxLen; omega, h.lt, fun j x hj => by rw [Nat.zero_add, h.cell, List.getElem?_map, hj]; rfl⟩
theorem six_of {l : List V} (h : l.length = 6) : ∃ a b c d e f, l = [a, b, c, d, e, f] := by
  match l, h with
  | [a, b, c, d, e, f], _ => exact ⟨a, b, c, d, e, f, rfl⟩
theorem rp_cells6 (r : Rp) : r.cells = [.int .i64 r.st, .int .i64 r.no, .int .i64 r.mi, .int .i64 r.ar, .string r.cl, .int .i64 r.vo] := rfl
set_option maxRecDepth 100000 in
set_option maxHeartbeats 4000000 in
theorem decode22_any (l : List UInt8) (hl : l.length ≤ 1000000) (v : Value) (w : World) (hb : BtsAt w.heap.size w l v) : Calls Try.prog 19 #[v] w (DecRP l w) := by
  have HW := Lib.hid hb
  obtain ⟨ob, cap2, rfl, hbc, hbm⟩ := hb.form
  have hrl : l.length ≤ 9223372036854775807 := by omega
  have Hl := Lib.hid hl
  clear hb hbc hbm hl
  have hcb0 : Hid (CB (w.alloc (.cells #[.int .i64 0, .int .i64 0, .int .i64 0, .int .i64 0, .string ⟨#[]⟩, .int .i64 0] 23)) w.heap.size 23 rpZ.cells) := CB.new w _ _
  have hb0 := Lib.hid ((Below.refl w.heap.size w).alloc (Nat.le_refl _) (.cells #[.int .i64 0, .int .i64 0, .int .i64 0, .int .i64 0, .string ⟨#[]⟩, .int .i64 0] 23))
  obtain ⟨o, ho⟩ : ∃ o, decF l = o := ⟨_, rfl⟩
  have HO := Lib.hid ho; clear ho
  go_enter Try.func19, Try.ntmps19
  go_upto_region 1 with fail
  generalize w.alloc (.cells #[.int .i64 0, .int .i64 0, .int .i64 0, .int .i64 0, .string ⟨#[]⟩, .int .i64 0] 23) = w0 at *
  go_wp2_with fail
  refine (decode_rd l Hl.out _ _ (HW.out.ext hb0.out)).mono ?_
  rw [HO.out]
  cases o with
  | none =>
    rintro e w1 ⟨rfl, hb1⟩
    have HB1 := Lib.hid ((below_ext hb0.out hb1).alloc (below_ext hb0.out hb1).size (.cells #[.int .i64 0, .int .i64 0, .string ⟨#[]⟩, .slice none 0 0] 57))
    have HC1 : Hid (CB (w1.alloc (.cells #[.int .i64 0, .int .i64 0, .string ⟨#[]⟩, .slice none 0 0] 57)) w.heap.size 23 rpZ.cells) := (hcb0.out.ext hb1).alloc _
    clear hb1
    go_upto_region 3 with fail
    generalize w1.alloc (.cells #[.int .i64 0, .int .i64 0, .string ⟨#[]⟩, .slice none 0 0] 57) = w2 at *
    obtain ⟨c0, c1, c2, c3, c4, c5⟩ := RpAt.of_cb HC1.out
    have yf : ∀ o, w2.frozen? ⟨w.heap.size, o, none⟩ = false := HC1.out.frozen
    go_wp2_with fail
    change bodyPost _ _ _ _ _ (set6 w2 w.heap.size rpZ)
    have HC3 := Lib.hid (set6_cb rpZ HC1.out)
    have HB3 := Lib.hid (set6_below rpZ HB1.out (Nat.le_refl _))
    clear c0 c1 c2 c3 c4 c5 yf
    generalize set6 w2 w.heap.size rpZ = w3 at *
    obtain ⟨y0, y1, y2, y3, y4, y5⟩ := RpAt.of_cb HC3.out
    refine bodyPost_ret (v := .tuple #[.agg #[.int .i64 rpZ.st, .int .i64 rpZ.no, .int .i64 rpZ.mi, .int .i64 rpZ.ar, .string rpZ.cl, .int .i64 rpZ.vo], .int .i64 10]) (by simp [results, Try.results19, go_sem, y0, y1, y2, y3, y4, y5]) rfl ?_
    exact decRP_none (decR_code HO.out) HB3.out
  | some x =>
    rintro e w1 ⟨oa, cap, rfl, hv1, hb1⟩
    have HB1 := Lib.hid ((below_ext hb0.out hb1).alloc (below_ext hb0.out hb1).size (.cells #[.int .i64 x.kind, .int .i64 x.n, .string x.s, .slice oa x.l.length cap] 57))
    have HC1 : Hid (CB (w1.alloc (.cells #[.int .i64 x.kind, .int .i64 x.n, .string x.s, .slice oa x.l.length cap] 57)) w.heap.size 23 rpZ.cells) := (hcb0.out.ext hb1).alloc _
    have HX1 : Hid (CB (w1.alloc (.cells #[.int .i64 x.kind, .int .i64 x.n, .string x.s, .slice oa x.l.length cap] 57)) w1.heap.size 57 [.int .i64 x.kind, .int .i64 x.n, .string x.s, .slice oa x.l.length cap]) := CB.new w1 _ _
    have HV1 : Hid (SlV (w1.alloc (.cells #[.int .i64 x.kind, .int .i64 x.n, .string x.s, .slice oa x.l.length cap] 57)).heap.size (w1.alloc (.cells #[.int .i64 x.kind, .int .i64 x.n, .string x.s, .slice oa x.l.length cap] 57)) x.l (.slice oa x.l.length cap)) := by
      obtain ⟨oa2, cap2, he, hs⟩ := (hv1.alloc (.cells #[.int .i64 x.kind, .int .i64 x.n, .string x.s, .slice oa x.l.length cap] 57)).form
      injection he with he
      have he := congrArg (fun a => a.toList[3]?) he
      simp at he
      obtain ⟨rfl, rfl⟩ := he
      exact hs
    have hsnd := Lib.hid (decF_sound HO.out (by have := Hl.out; unfold maxLen; omega))
    clear hb1 hv1
    go_upto_region 5 with fail
    have HB2 := Lib.hid (HB1.out.alloc HB1.out.size (.cells #[.int .i64 1, .int .i64 1, .int .i64 1, .int .i64 1, .int .i64 2, .int .i64 1] 3))
    have HC2 : Hid (CB ((w1.alloc (.cells #[.int .i64 x.kind, .int .i64 x.n, .string x.s, .slice oa x.l.length cap] 57)).alloc (.cells #[.int .i64 1, .int .i64 1, .int .i64 1, .int .i64 1, .int .i64 2, .int .i64 1] 3)) w.heap.size 23 rpZ.cells) := HC1.out.alloc _
    have HX2 : Hid (CB ((w1.alloc (.cells #[.int .i64 x.kind, .int .i64 x.n, .string x.s, .slice oa x.l.length cap] 57)).alloc (.cells #[.int .i64 1, .int .i64 1, .int .i64 1, .int .i64 1, .int .i64 2, .int .i64 1] 3)) w1.heap.size 57 [.int .i64 x.kind, .int .i64 x.n, .string x.s, .slice oa x.l.length cap]) := HX1.out.alloc _
    have HV2 := Lib.hid (sl_alloc HV1.out (.cells #[.int .i64 1, .int .i64 1, .int .i64 1, .int .i64 1, .int .i64 2, .int .i64 1] 3))
    have HK2 : Hid (IntsAt ((w1.alloc (.cells #[.int .i64 x.kind, .int .i64 x.n, .string x.s, .slice oa x.l.length cap] 57)).alloc (.cells #[.int .i64 1, .int .i64 1, .int .i64 1, .int .i64 1, .int .i64 2, .int .i64 1] 3)).heap.size ((w1.alloc (.cells #[.int .i64 x.kind, .int .i64 x.n, .string x.s, .slice oa x.l.length cap] 57)).alloc (.cells #[.int .i64 1, .int .i64 1, .int .i64 1, .int .i64 1, .int .i64 2, .int .i64 1] 3)) kindsR (.slice (some ⟨w1.heap.size + 1, 0, none⟩) 6 6)) := kinds_at (cb_two w1 (.cells #[.int .i64 x.kind, .int .i64 x.n, .string x.s, .slice oa x.l.length cap] 57) 3 _)
    clear HB1 HC1 HX1 HV1
    generalize (w1.alloc (.cells #[.int .i64 x.kind, .int .i64 x.n, .string x.s, .slice oa x.l.length cap] 57)).alloc (.cells #[.int .i64 1, .int .i64 1, .int .i64 1, .int .i64 1, .int .i64 2, .int .i64 1] 3) = w2 at *
    have d0 : w2.cell? ⟨w1.heap.size, 0, none⟩ = some (.int .i64 x.kind) := HX2.out.cell 0
    have d3 : w2.cell? ⟨w1.heap.size, 3, none⟩ = some (.slice oa x.l.length cap) := HX2.out.cell 3
    by_cases hk : x.kind = 3
    case neg =>
      have hN := Lib.hid (decR_bad HO.out (by unfold isRp; rw [show (x.kind == 3) = false by rw [beq_eq_false_iff_ne]; exact hk]; simp))
      have tk : (x.kind != 3) = true := by rw [bne_iff_ne]; exact hk
      clear hk
      go_upto_region 6 with fail
      obtain ⟨c0, c1, c2, c3, c4, c5⟩ := RpAt.of_cb HC2.out
      have yf : ∀ o, w2.frozen? ⟨w.heap.size, o, none⟩ = false := HC2.out.frozen
      go_wp2_with fail
      change bodyPost _ _ _ _ _ (set6 w2 w.heap.size rpZ)
      have HC9 := Lib.hid (set6_cb rpZ HC2.out)
      have HB9 := Lib.hid (set6_below rpZ HB2.out (Nat.le_refl _))
      clear c0 c1 c2 c3 c4 c5 yf
      generalize set6 w2 w.heap.size rpZ = w9 at *
      obtain ⟨y0, y1, y2, y3, y4, y5⟩ := RpAt.of_cb HC9.out
      refine bodyPost_ret (v := .tuple #[.agg #[.int .i64 rpZ.st, .int .i64 rpZ.no, .int .i64 rpZ.mi, .int .i64 rpZ.ar, .string rpZ.cl, .int .i64 rpZ.vo], .int .i64 220]) (by simp [results, Try.results19, go_sem, y0, y1, y2, y3, y4, y5]) rfl ?_
      exact decRP_none hN.out HB9.out
    case pos =>
    have tk : (x.kind != 3) = false := by rw [hk]; rfl
    have Hk := Lib.hid hk
    clear hk
    obtain ⟨q, hq⟩ : ∃ q, (x.l.map V.kind == kindsR) = q := ⟨_, rfl⟩
    have Hq := Lib.hid hq
    clear hq
    have hir : Hid (isRp x = q) := by show _ = _; unfold isRp; rw [Hk.out, Hq.out]; rfl
    go_wp2_with fail
    refine (eqk_any x.l kindsR oa cap _ _ HV2.out HK2.out).mono ?_
    rw [Hq.out]
    rintro e w3 ⟨rfl, hb3⟩
    have HB3 := Lib.hid (below_ext HB2.out hb3)
    have HC3 := Lib.hid (HC2.out.ext hb3)
    have HX3 := Lib.hid (HX2.out.ext hb3)
    have HV3 := Lib.hid (HV2.out.ext hb3)
    clear hb3 d0 d3 HB2 HC2 HX2 HV2 HK2
    cases q
    case false =>
      have hN := Lib.hid (decR_bad HO.out (by rw [hir.out]; rfl))
      go_upto_region 6 with fail
      obtain ⟨c0, c1, c2, c3, c4, c5⟩ := RpAt.of_cb HC3.out
      have yf : ∀ o, w3.frozen? ⟨w.heap.size, o, none⟩ = false := HC3.out.frozen
      go_wp2_with fail
      change bodyPost _ _ _ _ _ (set6 w3 w.heap.size rpZ)
      have HC9 := Lib.hid (set6_cb rpZ HC3.out)
      have HB9 := Lib.hid (set6_below rpZ HB3.out (Nat.le_refl _))
      clear c0 c1 c2 c3 c4 c5 yf
      generalize set6 w3 w.heap.size rpZ = w9 at *
      obtain ⟨y0, y1, y2, y3, y4, y5⟩ := RpAt.of_cb HC9.out
      refine bodyPost_ret (v := .tuple #[.agg #[.int .i64 rpZ.st, .int .i64 rpZ.no, .int .i64 rpZ.mi, .int .i64 rpZ.ar, .string rpZ.cl, .int .i64 rpZ.vo], .int .i64 220]) (by simp [results, Try.results19, go_sem, y0, y1, y2, y3, y4, y5]) rfl ?_
      exact decRP_none hN.out HB9.out
    case true =>
      have d3 : w3.cell? ⟨w1.heap.size, 3, none⟩ = some (.slice oa x.l.length cap) := HX3.out.cell 3
      go_upto_region 8 with fail
      have h6 : x.l.length = 6 := by have : (List.map V.kind x.l).length = 6 := congrArg List.length (beq_iff_eq.1 Hq.out); rwa [List.length_map] at this
      obtain ⟨a, b, c, d, e, f, hx⟩ := six_of h6
      rw [h6]
      rw [h6] at HV3
      have HX6 := Lib.hid hx
      rw [hx] at HV3
      clear hx h6 d3
      skip
      obtain ⟨_, gb, go, cap', he, _, hat⟩ : _ ∧ _ := by
        rcases HV3.out with ⟨h, _⟩ | h
        · cases h
        · exact h
      injection he with he _ _
      subst he
      have p0 := (V.at_def (V.ats_get hat 0 a rfl)).2.2.1
      have p1 := (V.at_def (V.ats_get hat 1 b rfl)).2.2.1
      have p2 := (V.at_def (V.ats_get hat 2 c rfl)).2.2.1
      have p3 := (V.at_def (V.ats_get hat 3 d rfl)).2.2.1
      have p4 := (V.at_def (V.ats_get hat 4 e rfl)).2.2.2.1
      have p5 := (V.at_def (V.ats_get hat 5 f rfl)).2.2.1
      clear hat
      simp only [Nat.zero_mul, Nat.add_zero, Nat.one_mul, Nat.reduceMul] at p0 p1 p2 p3 p4 p5
      go_still_tail 25, (by kernel_rfl)
      obtain ⟨rr, hrr⟩ : ∃ rr : Rp, (⟨a.n, b.n, c.n, d.n, e.s, f.n⟩ : Rp) = rr := ⟨_, rfl⟩
      have hrx : Hid (rpOf x = rr) := by show _ = _; rw [← hrr]; unfold rpOf; rw [HX6.out]
      have q0 : a.n = rr.st := by rw [← hrr]
      have q1 : b.n = rr.no := by rw [← hrr]
      have q2 : c.n = rr.mi := by rw [← hrr]
      have q3 : d.n = rr.ar := by rw [← hrr]
      have q4 : e.s = rr.cl := by rw [← hrr]
      have q5 : f.n = rr.vo := by rw [← hrr]
      rw [q0, q1, q2, q3, q4, q5]
      clear hrr q0 q1 q2 q3 q4 q5 p0 p1 p2 p3 p4 p5
      change wpList _ _ _ _ _ w3.drew
      have HC4 : Hid (CB w3.drew w.heap.size 23 rpZ.cells) := HC3.out.keep rfl
      have HB4 := Lib.hid HB3.out.drew
      clear HC3 HB3 HX3 HV3
      generalize w3.drew = w4 at *
      obtain ⟨c0, c1, c2, c3, c4, c5⟩ := RpAt.of_cb HC4.out
      have yf : ∀ o, w4.frozen? ⟨w.heap.size, o, none⟩ = false := HC4.out.frozen
      go_upto_region 9 with fail
      change Code.wp _ _ _ _ (set6 w4 w.heap.size rr)
      have HC5 := Lib.hid (set6_cb rr HC4.out)
      have HB5 := Lib.hid (set6_below rr HB4.out (Nat.le_refl _))
      clear c0 c1 c2 c3 c4 c5 yf HC4 HB4
      generalize set6 w4 w.heap.size rr = w5 at *
      obtain ⟨c0, c1, c2, c3, c4, c5⟩ := RpAt.of_cb HC5.out
      have hcl : rr.cl.size ≤ 9223372036854775807 := by
        rw [← hrx.out]
        have := hsnd.out.2.2.2
        have h2 : e.s.size ≤ sz x := by
          obtain ⟨k', n', s', l'⟩ := x
          have hl' : l' = [a, b, c, d, e, f] := HX6.out
          obtain ⟨ke, ne, se, le⟩ := e
          subst hl'
          simp only [sz, szs, V.s]; omega
        have h3 : (rpOf x).cl = e.s := by unfold rpOf; rw [HX6.out]
        rw [h3]; have := Hl.out; omega
      obtain ⟨rb, hrb⟩ : ∃ c, repB 4 3 rr = c := ⟨_, rfl⟩
      have Hrb := Lib.hid hrb; clear hrb
      cases rb
      case false =>
        have hN := Lib.hid (decR_bad HO.out (by rw [hrx.out, Hrb.out]; simp))
        go_wp2_with fail
        refine (check_f rr Hrb hcl _).mono ?_
        rintro e w6 ⟨rfl, hb6⟩
        have HC6 := Lib.hid (HC5.out.ext hb6)
        have HB6 := Lib.hid (below_ext HB5.out hb6)
        clear hb6 c0 c1 c2 c3 c4 c5
        obtain ⟨c0, c1, c2, c3, c4, c5⟩ := RpAt.of_cb HC6.out
        have yf : ∀ o, w6.frozen? ⟨w.heap.size, o, none⟩ = false := HC6.out.frozen
        go_wp2_with fail
        change bodyPost _ _ _ _ _ (set6 w6 w.heap.size rpZ)
        have HC9 := Lib.hid (set6_cb rpZ HC6.out)
        have HB9 := Lib.hid (set6_below rpZ HB6.out (Nat.le_refl _))
        clear c0 c1 c2 c3 c4 c5 yf
        generalize set6 w6 w.heap.size rpZ = w9 at *
        obtain ⟨y0, y1, y2, y3, y4, y5⟩ := RpAt.of_cb HC9.out
        refine bodyPost_ret (v := .tuple #[.agg #[.int .i64 rpZ.st, .int .i64 rpZ.no, .int .i64 rpZ.mi, .int .i64 rpZ.ar, .string rpZ.cl, .int .i64 rpZ.vo], .int .i64 220]) (by simp [results, Try.results19, go_sem, y0, y1, y2, y3, y4, y5]) rfl ?_
        exact decRP_none hN.out HB9.out
      case true =>
        have hN := Lib.hid (decR_ok HO.out (by rw [hrx.out, Hrb.out, hir.out]; rfl))
        rw [hrx.out] at hN
        go_wp2_with fail
        refine (check_t rr Hrb hcl _).mono ?_
        rintro e w6 ⟨rfl, hb6⟩
        have HC6 := Lib.hid (HC5.out.ext hb6)
        have HB6 := Lib.hid (below_ext HB5.out hb6)
        clear hb6 c0 c1 c2 c3 c4 c5
        obtain ⟨c0, c1, c2, c3, c4, c5⟩ := RpAt.of_cb HC6.out
        have yf : ∀ o, w6.frozen? ⟨w.heap.size, o, none⟩ = false := HC6.out.frozen
        go_wp2_with fail
        change bodyPost _ _ _ _ _ (set6 w6 w.heap.size rr)
        have HC9 := Lib.hid (set6_cb rr HC6.out)
        have HB9 := Lib.hid (set6_below rr HB6.out (Nat.le_refl _))
        clear c0 c1 c2 c3 c4 c5 yf
        generalize set6 w6 w.heap.size rr = w9 at *
        obtain ⟨y0, y1, y2, y3, y4, y5⟩ := RpAt.of_cb HC9.out
        refine bodyPost_ret (v := .tuple #[.agg #[.int .i64 rr.st, .int .i64 rr.no, .int .i64 rr.mi, .int .i64 rr.ar, .string rr.cl, .int .i64 rr.vo], .int .i64 0]) (by simp [results, Try.results19, go_sem, y0, y1, y2, y3, y4, y5]) rfl ?_
        exact decRP_some hN.out HB9.out
end Go.Proofs.Ytgdbmoggpfpkkaa
