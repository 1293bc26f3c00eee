/- Merged: Tbs. -/
import Derived.Test.YtbonebmboolemaaDoorK22
import Derived.Great.BuildSlice
/- a slice of one digest, built. -/
namespace Go.Proofs.YtbonebmboolemaaDoor
open Go.RowKit
theorem fold_set : ∀ (L : List Value) (k : Nat) (A : Array Value), A.size = k + L.length → ((L.zipIdx k).foldl (fun cs x => cs.setIfInBounds x.2 x.1) A).toList = A.toList.take k ++ L
  | [], k, A, h => by
    simp only [List.zipIdx_nil, List.foldl_nil, List.append_nil]
    rw [List.take_of_length_le (by simp at h ⊢; omega)]
  | x :: r, k, A, h => by
    rw [List.zipIdx_cons, List.foldl_cons, fold_set r (k + 1) _ (by simp at h ⊢; omega)]
    simp only [List.length_cons] at h
    rw [Array.toList_setIfInBounds, List.take_set, List.take_succ_eq_append_getElem (by simp; omega), List.set_append_right _ _ (by simp; omega)]
    simp only [List.length_take, Array.length_toList, Nat.min_eq_left (show k ≤ A.size by omega), Nat.sub_self, List.set_cons_zero, List.append_assoc, List.singleton_append]
theorem fill_one (A0 cs : Array Value) (n : Nat) (h : cs.size = n) (hA : A0.size = n) (v : Value) (hv : v.cells = cs) : Instr.fill (fun i => some (i * n, n)) A0 [(0, v)] = some cs := by
  have hc : ¬ ((decide (cs.size ≠ n) || decide (0 * n + cs.size > A0.size)) = true) := by rw [h, hA]; simp
  simp only [Instr.fill, hv]
  rw [if_neg hc]
  congr 1
  have hf := fold_set cs.toList 0 A0 (by rw [hA, Array.length_toList, h]; omega)
  rw [List.take_zero, List.nil_append] at hf
  apply Array.toList_inj.1
  refine Eq.trans ?_ hf
  rw [← Array.foldl_toList, Array.toList_zipIdx]
  simp only [Nat.zero_mul, Nat.zero_add]
theorem dig_info3 : ∃ ie, Tryd.prog.info? 29 = some ie ∧ ie.zero = some (.agg (bcells dgZ.1).toArray) ∧ ie.size = 32 := by
  have h : (Tryd.prog.info? 29).map (fun i => (i.zero, i.size)) = some (some (.agg (bcells dgZ.1).toArray), 32) := by kernel_rfl
  cases hq : Tryd.prog.info? 29 with
  | none => rw [hq] at h; cases h
  | some ie =>
    rw [hq] at h
    have h2 := Option.some.inj h
    exact ⟨ie, rfl, congrArg Prod.fst h2, congrArg Prod.snd h2⟩
theorem bs_dig (d : Dg) (w : World) : (Instr.buildSlice 34 1 #[(0, dv d.1)]).run Tryd.prog w = .ok (.slice (some ⟨w.heap.size, 0, none⟩) 1 1) (w.alloc (bD d)) := by
  obtain ⟨ie, h1, h2, h3⟩ := dig_info3
  have hl : (bcells d.1).length = 32 := by rw [bcells_length, d.2]
  refine run_buildSlice w _ 29 1 _ (bcells d.1).toArray ie _ Tryd.underlying34 h1 h2 (by rw [h3]; decide) (by rw [h3]; decide) ?_
  rw [h3]
  obtain ⟨A0, hA0, hs⟩ : ∃ A0 : Array Value, ((Array.range (1 * 32)).map fun x => (Value.agg (bcells dgZ.1).toArray).cells[x % (Value.agg (bcells dgZ.1).toArray).cells.size]!) = A0 ∧ A0.size = 32 := ⟨_, rfl, by rw [Array.size_map, Array.size_range]⟩
  rw [hA0]
  exact fill_one A0 (bcells d.1).toArray 32 (by rw [List.size_toArray, hl]) hs (dv d.1) rfl
theorem step_bs {ops : Array Oper} {o : Oper} {a : Act} {w : World} {Q : Exit → Act → World → Prop} {K : Act → World → Prop} {E : Prop} (hgd : o.guard = none) (y : Operand) (ho : o.op = .buildSlice 34 1 #[(0, y)])
    (d : Dg) (hy : a.eval y = dv d.1) (h : K (a.put o.dst (.slice (some ⟨w.heap.size, 0, none⟩) 1 1)) (w.alloc (bD d))) :
    if Region.wanted o (yielded ops a.tmps) = true then Oper.wp Tryd.prog o a w K Q else E := by
  have hw : Region.wanted o (yielded ops a.tmps) = true := by simp [Region.wanted, hgd]
  rw [if_pos hw]
  have hr := bs_dig d w
  unfold Oper.wp execOp
  simp only [ho, Sem.run_bind, List.map_toArray, List.map_cons, List.map_nil, hy, hr, Result.andThen_ok]
  exact h
end Go.Proofs.YtbonebmboolemaaDoor
