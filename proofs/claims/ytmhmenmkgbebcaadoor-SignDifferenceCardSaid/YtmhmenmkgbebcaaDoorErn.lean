/- the reference's digest: numbers. -/
import Derived.Test.YtmhmenmkgbebcaaDoorErw
import Derived.Deep.DeepCutAuto
namespace Go.Proofs.YtmhmenmkgbebcaaDoor
open Go.RowKit
def kcs : List Value := kL.map iw32
def kcells : Array Value := kcs.toArray
theorem kcs_len : kcs.length = 64 := by kernel_rfl
theorem kcs_get (t : Nat) (h : t < 64) : kcs[t]? = some (.int .u32 (iw (kK t))) := by
  have hl : kL.length = 64 := by kernel_rfl
  unfold kcs kK
  rw [List.getElem?_map, List.getElem?_eq_getElem (by omega)]; simp [iw32, hl, h]
theorem map_one (l : List W32) : ∀ u ∈ l.map iw32, u.oneCell' = true := by
  intro u hu; simp only [List.mem_map] at hu; obtain ⟨x, _, rfl⟩ := hu; rfl
/-- a whole array is stored -/
theorem wpList_store_c {P : Program} {w : World} {ops : Array Oper} {rest : List Oper} {o : Oper} {a : Act} {Q : Exit → Act → World → Prop} {hgd : o.guard = none} (ty : TypeId) (x y : Operand) (ho : o.op = .store ty x y) (g : Nat) (cs : List Value) (n : Nat) (hn : cs.length = n) (hone : ∀ u ∈ cs, u.oneCell' = true) (hx : a.eval x = .pointer (some ⟨g, 0, none⟩)) (hy : a.eval y = .agg cs.toArray)
    (t : TypeId) (old : Array Value) (hg : w.heap[g]? = some (.cells old t (0, 0))) (hold : old.size = n) (hi : (P.info? ty).map (·.size) = some n)
    (h : ∀ w', Hid (CB w' g t cs) → Hid (w.grownBy w' (some g)) → w'.heap.size = w.heap.size → wpList P ops Q rest (a.put o.dst undef) w') : wpList P ops Q (o :: rest) a w := by
  have hsz : cs.toArray.size = n := by rw [List.size_toArray, hn]
  refine wpList_store_row hgd ty x y ho g cs.toArray hx hy t old hg (by rw [hsz]; exact hi) (by rw [hsz, hold]) (by rw [Array.all_eq_true_iff_forall_mem]; intro x hx; exact hone x (by simpa using hx)) ?_
  refine h _ (setRow_heap _ _ _ _ _ _ hg) ?_ (size_setRow _ _ _)
  exact ⟨rfl, rfl, rfl, by rw [size_setRow]; exact Nat.le_refl _, fun k hk hne => by
    have hkg : k ≠ g := fun e => hne (by rw [e])
    simp [World.setRow, Array.getElem?_modify, Ne.symm hkg]⟩
set_option maxRecDepth 100000 in
set_option maxHeartbeats 1000000 in
theorem numbers_any (w : World) : Calls Tryd.prog 77 #[] w fun e w' => e = .returned (.agg kcs.toArray) ∧ Below w.heap.size w w' := by
  go_enter Tryd.func77, Tryd.ntmps77
  go_upto_region 1 with (fail)
  refine wp_region_list ?_
  refine wpList_build rfl 84 _ rfl (by kernel_rfl) ?_
  generalize hX : (Program.built _ _ _).getD #[] = X
  obtain rfl : X = kcells := by rw [← hX]; kernel_rfl
  clear hX
  refine wpList_store_row rfl 84 (.tmp 0) (.tmp 1) rfl w.heap.size kcells rfl rfl 84 _ (heap_alloc_new _ _) (by kernel_rfl) (by kernel_rfl) (by kernel_rfl) ?_
  have hr := setRow_heap _ w.heap.size _ kcells _ _ (heap_alloc_new w (.cells (List.replicate 64 (Value.int .u32 0)).toArray 84))
  have hbl := below_setRow (B := w.heap.size) ((Below.refl _ w).alloc (Nat.le_refl _) (.cells (List.replicate 64 (Value.int .u32 0)).toArray 84)) (Nat.le_refl w.heap.size) kcells
  obtain ⟨w1, hw1⟩ : ∃ w1, (w.alloc (.cells (List.replicate 64 (Value.int .u32 0)).toArray 84)).setRow w.heap.size kcells = w1 := ⟨_, rfl⟩
  rw [hw1] at hr hbl
  change wpList _ _ _ _ _ ((w.alloc (.cells (List.replicate 64 (Value.int .u32 0)).toArray 84)).setRow w.heap.size kcells)
  rw [hw1]
  have Hr := Lib.hid hr; have Hbl := Lib.hid hbl
  clear hr hbl hw1
  generalize hk : kcells = kc at *
  have Hk := Lib.hid hk
  have hsz := Lib.hid (show (Tryd.prog.info? 84).map (·.size) = some kc.size by rw [← hk]; kernel_rfl)
  clear hk
  go_wp2
  refine bodyPost_ret (v := .agg kc) (results_cell_row rfl _ _ w.heap.size 84 kc (0, 0) _ rfl Hr.out Tryd.underlying84 rfl hsz.out) rfl ?_
  exact ⟨by rw [← Hk.out]; rfl, Hbl.out⟩
end Go.Proofs.YtmhmenmkgbebcaaDoor
