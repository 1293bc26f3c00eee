/- Merged: Tfn. -/
import Derived.Test.YtbonebmboolemaaDoorK33
import Derived.OwnWalkIn
/- laws of a fenced walk: loads, stores of opaque digests; slice literals; appends. -/
namespace Go.Proofs.YtbonebmboolemaaDoor
open Go.RowKit
section
variable {F : Fence} {n : Nat} {w : World} {ops : Array Oper} {rest : List Oper} {o : Oper} {a : Act} {Q : Exit → Act → World → Prop}
/-- an operation whose run gives a value -/
theorem wpListIn_val {P : Program} (hgd : o.guard = none) (hab : o.about P w a.eval = none) (hd : ∀ c, o.op ≠ .defer c) (v : Value) (w' : World) (hr : (execOp a.eval o).run P w = .ok (.value v) w')
    (h : wpListIn F n P ops Q rest (a.put o.dst v) w') : wpListIn F n P ops Q (o :: rest) a w := by
  refine wpListIn_plain hgd fun K hK => ?_
  unfold Oper.wpIn
  refine ⟨fun f hf => (by rw [hab] at hf; cases hf), ?_⟩
  rw [Oper.semAt_plain F _ _ hd, hr, Oper.uponIn_value]
  exact hK _ _ h
theorem fin_load_mid {P : Program} (hgd : o.guard = none) (ty : TypeId) (x : Operand) (ho : o.op = .load ty x) (b off : Nat) (hx : a.eval x = .pointer (some ⟨b, off, none⟩)) (cs : List Value) (d : TypeDesc) (hc : w.rangeAt b off cs)
    (hu : P.underlying ty = some d) (hd : d.isRow = true) (hi : (P.info? ty).map (·.size) = some cs.length)
    (h : wpListIn F n P ops Q rest (a.put o.dst (.agg cs.toArray)) w) : wpListIn F n P ops Q (o :: rest) a w := by
  refine wpListIn_val hgd (by simp [Oper.about, ho]) (by intro c hc; rw [ho] at hc; cases hc) _ w ?_ h
  unfold execOp
  simp only [ho, hx, Instr.loadAt, Instr.sureAddr, Sem.run_bind, Sem.run_pure, Result.andThen_ok, run_loadVar_mid w b off ty cs d hc hu hd hi]
theorem fin_bs (hgd : o.guard = none) (y : Operand) (ho : o.op = .buildSlice 34 1 #[(0, y)]) (d : Dg) (hy : a.eval y = dv d.1)
    (h : wpListIn F n Tryd.prog ops Q rest (a.put o.dst (.slice (some ⟨w.heap.size, 0, none⟩) 1 1)) (w.alloc (bD d))) : wpListIn F n Tryd.prog ops Q (o :: rest) a w := by
  have hr := bs_dig d w
  refine wpListIn_val hgd (by simp [Oper.about, ho]) (by intro c hc; rw [ho] at hc; cases hc) _ (w.alloc (bD d)) ?_ h
  unfold execOp
  simp only [ho, Sem.run_bind, List.map_toArray, List.map_cons, List.map_nil, hy, hr, Result.andThen_ok, Sem.run_pure]
theorem fin_append_x {P : Program} {t tx e : TypeId} {z : Value} {size bytes : Nat} (ht : P.underlying t = some (.slice e)) (he : (P.info? e).map (fun i => (i.zero, i.size, i.bytes)) = some (some z, size, bytes)) (hzs : z.cells.size = size)
    (hgd : o.guard = none) (s y : Operand) (ho : o.op = .call { callee := .builtin .append, args := #[s, y], argTypes := #[t, tx] })
    (base : Nat) (v : Value) (k : Nat) (xs : List Value) (hs : a.eval s = v) (hown : w.ownsRow base e size v k xs)
    (x : Value) (m : Nat) (news : List Value) (hx : a.eval y = x) (hsrc : Src P size tx x m news w)
    (h63 : k + m ≤ maxLen) (hbytes : (k + m) * bytes ≤ 140737488355328) (hbase : base ≤ w.heap.size)
    (h : ∀ v' w', w'.ownsRow base e size v' (k + m) (xs ++ news) → w.grownBy w' v.ownBlock → Next w v v' → wpListIn F n P ops Q rest (a.put o.dst v') w') : wpListIn F n P ops Q (o :: rest) a w := by
  obtain ⟨i0, hi, hz0, hz1, hz2⟩ := info_parts he
  obtain ⟨v', w', hr, h2, h3, h4⟩ := run_append_x (P := P) w base t tx o.type e i0 z size bytes ht hi hz0 hz1 hz2 hzs v k xs hown x m news hsrc h63 hbytes hbase
  refine wpListIn_val hgd (by simp [Oper.about, ho, resolve, Target.leads, Sem.run_pure]) (by intro c hc; rw [ho] at hc; cases hc) v' w' ?_ (h v' w' h2 h3 h4)
  unfold execOp
  simp only [ho, resolve, invoke, builtin, Sem.run_bind, Sem.run_pure, Result.andThen_ok, List.map_toArray, List.map_cons, List.map_nil, hs, hx, hr]
theorem fin_store_d {P : Program} (hgd : o.guard = none) (ty : TypeId) (x y : Operand) (ho : o.op = .store ty x y) (g : Nat) (l : List UInt8) (hl : l.length = 32) (hx : a.eval x = .pointer (some ⟨g, 0, none⟩)) (hy : a.eval y = dv l)
    (t : TypeId) (old : Array Value) (hg : w.heap[g]? = some (.cells old t (0, 0))) (hold : old.size = 32) (hi : (P.info? ty).map (·.size) = some 32)
    (h : ∀ w', Hid (CB w' g t (bcells l)) → Hid (w.grownBy w' (some g)) → w'.heap.size = w.heap.size → wpListIn F n P ops Q rest (a.put o.dst undef) w') : wpListIn F n P ops Q (o :: rest) a w := by
  have hsz : (bcells l).toArray.size = 32 := by rw [List.size_toArray, bcells_length, hl]
  refine wpListIn_plain hgd fun K hK => ?_
  unfold Oper.wpIn
  refine ⟨fun f hf => (by simp [Oper.about, ho] at hf), ?_⟩
  rw [Oper.semAt_plain F _ _ (by intro c hc; rw [ho] at hc; cases hc)]
  unfold execOp
  have hy' : a.eval y = .agg (bcells l).toArray := hy
  simp only [ho, hx, hy', Instr.storeAt, Instr.sureAddr, Sem.run_bind, Sem.run_pure, Result.andThen_ok, run_storeVar_row w g t ty old (bcells l).toArray hg (by rw [hsz]; exact hi) (by rw [hsz, hold]) (dig_one l), Oper.uponIn_skip]
  refine hK _ _ (h _ (setRow_heap _ _ _ _ _ _ hg) ?_ (size_setRow _ _ _))
  exact ⟨rfl, rfl, rfl, by rw [size_setRow]; exact Nat.le_refl _, fun k hk hne => by
    have hkg : k ≠ g := fun e => hne (by rw [e])
    simp [World.setRow, Array.getElem?_modify, Ne.symm hkg]⟩
end
end Go.Proofs.YtbonebmboolemaaDoor
