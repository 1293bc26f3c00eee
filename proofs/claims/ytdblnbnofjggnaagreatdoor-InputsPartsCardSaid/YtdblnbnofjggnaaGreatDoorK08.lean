/- Parts of the proofs of chapter 49's laws: Bls. -/
import Derived.Test.YtdblnbnofjggnaaGreatDoorK07
import Derived.Great.BuildSlice
namespace Go.Proofs.YtdblnbnofjggnaaGreatDoor
open Go.RowKit
section
variable {P : Program} {w : World} {ops : Array Oper} {rest : List Oper} {o : Oper} {a : Act} {Q : Exit → Act → World → Prop}
theorem wpList_built (hw : Region.wanted o (yielded ops a.tmps) = true) (t : TypeId) (parts : Array (Nat × Operand)) (ho : o.op = .build t parts) (cells : List Value) (ps : List (Nat × Value)) (hps : (parts.toList.map fun (i, x) => (i, a.eval x)) = ps)
 (hb : P.built t ps = some cells.toArray) (h : wpList P ops Q rest (a.put o.dst (.agg cells.toArray)) w) : wpList P ops Q (o :: rest) a w := by
 rw [← Array.toList_map] at hps
 subst hps
 unfold wpList
 rw [if_pos hw]
 left
 unfold Oper.wp execOp
 simp only [ho, Sem.run_bind, run_build w t _ _ hb, Result.andThen_ok]
 exact h
end
theorem run_bslice_seq {P : Program} (w : World) (t e : TypeId) (len : Nat) (parts : Array (Nat × Value)) (cells : List Value) (size : Nat) (hu : P.underlying t = some (.slice e)) (hie : ((P.info? e).bind fun i => i.zero.map fun _ => i.size) = some size)
 (hsmall : len * size ≤ 2 ^ 24) (hpos : 0 < len * size) (hs : SeqP (fun i => some (i * size, size)) 0 parts.toList) (hc : flatC parts.toList = cells) (hn : cells.length = len * size) :
 (Instr.buildSlice t len parts).run P w = .ok (.slice (some ⟨w.heap.size, 0, none⟩) len len) (w.alloc (.cells cells.toArray e)) := by
 cases hi : P.info? e with
 | none => rw [hi] at hie; cases hie
 | some ie =>
  rw [hi] at hie
  cases hz : ie.zero with
  | none => simp [hz] at hie
  | some z =>
   simp only [Option.bind_some, hz, Option.map_some, Option.some.injEq] at hie
   subst hie
   subst hc
   obtain ⟨A', e1, e2, -, e4⟩ := fill_seq parts.toList 0 ((Array.range (len * ie.size)).map (z.cells[· % z.cells.size]!)) hs (by rw [Array.size_map, Array.size_range]; omega)
   have hA : A' = (flatC parts.toList).toArray := by
    apply Array.ext_getElem?
    intro k
    have := e4 k
    rw [Nat.zero_add] at this
    rw [this, List.getElem?_toArray]
   rw [hA] at e1
   exact run_buildSlice w t e len parts _ ie z hu hi hz (by omega) (by omega) e1
section
variable {P : Program} {w : World} {ops : Array Oper} {rest : List Oper} {o : Oper} {a : Act} {Q : Exit → Act → World → Prop}
theorem wpList_bslice_seq (hw : Region.wanted o (yielded ops a.tmps) = true) (t e : TypeId) (len : Nat) (parts : Array (Nat × Operand)) (ho : o.op = .buildSlice t len parts) (cells : List Value) (size : Nat) (hu : P.underlying t = some (.slice e)) (hie : ((P.info? e).bind fun i => i.zero.map fun _ => i.size) = some size)
 (hsmall : len * size ≤ 2 ^ 24) (hpos : 0 < len * size) (ps : List (Nat × Value)) (hps : (parts.toList.map fun (i, x) => (i, a.eval x)) = ps) (hs : SeqP (fun i => some (i * size, size)) 0 ps) (hc : flatC ps = cells) (hn : cells.length = len * size)
 (h : wpList P ops Q rest (a.put o.dst (.slice (some ⟨w.heap.size, 0, none⟩) len len)) (w.alloc (.cells cells.toArray e))) : wpList P ops Q (o :: rest) a w := by
 rw [← Array.toList_map] at hps
 subst hps
 unfold wpList
 rw [if_pos hw]
 left
 unfold Oper.wp execOp
 simp only [ho, Sem.run_bind, run_bslice_seq w t e len _ cells size hu hie hsmall hpos hs hc hn, Result.andThen_ok]
 exact h
end
end Go.Proofs.YtdblnbnofjggnaaGreatDoor
