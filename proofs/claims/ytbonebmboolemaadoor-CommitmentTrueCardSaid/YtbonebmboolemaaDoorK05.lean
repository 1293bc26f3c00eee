/- Merged: Bld. -/
import Derived.Test.YtbonebmboolemaaDoorK03
import Derived.Great.FillDense
import Derived.Laws.Tables
import Derived.OrdersHeld
/- a struct literal of parts that follow one another: its cells are those of the parts, whatever they hold. -/
namespace Go.Proofs.YtbonebmboolemaaDoor
open Go.RowKit
/-- the parts follow one another -/
def SeqP (place : Nat → Option (Nat × Nat)) : Nat → List (Nat × Value) → Prop
  | _, [] => True
  | off, (i, v) :: r => place i = some (off, v.cells.size) ∧ SeqP place (off + v.cells.size) r
def flatC (parts : List (Nat × Value)) : List Value := parts.flatMap fun x => x.2.cells.toList
theorem fill_seq {place : Nat → Option (Nat × Nat)} : ∀ (parts : List (Nat × Value)) (off : Nat) (A : Array Value), SeqP place off parts → off + (flatC parts).length = A.size →
    ∃ A', Instr.fill place A parts = some A' ∧ A'.size = A.size ∧ (∀ k, k < off → A'[k]? = A[k]?) ∧ ∀ k, A'[off + k]? = (flatC parts)[k]?
  | [], off, A, _, hn => by
    simp only [flatC, List.flatMap_nil, List.length_nil, Nat.add_zero] at hn
    exact ⟨A, rfl, rfl, fun _ _ => rfl, fun k => by simp [flatC]; omega⟩
  | (i, v) :: r, off, A, h, hn => by
    obtain ⟨h1, h2⟩ := h
    have hf : flatC ((i, v) :: r) = v.cells.toList ++ flatC r := by unfold flatC; rw [List.flatMap_cons]
    rw [hf, List.length_append, Array.length_toList] at hn
    obtain ⟨g1, g2⟩ := Great.foldl_set off v.cells.toList 0 A
    have hz : (v.cells.toList.zipIdx 0).foldl (fun cs (x : Value × Nat) => cs.setIfInBounds (off + x.2) x.1) A = v.cells.zipIdx.foldl (fun cs (x : Value × Nat) => cs.setIfInBounds (off + x.2) x.1) A := by
      rw [← Array.foldl_toList, Array.toList_zipIdx]
    rw [hz] at g1 g2
    obtain ⟨A', e1, e2, e3, e4⟩ := fill_seq r (off + v.cells.size) (v.cells.zipIdx.foldl (fun cs (x : Value × Nat) => cs.setIfInBounds (off + x.2) x.1) A) h2 (by rw [g1]; omega)
    refine ⟨A', ?_, e2.trans g1, fun k hk => ?_, fun k => ?_⟩
    · have hc : ¬ ((decide (v.cells.size ≠ v.cells.size) || decide (off + v.cells.size > A.size)) = true) := by simp; omega
      simp only [Instr.fill, h1]
      rw [if_neg hc]
      exact e1
    · rw [e3 k (by omega), g2 k, if_neg (by omega)]
    · rw [hf]
      by_cases hk : k < v.cells.size
      · rw [List.getElem?_append_left (by simpa using hk), e3 (off + k) (by omega), g2, if_pos (by simp; omega)]
        rw [show off + k - (off + 0) = k by omega]
      · rw [List.getElem?_append_right (by simpa using hk), Array.length_toList, ← e4, show off + v.cells.size + (k - v.cells.size) = off + k by omega]
/-- what the program's table says of a struct: where its parts lie, how many cells it has -/
def placesOf (P : Program) (t : TypeId) : Option (List (Nat × Nat)) :=
  match P.underlying t with
  | some (.struct fields) => fields.toList.mapM (fun f => (P.info? f.type).map fun i => (f.offset, i.size))
  | _ => none
theorem built_seq {P : Program} {t : TypeId} {places : List (Nat × Nat)} {parts : List (Nat × Value)} {cells : List Value} {n : Nat} (hp : placesOf P t = some places)
    (hz : ((P.info? t).bind (·.zero)).map (·.cells.size) = some n) (hs : SeqP (places.toArray[·]?) 0 parts) (hc : flatC parts = cells) (hn : cells.length = n) : P.built t parts = some cells.toArray := by
  subst hc
  unfold placesOf at hp
  unfold Program.built
  cases hi : P.info? t with
  | none => rw [hi] at hz; cases hz
  | some it =>
    rw [hi] at hz
    cases hu : P.underlying t with
    | none => rw [hu] at hp; cases hp
    | some d =>
      rw [hu] at hp
      cases d with
      | struct fields =>
        cases hzz : it.zero with
        | none => simp [hzz] at hz
        | some z =>
          simp only [Option.bind_some, hzz, Option.map_some, Option.some.injEq] at hz
          obtain ⟨A', e1, e2, -, e4⟩ := fill_seq parts 0 z.cells hs (by omega)
          simp only [hzz, hp, e1, Option.some.injEq]
          apply Array.ext_getElem?
          intro k
          have := e4 k
          rw [Nat.zero_add] at this
          rw [this, List.getElem?_toArray]
      | _ => cases hp
section
variable {P : Program} {w : World} {ops : Array Oper} {rest : List Oper} {o : Oper} {a : Act} {Q : Exit → Act → World → Prop}
theorem wpList_build_seq (hgd : o.guard = none) (t : TypeId) (parts : Array (Nat × Operand)) (ho : o.op = .build t parts) {places : List (Nat × Nat)} {n : Nat} (cells : List Value) (hp : placesOf P t = some places)
    (hz : ((P.info? t).bind (·.zero)).map (·.cells.size) = some n) (ps : List (Nat × Value)) (hps : (parts.map fun (i, x) => (i, a.eval x)).toList = ps) (hs : SeqP (places.toArray[·]?) 0 ps) (hc : flatC ps = cells) (hn : cells.length = n)
    (h : wpList P ops Q rest (a.put o.dst (.agg cells.toArray)) w) : wpList P ops Q (o :: rest) a w := by
  refine wpList_plain hgd fun _ hK => ?_
  unfold Oper.wp execOp
  subst hps
  simp only [ho, Sem.run_bind, run_build w t _ _ (built_seq hp hz hs hc hn), Result.andThen_ok]
  exact hK _ _ h
theorem yields_build_seq {S : World → Prop} (hw : Region.wanted o (yielded ops a.tmps) = true) (t : TypeId) (parts : Array (Nat × Operand)) (ho : o.op = .build t parts) {places : List (Nat × Nat)} {n : Nat} (cells : List Value) (hp : placesOf P t = some places)
    (hz : ((P.info? t).bind (·.zero)).map (·.cells.size) = some n) (ps : List (Nat × Value)) (hps : (parts.map fun (i, x) => (i, a.eval x)).toList = ps) (hs : SeqP (places.toArray[·]?) 0 ps) (hc : flatC ps = cells) (hn : cells.length = n) :
    YieldsIf P ops S o (.agg cells.toArray) a :=
  .inl ⟨hw, fun w _ => by
    unfold execOp
    subst hps
    simp only [ho, Sem.run_bind, run_build w t _ _ (built_seq hp hz hs hc hn), Result.andThen_ok, Sem.run_pure]⟩
end
end Go.Proofs.YtbonebmboolemaaDoor
