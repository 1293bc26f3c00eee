/- Parts of the proofs of chapter 49's laws: Bld. -/
import Derived.Test.YtdblnbnofjggnaaGreatDoorK05
import Derived.Great.FillDense
import Derived.Laws.Tables
import Derived.OrdersHeld
namespace Go.Proofs.YtdblnbnofjggnaaGreatDoor
open Go.RowKit
def SeqP (place : Nat → Option (Nat × Nat)) : Nat → List (Nat × Value) → Prop
 | _, [] => True
 | off, (i, v) :: r => place i = some (off, v.cells.size) ∧ SeqP place (off + v.cells.size) r
def flatC (parts : List (Nat × Value)) : List Value := parts.flatMap fun x => x.2.cells.toList
theorem fill_seq {place : Nat → Option (Nat × Nat)} : ∀ (parts : List (Nat × Value)) (off : Nat) (A : Array Value), SeqP place off parts → off + (flatC parts).length = A.size →
 ∃ A', Instr.fill place A parts = some A' ∧ A'.size = A.size ∧ (∀ k, k < off → A'[k]? = A[k]?) ∧ ∀ k, A'[off + k]? = (flatC parts)[k]?
 | [], off, A, _, hn => by
  simp only [flatC, List.flatMap_nil, List.length_nil, Nat.add_zero] at hn
  exact ⟨A, rfl, rfl, fun _ _ => rfl, fun k => by simp [flatC]; omega⟩
 | (i, v) :: r, off, A, h, hn => by
  obtain ⟨h1, h2⟩ := h
  have hf : flatC ((i, v) :: r) = v.cells.toList ++ flatC r := by unfold flatC; rw [List.flatMap_cons]
  rw [hf, List.length_append, Array.length_toList] at hn
  obtain ⟨g1, g2⟩ := Great.foldl_set off v.cells.toList 0 A
  have hz : (v.cells.toList.zipIdx 0).foldl (fun cs (x : Value × Nat) => cs.setIfInBounds (off + x.2) x.1) A = v.cells.zipIdx.foldl (fun cs (x : Value × Nat) => cs.setIfInBounds (off + x.2) x.1) A := by
   rw [← Array.foldl_toList, Array.toList_zipIdx]
  rw [hz] at g1 g2
  obtain ⟨A', e1, e2, e3, e4⟩ := fill_seq r (off + v.cells.size) (v.cells.zipIdx.foldl (fun cs (x : Value × Nat) => cs.setIfInBounds (off + x.2) x.1) A) h2 (by rw [g1]; omega)
  refine ⟨A', ?_, e2.trans g1, fun k hk => ?_, fun k => ?_⟩
  · have hc : ¬ ((decide (v.cells.size ≠ v.cells.size) || decide (off + v.cells.size > A.size)) = true) := by simp; omega
    simp only [Instr.fill, h1]
    rw [if_neg hc]
    exact e1
  · rw [e3 k (by omega), g2 k, if_neg (by omega)]
  · rw [hf]
    by_cases hk : k < v.cells.size
    · rw [List.getElem?_append_left (by simpa using hk), e3 (off + k) (by omega), g2, if_pos (by simp; omega)]
      rw [show off + k - (off + 0) = k by omega]
    · rw [List.getElem?_append_right (by simpa using hk), Array.length_toList, ← e4, show off + v.cells.size + (k - v.cells.size) = off + k by omega]
end Go.Proofs.YtdblnbnofjggnaaGreatDoor
