/- two digests compared. -/
import Derived.Test.YtndifdbaeemicaaDoorDcc
import Derived.Laws.StructEq
namespace Go.Proofs.YtndifdbaeemicaaDoor
open Go.RowKit
theorem eq_loop {P : Program} {w : World} {E : TypeId} (hE : P.underlying E = some (.int .u8)) (ha : (isAgg E).run P w = .ok false w) (l m : List UInt8) (hl : l.length = 32) (hm : m.length = 32) :
    ∀ is : List Nat, (∀ i ∈ is, i < 32) →
    (forIn (m := Sem) is ((none, ()) : Option Bool × Unit) (fun i _ => do
      if (!(← Op.equalIn 9999 E (← part E (bcells l).toArray (i * 1)) (← part E (bcells m).toArray (i * 1)))) = true then pure (ForInStep.done (some false, ())) else pure (ForInStep.yield (none, ())))).run P w =
      .ok (if is.all (fun i => l.getD i 0 == m.getD i 0) then (none, ()) else (some false, ())) w
  | [], _ => by simp
  | i :: is, h => by
    have hi := h i (by simp)
    have hp : ∀ (x : List UInt8), x.length = 32 → (part E (bcells x).toArray (i * 1)).run P w = .ok (.int .u8 ((x.getD i 0).toNat : Int)) w := fun x hx => by
      simp [part, ha, bcells, List.getD, List.getElem?_eq_getElem (show i < x.length by omega)]
    rw [List.forIn_cons]
    simp only [Sem.run_bind, hp l hl, hp m hm, Result.andThen_ok, run_equalIn_int w 9998 E .u8 .u8 _ _ hE]
    have ih := eq_loop hE ha l m hl hm is fun j hj => h j (by simp [hj])
    have e : (((l.getD i 0).toNat : Int) == ((m.getD i 0).toNat : Int)) = (l.getD i 0 == m.getD i 0) := by
      rw [Bool.eq_iff_iff]; simp [← UInt8.toNat_inj, Int.ofNat_inj]
    rw [e]
    cases hb : (l.getD i 0 == m.getD i 0)
    · simp only [Bool.not_false, if_true, Sem.run_pure, Result.andThen_ok, List.all_cons, hb, Bool.false_and, Bool.false_eq_true, if_false]
    · simp only [Bool.not_true, Bool.false_eq_true, if_false, Sem.run_pure, Result.andThen_ok, List.all_cons, hb, Bool.true_and]
      exact ih
theorem all_eq (l m : List UInt8) (hl : l.length = 32) (hm : m.length = 32) : ((List.range' 0 32).all fun i => l.getD i 0 == m.getD i 0) = decide (l = m) := by
  rw [Bool.eq_iff_iff]
  simp only [List.all_eq_true, List.mem_range'_1, beq_iff_eq, decide_eq_true_eq]
  constructor
  · intro h
    apply List.ext_getElem (by omega)
    intro i h1 h2
    have := h i ⟨by omega, by omega⟩
    simpa [List.getD, List.getElem?_eq_getElem h1, List.getElem?_eq_getElem h2] using this
  · rintro rfl _ _; rfl
theorem neq_dv (l m : List UInt8) (hl : l.length = 32) (hm : m.length = 32) (w : World) :
    (binOp .neq 32 (dv l) (dv m)).run Tryd.prog w = .ok (.bool (!decide (l = m))) w := by
  have hu := Tryd.underlying32
  have h := eq_loop (P := Tryd.prog) (w := w) (E := 5) Tryd.underlying5 (by kernel_rfl) l m hl hm (List.range' 0 32) (fun i hi => by have := List.mem_range'_1.1 hi; omega)
  rw [all_eq l m hl hm] at h
  have hs : (sizeOf 5).run Tryd.prog w = .ok 1 w := by kernel_rfl
  unfold dv
  rw [run_neq_struct]
  have key : (Op.equalIn 10000 32 (.agg (bcells l).toArray) (.agg (bcells m).toArray)).run Tryd.prog w = .ok (decide (l = m)) w := by
    rw [show (10000 : Nat) = 9999 + 1 from rfl, Op.equalIn]
    simp only [Sem.run_bind, run_underlying hu, Result.andThen_ok, hs, Std.Legacy.Range.forIn_eq_forIn_range']
    erw [h]
    cases decide (l = m) <;> rfl
  rw [key]; rfl
theorem gd_dv (op : BinOp) (x y : Operand) (l m : List UInt8) (w : World) : (eqGuard op 32 x y (dv l) (dv m)).run Tryd.prog w = .ok () w :=
  run_eqGuard_agg w op _ x y _ _ (by kernel_rfl)
end Go.Proofs.YtndifdbaeemicaaDoor
