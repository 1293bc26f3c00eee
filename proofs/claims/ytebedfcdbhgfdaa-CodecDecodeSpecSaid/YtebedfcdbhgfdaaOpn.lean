/- arguments opened: a value of the codec, a slice of them, bytes. -/
import Derived.Test.YtebedfcdbhgfdaaDee
import Derived.Deep.Slices
import Derived.WideShapes
import Derived.ChangeArms
import Derived.Carry
import Derived.ProofKit
namespace Go.Proofs.Ytebedfcdbhgfdaa
open Go.RowKit Go.ChangeShapes Go.WideShapes

theorem ats_of_get {B : Nat} {w : World} : ∀ (l : List V) (b off : Nat), (∀ i x, l[i]? = some x → V.at B w x b (off + i * 4)) → V.ats B w l b off
  | [], _, _, _ => by simp [V.ats]
  | x :: r, b, off, h => by
    simp only [V.ats]
    refine ⟨by simpa using h 0 x rfl, ats_of_get r b (off + 4) fun i y hy => ?_⟩
    have := h (i + 1) y (by simpa using hy)
    rw [show off + 4 + i * 4 = off + (i + 1) * 4 from by omega]; exact this
theorem I64_of_wf {n : Int} (h : (Lit.int .i64 n).wf = true) : I64 n := by
  simp only [Lit.wf, Bool.and_eq_true, decide_eq_true_eq] at h
  unfold I64; simpa [IntKind.min, IntKind.max, IntKind.signed, IntKind.bits] using h
theorem cellsV : Try.prog.cellsOf 24 = 4 := by kernel_rfl

section
variable {H : Type} {enc : TypeId × Value → H} {w : World}
instance : Inhabited V := ⟨.mk 0 0 ⟨#[]⟩ []⟩

theorem trod_V (N : Nat) : ∀ n, n ≤ N →
    (∀ cs y, DataW.trod enc Try.prog w 0 (fun _ => true) true n 24 cs = some y →
      ∃ k m s lv l, cs = [.int .i64 k, .int .i64 m, .string s, lv] ∧ I64 k ∧ I64 m ∧ s.size ≤ maxLen ∧ SlV w.heap.size w l lv) ∧
    (∀ cs y, DataW.trod enc Try.prog w 0 (fun _ => true) true n 22 cs = some y → ∃ lv l, cs = [lv] ∧ SlV w.heap.size w l lv) := by
  induction N with
  | zero =>
    intro n hn
    obtain rfl : n = 0 := by omega
    exact ⟨fun cs y h => by simp [DataW.trod] at h, fun cs y h => by simp [DataW.trod] at h⟩
  | succ N ih =>
    intro n hn
    constructor
    · intro cs y h
      obtain ⟨xs, n', rfl, hx, hlen, _, hf⟩ := DataW.trod_struct Try.underlying24 h
      have hlen4 : cs.length = 4 := hlen.trans cellsV
      match cs, hlen4 with
      | [c0, c1, c2, c3], _ =>
        have f0 := hf 0 _ rfl
        have f1 := hf 1 _ rfl
        have f2 := hf 2 _ rfl
        have f3 := hf 3 _ rfl
        have hxl : xs.length = 4 := by assumption
        match xs, hxl with
        | [x0, x1, x2, x3], _ =>
          obtain ⟨k, e0, _, w0⟩ := DataW.trod_int Try.underlying3 f0
          obtain ⟨m, e1, _, w1⟩ := DataW.trod_int Try.underlying3 f1
          obtain ⟨s, e2, _, w2⟩ := DataW.trod_string Try.underlying9 f2
          obtain ⟨lv, l, e3, h3⟩ := (ih n' (by omega)).2 _ _ f3
          have g0 : [c0] = [Value.int .i64 k] := e0
          have g1 : [c1] = [Value.int .i64 m] := e1
          have g2 : [c2] = [Value.string s] := e2
          have g3 : [c3] = [lv] := e3
          injection g0 with g0; injection g1 with g1; injection g2 with g2; injection g3 with g3
          subst g0; subst g1; subst g2; subst g3
          exact ⟨k, m, s, _, l, rfl, I64_of_wf w0, I64_of_wf w1, w2, h3⟩
    · intro cs y h
      rcases DataW.trod_slice Try.underlying22 h with ⟨rfl, _⟩ | ⟨a, len, cap, elems, rest, n', rfl, rfl, _, _, hl, hm, hlen, hel, _⟩
      · exact ⟨_, [], rfl, .inl ⟨rfl, none, 0, rfl⟩⟩
      · by_cases h0 : len = 0
        · subst h0; exact ⟨_, [], rfl, .inl ⟨rfl, some a, cap, rfl⟩⟩
        obtain ⟨b, off, spot⟩ := a
        rw [cellsV] at hel
        have hsp : spot = none := by
          have key := hel 0 (by omega)
          rw [List.getElem?_eq_getElem (by omega)] at key
          obtain ⟨cs', h1, h2⟩ := Option.bind_eq_some_iff.1 key
          obtain ⟨k, m, s, lv, l, rfl, _⟩ := (ih n' (by omega)).1 _ _ h2
          obtain ⟨_, _, hc⟩ := World.cells?_some h1
          have c0 := hc 0 (by omega)
          simpa [Addr.add] using World.cell?_spot c0
        subst hsp
        have one : ∀ i, i < len → ∃ x : V, V.at w.heap.size w x b (off + i * 4) := by
          intro i hi
          have key := hel i hi
          rw [List.getElem?_eq_getElem (by omega)] at key
          obtain ⟨cs', h1, h2⟩ := Option.bind_eq_some_iff.1 key
          obtain ⟨k, m, s, lv, l, rfl, i1, i2, i3, i4⟩ := (ih n' (by omega)).1 _ _ h2
          obtain ⟨_, _, hc⟩ := World.cells?_some h1
          have c0 := hc 0 (by omega); have c1 := hc 1 (by omega); have c2 := hc 2 (by omega); have c3 := hc 3 (by omega)
          rw [Deep.add_add] at c0 c1 c2 c3
          have ha : ∀ j, (⟨b, off, none⟩ : Addr).add j = ⟨b, off + j, none⟩ := fun j => by unfold Addr.add; split <;> simp_all
          rw [ha] at c0 c1 c2 c3
          refine ⟨.mk k m s l, ?_⟩
          simp only [V.at]
          refine ⟨World.block_lt_of_cell? w _ c0, i1, i2, i3, c0, ?_, ?_, lv, ?_, i4⟩
          · rw [Nat.add_assoc]; exact c1
          · rw [Nat.add_assoc]; exact c2
          · rw [Nat.add_assoc]; exact c3
        obtain ⟨X, hX⟩ := Deep.choose_lt (α := V) (p := fun i x => V.at w.heap.size w x b (off + i * 4)) one
        refine ⟨_, (List.range len).map X, rfl, .inr ⟨by simp [h0], b, off, cap, by simp, by simp; omega, ats_of_get _ _ _ fun i x hx => ?_⟩⟩
        simp only [List.getElem?_map, Option.map_eq_some_iff] at hx
        obtain ⟨j, hj, rfl⟩ := hx
        obtain ⟨hj1, hj2⟩ := List.getElem?_eq_some_iff.1 hj
        simp at hj1 hj2
        subst hj2
        exact hX i hj1

/-- an argument that is a value -/
theorem open_V {r : Reach} {b0 : Nat} {v : Value} {d : DataW H} {p : List MemPlace} (hv : Value.okWide Try.prog w r b0 24 v) (h : DataW.Trod enc Try.prog w 0 (fun _ => true) true 24 v d p) : ∃ x, RdV w.heap.size w x v := by
  obtain ⟨cs, rfl, hsz⟩ := okWide_struct Try.underlying24 hv
  obtain ⟨n, hf⟩ := h
  obtain ⟨k, m, s, lv, l, hcs, i1, i2, i3, i4⟩ := (trod_V n n (Nat.le_refl _)).1 _ _ hf
  have e : cs = #[.int .i64 k, .int .i64 m, .string s, lv] := by
    have : (Value.agg cs).cells.toList = cs.toList := by simp [Value.cells]
    rw [this] at hcs
    exact Array.toList_inj.1 hcs
  subst e
  exact ⟨.mk k m s l, i1, i2, i3, lv, rfl, i4⟩
/-- an argument that is a slice of values -/
theorem open_Vs {r : Reach} {b0 : Nat} {v : Value} {d : DataW H} {p : List MemPlace} (hv : Value.okWide Try.prog w r b0 22 v) (h : DataW.Trod enc Try.prog w 0 (fun _ => true) true 22 v d p) : ∃ l, SlV w.heap.size w l v := by
  obtain ⟨a, len, cap, rfl⟩ := okWide_slice Try.underlying22 hv
  obtain ⟨n, hf⟩ := h
  obtain ⟨lv, l, hcs, i4⟩ := (trod_V n n (Nat.le_refl _)).2 _ _ hf
  have e : Value.slice a len cap = lv := by simpa [Value.cells] using hcs
  subst e
  exact ⟨l, i4⟩
theorem u8_of_wf {n : Int} (h : (Lit.int .u8 n).wf = true) : 0 ≤ n ∧ n ≤ 255 := by
  simp only [Lit.wf, Bool.and_eq_true, decide_eq_true_eq] at h
  simpa [IntKind.min, IntKind.max, IntKind.signed, IntKind.bits] using h
/-- an argument that is bytes -/
theorem open_B {r : Reach} {b0 : Nat} {v : Value} {d : DataW H} {p : List MemPlace} (hv : Value.okWide Try.prog w r b0 27 v) (h : DataW.Trod enc Try.prog w 0 (fun _ => true) true 27 v d p) : ∃ l, BtsAt w.heap.size w l v := by
  obtain ⟨a, len, cap, rfl⟩ := okWide_slice Try.underlying27 hv
  obtain ⟨n, hf⟩ := h
  rcases open_ints Try.underlying27 Try.underlying5 (by kernel_rfl) hf with ⟨hcs, _⟩ | ⟨x, l, c, zs, hcs, _, hl, hm, hz, _, hcell, hwz⟩
  · simp [Value.cells] at hcs
    obtain ⟨rfl, rfl, rfl⟩ := hcs
    exact ⟨[], .inl ⟨rfl, none, 0, rfl, Nat.zero_le _⟩⟩
  · simp [Value.cells] at hcs
    obtain ⟨rfl, rfl, rfl⟩ := hcs
    have hz' : zs.length = cap := by simpa using hz
    by_cases h0 : len = 0
    · subst h0; exact ⟨[], .inl ⟨rfl, some x, cap, rfl, hm⟩⟩
    obtain ⟨b, off, spot⟩ := x
    have hs := World.cell?_spot (hcell 0 (by omega))
    have hsp : spot = none := by simpa [Addr.add] using hs
    subst hsp
    have ha : ∀ j, (⟨b, off, none⟩ : Addr).add j = ⟨b, off + j, none⟩ := fun j => by unfold Addr.add; split <;> simp_all
    refine ⟨(zs.take len).map fun n => UInt8.ofNat n.toNat, BtsAt.mk' (by simp; omega) (by simp; omega) hm (World.block_lt_of_cell? w _ (hcell 0 (by omega))) fun j c hj => ?_⟩
    have hjl : j < len := by have := (List.getElem?_eq_some_iff.1 hj).1; simp at this; omega
    have hcj := hcell j (by omega)
    rw [ha] at hcj
    rw [hcj]
    have hb := u8_of_wf (hwz _ (List.getElem_mem (show j < zs.length by omega)))
    simp only [List.getElem?_map, List.getElem?_take, if_pos hjl, List.getElem?_eq_getElem (show j < zs.length by omega), Option.map_some, Option.some.injEq] at hj
    subst hj
    simp [List.getD, List.getElem?_eq_getElem (show j < zs.length by omega)]
    omega
end
end Go.Proofs.Ytebedfcdbhgfdaa
