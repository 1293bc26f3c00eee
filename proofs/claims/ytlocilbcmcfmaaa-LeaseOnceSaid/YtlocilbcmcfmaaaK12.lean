/- Merged: Opk Opl. -/
import Derived.Test.YtlocilbcmcfmaaaK01
import Derived.Test.YtlocilbcmcfmaaaK07
import Derived.Deep.Slices
import Derived.WideShapes
import Derived.ChangeArms
import Derived.Carry
import Derived.ProofKit
/- arguments opened: lists of elements of a kind. -/
namespace Go.Proofs.Ytlocilbcmcfmaaa
open Go.RowKit Go.ChangeShapes Go.WideShapes
section
variable {H : Type} {enc : TypeId × Value → H} {w : World} {α : Type} [Inhabited α] {K : EK α}
set_option maxRecDepth 100000 in
theorem trod_K {sT eT : TypeId} {P : α → Prop} (hT : Try.prog.underlying sT = some (.slice eT)) (hc : Try.prog.cellsOf eT = K.n)
    (tr : ∀ {n : Nat} {cs : List Value} {y : DataW H × List MemPlace}, DataW.trod enc Try.prog w 0 (fun _ => true) true n eT cs = some y → ∃ a, cs = K.cells a ∧ P a)
    {n : Nat} {cs : List Value} {y : DataW H × List MemPlace} (hf : DataW.trod enc Try.prog w 0 (fun _ => true) true n sT cs = some y) : ∃ v l, cs = [v] ∧ LsAt K w.heap.size w l v ∧ ∀ x ∈ l, P x := by
  rcases DataW.trod_slice hT hf with ⟨he, _⟩ | ⟨ad, ln, cp, elems, rest, n', rfl, he, _, _, hl, hm, hlen, hel, _⟩
  · exact ⟨_, [], he, .inl ⟨rfl, _, _, rfl⟩, fun x h => by cases h⟩
  · refine ⟨.slice (some ad) ln cp, ?_⟩
    by_cases h0 : ln = 0
    · subst h0; exact ⟨[], he, .inl ⟨rfl, _, _, rfl⟩, fun x h => by cases h⟩
    obtain ⟨b, off, spot⟩ := ad
    rw [hc] at hel
    have hpos := K.pos
    have hsp : spot = none := by
      have key := hel 0 (by omega)
      rw [List.getElem?_eq_getElem (by omega)] at key
      obtain ⟨cs', h1, h2⟩ := Option.bind_eq_some_iff.1 key
      obtain ⟨a, rfl, _⟩ := tr h2
      obtain ⟨_, hl1, hc⟩ := World.cells?_some h1
      have c0 := hc 0 hpos
      rw [List.getElem?_eq_getElem (by rw [hl1]; exact hpos)] at c0
      simpa [Addr.add] using World.cell?_spot c0
    subst hsp
    have one : ∀ i, i < ln → ∃ x : α, (ElAt K w b (off + i * K.n) x ∧ b < w.heap.size) ∧ P x := by
      intro i hi
      have key := hel i hi
      rw [List.getElem?_eq_getElem (by omega)] at key
      obtain ⟨cs', h1, h2⟩ := Option.bind_eq_some_iff.1 key
      obtain ⟨a, rfl, hs⟩ := tr h2
      obtain ⟨_, hl1, hc⟩ := World.cells?_some h1
      refine ⟨a, ⟨fun j u hu => ?_, ?_⟩, hs⟩
      · have hj : j < K.n := by rw [← K.len a]; exact (List.getElem?_eq_some_iff.1 hu).1
        have c0 := hc j hj
        rw [Deep.add_add, add0, hu, ← Nat.add_assoc] at c0
        exact c0
      · have c0 := hc 0 hpos
        rw [List.getElem?_eq_getElem (by rw [hl1]; exact hpos)] at c0
        rw [Deep.add_add, add0] at c0
        exact World.block_lt_of_cell? w _ c0
    obtain ⟨X, hX⟩ := Deep.choose_lt (α := α) (p := fun i x => (ElAt K w b (off + i * K.n) x ∧ b < w.heap.size) ∧ P x) one
    refine ⟨(List.range ln).map X, he, .inr ⟨b, off, cp, by simp, by simpa using hl, hm, (hX 0 (by omega)).1.2, fun j x hj => ?_⟩, fun x hx => ?_⟩
    · simp only [List.getElem?_map, Option.map_eq_some_iff] at hj
      obtain ⟨i, hi, rfl⟩ := hj
      obtain ⟨hi1, hi2⟩ := List.getElem?_eq_some_iff.1 hi
      simp at hi1 hi2
      subst hi2
      exact (hX _ hi1).1.1
    · obtain ⟨i, hi, rfl⟩ := List.mem_map.1 hx
      exact (hX i (by simpa using hi)).2
set_option maxRecDepth 100000 in
theorem open_K {sT eT : TypeId} {P : α → Prop} {r : Reach} {b0 : Nat} {v : Value} {d : DataW H} {p : List MemPlace} (hT : Try.prog.underlying sT = some (.slice eT)) (hc : Try.prog.cellsOf eT = K.n)
    (tr : ∀ {n : Nat} {cs : List Value} {y : DataW H × List MemPlace}, DataW.trod enc Try.prog w 0 (fun _ => true) true n eT cs = some y → ∃ a, cs = K.cells a ∧ P a)
    (hv : Value.okWide Try.prog w r b0 sT v) (h : DataW.Trod enc Try.prog w 0 (fun _ => true) true sT v d p) : ∃ l, LsAt K w.heap.size w l v ∧ ∀ x ∈ l, P x := by
  obtain ⟨a, len, cap, rfl⟩ := okWide_slice hT hv
  obtain ⟨n, hf⟩ := h
  have hcs : (Value.slice a len cap).cells.toList = [.slice a len cap] := rfl
  rw [hcs] at hf
  obtain ⟨v, l, he, hl, hp⟩ := trod_K hT hc tr hf
  injection he with he
  subst he
  exact ⟨l, hl, hp⟩
end
end Go.Proofs.Ytlocilbcmcfmaaa
/- arguments opened: commands, leases. -/
namespace Go.Proofs.Ytlocilbcmcfmaaa
open Go.RowKit Go.ChangeShapes Go.WideShapes
instance : Inhabited Cm := ⟨⟨0, 0, 0, 0, 0⟩⟩
instance : Inhabited Le := ⟨leZ⟩
theorem cellsCm : Try.prog.cellsOf 33 = 5 := by kernel_rfl
theorem cellsLe : Try.prog.cellsOf 36 = 5 := by kernel_rfl
theorem cellsLss : Try.prog.cellsOf 26 = 2 := by kernel_rfl
def CmW (c : Cm) : Prop := (Lit.int .i64 c.kd).wf = true
section
variable {H : Type} {enc : TypeId × Value → H} {w : World}
set_option maxRecDepth 100000 in
theorem trod_Cm {n : Nat} {cs : List Value} {y : DataW H × List MemPlace} (h : DataW.trod enc Try.prog w 0 (fun _ => true) true n 33 cs = some y) : ∃ r : Cm, cs = cmK.cells r ∧ CmW r := by
  obtain ⟨xs, n', rfl, hx, hlen, hxl, hf⟩ := DataW.trod_struct Try.underlying33 h
  have hlen6 : cs.length = 5 := hlen.trans cellsCm
  match cs, hlen6 with
  | [c0, c1, c2, c3, c4], _ =>
    have f0 := hf 0 _ rfl
    have f1 := hf 1 _ rfl
    have f2 := hf 2 _ rfl
    have f3 := hf 3 _ rfl
    have f4 := hf 4 _ rfl
    have hxl : xs.length = 5 := by assumption
    match xs, hxl with
    | [x0, x1, x2, x3, x4], _ =>
      obtain ⟨a, e0, _, w0⟩ := DataW.trod_int Try.underlying3 f0
      obtain ⟨b, e1, _, w1⟩ := DataW.trod_int Try.underlying3 f1
      obtain ⟨c, e2, _, w2⟩ := DataW.trod_int Try.underlying3 f2
      obtain ⟨d, e3, _, w3⟩ := DataW.trod_int Try.underlying3 f3
      obtain ⟨f, e4, _, w4⟩ := DataW.trod_int Try.underlying3 f4
      have g0 : [c0] = [Value.int .i64 a] := e0
      have g1 : [c1] = [Value.int .i64 b] := e1
      have g2 : [c2] = [Value.int .i64 c] := e2
      have g3 : [c3] = [Value.int .i64 d] := e3
      have g4 : [c4] = [Value.int .i64 f] := e4
      injection g0 with g0; injection g1 with g1; injection g2 with g2; injection g3 with g3; injection g4 with g4
      subst g0; subst g1; subst g2; subst g3; subst g4
      exact ⟨⟨a, b, c, d, f⟩, rfl, w0⟩
set_option maxRecDepth 100000 in
theorem trod_Le {n : Nat} {cs : List Value} {y : DataW H × List MemPlace} (h : DataW.trod enc Try.prog w 0 (fun _ => true) true n 36 cs = some y) : ∃ r : Le, cs = leK.cells r ∧ True := by
  obtain ⟨xs, n', rfl, hx, hlen, hxl, hf⟩ := DataW.trod_struct Try.underlying36 h
  have hlen6 : cs.length = 5 := hlen.trans cellsLe
  match cs, hlen6 with
  | [c0, c1, c2, c3, c4], _ =>
    have f0 := hf 0 _ rfl
    have f1 := hf 1 _ rfl
    have f2 := hf 2 _ rfl
    have f3 := hf 3 _ rfl
    have f4 := hf 4 _ rfl
    have hxl : xs.length = 5 := by assumption
    match xs, hxl with
    | [x0, x1, x2, x3, x4], _ =>
      obtain ⟨a, e0, _, w0⟩ := DataW.trod_int Try.underlying3 f0
      obtain ⟨b, e1, _, w1⟩ := DataW.trod_int Try.underlying3 f1
      obtain ⟨c, e2, _, w2⟩ := DataW.trod_int Try.underlying3 f2
      obtain ⟨d, e3, _, w3⟩ := DataW.trod_int Try.underlying3 f3
      obtain ⟨f, e4, _⟩ := DataW.trod_bool Try.underlying4 f4
      have g0 : [c0] = [Value.int .i64 a] := e0
      have g1 : [c1] = [Value.int .i64 b] := e1
      have g2 : [c2] = [Value.int .i64 c] := e2
      have g3 : [c3] = [Value.int .i64 d] := e3
      have g4 : [c4] = [Value.bool f] := e4
      injection g0 with g0; injection g1 with g1; injection g2 with g2; injection g3 with g3; injection g4 with g4
      subst g0; subst g1; subst g2; subst g3; subst g4
      exact ⟨⟨a, b, c, d, f⟩, rfl, trivial⟩
set_option maxRecDepth 100000 in
/-- an argument that is a command -/
theorem open_Cm {r : Reach} {b0 : Nat} {v : Value} {d : DataW H} {p : List MemPlace} (hv : Value.okWide Try.prog w r b0 33 v) (h : DataW.Trod enc Try.prog w 0 (fun _ => true) true 33 v d p) : ∃ r : Cm, v = r.v ∧ CmW r := by
  obtain ⟨cs, rfl, hsz⟩ := okWide_struct Try.underlying33 hv
  obtain ⟨n, hf⟩ := h
  have hcs : (Value.agg cs).cells.toList = cs.toList := by simp [Value.cells]
  rw [hcs] at hf
  obtain ⟨r, hr, hs⟩ := trod_Cm hf
  refine ⟨r, ?_, hs⟩
  unfold Cm.v
  rw [show r.cells = cs.toList from hr.symm]
set_option maxRecDepth 100000 in
/-- an argument that is a list of commands -/
theorem open_Cms {r : Reach} {b0 : Nat} {v : Value} {d : DataW H} {p : List MemPlace} (hv : Value.okWide Try.prog w r b0 22 v) (h : DataW.Trod enc Try.prog w 0 (fun _ => true) true 22 v d p) : ∃ l : List Cm, LsAt cmK w.heap.size w l v ∧ ∀ x ∈ l, CmW x :=
  open_K (K := cmK) Try.underlying22 cellsCm trod_Cm hv h
set_option maxRecDepth 100000 in
/-- an argument that is leases -/
theorem open_Lss {r : Reach} {b0 : Nat} {v : Value} {d : DataW H} {p : List MemPlace} (hv : Value.okWide Try.prog w r b0 26 v) (h : DataW.Trod enc Try.prog w 0 (fun _ => true) true 26 v d p) : ∃ (tk : Int) (u : Value) (l : List Le), v = .agg #[.int .i64 tk, u] ∧ LesAt w.heap.size w l u := by
  obtain ⟨cs, rfl, hsz⟩ := okWide_struct Try.underlying26 hv
  obtain ⟨n, hf⟩ := h
  have hcs : (Value.agg cs).cells.toList = cs.toList := by simp [Value.cells]
  rw [hcs] at hf
  obtain ⟨xs, n', rfl, hx, hlen, hxl, hf⟩ := DataW.trod_struct Try.underlying26 hf
  have hlen3 : cs.toList.length = 2 := hlen.trans cellsLss
  match hm : cs.toList, hlen3 with
  | [c0, c1], _ =>
    rw [hm] at hf
    have f0 := hf 0 _ rfl
    have f1 := hf 1 _ rfl
    have hxl : xs.length = 2 := by assumption
    match xs, hxl with
    | [x0, x1], _ =>
      obtain ⟨a, e0, _, w0⟩ := DataW.trod_int Try.underlying3 f0
      obtain ⟨u, l, e1, hu, _⟩ := trod_K (K := leK) Try.underlying24 cellsLe trod_Le f1
      have g0 : [c0] = [Value.int .i64 a] := e0
      have g1 : [c1] = [u] := e1
      injection g0 with g0; injection g1 with g1
      subst g0; subst g1
      exact ⟨a, c1, l, by rw [show cs = #[.int .i64 a, c1] from Array.toList_inj.1 hm], hu⟩
end
end Go.Proofs.Ytlocilbcmcfmaaa
