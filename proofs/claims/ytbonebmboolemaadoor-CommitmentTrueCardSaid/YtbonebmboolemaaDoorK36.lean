/- Merged: Otb. -/
import Derived.Test.YtbonebmboolemaaDoorK22
import Derived.Test.YtbonebmboolemaaDoorK24
import Derived.Test.YtbonebmboolemaaDoorK26
import Derived.OpenShut
/- arguments opened: tables, a digest, an opening. -/
namespace Go.Proofs.YtbonebmboolemaaDoor
open Go.RowKit Go.ChangeShapes Go.WideShapes
theorem cellsInt : Tryd.prog.cellsOf 3 = 1 := by kernel_rfl
theorem cellsU8 : Tryd.prog.cellsOf 5 = 1 := by kernel_rfl
theorem cellsDg : Tryd.prog.cellsOf 29 = 32 := by kernel_rfl
theorem cellsTb : Tryd.prog.cellsOf 31 = 35 := by kernel_rfl
theorem cellsOb : Tryd.prog.cellsOf 36 = 37 := by kernel_rfl
theorem cellsIs : Tryd.prog.cellsOf 27 = 1 := by kernel_rfl
theorem cellsDs : Tryd.prog.cellsOf 34 = 1 := by kernel_rfl
section
variable {H : Type} {enc : TypeId × Value → H} {w : World}
set_option maxRecDepth 100000 in
theorem trod_Dg {n : Nat} {cs : List Value} {y : DataW H × List MemPlace} (h : DataW.trod enc Tryd.prog w 0 (fun _ => true) true n 29 cs = some y) : ∃ d : Dg, cs = bcells d.1 := by
  obtain ⟨xs, m, -, -, hlen, hxl, hf⟩ := DataW.trod_array Tryd.underlying29 h
  rw [cellsDg] at hlen
  rw [cellsU8] at hf
  have each : ∀ i, i < 32 → ∃ c : UInt8, cs[i]? = some (.int .u8 (c.toNat : Int)) := by
    intro i hi
    have hy := hf i hi
    rw [List.getElem?_eq_getElem (by omega)] at hy
    obtain ⟨k, e, _, hw⟩ := DataW.trod_int Tryd.underlying5 hy
    have hb := u8_of_wf hw
    refine ⟨UInt8.ofNat k.toNat, ?_⟩
    rw [Nat.mul_one, List.drop_eq_getElem_cons (by omega)] at e
    simp only [List.take_succ_cons, List.take_zero] at e
    injection e with e
    rw [List.getElem?_eq_getElem (by omega), e]
    simp; omega
  obtain ⟨X, hX⟩ := Deep.choose_lt (α := UInt8) (p := fun i c => cs[i]? = some (.int .u8 (c.toNat : Int))) each
  refine ⟨⟨(List.range 32).map X, by simp⟩, ?_⟩
  apply List.ext_getElem?
  intro i
  by_cases hi : i < 32
  · rw [hX i hi]; simp [bcells, hi]
  · rw [List.getElem?_eq_none (by omega), List.getElem?_eq_none (by simp [bcells]; omega)]
theorem trod_Nu {n : Nat} {cs : List Value} {y : DataW H × List MemPlace} (h : DataW.trod enc Tryd.prog w 0 (fun _ => true) true n 3 cs = some y) : ∃ a : Int, cs = nuK.cells a ∧ True := by
  obtain ⟨a, e0, _, w0⟩ := DataW.trod_int Tryd.underlying3 h
  exact ⟨a, e0, trivial⟩
theorem trod_Dk {n : Nat} {cs : List Value} {y : DataW H × List MemPlace} (h : DataW.trod enc Tryd.prog w 0 (fun _ => true) true n 29 cs = some y) : ∃ d : Dg, cs = digK.cells d ∧ True := by
  obtain ⟨d, hd⟩ := trod_Dg h
  exact ⟨d, hd, trivial⟩
set_option maxRecDepth 100000 in
theorem trod_Tb {n : Nat} {cs : List Value} {y : DataW H × List MemPlace} (h : DataW.trod enc Tryd.prog w 0 (fun _ => true) true n 31 cs = some y) : ∃ r : Tb, cs = tbK.cells r ∧ ∃ t, TabR w t r := by
  obtain ⟨xs, n', rfl, hx, hlen, hxl, hf⟩ := DataW.trod_struct Tryd.underlying31 h
  rw [cellsTb] at hlen
  have f0 := hf 0 _ rfl
  have f1 := hf 1 _ rfl
  have f2 := hf 2 _ rfl
  have f3 := hf 3 _ rfl
  have hxl : xs.length = 4 := hxl
  match cs, hlen with
  | c0 :: c1 :: c2 :: rest, hlen =>
    have hr : rest.length = 32 := by simpa using hlen
    match xs, hxl with
    | [x0, x1, x2, x3], _ =>
      obtain ⟨a, e0, _, _⟩ := DataW.trod_int Tryd.underlying3 f0
      obtain ⟨b, e1, _, _⟩ := DataW.trod_int Tryd.underlying3 f1
      obtain ⟨u, l, e2, hu, _⟩ := trod_K (K := nuK) Tryd.underlying27 cellsInt trod_Nu f2
      obtain ⟨d, e3⟩ := trod_Dg f3
      have e3 : rest.take (Tryd.prog.cellsOf 29) = bcells d.1 := e3
      rw [cellsDg] at e3
      have g0 : [c0] = [Value.int .i64 a] := e0
      have g1 : [c1] = [Value.int .i64 b] := e1
      have g2 : [c2] = [u] := e2
      have g3 : rest = bcells d.1 := by
        have : rest.take 32 = bcells d.1 := e3
        rw [List.take_of_length_le (by omega)] at this; exact this
      injection g0 with g0; injection g1 with g1; injection g2 with g2
      subst g0 g1 g2 g3
      obtain ⟨oa, cap, rfl, _⟩ := hu.shape
      exact ⟨⟨a, b, oa, l.length, cap, d⟩, rfl, ⟨a, b, l, d⟩, rfl, rfl, rfl, hu⟩
set_option maxRecDepth 100000 in
/-- an argument that is a list of tables -/
theorem open_Tabs {r : Reach} {b0 : Nat} {v : Value} {d : DataW H} {p : List MemPlace} (hv : Value.okWide Tryd.prog w r b0 22 v) (h : DataW.Trod enc Tryd.prog w 0 (fun _ => true) true 22 v d p) : ∃ l : List Tab, TabsAt w l v := by
  obtain ⟨rl, hl, hp⟩ := open_K (K := tbK) Tryd.underlying22 cellsTb trod_Tb hv h
  have key : ∀ rl : List Tb, (∀ x ∈ rl, ∃ t, TabR w t x) → ∃ l : List Tab, rl.length = l.length ∧ ∀ (i : Nat) (t : Tab) (x : Tb), l[i]? = some t → rl[i]? = some x → TabR w t x := by
    intro rl
    induction rl with
    | nil => exact fun _ => ⟨[], rfl, fun i t x h _ => by simp at h⟩
    | cons x r ih =>
      intro hx
      obtain ⟨t, ht⟩ := hx x List.mem_cons_self
      obtain ⟨l, h1, h2⟩ := ih (fun y hy => hx y (List.mem_cons_of_mem _ hy))
      refine ⟨t :: l, by simp [h1], fun i u y hu hy => ?_⟩
      cases i with
      | zero => simp at hu hy; subst hu hy; exact ht
      | succ i => exact h2 i u y (by simpa using hu) (by simpa using hy)
  obtain ⟨l, h1, h2⟩ := key rl hp
  exact ⟨l, rl, hl, h1, h2⟩
set_option maxRecDepth 100000 in
/-- an argument that is a digest -/
theorem open_Dg {r : Reach} {b0 : Nat} {v : Value} {d : DataW H} {p : List MemPlace} (hv : Value.okWide Tryd.prog w r b0 29 v) (h : DataW.Trod enc Tryd.prog w 0 (fun _ => true) true 29 v d p) : ∃ x : Dg, v = dv x.1 := by
  have hu := Tryd.underlying29
  simp only [Value.okWide, hu] at hv
  obtain ⟨cs, rfl, hsz, _⟩ := hv
  obtain ⟨n, hf⟩ := h
  have hcs : (Value.agg cs).cells.toList = cs.toList := by simp [Value.cells]
  rw [hcs] at hf
  obtain ⟨x, hx⟩ := trod_Dg hf
  exact ⟨x, by unfold dv; rw [← hx]⟩
set_option maxRecDepth 100000 in
/-- an argument that is an opening -/
theorem open_Op {r : Reach} {b0 : Nat} {v : Value} {d : DataW H} {p : List MemPlace} (hv : Value.okWide Tryd.prog w r b0 36 v) (h : DataW.Trod enc Tryd.prog w 0 (fun _ => true) true 36 v d p) : ∃ (x : Opn) (s : Ob), v = s.v ∧ OpR w x s := by
  obtain ⟨cs, rfl, hsz⟩ := okWide_struct Tryd.underlying36 hv
  obtain ⟨n, hf⟩ := h
  have hcs : (Value.agg cs).cells.toList = cs.toList := by simp [Value.cells]
  rw [hcs] at hf
  obtain ⟨xs, n', rfl, hx, hlen, hxl, hf⟩ := DataW.trod_struct Tryd.underlying36 hf
  rw [cellsOb] at hlen
  have f0 := hf 0 _ rfl
  have f1 := hf 1 _ rfl
  have f2 := hf 2 _ rfl
  have f3 := hf 3 _ rfl
  have f4 := hf 4 _ rfl
  have f5 := hf 5 _ rfl
  have hxl : xs.length = 6 := hxl
  match hm : cs.toList, hlen with
  | c0 :: c1 :: c2 :: c3 :: rest, hlen =>
    rw [hm] at f0 f1 f2 f3 f4 f5
    have hr : rest.length = 33 := by simpa using hlen
    match xs, hxl with
    | [x0, x1, x2, x3, x4, x5], _ =>
      obtain ⟨a, e0, _, _⟩ := DataW.trod_int Tryd.underlying3 f0
      obtain ⟨b, e1, _, _⟩ := DataW.trod_int Tryd.underlying3 f1
      obtain ⟨c, e2, _, _⟩ := DataW.trod_int Tryd.underlying3 f2
      obtain ⟨g, e3, _, _⟩ := DataW.trod_int Tryd.underlying3 f3
      obtain ⟨d, e4⟩ := trod_Dg f4
      obtain ⟨u, l, e5, hu, _⟩ := trod_K (K := digK) Tryd.underlying34 cellsDg trod_Dk f5
      have e4 : rest.take (Tryd.prog.cellsOf 29) = bcells d.1 := e4
      have e5 : (rest.drop 32).take (Tryd.prog.cellsOf 34) = [u] := e5
      rw [cellsDg] at e4
      rw [cellsDs] at e5
      have g0 : [c0] = [Value.int .i64 a] := e0
      have g1 : [c1] = [Value.int .i64 b] := e1
      have g2 : [c2] = [Value.int .i64 c] := e2
      have g3 : [c3] = [Value.int .i64 g] := e3
      have g4 : rest.take 32 = bcells d.1 := e4
      have g5 : (rest.drop 32).take 1 = [u] := e5
      have g6 : rest = bcells d.1 ++ [u] := by
        rw [← g4, ← g5, List.take_of_length_le (l := rest.drop 32) (by rw [List.length_drop]; omega), List.take_append_drop]
      injection g0 with g0; injection g1 with g1; injection g2 with g2; injection g3 with g3
      obtain ⟨oa, cap, rfl, _⟩ := hu.shape
      refine ⟨⟨a, b, c, g, d, l⟩, ⟨a, b, c, g, d, oa, l.length, cap⟩, ?_, rfl, rfl, rfl, rfl, rfl, hu⟩
      have hc : cs.toList = Ob.cells ⟨a, b, c, g, d, oa, l.length, cap⟩ := by rw [hm, g0, g1, g2, g3, g6]; rfl
      unfold Ob.v
      rw [← hc]
end
end Go.Proofs.YtbonebmboolemaaDoor
