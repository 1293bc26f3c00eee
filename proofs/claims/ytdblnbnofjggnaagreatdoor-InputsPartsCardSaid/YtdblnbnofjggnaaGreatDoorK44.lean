/- Parts of the proofs of chapter 49's laws: Jop. -/
import Derived.Test.YtdblnbnofjggnaaGreatDoorK28
import Derived.Test.YtdblnbnofjggnaaGreatDoorK32
import Derived.Test.YtdblnbnofjggnaaGreatDoorK34
import Derived.Test.YtdblnbnofjggnaaGreatDoorK27
import Derived.OpenShut
import Derived.ChangeSame
namespace Go.Proofs.YtdblnbnofjggnaaGreatDoor
open Go.RowKit Go.ChangeShapes Go.WideShapes
theorem i64_wf {n : Int} (h : (Lit.int .i64 n).wf = true) : I64 n := by
 simp only [Lit.wf, Bool.and_eq_true, decide_eq_true_eq] at h
 unfold I64; simpa [IntKind.min, IntKind.max, IntKind.signed, IntKind.bits] using h
theorem pc {cs l m : List Value} {o a b : Nat} (h1 : (cs.drop o).take a = l) (h2 : (cs.drop (o + a)).take b = m) : (cs.drop o).take (a + b) = l ++ m := by
 rw [← h1, ← h2, ← List.drop_drop, ← List.take_add]
theorem pcAll {cs l : List Value} {n : Nat} (h : (cs.drop 0).take n = l) (hn : cs.length = n) : cs = l := by
 rw [List.drop_zero, List.take_of_length_le (by omega)] at h; exact h
instance : Inhabited Cut := ⟨⟨false, 0, 0, 0, 0⟩⟩
instance : Inhabited Nb := ⟨⟨0, 0, none, 0, 0⟩⟩
theorem cellsI49 : Tryz.prog.cellsOf 3 = 1 := by kernel_rfl
theorem cellsS49 : Tryz.prog.cellsOf 9 = 1 := by kernel_rfl
theorem cellsB49 : Tryz.prog.cellsOf 4 = 1 := by kernel_rfl
theorem cellsIl49 : Tryz.prog.cellsOf 24 = 1 := by kernel_rfl
theorem cellsSp49 : Tryz.prog.cellsOf 26 = 2 := by kernel_rfl
theorem cellsSg49 : Tryz.prog.cellsOf 39 = 2 := by kernel_rfl
theorem cellsSt49 : Tryz.prog.cellsOf 23 = 3 := by kernel_rfl
theorem cellsCu49 : Tryz.prog.cellsOf 88 = 5 := by kernel_rfl
theorem cellsCl49 : Tryz.prog.cellsOf 46 = 1 := by kernel_rfl
theorem cellsNd49 : Tryz.prog.cellsOf 48 = 3 := by kernel_rfl
theorem cellsNl49 : Tryz.prog.cellsOf 29 = 1 := by kernel_rfl
theorem cellsFl49 : Tryz.prog.cellsOf 28 = 8 := by kernel_rfl
theorem cellsCh49 : Tryz.prog.cellsOf 31 = 3 := by kernel_rfl
theorem cellsRp49 : Tryz.prog.cellsOf 33 = 6 := by kernel_rfl
theorem cellsSs49 : Tryz.prog.cellsOf 35 = 3 := by kernel_rfl
theorem cellsSn49 : Tryz.prog.cellsOf 37 = 3 := by kernel_rfl
theorem cellsIn49 : Tryz.prog.cellsOf 41 = 32 := by kernel_rfl
section
variable {H : Type} {enc : TypeId × Value → H} {w : World}
theorem fld {t : TypeId} {c o n i : Nat} {cs : List Value} {xs : List (DataW H × List MemPlace)} (hc : Tryz.prog.cellsOf t = c) (h : DataW.trod enc Tryz.prog w 0 (fun _ => true) true n t ((cs.drop o).take (Tryz.prog.cellsOf t)) = xs[i]?) (hi : i < xs.length) : DataW.trod enc Tryz.prog w 0 (fun _ => true) true n t ((cs.drop o).take c) = some xs[i] := by
 subst hc; rw [h]; exact List.getElem?_eq_getElem hi
theorem trod_Nu49 {n : Nat} {cs : List Value} {y : DataW H × List MemPlace} (h : DataW.trod enc Tryz.prog w 0 (fun _ => true) true n 3 cs = some y) : ∃ a : Int, cs = nuK.cells a ∧ I64 a := by
 obtain ⟨a, e0, _, w0⟩ := DataW.trod_int Tryz.underlying3 h
 exact ⟨a, e0, i64_wf w0⟩
set_option maxRecDepth 100000 in
theorem trod_Sp {n : Nat} {cs : List Value} {y : DataW H × List MemPlace} (h : DataW.trod enc Tryz.prog w 0 (fun _ => true) true n 26 cs = some y) : ∃ a b : Int, cs = [.int .i64 a, .int .i64 b] ∧ I64 a ∧ I64 b := by
 obtain ⟨xs, n', rfl, hx, hlen, hxl, hf⟩ := DataW.trod_struct Tryz.underlying26 h
 rw [cellsSp49] at hlen
 have hxl : xs.length = 2 := hxl
 have g0 : DataW.trod enc Tryz.prog w 0 (fun _ => true) true n' 3 ((cs.drop 0).take 1) = some (xs[0]'(by omega)) := fld cellsI49 (hf 0 _ rfl) (by omega)
 obtain ⟨a0, e0, _, w0⟩ := DataW.trod_int Tryz.underlying3 g0; have w0 := i64_wf w0
 have g1 : DataW.trod enc Tryz.prog w 0 (fun _ => true) true n' 3 ((cs.drop 1).take 1) = some (xs[1]'(by omega)) := fld cellsI49 (hf 1 _ rfl) (by omega)
 obtain ⟨a1, e1, _, w1⟩ := DataW.trod_int Tryz.underlying3 g1; have w1 := i64_wf w1
 have hcs := pcAll (n := 2) (pc e0 e1) hlen
 exact ⟨a0, a1, hcs, w0, w1⟩
set_option maxRecDepth 100000 in
theorem trod_Sg {n : Nat} {cs : List Value} {y : DataW H × List MemPlace} (h : DataW.trod enc Tryz.prog w 0 (fun _ => true) true n 39 cs = some y) : ∃ a b : Int, cs = [.int .i64 a, .int .i64 b] ∧ I64 a ∧ I64 b := by
 obtain ⟨xs, n', rfl, hx, hlen, hxl, hf⟩ := DataW.trod_struct Tryz.underlying39 h
 rw [cellsSg49] at hlen
 have hxl : xs.length = 2 := hxl
 have g0 : DataW.trod enc Tryz.prog w 0 (fun _ => true) true n' 3 ((cs.drop 0).take 1) = some (xs[0]'(by omega)) := fld cellsI49 (hf 0 _ rfl) (by omega)
 obtain ⟨a0, e0, _, w0⟩ := DataW.trod_int Tryz.underlying3 g0; have w0 := i64_wf w0
 have g1 : DataW.trod enc Tryz.prog w 0 (fun _ => true) true n' 3 ((cs.drop 1).take 1) = some (xs[1]'(by omega)) := fld cellsI49 (hf 1 _ rfl) (by omega)
 obtain ⟨a1, e1, _, w1⟩ := DataW.trod_int Tryz.underlying3 g1; have w1 := i64_wf w1
 have hcs := pcAll (n := 2) (pc e0 e1) hlen
 exact ⟨a0, a1, hcs, w0, w1⟩
set_option maxRecDepth 100000 in
theorem trod_St {n : Nat} {cs : List Value} {y : DataW H × List MemPlace} (h : DataW.trod enc Tryz.prog w 0 (fun _ => true) true n 23 cs = some y) : ∃ a b c : Int, cs = [.int .i64 a, .int .i64 b, .int .i64 c] ∧ I64 a ∧ I64 b ∧ I64 c := by
 obtain ⟨xs, n', rfl, hx, hlen, hxl, hf⟩ := DataW.trod_struct Tryz.underlying23 h
 rw [cellsSt49] at hlen
 have hxl : xs.length = 3 := hxl
 have g0 : DataW.trod enc Tryz.prog w 0 (fun _ => true) true n' 3 ((cs.drop 0).take 1) = some (xs[0]'(by omega)) := fld cellsI49 (hf 0 _ rfl) (by omega)
 obtain ⟨a0, e0, _, w0⟩ := DataW.trod_int Tryz.underlying3 g0; have w0 := i64_wf w0
 have g1 : DataW.trod enc Tryz.prog w 0 (fun _ => true) true n' 3 ((cs.drop 1).take 1) = some (xs[1]'(by omega)) := fld cellsI49 (hf 1 _ rfl) (by omega)
 obtain ⟨a1, e1, _, w1⟩ := DataW.trod_int Tryz.underlying3 g1; have w1 := i64_wf w1
 have g2 : DataW.trod enc Tryz.prog w 0 (fun _ => true) true n' 3 ((cs.drop 2).take 1) = some (xs[2]'(by omega)) := fld cellsI49 (hf 2 _ rfl) (by omega)
 obtain ⟨a2, e2, _, w2⟩ := DataW.trod_int Tryz.underlying3 g2; have w2 := i64_wf w2
 have hcs := pcAll (n := 3) (pc (pc e0 e1) e2) hlen
 exact ⟨a0, a1, a2, hcs, w0, w1, w2⟩
set_option maxRecDepth 100000 in
theorem trod_Cu {n : Nat} {cs : List Value} {y : DataW H × List MemPlace} (h : DataW.trod enc Tryz.prog w 0 (fun _ => true) true n 88 cs = some y) : ∃ c : Cut, cs = cuK.cells c ∧ CutI c := by
 obtain ⟨xs, n', rfl, hx, hlen, hxl, hf⟩ := DataW.trod_struct Tryz.underlying88 h
 rw [cellsCu49] at hlen
 have hxl : xs.length = 4 := hxl
 have g0 : DataW.trod enc Tryz.prog w 0 (fun _ => true) true n' 4 ((cs.drop 0).take 1) = some (xs[0]'(by omega)) := fld cellsB49 (hf 0 _ rfl) (by omega)
 obtain ⟨a0, e0, _⟩ := DataW.trod_bool Tryz.underlying4 g0
 have g1 : DataW.trod enc Tryz.prog w 0 (fun _ => true) true n' 3 ((cs.drop 1).take 1) = some (xs[1]'(by omega)) := fld cellsI49 (hf 1 _ rfl) (by omega)
 obtain ⟨a1, e1, _, w1⟩ := DataW.trod_int Tryz.underlying3 g1; have w1 := i64_wf w1
 have g2 : DataW.trod enc Tryz.prog w 0 (fun _ => true) true n' 26 ((cs.drop 2).take 2) = some (xs[2]'(by omega)) := fld cellsSp49 (hf 2 _ rfl) (by omega)
 obtain ⟨b0, b1, e2, w2, x2⟩ := trod_Sp g2
 have g3 : DataW.trod enc Tryz.prog w 0 (fun _ => true) true n' 3 ((cs.drop 4).take 1) = some (xs[3]'(by omega)) := fld cellsI49 (hf 3 _ rfl) (by omega)
 obtain ⟨a3, e3, _, w3⟩ := DataW.trod_int Tryz.underlying3 g3; have w3 := i64_wf w3
 have hcs := pcAll (n := 5) (pc (pc (pc e0 e1) e2) e3) hlen
 exact ⟨⟨a0, a1, b0, b1, a3⟩, hcs, ⟨w1, w2, x2, w3⟩⟩
set_option maxRecDepth 100000 in
theorem trod_Nd {n : Nat} {cs : List Value} {y : DataW H × List MemPlace} (h : DataW.trod enc Tryz.prog w 0 (fun _ => true) true n 48 cs = some y) : ∃ r : Nb, cs = ndK.cells r ∧ ∃ t, NodR w t r ∧ NodI t := by
 obtain ⟨xs, n', rfl, hx, hlen, hxl, hf⟩ := DataW.trod_struct Tryz.underlying48 h
 rw [cellsNd49] at hlen
 have hxl : xs.length = 3 := hxl
 have g0 : DataW.trod enc Tryz.prog w 0 (fun _ => true) true n' 3 ((cs.drop 0).take 1) = some (xs[0]'(by omega)) := fld cellsI49 (hf 0 _ rfl) (by omega)
 obtain ⟨a0, e0, _, w0⟩ := DataW.trod_int Tryz.underlying3 g0; have w0 := i64_wf w0
 have g1 : DataW.trod enc Tryz.prog w 0 (fun _ => true) true n' 3 ((cs.drop 1).take 1) = some (xs[1]'(by omega)) := fld cellsI49 (hf 1 _ rfl) (by omega)
 obtain ⟨a1, e1, _, w1⟩ := DataW.trod_int Tryz.underlying3 g1; have w1 := i64_wf w1
 have g2 : DataW.trod enc Tryz.prog w 0 (fun _ => true) true n' 46 ((cs.drop 2).take 1) = some (xs[2]'(by omega)) := fld cellsCl49 (hf 2 _ rfl) (by omega)
 obtain ⟨v2, a2, e2, r2, w2⟩ := trod_K (K := cuK) (P := CutI) Tryz.underlying46 cellsCu49 trod_Cu g2
 have hcs := pcAll (n := 3) (pc (pc e0 e1) e2) hlen
 obtain ⟨oa, cap, rfl, _⟩ := r2.shape
 exact ⟨⟨a0, a1, oa, a2.length, cap⟩, hcs, ⟨a0, a1, a2⟩, ⟨rfl, rfl, r2⟩, ⟨w0, w1, w2⟩⟩
theorem tree_of {rl : List Nb} (h : ∀ x ∈ rl, ∃ t, NodR w t x ∧ NodI t) : ∃ l : List Nod, rl.length = l.length ∧ (∀ (i : Nat) (t : Nod) (x : Nb), l[i]? = some t → rl[i]? = some x → NodR w t x) ∧ ∀ t ∈ l, NodI t := by
 induction rl with
 | nil => exact ⟨[], rfl, fun i t x h _ => by simp at h, fun t h => by cases h⟩
 | cons x r ih =>
  obtain ⟨t, ht, hi⟩ := h x List.mem_cons_self
  obtain ⟨l, h1, h2, h3⟩ := ih (fun y hy => h y (List.mem_cons_of_mem _ hy))
  refine ⟨t :: l, by simp [h1], fun i u y hu hy => ?_, fun u hu => ?_⟩
  · cases i with
    | zero => simp at hu hy; subst hu hy; exact ht
    | succ i => exact h2 i u y (by simpa using hu) (by simpa using hy)
  · rcases List.mem_cons.1 hu with rfl | hu
    · exact hi
    · exact h3 u hu
theorem trod_Tree {n : Nat} {cs : List Value} {y : DataW H × List MemPlace} (h : DataW.trod enc Tryz.prog w 0 (fun _ => true) true n 29 cs = some y) : ∃ v l, cs = [v] ∧ TreeAt w l v ∧ ∀ t ∈ l, NodI t := by
 obtain ⟨v, rl, e, hr, hp⟩ := trod_K (K := ndK) (P := fun r => ∃ t, NodR w t r ∧ NodI t) Tryz.underlying29 cellsNd49 trod_Nd h
 obtain ⟨l, h1, h2, h3⟩ := tree_of hp
 exact ⟨v, l, e, ⟨rl, hr, h1, h2⟩, h3⟩
set_option maxRecDepth 100000 in
theorem trod_Fl {n : Nat} {cs : List Value} {y : DataW H × List MemPlace} (h : DataW.trod enc Tryz.prog w 0 (fun _ => true) true n 28 cs = some y) : ∃ (f : Flt) (v : Value), cs = f.cells v ∧ LsAt nuK w.heap.size w f.ways v ∧ FltI f := by
 obtain ⟨xs, n', rfl, hx, hlen, hxl, hf⟩ := DataW.trod_struct Tryz.underlying28 h
 rw [cellsFl49] at hlen
 have hxl : xs.length = 7 := hxl
 have g0 : DataW.trod enc Tryz.prog w 0 (fun _ => true) true n' 3 ((cs.drop 0).take 1) = some (xs[0]'(by omega)) := fld cellsI49 (hf 0 _ rfl) (by omega)
 obtain ⟨a0, e0, _, w0⟩ := DataW.trod_int Tryz.underlying3 g0; have w0 := i64_wf w0
 have g1 : DataW.trod enc Tryz.prog w 0 (fun _ => true) true n' 3 ((cs.drop 1).take 1) = some (xs[1]'(by omega)) := fld cellsI49 (hf 1 _ rfl) (by omega)
 obtain ⟨a1, e1, _, w1⟩ := DataW.trod_int Tryz.underlying3 g1; have w1 := i64_wf w1
 have g2 : DataW.trod enc Tryz.prog w 0 (fun _ => true) true n' 3 ((cs.drop 2).take 1) = some (xs[2]'(by omega)) := fld cellsI49 (hf 2 _ rfl) (by omega)
 obtain ⟨a2, e2, _, w2⟩ := DataW.trod_int Tryz.underlying3 g2; have w2 := i64_wf w2
 have g3 : DataW.trod enc Tryz.prog w 0 (fun _ => true) true n' 9 ((cs.drop 3).take 1) = some (xs[3]'(by omega)) := fld cellsS49 (hf 3 _ rfl) (by omega)
 obtain ⟨a3, e3, _, w3⟩ := DataW.trod_string Tryz.underlying9 g3
 have g4 : DataW.trod enc Tryz.prog w 0 (fun _ => true) true n' 24 ((cs.drop 4).take 1) = some (xs[4]'(by omega)) := fld cellsIl49 (hf 4 _ rfl) (by omega)
 obtain ⟨v4, a4, e4, r4, w4⟩ := trod_K (K := nuK) (P := I64) Tryz.underlying24 cellsI49 trod_Nu49 g4
 have g5 : DataW.trod enc Tryz.prog w 0 (fun _ => true) true n' 26 ((cs.drop 5).take 2) = some (xs[5]'(by omega)) := fld cellsSp49 (hf 5 _ rfl) (by omega)
 obtain ⟨b0, b1, e5, w5, x5⟩ := trod_Sp g5
 have g6 : DataW.trod enc Tryz.prog w 0 (fun _ => true) true n' 4 ((cs.drop 7).take 1) = some (xs[6]'(by omega)) := fld cellsB49 (hf 6 _ rfl) (by omega)
 obtain ⟨a6, e6, _⟩ := DataW.trod_bool Tryz.underlying4 g6
 have hcs := pcAll (n := 8) (pc (pc (pc (pc (pc (pc e0 e1) e2) e3) e4) e5) e6) hlen
 exact ⟨⟨a0, a1, a2, a3, a4, b0, b1, a6⟩, v4, hcs, r4, ⟨w0, w1, w2, w5, x5, w4, w3⟩⟩
set_option maxRecDepth 100000 in
theorem trod_Ch {n : Nat} {cs : List Value} {y : DataW H × List MemPlace} (h : DataW.trod enc Tryz.prog w 0 (fun _ => true) true n 31 cs = some y) : ∃ (c : Chg) (v : Value), cs = c.cells v ∧ LsAt nuK w.heap.size w c.modes v ∧ I64 c.frm ∧ I64 c.cfg ∧ ∀ m ∈ c.modes, I64 m := by
 obtain ⟨xs, n', rfl, hx, hlen, hxl, hf⟩ := DataW.trod_struct Tryz.underlying31 h
 rw [cellsCh49] at hlen
 have hxl : xs.length = 3 := hxl
 have g0 : DataW.trod enc Tryz.prog w 0 (fun _ => true) true n' 3 ((cs.drop 0).take 1) = some (xs[0]'(by omega)) := fld cellsI49 (hf 0 _ rfl) (by omega)
 obtain ⟨a0, e0, _, w0⟩ := DataW.trod_int Tryz.underlying3 g0; have w0 := i64_wf w0
 have g1 : DataW.trod enc Tryz.prog w 0 (fun _ => true) true n' 3 ((cs.drop 1).take 1) = some (xs[1]'(by omega)) := fld cellsI49 (hf 1 _ rfl) (by omega)
 obtain ⟨a1, e1, _, w1⟩ := DataW.trod_int Tryz.underlying3 g1; have w1 := i64_wf w1
 have g2 : DataW.trod enc Tryz.prog w 0 (fun _ => true) true n' 24 ((cs.drop 2).take 1) = some (xs[2]'(by omega)) := fld cellsIl49 (hf 2 _ rfl) (by omega)
 obtain ⟨v2, a2, e2, r2, w2⟩ := trod_K (K := nuK) (P := I64) Tryz.underlying24 cellsI49 trod_Nu49 g2
 have hcs := pcAll (n := 3) (pc (pc e0 e1) e2) hlen
 exact ⟨⟨a0, a1, a2⟩, v2, hcs, r2, w0, w1, w2⟩
set_option maxRecDepth 100000 in
theorem trod_Rp49 {n : Nat} {cs : List Value} {y : DataW H × List MemPlace} (h : DataW.trod enc Tryz.prog w 0 (fun _ => true) true n 33 cs = some y) : ∃ r : Rp, cs = r.cells ∧ I64 r.st ∧ I64 r.no ∧ I64 r.mi ∧ I64 r.ar ∧ r.cl.size ≤ maxLen ∧ I64 r.vo := by
 obtain ⟨xs, n', rfl, hx, hlen, hxl, hf⟩ := DataW.trod_struct Tryz.underlying33 h
 rw [cellsRp49] at hlen
 have hxl : xs.length = 6 := hxl
 have g0 : DataW.trod enc Tryz.prog w 0 (fun _ => true) true n' 3 ((cs.drop 0).take 1) = some (xs[0]'(by omega)) := fld cellsI49 (hf 0 _ rfl) (by omega)
 obtain ⟨a0, e0, _, w0⟩ := DataW.trod_int Tryz.underlying3 g0; have w0 := i64_wf w0
 have g1 : DataW.trod enc Tryz.prog w 0 (fun _ => true) true n' 3 ((cs.drop 1).take 1) = some (xs[1]'(by omega)) := fld cellsI49 (hf 1 _ rfl) (by omega)
 obtain ⟨a1, e1, _, w1⟩ := DataW.trod_int Tryz.underlying3 g1; have w1 := i64_wf w1
 have g2 : DataW.trod enc Tryz.prog w 0 (fun _ => true) true n' 3 ((cs.drop 2).take 1) = some (xs[2]'(by omega)) := fld cellsI49 (hf 2 _ rfl) (by omega)
 obtain ⟨a2, e2, _, w2⟩ := DataW.trod_int Tryz.underlying3 g2; have w2 := i64_wf w2
 have g3 : DataW.trod enc Tryz.prog w 0 (fun _ => true) true n' 3 ((cs.drop 3).take 1) = some (xs[3]'(by omega)) := fld cellsI49 (hf 3 _ rfl) (by omega)
 obtain ⟨a3, e3, _, w3⟩ := DataW.trod_int Tryz.underlying3 g3; have w3 := i64_wf w3
 have g4 : DataW.trod enc Tryz.prog w 0 (fun _ => true) true n' 9 ((cs.drop 4).take 1) = some (xs[4]'(by omega)) := fld cellsS49 (hf 4 _ rfl) (by omega)
 obtain ⟨a4, e4, _, w4⟩ := DataW.trod_string Tryz.underlying9 g4
 have g5 : DataW.trod enc Tryz.prog w 0 (fun _ => true) true n' 3 ((cs.drop 5).take 1) = some (xs[5]'(by omega)) := fld cellsI49 (hf 5 _ rfl) (by omega)
 obtain ⟨a5, e5, _, w5⟩ := DataW.trod_int Tryz.underlying3 g5; have w5 := i64_wf w5
 have hcs := pcAll (n := 6) (pc (pc (pc (pc (pc e0 e1) e2) e3) e4) e5) hlen
 exact ⟨⟨a0, a1, a2, a3, a4, a5⟩, hcs, w0, w1, w2, w3, w4, w5⟩
set_option maxRecDepth 100000 in
theorem trod_Ss {n : Nat} {cs : List Value} {y : DataW H × List MemPlace} (h : DataW.trod enc Tryz.prog w 0 (fun _ => true) true n 35 cs = some y) : ∃ s : Sts, cs = s.cells ∧ I64 s.st ∧ I64 s.frm := by
 obtain ⟨xs, n', rfl, hx, hlen, hxl, hf⟩ := DataW.trod_struct Tryz.underlying35 h
 rw [cellsSs49] at hlen
 have hxl : xs.length = 3 := hxl
 have g0 : DataW.trod enc Tryz.prog w 0 (fun _ => true) true n' 3 ((cs.drop 0).take 1) = some (xs[0]'(by omega)) := fld cellsI49 (hf 0 _ rfl) (by omega)
 obtain ⟨a0, e0, _, w0⟩ := DataW.trod_int Tryz.underlying3 g0; have w0 := i64_wf w0
 have g1 : DataW.trod enc Tryz.prog w 0 (fun _ => true) true n' 3 ((cs.drop 1).take 1) = some (xs[1]'(by omega)) := fld cellsI49 (hf 1 _ rfl) (by omega)
 obtain ⟨a1, e1, _, w1⟩ := DataW.trod_int Tryz.underlying3 g1; have w1 := i64_wf w1
 have g2 : DataW.trod enc Tryz.prog w 0 (fun _ => true) true n' 4 ((cs.drop 2).take 1) = some (xs[2]'(by omega)) := fld cellsB49 (hf 2 _ rfl) (by omega)
 obtain ⟨a2, e2, _⟩ := DataW.trod_bool Tryz.underlying4 g2
 have hcs := pcAll (n := 3) (pc (pc e0 e1) e2) hlen
 exact ⟨⟨a0, a1, a2⟩, hcs, w0, w1⟩
set_option maxRecDepth 100000 in
theorem trod_Sn {n : Nat} {cs : List Value} {y : DataW H × List MemPlace} (h : DataW.trod enc Tryz.prog w 0 (fun _ => true) true n 37 cs = some y) : ∃ (s : Stn) (v : Value), cs = s.cells v ∧ LsAt nuK w.heap.size w s.vols v ∧ (∀ m ∈ s.vols, I64 m) ∧ I64 s.sh ∧ I64 s.fa := by
 obtain ⟨xs, n', rfl, hx, hlen, hxl, hf⟩ := DataW.trod_struct Tryz.underlying37 h
 rw [cellsSn49] at hlen
 have hxl : xs.length = 3 := hxl
 have g0 : DataW.trod enc Tryz.prog w 0 (fun _ => true) true n' 24 ((cs.drop 0).take 1) = some (xs[0]'(by omega)) := fld cellsIl49 (hf 0 _ rfl) (by omega)
 obtain ⟨v0, a0, e0, r0, w0⟩ := trod_K (K := nuK) (P := I64) Tryz.underlying24 cellsI49 trod_Nu49 g0
 have g1 : DataW.trod enc Tryz.prog w 0 (fun _ => true) true n' 3 ((cs.drop 1).take 1) = some (xs[1]'(by omega)) := fld cellsI49 (hf 1 _ rfl) (by omega)
 obtain ⟨a1, e1, _, w1⟩ := DataW.trod_int Tryz.underlying3 g1; have w1 := i64_wf w1
 have g2 : DataW.trod enc Tryz.prog w 0 (fun _ => true) true n' 3 ((cs.drop 2).take 1) = some (xs[2]'(by omega)) := fld cellsI49 (hf 2 _ rfl) (by omega)
 obtain ⟨a2, e2, _, w2⟩ := DataW.trod_int Tryz.underlying3 g2; have w2 := i64_wf w2
 have hcs := pcAll (n := 3) (pc (pc e0 e1) e2) hlen
 exact ⟨⟨a0, a1, a2⟩, v0, hcs, r0, w0, w1, w2⟩
set_option maxRecDepth 100000 in
theorem trod_In {n : Nat} {cs : List Value} {y : DataW H × List MemPlace} (h : DataW.trod enc Tryz.prog w 0 (fun _ => true) true n 41 cs = some y) : ∃ (x : Inp) (s : Slc), cs = x.cells s ∧ InpR w x s ∧ InpI x := by
 obtain ⟨xs, n', rfl, hx, hlen, hxl, hf⟩ := DataW.trod_struct Tryz.underlying41 h
 rw [cellsIn49] at hlen
 have hxl : xs.length = 11 := hxl
 have g0 : DataW.trod enc Tryz.prog w 0 (fun _ => true) true n' 23 ((cs.drop 0).take 3) = some (xs[0]'(by omega)) := fld cellsSt49 (hf 0 _ rfl) (by omega)
 obtain ⟨m0, m1, m2, e0, i0, j0, k0⟩ := trod_St g0
 have g1 : DataW.trod enc Tryz.prog w 0 (fun _ => true) true n' 3 ((cs.drop 3).take 1) = some (xs[1]'(by omega)) := fld cellsI49 (hf 1 _ rfl) (by omega)
 obtain ⟨a1, e1, _, w1⟩ := DataW.trod_int Tryz.underlying3 g1; have w1 := i64_wf w1
 have g2 : DataW.trod enc Tryz.prog w 0 (fun _ => true) true n' 9 ((cs.drop 4).take 1) = some (xs[2]'(by omega)) := fld cellsS49 (hf 2 _ rfl) (by omega)
 obtain ⟨a2, e2, _, w2⟩ := DataW.trod_string Tryz.underlying9 g2
 have g3 : DataW.trod enc Tryz.prog w 0 (fun _ => true) true n' 28 ((cs.drop 5).take 8) = some (xs[3]'(by omega)) := fld cellsFl49 (hf 3 _ rfl) (by omega)
 obtain ⟨f3, u3, e3, r3, i3⟩ := trod_Fl g3
 have g4 : DataW.trod enc Tryz.prog w 0 (fun _ => true) true n' 29 ((cs.drop 13).take 1) = some (xs[4]'(by omega)) := fld cellsNl49 (hf 4 _ rfl) (by omega)
 obtain ⟨v4, a4, e4, r4, w4⟩ := trod_Tree g4
 have g5 : DataW.trod enc Tryz.prog w 0 (fun _ => true) true n' 31 ((cs.drop 14).take 3) = some (xs[5]'(by omega)) := fld cellsCh49 (hf 5 _ rfl) (by omega)
 obtain ⟨c5, u5, e5, r5, i5, j5, k5⟩ := trod_Ch g5
 have g6 : DataW.trod enc Tryz.prog w 0 (fun _ => true) true n' 33 ((cs.drop 17).take 6) = some (xs[6]'(by omega)) := fld cellsRp49 (hf 6 _ rfl) (by omega)
 obtain ⟨p6, e6, i6, j6, k6, l6, q6, t6⟩ := trod_Rp49 g6
 have g7 : DataW.trod enc Tryz.prog w 0 (fun _ => true) true n' 35 ((cs.drop 23).take 3) = some (xs[7]'(by omega)) := fld cellsSs49 (hf 7 _ rfl) (by omega)
 obtain ⟨s7, e7, i7, j7⟩ := trod_Ss g7
 have g8 : DataW.trod enc Tryz.prog w 0 (fun _ => true) true n' 3 ((cs.drop 26).take 1) = some (xs[8]'(by omega)) := fld cellsI49 (hf 8 _ rfl) (by omega)
 obtain ⟨a8, e8, _, w8⟩ := DataW.trod_int Tryz.underlying3 g8; have w8 := i64_wf w8
 have g9 : DataW.trod enc Tryz.prog w 0 (fun _ => true) true n' 37 ((cs.drop 27).take 3) = some (xs[9]'(by omega)) := fld cellsSn49 (hf 9 _ rfl) (by omega)
 obtain ⟨q9, u9, e9, r9, i9, j9, k9⟩ := trod_Sn g9
 have g10 : DataW.trod enc Tryz.prog w 0 (fun _ => true) true n' 39 ((cs.drop 30).take 2) = some (xs[10]'(by omega)) := fld cellsSg49 (hf 10 _ rfl) (by omega)
 obtain ⟨g0, g1, e10, i10, j10⟩ := trod_Sg g10
 have hcs := pcAll (n := 32) (pc (pc (pc (pc (pc (pc (pc (pc (pc (pc e0 e1) e2) e3) e4) e5) e6) e7) e8) e9) e10) hlen
 exact ⟨⟨m0, m1, m2, a1, a2, f3, a4, c5, p6, s7, a8, q9, g0, g1⟩, ⟨u3, v4, u5, u9⟩, hcs, ⟨r3, r4, r5, r9⟩, ⟨i0, j0, k0, w1, w2, i3, w4, i5, j5, k5, i6, j6, k6, l6, q6, t6, i7, j7, w8, i9, j9, k9, i10, j10⟩⟩
set_option maxRecDepth 100000 in
theorem open_In49 {r : Reach} {b0 : Nat} {v : Value} {d : DataW H} {p : List MemPlace} (hv : Value.okWide Tryz.prog w r b0 41 v) (h : DataW.Trod enc Tryz.prog w 0 (fun _ => true) true 41 v d p) : ∃ (x : Inp) (s : Slc), v = x.v s ∧ InpR w x s ∧ InpI x := by
 obtain ⟨cs, rfl, hsz⟩ := okWide_struct Tryz.underlying41 hv
 obtain ⟨n, hf⟩ := h
 have hcs : (Value.agg cs).cells.toList = cs.toList := by simp [Value.cells]
 rw [hcs] at hf
 obtain ⟨x, s, e, hr, hi⟩ := trod_In hf
 have ec := congrArg List.toArray e; rw [Array.toArray_toList] at ec; subst ec
 exact ⟨x, s, rfl, hr, hi⟩
set_option maxRecDepth 100000 in
theorem open_St49 {r : Reach} {b0 : Nat} {v : Value} {d : DataW H} {p : List MemPlace} (hv : Value.okWide Tryz.prog w r b0 23 v) (h : DataW.Trod enc Tryz.prog w 0 (fun _ => true) true 23 v d p) : ∃ z : Inp, v = .agg (stC z).toArray := by
 obtain ⟨cs, rfl, hsz⟩ := okWide_struct Tryz.underlying23 hv
 obtain ⟨n, hf⟩ := h
 have hcs : (Value.agg cs).cells.toList = cs.toList := by simp [Value.cells]
 rw [hcs] at hf
 obtain ⟨a, b, c, e, -, -, -⟩ := trod_St hf
 have ec := congrArg List.toArray e; rw [Array.toArray_toList] at ec; subst ec
 exact ⟨⟨a, b, c, 0, ByteArray.empty, ⟨0, 0, 0, ByteArray.empty, [], 0, 0, false⟩, [], ⟨0, 0, []⟩, ⟨0, 0, 0, 0, ByteArray.empty, 0⟩, ⟨0, 0, false⟩, 0, ⟨[], 0, 0⟩, 0, 0⟩, rfl⟩
set_option maxRecDepth 100000 in
theorem open_Sg49 {r : Reach} {b0 : Nat} {v : Value} {d : DataW H} {p : List MemPlace} (hv : Value.okWide Tryz.prog w r b0 39 v) (h : DataW.Trod enc Tryz.prog w 0 (fun _ => true) true 39 v d p) : ∃ a b : Int, v = .agg #[.int .i64 a, .int .i64 b] ∧ I64 a ∧ I64 b := by
 obtain ⟨cs, rfl, hsz⟩ := okWide_struct Tryz.underlying39 hv
 obtain ⟨n, hf⟩ := h
 have hcs : (Value.agg cs).cells.toList = cs.toList := by simp [Value.cells]
 rw [hcs] at hf
 obtain ⟨a, b, e, ha, hb⟩ := trod_Sg hf
 have ec := congrArg List.toArray e; rw [Array.toArray_toList] at ec; subst ec
 exact ⟨a, b, rfl, ha, hb⟩
set_option maxRecDepth 100000 in
theorem open_Rp49 {r : Reach} {b0 : Nat} {v : Value} {d : DataW H} {p : List MemPlace} (hv : Value.okWide Tryz.prog w r b0 33 v) (h : DataW.Trod enc Tryz.prog w 0 (fun _ => true) true 33 v d p) : ∃ r : Rp, v = .agg r.cells.toArray ∧ r.cl.size ≤ maxLen := by
 obtain ⟨cs, rfl, hsz⟩ := okWide_struct Tryz.underlying33 hv
 obtain ⟨n, hf⟩ := h
 have hcs : (Value.agg cs).cells.toList = cs.toList := by simp [Value.cells]
 rw [hcs] at hf
 obtain ⟨r, e, -, -, -, -, hc, -⟩ := trod_Rp49 hf
 have ec := congrArg List.toArray e; rw [Array.toArray_toList] at ec; subst ec
 exact ⟨r, rfl, hc⟩
set_option maxRecDepth 100000 in
theorem open_Sn49 {r : Reach} {b0 : Nat} {v : Value} {d : DataW H} {p : List MemPlace} (hv : Value.okWide Tryz.prog w r b0 37 v) (h : DataW.Trod enc Tryz.prog w 0 (fun _ => true) true 37 v d p) : ∃ (q : Stn) (u : Value), v = .agg (q.cells u).toArray ∧ LsAt nuK w.heap.size w q.vols u := by
 obtain ⟨cs, rfl, hsz⟩ := okWide_struct Tryz.underlying37 hv
 obtain ⟨n, hf⟩ := h
 have hcs : (Value.agg cs).cells.toList = cs.toList := by simp [Value.cells]
 rw [hcs] at hf
 obtain ⟨q, u, e, hr, -, -, -⟩ := trod_Sn hf
 have ec := congrArg List.toArray e; rw [Array.toArray_toList] at ec; subst ec
 exact ⟨q, u, rfl, hr⟩
set_option maxRecDepth 100000 in
theorem open_Tree49 {r : Reach} {b0 : Nat} {v : Value} {d : DataW H} {p : List MemPlace} (hv : Value.okWide Tryz.prog w r b0 29 v) (h : DataW.Trod enc Tryz.prog w 0 (fun _ => true) true 29 v d p) : ∃ (l : List Nod) (oa : Option Addr) (n cap : Nat), v = .slice oa n cap ∧ TreeAt w l (.slice oa n cap) := by
 obtain ⟨a, len, cap, rfl⟩ := okWide_slice Tryz.underlying29 hv
 obtain ⟨n, hf⟩ := h
 have hcs : (Value.slice a len cap).cells.toList = [.slice a len cap] := rfl
 rw [hcs] at hf
 obtain ⟨v, l, he, hl, -⟩ := trod_Tree hf
 injection he with he
 subst he
 exact ⟨l, a, len, cap, rfl, hl⟩
end
end Go.Proofs.YtdblnbnofjggnaaGreatDoor
