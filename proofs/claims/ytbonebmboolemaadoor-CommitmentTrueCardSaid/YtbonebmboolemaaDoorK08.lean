/- Merged: Inl Gel Geo. -/
import Derived.Test.YtbonebmboolemaaDoorK03
import Derived.Test.YtbonebmboolemaaDoorK04
import Derived.Lib.Overlaps
import Derived.Lib.AppendZerosOnto
import Derived.Laws.CopyRow
/- laws for slices.Insert: a copy into a row that is known whole; where the cells lie behind two copies. -/
namespace Go.Proofs.YtbonebmboolemaaDoor
open Go.RowKit
def putL (c : List Value) (o : Nat) (x : List Value) : List Value := c.take o ++ x ++ c.drop (o + x.length)
theorem putL_len {c x : List Value} {o : Nat} (h : o + x.length ≤ c.length) : (putL c o x).length = c.length := by
  unfold putL; simp only [List.length_append, List.length_take, List.length_drop]; omega
theorem take_len_append {a b : List Value} {n : Nat} (h : n = a.length) : (a ++ b).take n = a := by subst h; exact List.take_left
theorem drop_len_append {a b : List Value} {n : Nat} (h : n = a.length) : (a ++ b).drop n = b := by subst h; exact List.drop_left
theorem put_back {c a b d : List Value} {o : Nat} (ha : c.take o = a) (hf : o + b.length + d.length ≤ c.length) : (putL (putL c (o + b.length) d) o b).take (o + b.length + d.length) = a ++ b ++ d := by
  have hal : a.length = o := by rw [← ha, List.length_take]; omega
  have h1 : (putL c (o + b.length) d).take o = a := by
    unfold putL
    rw [List.append_assoc, List.take_append_of_le_length (by rw [List.length_take]; omega), List.take_take, Nat.min_eq_left (by omega), ha]
  have h2 : (putL c (o + b.length) d).drop (o + b.length) = d ++ c.drop (o + b.length + d.length) := by
    unfold putL
    rw [List.append_assoc, drop_len_append (by rw [List.length_take]; omega)]
  show (List.take o (putL c (o + b.length) d) ++ b ++ List.drop (o + b.length) (putL c (o + b.length) d)).take _ = _
  rw [h1, h2, ← List.append_assoc, take_len_append (by simp only [List.length_append]; omega)]
theorem put_forth {c a b d : List Value} {o : Nat} (ha : c.take o = a) (hf : o + b.length + d.length ≤ c.length) : (putL (putL c o b) (o + b.length) d).take (o + b.length + d.length) = a ++ b ++ d := by
  have hal : a.length = o := by rw [← ha, List.length_take]; omega
  have h1 : (putL c o b).take (o + b.length) = a ++ b := by
    unfold putL
    rw [ha, take_len_append (by simp only [List.length_append]; omega)]
  show (List.take (o + b.length) (putL c o b) ++ d ++ List.drop (o + b.length + d.length) (putL c o b)).take _ = _
  rw [h1, take_len_append (by simp only [List.length_append]; omega)]
section
variable {P : Program}
theorem run_copy_put (w : World) (dT sT ty e : TypeId) (size g off dLen dCap : Nat) (cur : Array Value) (a : Addr) (sLen sCap m : Nat) (cs : List Value)
    (hu : P.underlying dT = some (.slice e)) (hs : (P.info? e).map (·.size) = some size) (hm : Nat.min sLen dLen = m) (hcl : cs.length = m * size)
    (hsrc : ∀ j v, cs[j]? = some v → w.cell? (a.add j) = some v) (hg : w.heap[g]? = some (.cells cur e (0, 0))) (hfit : off + cs.length ≤ cur.size) (h1 : ∀ v ∈ cs, v.oneCell' = true) :
    (Builtin.copy_ #[dT, sT] ty #[.slice (some ⟨g, off, none⟩) dLen dCap, .slice (some a) sLen sCap]).run P w = .ok (goInt m) (w.setRow g (putL cur.toList off cs).toArray) := by
  have hl := run_loadCells_list (P := P) w a cs hsrc
  have hst := run_storeCells_at P g off e cs 0 cur w hg (by simpa using hfit) h1
  cases hq : P.info? e with
  | none => simp [hq] at hs
  | some i =>
    have hi : i.size = size := by simpa [hq] using hs
    rw [hcl] at hl
    simp only [Nat.add_zero] at hst
    simp [Builtin.copy_, run_underlying hu, Builtin.lenOf, Builtin.firstCells, sizeOf, typeInfo, hq, hi, hm, hl, hst, putL]
theorem wpList_copy_h (w : World) {ops : Array Oper} {rest : List Oper} {o : Oper} {a : Act} {Q : Exit → Act → World → Prop} (hgd : o.guard = none) (d s : Operand) (t t' : TypeId)
    (ho : o.op = .call { callee := .builtin .copy, args := #[d, s], argTypes := #[t, t'] }) (v u : Value) (hd : a.eval d = v) (hs : a.eval s = u) {v' : Value} {w' : World}
    (hr : (Builtin.copy_ #[t, t'] o.type #[v, u]).run P w = .ok v' w') (h : wpList P ops Q rest (a.put o.dst v') w') : wpList P ops Q (o :: rest) a w := by
  refine wpList_plain hgd fun _ hK => ?_
  unfold Oper.wp execOp
  simp only [ho, resolve, invoke, builtin, Sem.run_bind, Sem.run_pure, Result.andThen_ok, List.map_toArray, List.map_cons, List.map_nil, hd, hs, hr]
  exact hK _ _ h
theorem step_copy_h {ops : Array Oper} {o : Oper} {a : Act} {w : World} {K : Act → World → Prop} {Q : Exit → Act → World → Prop} {E : Prop}
    (hgd : o.guard = none) (d s : Operand) (t t' : TypeId) (ho : o.op = .call { callee := .builtin .copy, args := #[d, s], argTypes := #[t, t'] })
    (v u : Value) (hd : a.eval d = v) (hs : a.eval s = u) {v' : Value} {w' : World} (hr : (Builtin.copy_ #[t, t'] o.type #[v, u]).run P w = .ok v' w') (h : K (a.put o.dst v') w') :
    if Region.wanted o (yielded ops a.tmps) = true then Oper.wp P o a w K Q else E := by
  have hw : Region.wanted o (yielded ops a.tmps) = true := by simp [Region.wanted, hgd]
  rw [if_pos hw]
  unfold Oper.wp execOp
  simp only [ho, resolve, invoke, builtin, Sem.run_bind, Sem.run_pure, Result.andThen_ok, List.map_toArray, List.map_cons, List.map_nil, hd, hs, hr]
  exact h
theorem wpList_append_h (w : World) {ops : Array Oper} {rest : List Oper} {o : Oper} {a : Act} {Q : Exit → Act → World → Prop} (hgd : o.guard = none) (d s : Operand) (t t' : TypeId)
    (ho : o.op = .call { callee := .builtin .append, args := #[d, s], argTypes := #[t, t'] }) (v u : Value) (hd : a.eval d = v) (hs : a.eval s = u) {v' : Value} {w' : World}
    (hr : (Builtin.append_ #[t, t'] o.type #[v, u]).run P w = .ok v' w') (h : wpList P ops Q rest (a.put o.dst v') w') : wpList P ops Q (o :: rest) a w := by
  refine wpList_plain hgd fun _ hK => ?_
  unfold Oper.wp execOp
  simp only [ho, resolve, invoke, builtin, Sem.run_bind, Sem.run_pure, Result.andThen_ok, List.map_toArray, List.map_cons, List.map_nil, hd, hs, hr]
  exact hK _ _ h
end
/-- a row that is known whole, behind a setRow -/
theorem row_set {w : World} {g : Nat} {cur : Array Value} {e : TypeId} (hg : w.heap[g]? = some (.cells cur e (0, 0))) (c : Array Value) : (w.setRow g c).heap[g]? = some (.cells c e (0, 0)) := setRow_heap w g cur c e _ hg
theorem grown_setRow (w : World) (g : Nat) (c : Array Value) : w.grownBy (w.setRow g c) (some g) := ⟨rfl, rfl, rfl, by simp, fun k _ hk => setRow_other w g k _ (fun e => hk (by rw [e]))⟩
theorem grown_setRow' {w w1 : World} {g : Nat} (h : w.grownBy w1 (some g)) (c : Array Value) : w.grownBy (w1.setRow g c) (some g) := grown_trans h (grown_setRow w1 g c) (.inl rfl)
theorem grown_setRow_new {w w1 : World} {G : Option Nat} {g : Nat} (h : w.grownBy w1 G) (hg : w.heap.size ≤ g) (c : Array Value) : w.grownBy (w1.setRow g c) G := grown_trans h (grown_setRow w1 g c) (.inr fun k hk => by cases hk; exact hg)
theorem add0 (g o j : Nat) : (⟨g, o, none⟩ : Addr).add j = ⟨g, o + j, none⟩ := by unfold Addr.add; split <;> simp_all
theorem cell_row {w : World} {g : Nat} {cur : Array Value} {e : TypeId} (hg : w.heap[g]? = some (.cells cur e (0, 0))) (j : Nat) : w.cell? ⟨g, j, none⟩ = cur[j]? := cell_of_row w g j cur e (0, 0) hg
end Go.Proofs.YtbonebmboolemaaDoor
/- elements of a fixed number of cells: lists of them that are read, or that the call owns. -/
namespace Go.Proofs.YtbonebmboolemaaDoor
open Go.RowKit
/-- a kind of elements: how many cells one takes, and which -/
structure EK (α : Type) where
  n : Nat
  cells : α → List Value
  len : ∀ a, (cells a).length = n
  one : ∀ a, ∀ u ∈ cells a, u.oneCell' = true
  pos : 0 < n
section
variable {α : Type} (K : EK α)
def EK.flat (l : List α) : List Value := l.flatMap K.cells
theorem EK.flat_nil : K.flat [] = [] := rfl
theorem EK.flat_cons (a : α) (l : List α) : K.flat (a :: l) = K.cells a ++ K.flat l := by unfold EK.flat; rw [List.flatMap_cons]
theorem EK.flat_append (a b : List α) : K.flat (a ++ b) = K.flat a ++ K.flat b := by unfold EK.flat; rw [List.flatMap_append]
theorem EK.flat_len : ∀ l : List α, (K.flat l).length = l.length * K.n
  | [] => by simp [EK.flat]
  | a :: l => by rw [EK.flat_cons, List.length_append, EK.flat_len l, K.len, List.length_cons, Nat.add_mul, Nat.one_mul, Nat.add_comm]
theorem EK.flat_one (l : List α) : ∀ u ∈ K.flat l, u.oneCell' = true := by
  intro u hu
  obtain ⟨a, _, h⟩ := List.mem_flatMap.1 hu
  exact K.one a u h
theorem EK.flat_take {l : List α} {i : Nat} (h : i ≤ l.length) : (K.flat l).take (i * K.n) = K.flat (l.take i) := by
  conv => lhs; rw [← List.take_append_drop i l]
  rw [K.flat_append, take_len_append (by rw [K.flat_len, List.length_take, Nat.min_eq_left h])]
theorem EK.flat_drop {l : List α} {i : Nat} (h : i ≤ l.length) {j : Nat} {u : Value} (hu : (K.flat (l.drop i))[j]? = some u) : (K.flat l)[i * K.n + j]? = some u := by
  have htl : (K.flat (l.take i)).length = i * K.n := by rw [K.flat_len, List.length_take, Nat.min_eq_left h]
  conv => lhs; rw [← List.take_append_drop i l]
  rw [K.flat_append, List.getElem?_append_right (by omega), htl, Nat.add_sub_cancel_left]; exact hu
/-- one element at an address -/
def ElAt (w : World) (b o : Nat) (a : α) : Prop := ∀ j u, (K.cells a)[j]? = some u → w.cell? ⟨b, o + j, none⟩ = some u
variable {K}
theorem ElAt.keep {w w' : World} {b o : Nat} {a : α} (h : ElAt K w b o a) (hk : w'.heap[b]? = w.heap[b]?) : ElAt K w' b o a := fun j u hu => by rw [World.cell?_of_block (w := w) hk]; exact h j u hu
theorem ElAt.ext {w w' : World} {b o : Nat} {a : α} (h : ElAt K w b o a) (hb : Below w.heap.size w w') : ElAt K w' b o a := fun j u hu => cell_ext hb (h j u hu)
theorem ElAt.of_cb {w : World} {g : Nat} {t : TypeId} {a : α} (h : CB w g t (K.cells a)) : ElAt K w g 0 a := fun j u hu => by rw [Nat.zero_add, h.cell]; exact hu
variable (K)
/-- elements that are read -/
def LsAt (B : Nat) (w : World) (l : List α) (v : Value) : Prop :=
  (l = [] ∧ ∃ oa cap, v = .slice oa 0 cap) ∨ (∃ b off cap, v = .slice (some ⟨b, off, none⟩) l.length cap ∧ l.length ≤ cap ∧ cap ≤ maxLen ∧ b < B ∧ ∀ j a, l[j]? = some a → ElAt K w b (off + j * K.n) a)
variable {K}
theorem LsAt.keep {B B' : Nat} {w w' : World} {l : List α} {v : Value} (h : LsAt K B w l v) (hB : B ≤ B') (hs : ∀ k, k < B → w'.heap[k]? = w.heap[k]?) : LsAt K B' w' l v := by
  rcases h with h | ⟨b, off, cap, h1, h2, h3, h4, h5⟩
  · exact .inl h
  · exact .inr ⟨b, off, cap, h1, h2, h3, Nat.lt_of_lt_of_le h4 hB, fun j a hj => (h5 j a hj).keep (hs _ h4)⟩
theorem LsAt.ext {w w' : World} {l : List α} {v : Value} (h : LsAt K w.heap.size w l v) (hb : Below w.heap.size w w') : LsAt K w'.heap.size w' l v := h.keep hb.size hb.block
theorem LsAt.nil (B : Nat) (w : World) (oa : Option Addr) (cap : Nat) : LsAt K B w ([] : List α) (.slice oa 0 cap) := .inl ⟨rfl, _, _, rfl⟩
theorem LsAt.shape {B : Nat} {w : World} {l : List α} {v : Value} (h : LsAt K B w l v) : ∃ oa cap, v = .slice oa l.length cap ∧ l.length ≤ 9223372036854775807 := by
  rcases h with ⟨rfl, oa, cap, rfl⟩ | ⟨b, off, cap, rfl, h2, h3, _⟩
  · exact ⟨oa, cap, rfl, by simp⟩
  · exact ⟨_, cap, rfl, by unfold maxLen at h3; omega⟩
theorem LsAt.shape2 {B : Nat} {w : World} {l : List α} {v : Value} (h : LsAt K B w l v) : ∃ oa cap, v = .slice oa l.length cap ∧ l.length ≤ cap ∧ l.length ≤ 9223372036854775807 := by
  rcases h with ⟨rfl, oa, cap, rfl⟩ | ⟨b, off, cap, rfl, h2, h3, _⟩
  · exact ⟨oa, cap, rfl, by simp, by simp⟩
  · exact ⟨_, cap, rfl, h2, by unfold maxLen at h3; omega⟩
theorem LsAt.at {B : Nat} {w : World} {l : List α} {oa : Option Addr} {cap k : Nat} (h : LsAt K B w l (.slice oa l.length cap)) (hk : k < l.length) :
    ∃ b off, oa = some ⟨b, off, none⟩ ∧ b < B ∧ ∀ j a, l[j]? = some a → ElAt K w b (off + j * K.n) a := by
  rcases h with ⟨rfl, _⟩ | ⟨b, off, cp, h1, _, _, h4, h5⟩
  · simp at hk
  · injection h1 with h1 _ _
    exact ⟨b, off, h1, h4, h5⟩
theorem flat_at : ∀ (l : List α) (w : World) (b off : Nat), (∀ j a, l[j]? = some a → ElAt K w b (off + j * K.n) a) → ∀ j u, (K.flat l)[j]? = some u → w.cell? ⟨b, off + j, none⟩ = some u
  | [], _, _, _, _, j, u, h => by simp [EK.flat] at h
  | a :: r, w, b, off, hat, j, u, h => by
    rw [K.flat_cons] at h
    by_cases hj : j < K.n
    · rw [List.getElem?_append_left (by rw [K.len]; exact hj)] at h
      have := hat 0 a rfl
      rw [Nat.zero_mul, Nat.add_zero] at this
      exact this j u h
    · rw [List.getElem?_append_right (by rw [K.len]; omega), K.len] at h
      have := flat_at r w b (off + K.n) (fun k x hx => by
        have := hat (k + 1) x (by simpa using hx)
        rw [show off + K.n + k * K.n = off + (k + 1) * K.n by rw [Nat.add_mul, Nat.one_mul]; omega]; exact this) (j - K.n) u h
      rw [show off + j = off + K.n + (j - K.n) by omega]; exact this
theorem at_flat : ∀ (l : List α) (w : World) (b off : Nat), (∀ j u, (K.flat l)[j]? = some u → w.cell? ⟨b, off + j, none⟩ = some u) → ∀ j a, l[j]? = some a → ElAt K w b (off + j * K.n) a := by
  intro l w b off h j a hj i u hu
  have hjl := (List.getElem?_eq_some_iff.1 hj).1
  rw [Nat.add_assoc]
  refine h _ u (K.flat_drop (by omega) (i := j) ?_)
  obtain ⟨h1, h2⟩ := List.getElem?_eq_some_iff.1 hj
  rw [List.drop_eq_getElem_cons h1, h2, K.flat_cons, List.getElem?_append_left (List.getElem?_eq_some_iff.1 hu).1]; exact hu
variable (K)
/-- a row of elements of the own -/
def OwnK (e : TypeId) (w : World) (base : Nat) (v : Value) (l : List α) : Prop := w.ownsRow base e K.n v l.length (K.flat l)
variable {K}
theorem OwnK.nil (e : TypeId) (w : World) (base : Nat) : OwnK K e w base (.slice none 0 0) [] := World.ownsRow_nil w base e K.n
theorem OwnK.lt {e : TypeId} {w : World} {base : Nat} {v : Value} {l : List α} (h : OwnK K e w base v l) (g : Nat) (hg : v.ownBlock = some g) : base ≤ g ∧ g < w.heap.size := World.ownsRow.lt h g hg
theorem OwnK.rd {e : TypeId} {w : World} {base : Nat} {v : Value} {l : List α} (h : OwnK K e w base v l) : LsAt K w.heap.size w l v := by
  have hlt := h.lt
  rcases h.2 with ⟨rfl, h0⟩ | ⟨g, cap, cur, rfl, hb, hg, hn, hm, hcs, ht⟩
  · exact .inl ⟨List.eq_nil_of_length_eq_zero h0, _, _, rfl⟩
  · have hc := World.ownsRow.cells (e := e) h (g := g) rfl
    refine .inr ⟨g, 0, cap, rfl, hn, hm, (hlt g rfl).2, at_flat l w g 0 fun j u hu => ?_⟩
    have := hc j u hu
    rwa [add0] at this
theorem OwnK.made (e : TypeId) (base : Nat) (w : World) (h : base ≤ w.heap.size) : OwnK K e (w.alloc (.cells #[] e)) base (.slice (some ⟨w.heap.size, 0, none⟩) 0 0) [] :=
  World.ownsRow_made (e := e) (base := base) (size := K.n) w #[] 0 h (Nat.zero_le _) (by simp)
theorem OwnK.mk {e : TypeId} {w : World} {base g cap n : Nat} {cur : Array Value} {x : List α} (hl : x.length = n) (hb : base ≤ g) (hg : w.heap[g]? = some (.cells cur e (0, 0))) (hn : n ≤ cap) (hm : cap ≤ maxLen) (hcs : cur.size = cap * K.n) (ht : cur.toList.take (n * K.n) = K.flat x) :
    OwnK K e w base (.slice (some ⟨g, 0, none⟩) n cap) x := by
  subst hl
  exact ⟨K.flat_len x, .inr ⟨g, cap, cur, rfl, hb, hg, hn, hm, hcs, ht⟩⟩
theorem OwnK.alloc {e : TypeId} {w : World} {base : Nat} {v : Value} {l : List α} (h : OwnK K e w base v l) (o : Obj) : OwnK K e (w.alloc o) base v l := World.ownsRow.alloc h o
theorem OwnK.below {e : TypeId} {w0 w w' : World} {base : Nat} {v : Value} {l : List α} (hb : Below w0.heap.size w0 w) (hv : OwnK K e w base v l) (hg : w.grownBy w' v.ownBlock) (h : w0.heap.size ≤ base) : Below w0.heap.size w0 w' :=
  hb.trans ⟨hg.os, hg.tape, hg.output, hg.size, fun k hk => hg.block k (Nat.lt_of_lt_of_le hk hb.size) (fun e => by have := (hv.lt k e.symm).1; omega)⟩
theorem OwnK.append {e : TypeId} {w : World} {base n : Nat} {v : Value} {a b : List α} (h : w.ownsRow base e K.n v n (K.flat a ++ K.flat b)) (hn : n = a.length + b.length) : OwnK K e w base v (a ++ b) := by
  unfold OwnK
  rw [List.length_append, ← hn, K.flat_append]; exact h
section
variable {P : Program} {tx e' : TypeId}
theorem src_none (hk : P.underlying tx = some (.slice e')) (x : Option Addr) (c n : Nat) (W : World) : Src P n tx (.slice x 0 c) 0 [] W := by
  cases x with
  | none => exact Src.ofNil W hk c
  | some a => exact Src.ofSlice W hk a 0 c [] (by simp) (fun j u h => by simp at h) (fun u h => by cases h)
theorem LsAt.src (hk : P.underlying tx = some (.slice e')) {l : List α} {oa : Option Addr} {cap : Nat} {W : World} (h : LsAt K W.heap.size W l (.slice oa l.length cap)) : Src P K.n tx (.slice oa l.length cap) l.length (K.flat l) W := by
  by_cases h0 : l = []
  · subst h0; exact src_none hk _ _ _ _
  obtain ⟨b, off, rfl, _, hat⟩ := h.at (k := 0) (by cases l <;> simp_all)
  refine Src.ofSlice W hk _ _ cap _ (K.flat_len l) (fun j u hu => ?_) (K.flat_one _)
  rw [add0]; exact flat_at l W b off hat j u hu
theorem src_el (hk : P.underlying tx = some (.slice e')) {a : α} {W : World} {g : Nat} {t : TypeId} (h : CB W g t (K.cells a)) : Src P K.n tx (.slice (some ⟨g, 0, none⟩) 1 1) 1 (K.flat [a]) W :=
  Src.ofSlice W hk ⟨g, 0, none⟩ 1 1 _ (K.flat_len [a]) (fun j u hu => by rw [K.flat_cons, K.flat_nil, List.append_nil] at hu; rw [add0, Nat.zero_add, h.cell]; exact hu) (K.flat_one _)
theorem LsAt.src_take (hk : P.underlying tx = some (.slice e')) {l : List α} {oa : Option Addr} {cap n : Nat} {W : World} (h : LsAt K W.heap.size W l (.slice oa l.length cap)) (hn : n ≤ l.length) : Src P K.n tx (.slice oa n cap) n (K.flat (l.take n)) W := by
  by_cases h0 : n = 0
  · subst h0; exact src_none hk _ _ _ _
  obtain ⟨b, off, rfl, _, hat⟩ := h.at (k := 0) (by omega)
  refine Src.ofSlice W hk _ n cap _ (by rw [K.flat_len, List.length_take, Nat.min_eq_left hn]) (fun j u hu => ?_) (K.flat_one _)
  rw [add0]
  refine flat_at (l.take n) W b off (fun k x hx => ?_) j u hu
  rw [List.getElem?_take] at hx
  split at hx
  · exact hat k x hx
  · cases hx
theorem LsAt.src_drop (hk : P.underlying tx = some (.slice e')) {l : List α} {oa oa' : Option Addr} {cap n m : Nat} (c : Nat) {W : World} (h : LsAt K W.heap.size W l (.slice oa l.length cap)) (hn : n ≤ l.length) (hm : m = l.length - n) (ho : oa' = if cap = n then oa else Option.map (fun x => x.add (n * K.n)) oa) (hc : l.length ≤ cap) : Src P K.n tx (.slice oa' m c) m (K.flat (l.drop n)) W := by
  by_cases h0 : l.length - n = 0
  · rw [h0] at hm; subst hm; rw [List.drop_of_length_le (by omega)]; exact src_none hk _ _ _ _
  obtain ⟨b, off, rfl, _, hat⟩ := h.at (k := 0) (by omega)
  rw [if_neg (by omega)] at ho
  subst ho hm
  refine Src.ofSlice W hk _ _ _ _ (by rw [K.flat_len, List.length_drop]) (fun j u hu => ?_) (K.flat_one _)
  show W.cell? ((Addr.add ⟨b, off, none⟩ (n * K.n)).add j) = _
  rw [add0, add0]
  refine flat_at (l.drop n) W b (off + n * K.n) (fun k x hx => ?_) j u hu
  have := hat (n + k) x (by rw [List.getElem?_drop] at hx; exact hx)
  rw [show off + n * K.n + k * K.n = off + (n + k) * K.n by rw [Nat.add_mul]; omega]; exact this
end
end
end Go.Proofs.YtbonebmboolemaaDoor
/- rows of elements of the own: kept, stored beside (for seats without the leases' texts). -/
namespace Go.Proofs.YtbonebmboolemaaDoor
open Go.RowKit
section
variable {α : Type} {K : EK α}
theorem OwnK.ext {e : TypeId} {w w' : World} {base : Nat} {v : Value} {l : List α} (h : OwnK K e w base v l) (hb : Below w.heap.size w w') : OwnK K e w' base v l := by
  have hlt := h.lt
  rcases h with ⟨h1, h2⟩
  refine ⟨h1, ?_⟩
  rcases h2 with h2 | ⟨g, cap, cur, rfl, hb1, hg, r⟩
  · exact .inl h2
  · exact .inr ⟨g, cap, cur, rfl, hb1, (hb.block g (hlt g rfl).2).trans hg, r⟩
theorem OwnK.far2 {e : TypeId} {w : World} {base S i : Nat} {v : Value} {l : List α} (h : OwnK K e w base v l) (hne : v.ownBlock ≠ some S) (u : Value) : OwnK K e (w.setCell ⟨S, i, none⟩ u) base v l := by
  rcases h with ⟨h1, h2⟩
  refine ⟨h1, ?_⟩
  rcases h2 with h2 | ⟨g, cp, cur, rfl, hb1, hg, r⟩
  · exact .inl h2
  · exact .inr ⟨g, cp, cur, rfl, hb1, (Below.heap_setCell w _ u g (fun e => hne (by rw [← show g = S from e]; rfl))).trans hg, r⟩
theorem OwnK.base {e : TypeId} {w : World} {b b' : Nat} {v : Value} {l : List α} (h : OwnK K e w b v l) (hb : b' ≤ b) : OwnK K e w b' v l := by
  rcases h with ⟨h1, h2⟩
  refine ⟨h1, ?_⟩
  rcases h2 with h2 | ⟨g, cap, cur, rfl, hb1, r⟩
  · exact .inl h2
  · exact .inr ⟨g, cap, cur, rfl, Nat.le_trans hb hb1, r⟩
theorem OwnK.far {e : TypeId} {w : World} {b S : Nat} {v : Value} {l : List α} (h : OwnK K e w b v l) (hS : S < b) : v.ownBlock ≠ some S := fun e => by have := (h.lt _ e).1; omega
theorem OwnK.keepR {e : TypeId} {w w' : World} {base : Nat} {v : Value} {l : List α} {row : Option Nat} (h : OwnK K e w base v l) (hg : w.grownBy w' row) (hne : v.ownBlock = none ∨ v.ownBlock ≠ row) : OwnK K e w' base v l := World.ownsRow.kept h hg hne
end
theorem CB.keepB {w w' : World} {B g : Nat} {t : TypeId} {cs : List Value} (h : CB w g t cs) (hb : Below B w w') (hg : g < B) : CB w' g t cs := h.keep (hb.block g hg)
theorem below_mono {B B' : Nat} {w w' : World} (h : Below B w w') (hB : B' ≤ B) : Below B' w w' := ⟨h.os, h.tape, h.output, h.size, fun k hk => h.block k (Nat.lt_of_lt_of_le hk hB)⟩
theorem ls_block {α : Type} {K : EK α} {w : World} {g : Nat} {t : TypeId} {l : List α} (n : Nat) (h : CB w g t (K.flat l)) (hn : l.length = n) (hm : n ≤ maxLen) : LsAt K w.heap.size w l (.slice (some ⟨g, 0, none⟩) n n) := by
  subst hn
  exact .inr ⟨g, 0, l.length, rfl, Nat.le_refl _, hm, h.lt, at_flat l w g 0 fun j u hu => by rw [Nat.zero_add, h.cell]; exact hu⟩
theorem below_ownK {α : Type} {K : EK α} {e : TypeId} {w0 w1 w2 : World} {base : Nat} {v : Value} {l : List α} (hb : Below w0.heap.size w0 w1) (hO : OwnK K e w1 base v l) (hg : w1.grownBy w2 v.ownBlock) (hbs : w0.heap.size ≤ base) : Below w0.heap.size w0 w2 :=
  hb.trans ⟨hg.os, hg.tape, hg.output, hg.size, fun k hk => hg.block k (Nat.lt_of_lt_of_le hk hb.size) (fun e => by have := (hO.lt k e.symm).1; omega)⟩
end Go.Proofs.YtbonebmboolemaaDoor
