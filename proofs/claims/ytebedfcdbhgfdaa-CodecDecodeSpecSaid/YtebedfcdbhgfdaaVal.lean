/- api.Value as a Lean type, how a value lies in memory, and that it stays so while memory grows. -/
import Derived.Test.YtebedfcdbhgfdaaNum
namespace Go.Proofs.Ytebedfcdbhgfdaa
open Go.RowKit

inductive V where
  | mk (kind n : Int) (s : ByteArray) (l : List V)
def V.kind : V → Int | .mk k _ _ _ => k
def V.n : V → Int | .mk _ n _ _ => n
def V.s : V → ByteArray | .mk _ _ s _ => s
def V.l : V → List V | .mk _ _ _ l => l

/-- a number of 64 bits -/
def I64 (n : Int) : Prop := -9223372036854775808 ≤ n ∧ n ≤ 9223372036854775807

mutual
/-- the cells of a value at an address, all in blocks below B -/
def V.at (B : Nat) (w : World) : V → Nat → Nat → Prop
  | .mk k n s l, b, off => b < B ∧ I64 k ∧ I64 n ∧ s.size ≤ maxLen ∧ w.cell? ⟨b, off, none⟩ = some (.int .i64 k) ∧ w.cell? ⟨b, off + 1, none⟩ = some (.int .i64 n) ∧ w.cell? ⟨b, off + 2, none⟩ = some (.string s) ∧
      ∃ lv, w.cell? ⟨b, off + 3, none⟩ = some lv ∧ ((l = [] ∧ ∃ oa cap, lv = .slice oa 0 cap) ∨ (l ≠ [] ∧ ∃ c o cap, lv = .slice (some ⟨c, o, none⟩) l.length cap ∧ l.length ≤ maxLen ∧ V.ats B w l c o))
def V.ats (B : Nat) (w : World) : List V → Nat → Nat → Prop
  | [], _, _ => True
  | x :: r, b, off => V.at B w x b off ∧ V.ats B w r b (off + 4)
end

/-- the list of a value, as a slice -/
def SlV (B : Nat) (w : World) (l : List V) (lv : Value) : Prop :=
  (l = [] ∧ ∃ oa cap, lv = .slice oa 0 cap) ∨ (l ≠ [] ∧ ∃ c o cap, lv = .slice (some ⟨c, o, none⟩) l.length cap ∧ l.length ≤ maxLen ∧ V.ats B w l c o)

/-- a value in hand -/
def RdV (B : Nat) (w : World) (x : V) (v : Value) : Prop :=
  I64 x.kind ∧ I64 x.n ∧ x.s.size ≤ maxLen ∧ ∃ lv, v = .agg #[.int .i64 x.kind, .int .i64 x.n, .string x.s, lv] ∧ SlV B w x.l lv

theorem SlV.form {B : Nat} {w : World} {l : List V} {lv : Value} (h : SlV B w l lv) : ∃ oa cap, lv = .slice oa l.length cap := by
  rcases h with ⟨rfl, oa, cap, rfl⟩ | ⟨_, c, o, cap, rfl, _⟩
  · exact ⟨oa, cap, rfl⟩
  · exact ⟨_, cap, rfl⟩
theorem V.at_def {B : Nat} {w : World} {x : V} {b off : Nat} (h : V.at B w x b off) :
    b < B ∧ w.cell? ⟨b, off, none⟩ = some (.int .i64 x.kind) ∧ w.cell? ⟨b, off + 1, none⟩ = some (.int .i64 x.n) ∧ w.cell? ⟨b, off + 2, none⟩ = some (.string x.s) ∧
      ∃ oa cap, w.cell? ⟨b, off + 3, none⟩ = some (.slice oa x.l.length cap) ∧ RdV B w x (.agg #[.int .i64 x.kind, .int .i64 x.n, .string x.s, .slice oa x.l.length cap]) := by
  obtain ⟨k, n, s, l⟩ := x
  simp only [V.at] at h
  obtain ⟨h0, h1, h2, h3, h4, h5, h6, lv, h7, h8⟩ := h
  obtain ⟨oa, cap, rfl⟩ := SlV.form (B := B) (w := w) (l := l) h8
  exact ⟨h0, h4, h5, h6, oa, cap, h7, h1, h2, h3, _, rfl, h8⟩
theorem RdV.form {B : Nat} {w : World} {x : V} {v : Value} (h : RdV B w x v) : ∃ oa cap, v = .agg #[.int .i64 x.kind, .int .i64 x.n, .string x.s, .slice oa x.l.length cap] ∧ SlV B w x.l (.slice oa x.l.length cap) := by
  obtain ⟨_, _, _, lv, rfl, h8⟩ := h
  obtain ⟨oa, cap, rfl⟩ := h8.form
  exact ⟨oa, cap, rfl, h8⟩

theorem V.ats_get {B : Nat} {w : World} : ∀ {l : List V} {b off : Nat} (_ : V.ats B w l b off) (k : Nat) (x : V), l[k]? = some x → V.at B w x b (off + k * 4)
  | [], _, _, _, _, _, h => by simp at h
  | y :: r, b, off, h, 0, x, hx => by simp at hx; subst hx; simp only [V.ats] at h; simpa using h.1
  | y :: r, b, off, h, k + 1, x, hx => by
    simp only [V.ats] at h
    have := V.ats_get h.2 k x (by simpa using hx)
    rw [show off + (k + 1) * 4 = off + 4 + k * 4 from by omega]; exact this

mutual
theorem V.at_keep {B B' : Nat} {w w' : World} (hB : B ≤ B') (hs : ∀ k, k < B → w'.heap[k]? = w.heap[k]?) : ∀ (x : V) (b off : Nat), V.at B w x b off → V.at B' w' x b off
  | .mk k n s l, b, off, h => by
    simp only [V.at] at h ⊢
    obtain ⟨h0, h1, h2, h3, h4, h5, h6, lv, h7, h8⟩ := h
    have hc : ∀ o, w'.cell? ⟨b, o, none⟩ = w.cell? ⟨b, o, none⟩ := fun o => World.cell?_of_block (w := w) (hs b h0)
    refine ⟨Nat.lt_of_lt_of_le h0 hB, h1, h2, h3, (hc _).trans h4, (hc _).trans h5, (hc _).trans h6, lv, (hc _).trans h7, ?_⟩
    rcases h8 with h8 | ⟨hne, c, o, cap, he, hl, ha⟩
    · exact .inl h8
    · exact .inr ⟨hne, c, o, cap, he, hl, V.ats_keep hB hs l c o ha⟩
theorem V.ats_keep {B B' : Nat} {w w' : World} (hB : B ≤ B') (hs : ∀ k, k < B → w'.heap[k]? = w.heap[k]?) : ∀ (l : List V) (b off : Nat), V.ats B w l b off → V.ats B' w' l b off
  | [], _, _, _ => by simp [V.ats]
  | x :: r, b, off, h => by
    simp only [V.ats] at h ⊢
    exact ⟨V.at_keep hB hs x b off h.1, V.ats_keep hB hs r b (off + 4) h.2⟩
end

theorem SlV.keep {B B' : Nat} {w w' : World} {l : List V} {lv : Value} (h : SlV B w l lv) (hB : B ≤ B') (hs : ∀ k, k < B → w'.heap[k]? = w.heap[k]?) : SlV B' w' l lv := by
  rcases h with h | ⟨hne, c, o, cap, he, hl, ha⟩
  · exact .inl h
  · exact .inr ⟨hne, c, o, cap, he, hl, V.ats_keep hB hs l c o ha⟩
theorem RdV.keep {B B' : Nat} {w w' : World} {x : V} {v : Value} (h : RdV B w x v) (hB : B ≤ B') (hs : ∀ k, k < B → w'.heap[k]? = w.heap[k]?) : RdV B' w' x v := by
  obtain ⟨h1, h2, h3, lv, h4, h5⟩ := h
  exact ⟨h1, h2, h3, lv, h4, h5.keep hB hs⟩
theorem RdV.below {B : Nat} {w w' : World} {x : V} {v : Value} (h : RdV B w x v) (hb : Below B w w') : RdV B w' x v := h.keep (Nat.le_refl _) hb.block

mutual
/-- all numbers and lengths of a value are in range -/
def okV : V → Prop
  | .mk k n s l => I64 k ∧ I64 n ∧ s.size ≤ maxLen ∧ l.length ≤ maxLen ∧ okVs l
def okVs : List V → Prop
  | [] => True
  | x :: r => okV x ∧ okVs r
end
mutual
theorem V.at_ok {B : Nat} {w : World} : ∀ (x : V) (b off : Nat), V.at B w x b off → okV x
  | .mk k n s l, b, off, h => by
    simp only [V.at] at h
    obtain ⟨h0, h1, h2, h3, h4, h5, h6, lv, h7, h8⟩ := h
    simp only [okV]
    rcases h8 with ⟨rfl, _⟩ | ⟨hne, c, o, cap, he, hl, ha⟩
    · exact ⟨h1, h2, h3, by simp, by simp [okVs]⟩
    · exact ⟨h1, h2, h3, hl, V.ats_ok l c o ha⟩
theorem V.ats_ok {B : Nat} {w : World} : ∀ (l : List V) (b off : Nat), V.ats B w l b off → okVs l
  | [], _, _, _ => by simp [okVs]
  | x :: r, b, off, h => by
    simp only [V.ats] at h
    simp only [okVs]
    exact ⟨V.at_ok x b off h.1, V.ats_ok r b (off + 4) h.2⟩
end
theorem SlV.ok {B : Nat} {w : World} {l : List V} {v : Value} (h : SlV B w l v) : okVs l ∧ l.length ≤ maxLen := by
  rcases h with ⟨rfl, _⟩ | ⟨hne, c, o, cap, he, hl, ha⟩
  · simp [okVs]
  · exact ⟨V.ats_ok l c o ha, hl⟩
theorem RdV.ok {B : Nat} {w : World} {x : V} {v : Value} (h : RdV B w x v) : okV x := by
  obtain ⟨k, n, s, l⟩ := x
  obtain ⟨h1, h2, h3, lv, h4, h5⟩ := h
  exact ⟨h1, h2, h3, h5.ok.2, h5.ok.1⟩
theorem okVs_get : ∀ {l : List V} {i : Nat} {x : V}, okVs l → l[i]? = some x → okV x
  | [], _, _, _, h => by simp at h
  | y :: r, 0, x, h, hx => by simp at hx; subst hx; exact h.1
  | y :: r, i + 1, x, h, hx => okVs_get (l := r) (i := i) h.2 (by simpa using hx)
theorem okVs_mem {l : List V} {x : V} (h : okVs l) (hx : x ∈ l) : okV x := by
  obtain ⟨i, hi⟩ := List.mem_iff_getElem?.1 hx; exact okVs_get h hi

/-! ## The plain functions -/
mutual
/-- is a value well-formed? -/
def fm : V → Bool
  | .mk k n s l => if k = 1 then s.toList.isEmpty && l.isEmpty else if k = 2 then n == 0 && l.isEmpty else if k = 3 then n == 0 && s.toList.isEmpty && fms l else false
def fms : List V → Bool
  | [] => true
  | x :: r => fm x && fms r
end
mutual
/-- the depth of a value -/
def dp : V → Nat
  | .mk k _ _ l => if k = 3 then dps l + 1 else 0
def dps : List V → Nat
  | [] => 0
  | x :: r => max (dp x) (dps r)
end
mutual
/-- a bound on the length of an encoding -/
def sz : V → Nat
  | .mk _ _ s l => 24 + s.size + szs l
def szs : List V → Nat
  | [] => 0
  | x :: r => sz x + szs r
end
end Go.Proofs.Ytebedfcdbhgfdaa
