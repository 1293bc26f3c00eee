/- Merged: Trp Ttb. -/
import Derived.Test.YtbonebmboolemaaDoorK08
import Derived.Test.YtbonebmboolemaaDoorK13
/- trees of digests, plain. -/
namespace Go.Proofs.YtbonebmboolemaaDoor
open Go.RowKit
/-- a digest -/
abbrev Dg := { l : List UInt8 // l.length = 32 }
def dgZ : Dg := ⟨List.replicate 32 0, by decide⟩
instance : Inhabited Dg := ⟨dgZ⟩
def tagD (t l : List UInt8) : Dg := ⟨tagged t l, tagged_len _ _⟩
def leafT : List UInt8 := [108, 101, 97, 102]
def nodeT : List UInt8 := [110, 111, 100, 101]
def emptyT : List UInt8 := [101, 109, 112, 116, 121]
def leafD (d : Dg) : Dg := tagD leafT d.1
def nodeD (a b : Dg) : Dg := tagD nodeT (a.1 ++ b.1)
/-- the greatest power of two below a number -/
def halfN (n : Nat) : Nat := 2 ^ Nat.log2 (n - 1)
theorem half_lt {n : Nat} (h : 2 ≤ n) : 1 ≤ halfN n ∧ halfN n < n ∧ n ≤ 2 * halfN n := by
  unfold halfN
  have h1 : 2 ^ Nat.log2 (n - 1) ≤ n - 1 := Nat.log2_self_le (by omega)
  have h2 : n - 1 < 2 ^ (Nat.log2 (n - 1) + 1) := Nat.lt_log2_self
  have h3 := Nat.two_pow_pos (Nat.log2 (n - 1))
  rw [Nat.pow_succ] at h2
  omega
theorem half_of {n j : Nat} (h1 : 2 ^ j < n) (h2 : n ≤ 2 * 2 ^ j) : halfN n = 2 ^ j := by
  unfold halfN
  have a1 : j ≤ Nat.log2 (n - 1) := (Nat.le_log2 (by omega)).2 (by omega)
  have a2 : Nat.log2 (n - 1) < j + 1 := (Nat.log2_lt (by have := Nat.two_pow_pos j; omega)).2 (by rw [Nat.pow_succ]; omega)
  rw [show Nat.log2 (n - 1) = j by omega]
/-- the digest of a list -/
def treeD (l : List Dg) : Dg :=
  if _h0 : l.length = 0 then tagD emptyT []
  else if _h1 : l.length = 1 then leafD (l.headD dgZ)
  else nodeD (treeD (l.take (halfN l.length))) (treeD (l.drop (halfN l.length)))
termination_by l.length
decreasing_by
  · have := half_lt (n := l.length) (by omega); rw [List.length_take]; omega
  · have := half_lt (n := l.length) (by omega); rw [List.length_drop]; omega
theorem treeD_nil : treeD [] = tagD emptyT [] := by rw [treeD]; rfl
theorem treeD_one (d : Dg) : treeD [d] = leafD d := by rw [treeD]; rfl
theorem treeD_two {l : List Dg} (h : 2 ≤ l.length) : treeD l = nodeD (treeD (l.take (halfN l.length))) (treeD (l.drop (halfN l.length))) := by
  rw [treeD, dif_neg (by omega), dif_neg (by omega)]
/-- the path of an element -/
def pathD (l : List Dg) (at' : Nat) : List Dg :=
  if _h : l.length ≤ 1 then []
  else if at' < halfN l.length then pathD (l.take (halfN l.length)) at' ++ [treeD (l.drop (halfN l.length))]
  else pathD (l.drop (halfN l.length)) (at' - halfN l.length) ++ [treeD (l.take (halfN l.length))]
termination_by l.length
decreasing_by
  · have := half_lt (n := l.length) (by omega); rw [List.length_take]; omega
  · have := half_lt (n := l.length) (by omega); rw [List.length_drop]; omega
/-- from the top: whether the element is in the first half -/
def firsts (n at' : Nat) : List Bool :=
  if _h : n ≤ 1 then []
  else if at' < halfN n then true :: firsts (halfN n) at'
  else false :: firsts (n - halfN n) (at' - halfN n)
termination_by n
decreasing_by
  · have := half_lt (n := n) (by omega); omega
  · have := half_lt (n := n) (by omega); omega
theorem firsts_one {n : Nat} (a : Nat) (h : n ≤ 1) : firsts n a = [] := by rw [firsts, dif_pos h]
theorem firsts_lt {n a : Nat} (h : 2 ≤ n) (ha : a < halfN n) : firsts n a = true :: firsts (halfN n) a := by rw [firsts, dif_neg (by omega), if_pos ha]
theorem firsts_ge {n a : Nat} (h : 2 ≤ n) (ha : ¬ a < halfN n) : firsts n a = false :: firsts (n - halfN n) (a - halfN n) := by rw [firsts, dif_neg (by omega), if_neg ha]
theorem pathD_one {l : List Dg} (a : Nat) (h : l.length ≤ 1) : pathD l a = [] := by rw [pathD, dif_pos h]
theorem pathD_lt {l : List Dg} {a : Nat} (h : 2 ≤ l.length) (ha : a < halfN l.length) : pathD l a = pathD (l.take (halfN l.length)) a ++ [treeD (l.drop (halfN l.length))] := by rw [pathD, dif_neg (by omega), if_pos ha]
theorem pathD_ge {l : List Dg} {a : Nat} (h : 2 ≤ l.length) (ha : ¬ a < halfN l.length) : pathD l a = pathD (l.drop (halfN l.length)) (a - halfN l.length) ++ [treeD (l.take (halfN l.length))] := by rw [pathD, dif_neg (by omega), if_neg ha]
theorem firsts_len (n : Nat) : ∀ a, (firsts n a).length ≤ n := by
  induction n using Nat.strongRecOn with
  | ind n ih =>
    intro a
    by_cases h : n ≤ 1
    · rw [firsts_one a h]; simp
    · have hh := half_lt (n := n) (by omega)
      by_cases ha : a < halfN n
      · rw [firsts_lt (by omega) ha, List.length_cons]; have := ih (halfN n) (by omega) a; omega
      · rw [firsts_ge (by omega) ha, List.length_cons]; have := ih (n - halfN n) (by omega) (a - halfN n); omega
theorem pathD_len (k : Nat) : ∀ (l : List Dg), l.length = k → ∀ a, (pathD l a).length = (firsts k a).length := by
  induction k using Nat.strongRecOn with
  | ind k ih =>
    intro l hl a
    by_cases h : k ≤ 1
    · rw [firsts_one a h, pathD_one a (by omega)]; rfl
    · have hh := half_lt (n := k) (by omega)
      by_cases ha : a < halfN k
      · rw [firsts_lt (by omega) ha, pathD_lt (by omega) (by rw [hl]; exact ha), List.length_append, hl, ih (halfN k) (by omega) (l.take (halfN k)) (by rw [List.length_take]; omega) a]; rfl
      · rw [firsts_ge (by omega) ha, pathD_ge (by omega) (by rw [hl]; exact ha), List.length_append, hl, ih (k - halfN k) (by omega) (l.drop (halfN k)) (by rw [List.length_drop]; omega) (a - halfN k)]; rfl
/-- a step up -/
def upD (x : Dg) (s : Bool × Dg) : Dg := if s.1 then nodeD x s.2 else nodeD s.2 x
/-- the digest that a path leads to -/
def riseD (d : Dg) (n a : Nat) (p : List Dg) : Dg := ((firsts n a).reverse.zip p).foldl upD (leafD d)
theorem rise_one {d : Dg} {n a : Nat} {p : List Dg} (h : n ≤ 1) : riseD d n a p = leafD d := by unfold riseD; rw [firsts_one a h]; rfl
theorem rise_lt {d x : Dg} {n a : Nat} {p : List Dg} (h : 2 ≤ n) (ha : a < halfN n) (hp : p.length = (firsts (halfN n) a).length) : riseD d n a (p ++ [x]) = nodeD (riseD d (halfN n) a p) x := by
  unfold riseD
  rw [firsts_lt h ha, List.reverse_cons, List.zip_append (by rw [List.length_reverse, hp]), List.foldl_append]
  rfl
theorem rise_ge {d x : Dg} {n a : Nat} {p : List Dg} (h : 2 ≤ n) (ha : ¬ a < halfN n) (hp : p.length = (firsts (n - halfN n) (a - halfN n)).length) : riseD d n a (p ++ [x]) = nodeD x (riseD d (n - halfN n) (a - halfN n) p) := by
  unfold riseD
  rw [firsts_ge h ha, List.reverse_cons, List.zip_append (by rw [List.length_reverse, hp]), List.foldl_append]
  rfl
/-- the path of an element leads to the digest of the list -/
theorem rise_path (k : Nat) : ∀ (l : List Dg), l.length = k → ∀ (a : Nat) (d : Dg), l[a]? = some d → riseD d k a (pathD l a) = treeD l := by
  induction k using Nat.strongRecOn with
  | ind k ih =>
    intro l hl a d hd
    have hal := (List.getElem?_eq_some_iff.1 hd).1
    by_cases h : k ≤ 1
    · have : l = [d] := by
        match l, hl, hd with
        | [x], _, hd =>
          have : a = 0 := by simp at hal; exact hal
          subst this; simp at hd; rw [hd]
        | [], hl, hd => simp at hd
        | x :: y :: r, hl, _ => simp at hl; omega
      rw [rise_one h, this, treeD_one]
    · have hh := half_lt (n := k) (by omega)
      by_cases ha : a < halfN k
      · rw [pathD_lt (by omega) (by rw [hl]; exact ha), hl, rise_lt (by omega) ha (pathD_len _ _ (by rw [List.length_take]; omega) a), treeD_two (l := l) (by omega), hl,
          ih (halfN k) (by omega) (l.take (halfN k)) (by rw [List.length_take]; omega) a d (by rw [List.getElem?_take, if_pos ha]; exact hd)]
      · rw [pathD_ge (by omega) (by rw [hl]; exact ha), hl, rise_ge (by omega) ha (pathD_len _ _ (by rw [List.length_drop]; omega) _), treeD_two (l := l) (by omega), hl,
          ih (k - halfN k) (by omega) (l.drop (halfN k)) (by rw [List.length_drop]; omega) (a - halfN k) d (by rw [List.getElem?_drop, show halfN k + (a - halfN k) = a by omega]; exact hd)]
/-- digests as elements -/
def digK : EK Dg := ⟨32, fun d => bcells d.1, fun d => by rw [bcells_length, d.2], fun d u hu => (Array.all_eq_true_iff_forall_mem.1 (dig_one d.1)) u (by simpa using hu), by decide⟩
end Go.Proofs.YtbonebmboolemaaDoor
/- tables, plain and in memory. -/
namespace Go.Proofs.YtbonebmboolemaaDoor
open Go.RowKit
/-- numbers as elements -/
def nuK : EK Int := ⟨1, fun x => [.int .i64 x], fun _ => rfl, fun x u hu => by simp only [List.mem_cons, List.not_mem_nil, or_false] at hu; subst hu; rfl, by decide⟩
/-- a table -/
structure Tab where
  air : Int
  fl : Int
  costs : List Int
  salt : Dg
instance : Inhabited Tab := ⟨⟨0, 0, [], dgZ⟩⟩
/-- a table as it lies in memory -/
structure Tb where
  air : Int
  fl : Int
  oa : Option Addr
  n : Nat
  cap : Nat
  salt : Dg
instance : Inhabited Tb := ⟨⟨0, 0, none, 0, 0, dgZ⟩⟩
def Tb.cv (r : Tb) : Value := .slice r.oa r.n r.cap
def Tb.cells (r : Tb) : List Value := .int .i64 r.air :: .int .i64 r.fl :: r.cv :: bcells r.salt.1
def Tb.v (r : Tb) : Value := .agg r.cells.toArray
def tbK : EK Tb := ⟨35, Tb.cells, fun r => by show (bcells r.salt.1).length + 1 + 1 + 1 = 35; rw [bcells_length, r.salt.2], fun r u hu => by
  rcases List.mem_cons.1 hu with rfl | hu
  · rfl
  rcases List.mem_cons.1 hu with rfl | hu
  · rfl
  rcases List.mem_cons.1 hu with rfl | hu
  · rfl
  exact (Array.all_eq_true_iff_forall_mem.1 (dig_one r.salt.1)) u (by simpa using hu), by decide⟩
/-- what lies there is the table -/
structure TabR (w : World) (t : Tab) (r : Tb) : Prop where
  air : r.air = t.air
  fl : r.fl = t.fl
  salt : r.salt = t.salt
  cs : LsAt nuK w.heap.size w t.costs r.cv
theorem TabR.ext {w w' : World} {t : Tab} {r : Tb} (h : TabR w t r) (hb : Below w.heap.size w w') : TabR w' t r := ⟨h.air, h.fl, h.salt, h.cs.ext hb⟩
/-- a list of tables -/
def TabsAt (w : World) (l : List Tab) (v : Value) : Prop := ∃ rl : List Tb, LsAt tbK w.heap.size w rl v ∧ rl.length = l.length ∧ ∀ (i : Nat) (t : Tab) (r : Tb), l[i]? = some t → rl[i]? = some r → TabR w t r
theorem TabsAt.ext {w w' : World} {l : List Tab} {v : Value} (h : TabsAt w l v) (hb : Below w.heap.size w w') : TabsAt w' l v := by
  obtain ⟨rl, h1, h2, h3⟩ := h
  exact ⟨rl, h1.ext hb, h2, fun i t r a b => (h3 i t r a b).ext hb⟩
theorem TabsAt.shape {w : World} {l : List Tab} {v : Value} (h : TabsAt w l v) : ∃ oa cap, v = .slice oa l.length cap ∧ l.length ≤ cap ∧ l.length ≤ 9223372036854775807 := by
  obtain ⟨rl, h1, h2, h3⟩ := h
  obtain ⟨oa, cap, he, a, b⟩ := h1.shape2
  rw [h2] at he a b
  exact ⟨oa, cap, he, a, b⟩
/-- one of them -/
theorem TabsAt.el {w : World} {l : List Tab} {oa : Option Addr} {n cap i : Nat} {t : Tab} (h : TabsAt w l (.slice oa n cap)) (ht : l[i]? = some t) : ∃ b off r, oa = some ⟨b, off, none⟩ ∧ b < w.heap.size ∧ ElAt tbK w b (off + i * 35) r ∧ TabR w t r := by
  obtain ⟨rl, h1, h2, h3⟩ := h
  have hi := (List.getElem?_eq_some_iff.1 ht).1
  have hr : rl[i]? = some rl[i] := List.getElem?_eq_getElem (by omega)
  obtain ⟨oa', cap', he, _⟩ := h1.shape
  injection he with e1 e2 e3
  subst e1 e3; subst e2
  obtain ⟨b, off, e, hb, hat⟩ := h1.at (k := i) (by omega)
  exact ⟨b, off, rl[i], e, hb, hat i _ hr, h3 i t _ ht hr⟩
/-- the block of a boxed table -/
def bT (r : Tb) : Obj := .cells r.cells.toArray 31
theorem tb_cell {w : World} {g : Nat} {r : Tb} {t : TypeId} (h : CB w g t r.cells) : w.cell? ⟨g, 0, none⟩ = some (.int .i64 r.air) ∧ w.cell? ⟨g, 1, none⟩ = some (.int .i64 r.fl) ∧ w.cell? ⟨g, 2, none⟩ = some r.cv :=
  ⟨h.cell 0, h.cell 1, h.cell 2⟩
theorem el_tb {w : World} {b o : Nat} {r : Tb} (h : ElAt tbK w b o r) : w.cell? ⟨b, o, none⟩ = some (.int .i64 r.air) ∧ w.cell? ⟨b, o + 1, none⟩ = some (.int .i64 r.fl) ∧ w.cell? ⟨b, o + 2, none⟩ = some r.cv :=
  ⟨h 0 _ rfl, h 1 _ rfl, h 2 _ rfl⟩
/-- may there be such an airline and such a flight -/
def knownB (a f : Int) : Bool := decide (0 ≤ a) && decide (a < 8) && decide (0 ≤ f) && decide (f ≤ 4095)
def costB (c : Int) : Bool := decide (-1 ≤ c) && decide (c ≤ 1048576)
/-- what Check answers -/
def okT (t : Tab) : Bool := knownB t.air t.fl && decide (1 ≤ t.costs.length) && decide (t.costs.length ≤ 8) && t.costs.all costB
def ckT (t : Tab) : Int := if okT t = true then 0 else 360
end Go.Proofs.YtbonebmboolemaaDoor
