/- the law's own few; few values are small. -/
import Derived.Test.YtebedfcdbhgfdaaSan
import Derived.Test.YtebedfcdbhgfdaaOpn
import Derived.Test.YtebedfcdbhgfdaaRsb
namespace Go.Proofs.Ytebedfcdbhgfdaa
open Go.RowKit

theorem fold_sz (g : V → Nat) (hg : ∀ y, g y ≤ 999 → sz y ≤ 224 * g y) : ∀ (l : List V) (n : Nat), l.foldl (fun n y => cntStep n (g y)) n ≤ 999 → n ≤ l.foldl (fun n y => cntStep n (g y)) n ∧ szs l ≤ 224 * (l.foldl (fun n y => cntStep n (g y)) n - n)
  | [], n, h => by simp [szs]
  | y :: r, n, h => by
    simp only [List.foldl_cons] at h ⊢
    obtain ⟨h1, h2⟩ := fold_sz g hg r _ h
    have hn : n ≤ cntStep n (g y) := by unfold cntStep; split <;> omega
    have h3 : cntStep n (g y) = n + g y := by
      unfold cntStep; rw [if_pos (by omega)]
    rw [h3] at h1 h2 h ⊢
    have := hg y (by omega)
    simp only [szs]
    omega
theorem cnt_sz (f : Nat) : ∀ x, cntF f x ≤ 999 → sz x ≤ 224 * cntF f x := by
  induction f with
  | zero => intro x h; simp [cntF] at h
  | succ f ih =>
    intro x h
    by_cases h150 : 150 < x.l.length
    · rw [cnt_hi x f h150] at h; omega
    · rw [cnt_lo x f h150] at h ⊢
      obtain ⟨h1, h2⟩ := fold_sz (cntF f) ih x.l _ h
      obtain ⟨k, n, s, l⟩ := x
      simp only [V.s, V.l] at h1 h2 h ⊢
      simp only [sz]
      omega
theorem few_sz {x : V} (h : fewB x = true) : sz x ≤ 60000 := by
  unfold fewB at h
  have h1 := of_decide_eq_true h
  have := cnt_sz 21 x (by omega)
  omega
/-- few values are not long -/
theorem few_len {x : V} (h : fewB x = true) : x.l.length ≤ 150 := by
  unfold fewB at h
  have h1 := of_decide_eq_true h
  rcases Nat.lt_or_ge 150 x.l.length with hh | hh
  · rw [cnt_hi x 20 hh] at h1; omega
  · exact hh

def FewRel (B : Nat) (w : World) (l : List V) (i : Value) (wr : World) : Prop := ∃ k : Nat, k ≤ l.length ∧ i = .int .i64 k ∧ (l.take k).all fewB = true ∧ Below B w wr
theorem all_take {l : List V} {i : Nat} {x : V} (h : l[i]? = some x) : (l.take (i + 1)).all fewB = ((l.take i).all fewB && fewB x) := by
  have : l.take (i + 1) = l.take i ++ [x] := by rw [List.take_add_one, h]; rfl
  rw [this, List.all_append]; simp
theorem all_false {l : List V} {i : Nat} {x : V} (h : l[i]? = some x) (hf : fewB x = false) : l.all fewB = false := by
  rw [List.all_eq_false]
  exact ⟨x, List.mem_of_getElem? h, by simp [hf]⟩

set_option maxRecDepth 100000 in
set_option maxHeartbeats 1000000 in
theorem fewl_any (l : List V) (oa : Option Addr) (cap : Nat) (w : World) (hl : SlV w.heap.size w l (.slice oa l.length cap)) : Calls Try.prog 11 #[.slice oa l.length cap] w (BoolPost (l.all fewB) w) := by
  have hlm : l.length ≤ 9223372036854775807 := by have := hl.ok.2; unfold maxLen at this; omega
  have HL := Lib.hid hl; clear hl
  go_enter Try.func11, Try.ntmps11
  go_wp2
  go_loopw [2, 7] (fun r i wr => r = .bool false ∧ FewRel w.heap.size w l i wr) (fun _ i _ => l.length - (intOf i).toNat)
  case atStart => exact ⟨rfl, 0, Nat.zero_le _, rfl, rfl, Below.refl _ _⟩
  case round =>
    obtain ⟨rfl, k, hkl, rfl, hall, hb⟩ := hrel
    have Hall := Lib.hid hall; clear hall
    by_cases hlt : k < l.length
    case neg =>
      have hkk : Hid (l.take k = l) := List.take_of_length_le (by omega)
      go_wp2
      go_ret
      have ha : l.all fewB = true := hkk.out ▸ Hall.out
      exact ⟨by rw [ha]; rfl, hb⟩
    case pos =>
      obtain ⟨x, hx'⟩ : ∃ x, l[k]? = some x := ⟨l[k], by simp [hlt]⟩
      have Hx := Lib.hid hx'; clear hx'
      obtain ⟨c, o, xo, xc, rfl, hcb, c0, c1, c2, c3, hrd⟩ := HL.out.elem hb.block hb.size Hx.out
      have hb2 : ∀ ob w', Below (wr.alloc ob).heap.size (wr.alloc ob) w' → Below w.heap.size w w' := fun ob w' hb' => (hb.alloc hb.size ob).trans (hb'.mono (by have := hb.size; simp; omega))
      rcases Bool.eq_false_or_eq_true (fewB x) with hfx | hfx
      · go_wp2_with (go_at_call 25; refine (few_any x _ _ (hrd.alloc _)).mono ?_; rw [hfx]; rintro e w' ⟨rfl, hb'⟩)
        go_roundw
        case rel => exact ⟨rfl, k + 1, by omega, by go_num, by rw [all_take Hx.out, Hall.out, hfx]; rfl, hb2 _ _ hb'⟩
        case measure => simp [intOf]; omega
      · go_wp2_with (go_at_call 25; refine (few_any x _ _ (hrd.alloc _)).mono ?_; rw [hfx]; rintro e w' ⟨rfl, hb'⟩)
        go_ret
        exact ⟨by rw [all_false Hx.out hfx]; rfl, hb2 _ _ hb'⟩

/-- one value, as few's slice -/
theorem sl_one {w : World} {x : V} {oa : Option Addr} {cap : Nat} {t : TypeId} (h : RdV w.heap.size w x (.agg #[.int .i64 x.kind, .int .i64 x.n, .string x.s, .slice oa x.l.length cap])) :
    SlV (w.alloc (.cells #[.int .i64 x.kind, .int .i64 x.n, .string x.s, .slice oa x.l.length cap] t)).heap.size (w.alloc (.cells #[.int .i64 x.kind, .int .i64 x.n, .string x.s, .slice oa x.l.length cap] t)) [x] (.slice (some ⟨w.heap.size, 0, none⟩) 1 1) := by
  have h' := h.alloc (.cells #[.int .i64 x.kind, .int .i64 x.n, .string x.s, .slice oa x.l.length cap] t)
  obtain ⟨k, n, s, l⟩ := x
  obtain ⟨h1, h2, h3, lv, he, h4⟩ := h'
  simp only [V.kind, V.n, V.s, V.l] at *
  have he' : lv = .slice oa l.length cap := by simp at he; exact he.symm
  subst he'
  refine .inr ⟨by simp, w.heap.size, 0, 1, rfl, (show (1 : Nat) ≤ maxLen by unfold maxLen; decide), ?_⟩
  simp only [V.ats, V.at, and_true]
  exact ⟨by simp, h1, h2, h3, by simp, by simp, by simp, _, by simp, h4⟩
theorem sl_two {w : World} {x y : V} {oa ob : Option Addr} {ca cb : Nat} {t : TypeId} (h : RdV w.heap.size w x (.agg #[.int .i64 x.kind, .int .i64 x.n, .string x.s, .slice oa x.l.length ca])) (h2 : RdV w.heap.size w y (.agg #[.int .i64 y.kind, .int .i64 y.n, .string y.s, .slice ob y.l.length cb])) :
    SlV (w.alloc (.cells #[.int .i64 x.kind, .int .i64 x.n, .string x.s, .slice oa x.l.length ca, .int .i64 y.kind, .int .i64 y.n, .string y.s, .slice ob y.l.length cb] t)).heap.size (w.alloc (.cells #[.int .i64 x.kind, .int .i64 x.n, .string x.s, .slice oa x.l.length ca, .int .i64 y.kind, .int .i64 y.n, .string y.s, .slice ob y.l.length cb] t)) [x, y] (.slice (some ⟨w.heap.size, 0, none⟩) 2 2) := by
  have h' := h.alloc (.cells #[.int .i64 x.kind, .int .i64 x.n, .string x.s, .slice oa x.l.length ca, .int .i64 y.kind, .int .i64 y.n, .string y.s, .slice ob y.l.length cb] t)
  have h2' := h2.alloc (.cells #[.int .i64 x.kind, .int .i64 x.n, .string x.s, .slice oa x.l.length ca, .int .i64 y.kind, .int .i64 y.n, .string y.s, .slice ob y.l.length cb] t)
  obtain ⟨k, n, s, l⟩ := x
  obtain ⟨k2, n2, s2, l2⟩ := y
  obtain ⟨h1, h2, h3, lv, he, h4⟩ := h'
  obtain ⟨g1, g2, g3, lv2, ge, g4⟩ := h2'
  simp only [V.kind, V.n, V.s, V.l] at *
  have he' : lv = .slice oa l.length ca := by simp at he; exact he.symm
  subst he'
  have ge' : lv2 = .slice ob l2.length cb := by simp at ge; exact ge.symm
  subst ge'
  refine .inr ⟨by simp, w.heap.size, 0, 2, rfl, (show (2 : Nat) ≤ maxLen by unfold maxLen; decide), ?_⟩
  simp only [V.ats, V.at, and_true]
  refine ⟨⟨by simp, h1, h2, h3, by simp, by simp, by simp, _, by simp, h4⟩, ⟨by simp, g1, g2, g3, by simp, by simp, by simp, _, by simp, g4⟩⟩
theorem RdV.drew {w : World} {x : V} {v : Value} (h : RdV w.heap.size w x v) : RdV w.drew.heap.size w.drew x v := h.keep (Nat.le_refl _) (fun _ _ => rfl)
/-- four cells of a block -/
structure C4 (w : World) (T : Nat) (a b c d : Value) : Prop where
  c0 : w.cell? ⟨T, 0, none⟩ = some a
  c1 : w.cell? ⟨T, 1, none⟩ = some b
  c2 : w.cell? ⟨T, 2, none⟩ = some c
  c3 : w.cell? ⟨T, 3, none⟩ = some d
theorem C4.ext {w w' : World} {T : Nat} {a b c d : Value} (h : C4 w T a b c d) (hb : Below w.heap.size w w') : C4 w' T a b c d := ⟨cell_ext hb h.c0, cell_ext hb h.c1, cell_ext hb h.c2, cell_ext hb h.c3⟩
theorem C4.of_box {w w' : World} {a b c d : Value} {t : TypeId} (h : Below (w.alloc (.cells #[a, b, c, d] t)).heap.size (w.alloc (.cells #[a, b, c, d] t)) w') : C4 w' w.heap.size a b c d := by
  obtain ⟨c0, c1, c2, c3⟩ := box_ext h
  exact ⟨c0, c1, c2, c3⟩
theorem C4.of_two {w w' : World} {a b c d a2 b2 c2 d2 : Value} {t t2 : TypeId} (h : Below ((w.alloc (.cells #[a, b, c, d] t)).alloc (.cells #[a2, b2, c2, d2] t2)).heap.size ((w.alloc (.cells #[a, b, c, d] t)).alloc (.cells #[a2, b2, c2, d2] t2)) w') :
    C4 w' w.heap.size a b c d ∧ C4 w' (w.heap.size + 1) a2 b2 c2 d2 ∧ Below w.heap.size w w' := by
  have h2 := C4.of_box (w := w.alloc (.cells #[a, b, c, d] t)) h
  rw [World.size_alloc] at h2
  have hb := below_after (w := w.alloc (.cells #[a, b, c, d] t)) h
  exact ⟨C4.of_box hb, h2, below_after hb⟩
end Go.Proofs.Ytebedfcdbhgfdaa
