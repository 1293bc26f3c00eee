/- the reference's Same: the loop. -/
import Derived.Test.YtebedfcdbhgfdaaRsa
namespace Go.Proofs.Ytebedfcdbhgfdaa
open Go.RowKit

def RSameRel (B : Nat) (w : World) (a b : List V) (i : Value) (wr : World) : Prop := ∃ k : Nat, k ≤ a.length ∧ i = .int .i64 k ∧ sms (a.take k) (b.take k) = true ∧ Below B w wr

theorem cell_made4 (w : World) (o : Obj) (a b c d : Value) (t : TypeId) : ((w.alloc o).alloc (.cells #[a, b, c, d] t)).cell? ⟨w.heap.size + 1, 3, none⟩ = some d := by
  have h : ((w.alloc o).alloc (.cells #[a, b, c, d] t)).cell? ⟨(w.alloc o).heap.size, 3, none⟩ = some d := by simp
  rw [World.size_alloc] at h
  exact h
theorem keepc {w w' : World} (hb : Below w.drew.heap.size w.drew w') {p : Addr} {v : Value} (h : w.cell? p = some v) : w'.cell? p = some v := (hb.cell (World.block_lt_of_cell? w p h)).trans h
theorem below_undrew {B : Nat} {w w' : World} (h : Below B w.drew w') : Below B w w' := ⟨h.os, h.tape, h.output, h.size, h.block⟩
theorem below_two {w w' : World} {a b : Obj} (h : Below (w.heap.size + 1 + 1) ((w.alloc a).alloc b) w') : Below w.heap.size w w' := by
  have h2 : Below ((w.alloc a).heap.size + 1) ((w.alloc a).alloc b) w' := by rw [World.size_alloc]; exact h
  have h3 := below_box h2
  rw [World.size_alloc] at h3
  exact below_box h3
set_option maxRecDepth 100000 in
set_option maxHeartbeats 2000000 in
theorem rsame_step (N : Nat) (hN : N ≤ 1000000000) (ih : RSameSaid N) : RSameSaid (N + 1) := by
  intro x y hsz u v w hr hr2
  cases hh : (x.kind == y.kind && x.n == y.n && x.s.toList == y.s.toList && x.l.length == y.l.length) with
  | false =>
    have := rsame_head N x y hsz u v w hr hr2 hh
    have hs : sm x y = false := by
      obtain ⟨k, n, s, l⟩ := x
      obtain ⟨k2, n2, s2, l2⟩ := y
      simp only [sm, V.kind, V.n, V.s, V.l] at hh ⊢
      rcases Bool.eq_false_or_eq_true (sms l l2) with h | h
      · have hl : (l.length == l2.length) = true := beq_iff_eq.2 (sms_len l l2 h)
        rw [hl] at hh
        rw [h]; exact hh
      · rw [h, Bool.and_false]
    rw [hs]; exact this
  | true =>
    have HR := Lib.hid hr; have HR2 := Lib.hid hr2; have IH := Lib.hid ih; clear ih
    obtain ⟨k, n, s, l⟩ := x
    obtain ⟨k2, n2, s2, l2⟩ := y
    obtain ⟨oa, ca, rfl, _⟩ := hr.form
    obtain ⟨ob, cb, rfl, _⟩ := hr2.form
    clear hr hr2
    simp only [V.kind, V.n, V.s, V.l, Bool.and_eq_true] at hh HR HR2 ⊢
    obtain ⟨⟨⟨h1, h2⟩, h3⟩, h4⟩ := hh
    have hszl : szs l ≤ N := by have := hsz; simp only [sz] at this; omega
    have hll := szs_len l
    have HS : Hid (sm (.mk k n s l) (.mk k2 n2 s2 l2) = sms l l2) := by
      show _ = _; simp only [sm, V.kind, V.n, V.s, V.l, h1, h2, h3, Bool.true_and]
    have hlen : l.length = l2.length := beq_iff_eq.1 h4
    have hc1 : (k != k2) = false := by rw [bne, h1]; rfl
    have hc2 : (n != n2) = false := by rw [bne, h2]; rfl
    have hc3 : (s.toList != s2.toList) = false := by rw [bne, h3]; rfl
    have hc4 : (((l.length : Nat) : Int) != ((l2.length : Nat) : Int)) = false := by rw [bne_eq_false_iff_eq]; omega
    have hl1 : SlV w.heap.size w l (.slice oa l.length ca) := by
      obtain ⟨_, _, _, lv, he, hs⟩ := HR.out
      simp at he; obtain ⟨_, _, _, rfl⟩ := he; exact hs
    have hl2 : SlV w.heap.size w l2 (.slice ob l2.length cb) := by
      obtain ⟨_, _, _, lv, he, hs⟩ := HR2.out
      simp at he; obtain ⟨_, _, _, rfl⟩ := he; exact hs
    have HA := Lib.hid hl1; have HB := Lib.hid hl2; have Hlen := Lib.hid hlen
    clear hl1 hl2 h1 h2 h4 hc3 hlen hsz HR HR2
    go_enter Try.func20, Try.ntmps20
    go_wp2
    go_loopw [4, 5] (fun r i wr => r = .bool false ∧ RSameRel (w.heap.size + 1 + 1) ((w.alloc (.cells #[.int .i64 k, .int .i64 n, .string s, .slice oa l.length ca] 24)).alloc (.cells #[.int .i64 k2, .int .i64 n2, .string s2, .slice ob l2.length cb] 24)) l l2 i wr) (fun _ i _ => l.length - (intOf i).toNat)
    case atStart => exact ⟨rfl, 0, Nat.zero_le _, rfl, rfl, Below.refl _ _⟩
    case round =>
      obtain ⟨rfl, k9, hkl, rfl, hsm, hb⟩ := hrel
      have Hsm := Lib.hid hsm; clear hsm
      have t1 : wr.cell? ⟨w.heap.size, 3, none⟩ = some (.slice oa l.length ca) := (hb.cell (p := ⟨w.heap.size, 3, none⟩) (by show w.heap.size < w.heap.size + 1 + 1; omega)).trans (by simp)
      have t2 : wr.cell? ⟨w.heap.size + 1, 3, none⟩ = some (.slice ob l2.length cb) := (hb.cell (p := ⟨w.heap.size + 1, 3, none⟩) (by show w.heap.size + 1 < w.heap.size + 1 + 1; omega)).trans (cell_made4 _ _ _ _ _ _ _)
      have hbw : Below w.heap.size w wr := below_two hb
      by_cases hlt : k9 < l.length
      case neg =>
        have hka : Hid (l.take k9 = l) := List.take_of_length_le (by omega)
        have hkb : Hid (l2.take k9 = l2) := List.take_of_length_le (by have := Hlen.out; omega)
        go_wp2
        go_ret
        have hss : sms l l2 = true := by have := Hsm.out; rw [hka.out, hkb.out] at this; exact this
        exact ⟨by rw [HS.out, hss]; rfl, hbw⟩
      case pos =>
        have hlb : k9 < l2.length := by have := Hlen.out; omega
        obtain ⟨x, hx'⟩ : ∃ x, l[k9]? = some x := ⟨l[k9], by simp [hlt]⟩
        obtain ⟨y, hy'⟩ : ∃ y, l2[k9]? = some y := ⟨l2[k9], by simp [hlb]⟩
        have Hx := Lib.hid hx'; have Hy := Lib.hid hy'; clear hx' hy'
        obtain ⟨c, o, xo, xc, rfl, hcb, c0, c1, c2, c3, hrd⟩ := HA.out.elem hbw.block hbw.size Hx.out
        obtain ⟨d, p, yo, yc, rfl, hdb, d0, d1, d2, d3, hrd2⟩ := HB.out.elem hbw.block hbw.size Hy.out
        have hsx := szs_get Hx.out
        have hrd' := hrd.keep (w' := wr.drew) (Nat.le_refl _) (fun _ _ => rfl)
        have hrd2' := hrd2.keep (w' := wr.drew) (Nat.le_refl _) (fun _ _ => rfl)
        rcases Bool.eq_false_or_eq_true (sm x y) with hxy | hxy
        · go_wp2
          go_region_held3 (fun w' => w'.cell? ⟨w.heap.size, 3, none⟩ = some (.slice (some ⟨c, o, none⟩) l.length ca) ∧ w'.cell? ⟨w.heap.size + 1, 3, none⟩ = some (.slice (some ⟨d, p, none⟩) l2.length cb) ∧
              w'.cell? ⟨c, o + k9 * 4, none⟩ = some (.int .i64 x.kind) ∧ w'.cell? ⟨c, o + k9 * 4 + 1, none⟩ = some (.int .i64 x.n) ∧ w'.cell? ⟨c, o + k9 * 4 + 2, none⟩ = some (.string x.s) ∧ w'.cell? ⟨c, o + k9 * 4 + 3, none⟩ = some (.slice xo x.l.length xc) ∧
              w'.cell? ⟨d, p + k9 * 4, none⟩ = some (.int .i64 y.kind) ∧ w'.cell? ⟨d, p + k9 * 4 + 1, none⟩ = some (.int .i64 y.n) ∧ w'.cell? ⟨d, p + k9 * 4 + 2, none⟩ = some (.string y.s) ∧ w'.cell? ⟨d, p + k9 * 4 + 3, none⟩ = some (.slice yo y.l.length yc))
            (first | go_keep | exact ⟨keepc hb3 t1, keepc hb3 t2, keepc hb3 c0, keepc hb3 c1, keepc hb3 c2, keepc hb3 c3, keepc hb3 d0, keepc hb3 d1, keepc hb3 d2, keepc hb3 d3⟩)
            (first
             | (go_at_call 20; refine (IH.out x y (by omega) _ _ _ hrd' hrd2').mono ?_; rw [hxy]; rintro e w3 ⟨rfl, hb3⟩))
          go_wp2
          go_roundw
          case rel => exact ⟨rfl, k9 + 1, by omega, by go_num, by rw [sms_take l l2 k9 x y Hx.out Hy.out, Hsm.out, hxy]; rfl, hb.trans ((below_undrew hb3).mono (by have := hb.size; simpa using this))⟩
          case measure => simp [intOf]; omega
        · go_wp2
          go_region_held3 (fun w' => w'.cell? ⟨w.heap.size, 3, none⟩ = some (.slice (some ⟨c, o, none⟩) l.length ca) ∧ w'.cell? ⟨w.heap.size + 1, 3, none⟩ = some (.slice (some ⟨d, p, none⟩) l2.length cb) ∧
              w'.cell? ⟨c, o + k9 * 4, none⟩ = some (.int .i64 x.kind) ∧ w'.cell? ⟨c, o + k9 * 4 + 1, none⟩ = some (.int .i64 x.n) ∧ w'.cell? ⟨c, o + k9 * 4 + 2, none⟩ = some (.string x.s) ∧ w'.cell? ⟨c, o + k9 * 4 + 3, none⟩ = some (.slice xo x.l.length xc) ∧
              w'.cell? ⟨d, p + k9 * 4, none⟩ = some (.int .i64 y.kind) ∧ w'.cell? ⟨d, p + k9 * 4 + 1, none⟩ = some (.int .i64 y.n) ∧ w'.cell? ⟨d, p + k9 * 4 + 2, none⟩ = some (.string y.s) ∧ w'.cell? ⟨d, p + k9 * 4 + 3, none⟩ = some (.slice yo y.l.length yc))
            (first | go_keep | exact ⟨keepc hb3 t1, keepc hb3 t2, keepc hb3 c0, keepc hb3 c1, keepc hb3 c2, keepc hb3 c3, keepc hb3 d0, keepc hb3 d1, keepc hb3 d2, keepc hb3 d3⟩)
            (first
             | (go_at_call 20; refine (IH.out x y (by omega) _ _ _ hrd' hrd2').mono ?_; rw [hxy]; rintro e w3 ⟨rfl, hb3⟩))
          go_wp2
          go_ret
          exact ⟨by rw [HS.out, sms_false l l2 k9 x y Hx.out Hy.out hxy]; rfl, below_ext hbw (below_undrew hb3)⟩
theorem rsame_any (N : Nat) (hN : N ≤ 1000000000) : RSameSaid N := by
  induction N with
  | zero => intro x y hx; obtain ⟨k, n, s, l⟩ := x; simp [sz] at hx
  | succ N ih => exact rsame_step N (by omega) (ih (by omega))
end Go.Proofs.Ytebedfcdbhgfdaa
