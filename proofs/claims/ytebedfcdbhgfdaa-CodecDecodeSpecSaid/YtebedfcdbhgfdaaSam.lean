/- codec.Same. -/
import Derived.Test.YtebedfcdbhgfdaaChk
import Derived.Deep.DeepCutAuto
import Derived.Deep.RegionHeld3
namespace Go.Proofs.Ytebedfcdbhgfdaa
open Go.RowKit

mutual
/-- are two values the same? -/
def sm : V → V → Bool
  | .mk k n s l, y => k == y.kind && n == y.n && s.toList == y.s.toList && sms l y.l
def sms : List V → List V → Bool
  | [], [] => true
  | x :: r, y :: t => sm x y && sms r t
  | _, _ => false
end
theorem sms_len : ∀ (a b : List V), sms a b = true → a.length = b.length
  | [], [], _ => rfl
  | x :: r, y :: t, h => by simp only [sms, Bool.and_eq_true] at h; simp [sms_len r t h.2]
  | [], _ :: _, h => by simp [sms] at h
  | _ :: _, [], h => by simp [sms] at h
theorem sms_take : ∀ (a b : List V) (i : Nat) (x y : V), a[i]? = some x → b[i]? = some y → sms (a.take (i + 1)) (b.take (i + 1)) = (sms (a.take i) (b.take i) && sm x y)
  | [], _, _, _, _, h, _ => by simp at h
  | _ :: _, [], _, _, _, _, h => by simp at h
  | x :: r, y :: t, 0, _, _, h, h' => by simp at h h'; subst h; subst h'; simp [sms]
  | x :: r, y :: t, i + 1, u, v, h, h' => by
    simp only [List.take_succ_cons, sms]
    rw [sms_take r t i u v (by simpa using h) (by simpa using h'), Bool.and_assoc]
theorem sms_false : ∀ (a b : List V) (i : Nat) (x y : V), a[i]? = some x → b[i]? = some y → sm x y = false → sms a b = false
  | [], _, _, _, _, h, _, _ => by simp at h
  | _ :: _, [], _, _, _, _, h, _ => by simp at h
  | x :: r, y :: t, 0, _, _, h, h', hf => by simp at h h'; subst h; subst h'; simp [sms, hf]
  | x :: r, y :: t, i + 1, u, v, h, h', hf => by
    simp only [sms]
    rw [sms_false r t i u v (by simpa using h) (by simpa using h') hf, Bool.and_false]

def SameSaid (N : Nat) : Prop := ∀ (x y : V), sz x ≤ N → ∀ (u v : Value) (w : World), RdV w.heap.size w x u → RdV w.heap.size w y v → Calls Try.prog 21 #[u, v] w (BoolPost (sm x y) w)
def EqSaid (N : Nat) : Prop := ∀ (a b : List V), szs a ≤ N → ∀ (oa ob : Option Addr) (ca cb : Nat) (w : World), SlV w.heap.size w a (.slice oa a.length ca) → SlV w.heap.size w b (.slice ob b.length cb) →
  Calls Try.prog 35 #[.slice oa a.length ca, .slice ob b.length cb, .func (.func 21) #[] #[]] w (BoolPost (sms a b) w)

def EqRel (w : World) (a b : List V) (i : Value) (wr : World) : Prop := ∃ k : Nat, k ≤ a.length ∧ i = .int .i64 k ∧ sms (a.take k) (b.take k) = true ∧ Below w.heap.size w wr

set_option maxRecDepth 100000 in
set_option maxHeartbeats 1000000 in
theorem eq_step (N : Nat) (hN : N ≤ 1000000000) (ih : SameSaid N) : EqSaid N := by
  intro a b hsz oa ob ca cb w ha hb
  have HA := Lib.hid ha; have HB := Lib.hid hb; have IH := Lib.hid ih; clear ha hb ih
  have hal := szs_len a
  have hbl : b.length ≤ 9223372036854775807 := by have := HB.out.ok.2; unfold maxLen at this; omega
  by_cases hlen : a.length = b.length
  case neg =>
    have hne : (((a.length : Nat) : Int) != ((b.length : Nat) : Int)) = true := by rw [bne_iff_ne]; omega
    have hs : Hid (sms a b = false) := by
      rcases Bool.eq_false_or_eq_true (sms a b) with h | h
      · exact absurd (sms_len a b h) hlen
      · exact h
    clear hbl
    go_enter Try.func35, Try.ntmps35
    go_wp2
    go_ret
    exact ⟨by rw [hs.out]; rfl, Below.refl _ _⟩
  case pos =>
    have hne : (((a.length : Nat) : Int) != ((b.length : Nat) : Int)) = false := by rw [bne_eq_false_iff_eq]; omega
    have Hlen := Lib.hid hlen; clear hlen
    clear hbl
    go_enter Try.func35, Try.ntmps35
    go_wp2
    go_loopw [17] (fun i wr => EqRel w a b i wr) (fun i _ => a.length - (intOf i).toNat)
    case atStart => exact ⟨0, Nat.zero_le _, rfl, rfl, Below.refl _ _⟩
    case round =>
      obtain ⟨k, hkl, rfl, hsm, hbw⟩ := hrel
      have Hsm := Lib.hid hsm; clear hsm
      by_cases hlt : k < a.length
      case neg =>
        have hka : Hid (a.take k = a) := List.take_of_length_le (by omega)
        have hkb : Hid (b.take k = b) := List.take_of_length_le (by have := Hlen.out; omega)
        go_wp2
        go_ret
        have hss : sms a b = true := by have := Hsm.out; rw [hka.out, hkb.out] at this; exact this
        exact ⟨by rw [hss]; rfl, hbw⟩
      case pos =>
        have hlb : k < b.length := by have := Hlen.out; omega
        obtain ⟨x, hx'⟩ : ∃ x, a[k]? = some x := ⟨a[k], by simp [hlt]⟩
        obtain ⟨y, hy'⟩ : ∃ y, b[k]? = some y := ⟨b[k], by simp [hlb]⟩
        have Hx := Lib.hid hx'; have Hy := Lib.hid hy'; clear hx' hy'
        obtain ⟨c, o, xo, xc, rfl, hcb, c0, c1, c2, c3, hrd⟩ := HA.out.elem hbw.block hbw.size Hx.out
        obtain ⟨d, p, yo, yc, rfl, hdb, d0, d1, d2, d3, hrd2⟩ := HB.out.elem hbw.block hbw.size Hy.out
        have hsx := szs_get Hx.out
        have hdw : d < wr.heap.size := Nat.lt_of_lt_of_le hdb hbw.size
        rcases Bool.eq_false_or_eq_true (sm x y) with hxy | hxy
        · go_wp2_with (go_at_call 21; refine (IH.out x y (by omega) _ _ _ ((hrd.alloc _).alloc _) ((hrd2.alloc _).alloc _)).mono ?_; rintro e w3 ⟨rfl, hb3⟩)
          have hb4 := below_after (below_after hb3 |> fun h => h)
          go_roundw
          case rel => exact ⟨k + 1, by omega, by go_num, by rw [sms_take a b k x y Hx.out Hy.out, Hsm.out, hxy]; rfl, below_ext hbw hb4⟩
          case measure => simp [intOf]; omega
        · go_wp2_with (go_at_call 21; refine (IH.out x y (by omega) _ _ _ ((hrd.alloc _).alloc _) ((hrd2.alloc _).alloc _)).mono ?_; rintro e w3 ⟨rfl, hb3⟩)
          have hb4 := below_after (below_after hb3 |> fun h => h)
          go_ret
          exact ⟨by rw [sms_false a b k x y Hx.out Hy.out hxy]; rfl, below_ext hbw hb4⟩

set_option maxRecDepth 100000 in
set_option maxHeartbeats 1000000 in
theorem same_step (N : Nat) (_ : N ≤ 1000000000) (ih : EqSaid N) : SameSaid (N + 1) := by
  intro x y hsz u v w hr hr2
  have HR := Lib.hid hr; have HR2 := Lib.hid hr2; have IH := Lib.hid ih; clear ih
  obtain ⟨k, n, s, l⟩ := x
  obtain ⟨k2, n2, s2, l2⟩ := y
  obtain ⟨oa, ca, rfl, _⟩ := hr.form
  obtain ⟨ob, cb, rfl, _⟩ := hr2.form
  clear hr hr2
  simp only [V.kind, V.n, V.s, V.l] at *
  have hszl : szs l ≤ N := by have := hsz; simp only [sz] at this; omega
  obtain ⟨b1, hb1⟩ : ∃ b, (k == k2) = b := ⟨_, rfl⟩
  obtain ⟨b2, hb2⟩ : ∃ b, (n == n2) = b := ⟨_, rfl⟩
  obtain ⟨b3, hb3⟩ : ∃ b, (s.toList == s2.toList) = b := ⟨_, rfl⟩
  have HS : Hid (sm (.mk k n s l) (.mk k2 n2 s2 l2) = (b1 && b2 && b3 && sms l l2)) := by
    show _ = _; simp only [sm, V.kind, V.n, V.s, V.l, hb1, hb2, hb3]
  have hl1 : SlV w.heap.size w l (.slice oa l.length ca) := HR.out.form.choose_spec.choose_spec.2 |> fun _ => by
    obtain ⟨_, _, _, lv, he, hs⟩ := HR.out
    simp at he; obtain ⟨_, _, _, rfl⟩ := he; exact hs
  have hl2 : SlV w.heap.size w l2 (.slice ob l2.length cb) := by
    obtain ⟨_, _, _, lv, he, hs⟩ := HR2.out
    simp at he; obtain ⟨_, _, _, rfl⟩ := he; exact hs
  by_cases hall : b1 = true ∧ b2 = true ∧ b3 = true
  · obtain ⟨rfl, rfl, rfl⟩ := hall
    go_enter Try.func21, Try.ntmps21
    go_wp2_with (go_at_call 35; refine (IH.out l l2 hszl oa ob ca cb _ ((hl1.alloc _).alloc _) ((hl2.alloc _).alloc _)).mono ?_; rintro e w3 ⟨rfl, hb4⟩)
    go_ret
    exact ⟨by rw [HS.out]; rfl, below_after (below_after hb4)⟩
  · have hf : (b1 && b2 && b3) = false := by
      cases b1 <;> cases b2 <;> cases b3 <;> simp at hall ⊢
    have HF := Lib.hid hf
    clear hf hall
    cases b1 <;> cases b2 <;> cases b3
    all_goals first | (exfalso; exact absurd HF.out (by decide)) | skip
    all_goals
      go_enter Try.func21, Try.ntmps21
      go_wp2
      go_ret
      exact ⟨by rw [HS.out]; rfl, by repeat (first | exact Below.refl _ _ | refine Below.alloc ?_ (by simp) _)⟩

theorem same_any (N : Nat) (hN : N ≤ 1000000000) : SameSaid N := by
  induction N with
  | zero => intro x y hx; obtain ⟨k, n, s, l⟩ := x; simp [sz] at hx
  | succ N ih => exact same_step N (by omega) (eq_step N (by omega) (ih (by omega)))
mutual
theorem sm_refl : ∀ x : V, sm x x = true
  | .mk k n s l => by simp only [sm, V.kind, V.n, V.s, V.l, sms_refl l]; simp
theorem sms_refl : ∀ l : List V, sms l l = true
  | [] => rfl
  | x :: r => by simp only [sms, sm_refl x, sms_refl r]; rfl
end
end Go.Proofs.Ytebedfcdbhgfdaa
