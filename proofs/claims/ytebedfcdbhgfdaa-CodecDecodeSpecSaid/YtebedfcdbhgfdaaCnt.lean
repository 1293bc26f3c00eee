/- the reference's count and Few. -/
import Derived.Test.YtebedfcdbhgfdaaChk
namespace Go.Proofs.Ytebedfcdbhgfdaa
open Go.RowKit

/-- one step of count's loop -/
def cntStep (n m : Nat) : Nat := if n ≤ 1000 then n + m else n
/-- count, f: one more than the depth that is left -/
def cntF : Nat → V → Nat
  | 0, _ => 1000
  | f + 1, x => if 150 < x.l.length then 1000 else x.l.foldl (fun n y => cntStep n (cntF f y)) (1 + x.s.size / 200)
/-- a bound that never wraps -/
def cntB (f : Nat) : Nat := 46116860184273882 + 2000 * f
theorem cntFold_le (C : Nat) (g : V → Nat) : ∀ (l : List V) (n : Nat), (∀ y ∈ l, g y ≤ C) → n ≤ C + 1000 → l.foldl (fun n y => cntStep n (g y)) n ≤ C + 1000
  | [], n, _, h => by simpa using h
  | y :: r, n, hg, h => by
    simp only [List.foldl_cons]
    refine cntFold_le C g r _ (fun z hz => hg z (by simp [hz])) ?_
    unfold cntStep; split
    · have := hg y (by simp); omega
    · exact h
theorem cnt_hi (x : V) (f : Nat) (h : 150 < x.l.length) : cntF (f + 1) x = 1000 := by simp [cntF, h]
theorem cnt_lo (x : V) (f : Nat) (h : ¬ 150 < x.l.length) : cntF (f + 1) x = x.l.foldl (fun n y => cntStep n (cntF f y)) (1 + x.s.size / 200) := by simp [cntF, h]

set_option maxRecDepth 100000 in
theorem cntF_le (f : Nat) : ∀ x : V, okV x → cntF f x ≤ cntB f := by
  induction f with
  | zero => intro x _; simp [cntF, cntB]
  | succ f ih =>
    intro x hx
    obtain ⟨k, n, s, l⟩ := x
    simp only [okV] at hx
    obtain ⟨_, _, hs, _, hl⟩ := hx
    by_cases h150 : 150 < l.length
    · rw [cnt_hi (.mk k n s l) f h150]; unfold cntB; omega
    rw [cnt_lo (.mk k n s l) f h150]
    clear h150
    show l.foldl (fun n y => cntStep n (cntF f y)) (1 + s.size / 200) ≤ cntB (f + 1)
    have := cntFold_le (cntB f) (cntF f) l (1 + s.size / 200) (fun y hy => ih y (okVs_mem hl hy)) (by unfold maxLen at hs; unfold cntB; omega)
    unfold cntB at *; omega
theorem cntFold_take (g : V → Nat) {l : List V} {i : Nat} {x : V} (h : l[i]? = some x) (n : Nat) : (l.take (i + 1)).foldl (fun n y => cntStep n (g y)) n = cntStep ((l.take i).foldl (fun n y => cntStep n (g y)) n) (g x) := by
  have : l.take (i + 1) = l.take i ++ [x] := by rw [List.take_add_one, h]; rfl
  rw [this, List.foldl_append]; rfl
/-- once over 1000, no more is added -/
theorem cntFold_stop (g : V → Nat) : ∀ (l : List V) (n : Nat), 1000 < n → l.foldl (fun n y => cntStep n (g y)) n = n
  | [], n, _ => rfl
  | y :: r, n, h => by
    have e : cntStep n (g y) = n := by unfold cntStep; rw [if_neg (by omega)]
    simp only [List.foldl_cons, e]; exact cntFold_stop g r n h
def CntRel (B : Nat) (w : World) (f : Nat) (n0 : Nat) (l : List V) (n i : Value) (wr : World) : Prop :=
  ∃ k m : Nat, k ≤ l.length ∧ i = .int .i64 k ∧ n = .int .i64 m ∧ m = (l.take k).foldl (fun n y => cntStep n (cntF f y)) n0 ∧ m ≤ cntB f + 1000 ∧ Below B w wr

set_option maxRecDepth 100000 in
set_option maxHeartbeats 1000000 in
theorem count_any (f : Nat) (hf : f ≤ 30) : ∀ (x : V) (v : Value) (d : Int) (_ : d = (f : Int) - 1) (w : World) (_ : RdV w.heap.size w x v), Calls Try.prog 36 #[v, .int .i64 d] w (IntPost (cntF f x) w) := by
  induction f with
  | zero =>
    intro x v d hd w hr
    obtain ⟨oa, cap, rfl, hl⟩ := hr.form
    have hd' : d < 0 := by omega
    clear hr hl hd
    go_enter Try.func36, Try.ntmps36
    go_wp2
    go_ret
    exact ⟨by rfl, by repeat (first | exact Below.refl _ _ | refine Below.alloc ?_ (by simp) _)⟩
  | succ f ih =>
    have IH := Lib.hid (ih (by omega)); clear ih
    intro x v d hd w hr
    have hok := hr.ok
    obtain ⟨k, n0, s, l⟩ := x
    obtain ⟨oa, cap, rfl, hl⟩ := hr.form
    clear hr
    simp only [V.kind, V.n, V.s, V.l] at *
    have HL := Lib.hid hl; clear hl
    have hd0 : 0 ≤ d := by omega
    have hd1 : d ≤ 30 := by omega
    have Hd := Lib.hid hd; clear hd
    simp only [okV] at hok
    obtain ⟨_, _, hs, _, hlo⟩ := hok
    by_cases h150 : 150 < l.length
    · have hc := Lib.hid (cnt_hi (.mk k n0 s l) f h150)
      go_enter Try.func36, Try.ntmps36
      go_wp2
      go_ret
      exact ⟨by rw [hc.out]; rfl, by repeat (first | exact Below.refl _ _ | refine Below.alloc ?_ (by simp) _)⟩
    · have hc := Lib.hid (cnt_lo (.mk k n0 s l) f h150)
      simp only [V.l, V.s] at hc
      unfold maxLen at hs
      have hq : (s.size : Int) / 200 ≤ 46116860184273880 := by omega
      go_enter Try.func36, Try.ntmps36
      go_wp2
      go_loopw [5, 6] (fun n i wr => CntRel (w.heap.size + 1) (w.alloc (.cells #[.int .i64 k, .int .i64 n0, .string s, .slice oa l.length cap] 24)) f (1 + s.size / 200) l n i wr) (fun _ i _ => l.length - (intOf i).toNat)
      case atStart => exact ⟨0, _, Nat.zero_le _, rfl, by go_num, rfl, by simp only [List.take_zero, List.foldl_nil]; unfold cntB; omega, Below.refl _ _⟩
      case round =>
        obtain ⟨k, m, hkl, rfl, rfl, hm, hmb, hb⟩ := hrel
        have Hm := Lib.hid hm; clear hm
        have hmb' : m ≤ 46116860184400000 := by unfold cntB at hmb; omega
        clear hmb hq
        have hbox := fun o => hb.cell (p := ⟨w.heap.size, o, none⟩) (by simp)
        have hbw : Below w.heap.size w wr := below_box hb
        by_cases hlt : k < l.length
        case neg =>
          have hkk : Hid (l.take k = l) := List.take_of_length_le (by omega)
          go_wp2
          go_ret
          exact ⟨by rw [hc.out, Hm.out, hkk.out]; rfl, hbw⟩
        case pos =>
          by_cases h1000 : m ≤ 1000
          case neg =>
            have hst : Hid (m = l.foldl (fun n y => cntStep n (cntF f y)) (1 + s.size / 200)) := by
              show m = _
              rw [← List.take_append_drop k l, List.foldl_append, ← Hm.out]
              exact (cntFold_stop _ _ _ (by omega)).symm
            go_wp2
            go_ret
            exact ⟨by rw [hc.out, ← hst.out]; rfl, hbw⟩
          case pos =>
            obtain ⟨x, hx'⟩ : ∃ x, l[k]? = some x := ⟨l[k], by simp [hlt]⟩
            have Hx := Lib.hid hx'; clear hx'
            obtain ⟨c, o, xo, xc, rfl, hcb, c0, c1, c2, c3, hrd⟩ := HL.out.elem hbw.block hbw.size Hx.out
            have hcx := cntF_le f x (okVs_get hlo Hx.out)
            have hcx' : cntF f x ≤ 46116860184400000 := by unfold cntB at hcx; omega
            go_wp2_with (go_at_call 36; refine (IH.out x _ _ ?_ _ hrd).mono ?_; (have := Hd.out; omega); rintro e w' ⟨rfl, hb'⟩)
            go_roundw
            case rel =>
              refine ⟨k + 1, m + cntF f x, by omega, by go_num, by go_num, ?_, by omega, hb.trans (hb'.mono (by have := hb.size; simpa using this))⟩
              rw [cntFold_take _ Hx.out, ← Hm.out]; unfold cntStep; rw [if_pos h1000]
            case measure => simp [intOf]; omega

def fewB (x : V) : Bool := decide (cntF 21 x ≤ 200)
set_option maxHeartbeats 1000000 in
theorem few_any (x : V) (v : Value) (w : World) (hr : RdV w.heap.size w x v) : Calls Try.prog 25 #[v, .int .i64 20] w (BoolPost (fewB x) w) := by
  have HR := Lib.hid (fun ob => hr.alloc ob)
  obtain ⟨oa, cap, rfl, hl⟩ := hr.form
  have hq := cntF_le 21 x hr.ok
  clear hr hl
  go_enter Try.func25, Try.ntmps25
  go_wp2_with (go_at_call 36; refine (count_any 21 (by decide) x _ _ (by decide) _ (HR.out _)).mono ?_; rintro e w' ⟨rfl, hb'⟩)
  go_ret
  exact ⟨by simp only [fewB]; congr 2; simp; omega, below_after hb'⟩
end Go.Proofs.Ytebedfcdbhgfdaa
