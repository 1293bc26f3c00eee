/- Merged: Tsa. -/
import Derived.Test.YtbonebmboolemaaDoorK13
import Derived.Test.YtbonebmboolemaaDoorK27
/- the reference's Same of digests (printed by gen36k.py). -/
namespace Go.Proofs.YtbonebmboolemaaDoor
open Go.RowKit
structure SaRel (l m : List Dg) (w : World) (vi : Value) (wr : World) : Prop where
  h : ∃ k : Nat, k ≤ l.length ∧ vi = .int .i64 (k : Int) ∧ (∀ j, j < k → l[j]? = m[j]?) ∧ Below w.heap.size w wr
def natS : Value → Nat
  | .int _ n => n.toNat
  | _ => 0
set_option maxRecDepth 100000 in
set_option maxHeartbeats 4000000 in
theorem same_any (l m : List Dg) (u v : Value) (w : World) (hl : LsAt digK w.heap.size w l u) (hm : LsAt digK w.heap.size w m v) :
    Calls Tryd.prog 41 #[u, v] w fun e w' => e = .returned (.bool (decide (l = m))) ∧ Below w.heap.size w w' := by
  have HL := Lib.hid hl; have HM := Lib.hid hm
  obtain ⟨oa, ca, rfl, bl⟩ := hl.shape
  obtain ⟨ob, cb, rfl, bm⟩ := hm.shape
  obtain ⟨z, hz⟩ : ∃ z, decide (l = m) = z := ⟨_, rfl⟩
  have Hz := Lib.hid hz
  rw [hz]
  clear hl hm hz
  by_cases hlen : l.length = m.length
  case neg =>
    have t2 : decide ((l.length : Int) = (m.length : Int)) = false := by simp; omega
    have t2' : decide (l.length = m.length) = false := by simpa using hlen
    have hzz : Hid (z = false) := by show _ = _; rw [← Hz.out]; exact decide_eq_false (fun e => hlen (by rw [e]))
    go_enter Tryd.func41, Tryd.ntmps41
    go_wp2_with fail
    go_ret
    exact ⟨by rw [hzz.out]; rfl, Below.refl _ _⟩
  case pos =>
  have t2 : decide ((l.length : Int) = (m.length : Int)) = true := by simp; omega
  have t2' : decide (l.length = m.length) = true := by simpa using hlen
  have Hlen := Lib.hid hlen
  rw [← hlen]
  clear hlen t2 t2'
  go_enter Tryd.func41, Tryd.ntmps41
  go_wp2_with fail
  go_loopw [5] (fun vi wr => SaRel l m w vi wr) (fun vi _ => l.length - natS vi)
  case atStart => exact ⟨⟨0, by omega, rfl, fun j h => by omega, Below.refl _ _⟩⟩
  case round =>
    obtain ⟨k, hk, rfl, hn, hb⟩ := hrel.h
    have HN := Lib.hid hn; have HBr := Lib.hid hb
    clear hrel hn hb
    by_cases hlt : k < l.length
    case neg =>
      obtain rfl : k = l.length := by omega
      have tj : decide ((l.length : Int) < (l.length : Int)) = false := by simp
      have hzz : Hid (z = true) := by
        show _ = _; rw [← Hz.out]
        refine decide_eq_true (List.ext_getElem? fun j => ?_)
        by_cases hj : j < l.length
        · exact HN.out j hj
        · rw [List.getElem?_eq_none (by omega), List.getElem?_eq_none (by have := Hlen.out; omega)]
      go_wp2_with fail
      go_ret
      exact ⟨by rw [hzz.out]; rfl, HBr.out⟩
    case pos =>
    have tj : decide ((k : Int) < (l.length : Int)) = true := by simp; omega
    have tj' : decide (k < l.length) = true := by simp; omega
    have kb : (k : Int) < (l.length : Int) := by omega
    obtain ⟨x, hx⟩ : ∃ x, l[k]? = some x := ⟨_, List.getElem?_eq_getElem hlt⟩
    obtain ⟨y, hy⟩ : ∃ y, m[k]? = some y := ⟨_, List.getElem?_eq_getElem (by have := Hlen.out; omega)⟩
    have hl2 := HL.out.ext HBr.out
    have hm2 := HM.out.ext HBr.out
    obtain ⟨b, off, rfl, _, _⟩ := hl2.at hlt
    have hm3 := hm2
    obtain ⟨b2, off2, rfl, _, _⟩ := hm3.at (k := k) (by have := Hlen.out; omega)
    have q1 := LsAt.range rfl hl2 hx
    have q2 := LsAt.range rfl hm2 hy
    have Q1 : Hid (wr.drew.rangeAt b (off + k * 32) (bcells x.1)) := q1
    have Q2 : Hid (wr.drew.rangeAt b2 (off2 + k * 32) (bcells y.1)) := q2
    have HBd := Lib.hid HBr.out.drew
    have Hxl := Lib.hid x.2; have Hyl := Lib.hid y.2
    have hgd := fun (a1 a2 : Operand) (W : World) => gd_dv .neq a1 a2 x.1 y.1 W
    have hx2 := Lib.hid hx; have hy2 := Lib.hid hy
    clear hx hy hl2 hm2 hm3 q1 q2 HBr
    by_cases hxy : x.1 = y.1
    · have hne : ∀ W, (binOp .neq 29 (dv x.1) (dv y.1)).run Tryd.prog W = .ok (.bool false) W := fun W => by rw [neq_dv _ _ Hxl.out Hyl.out, decide_eq_true hxy]; rfl
      have Hxy := Lib.hid hxy
      clear hxy
      go_upto_region 6 with fail
      refine wp_region_held_drew (S := fun w' => w'.rangeAt b (off + k * 32) (bcells x.1) ∧ w'.rangeAt b2 (off2 + k * 32) (bcells y.1)) (by kernel_rfl) ⟨Q1.out, Q2.out⟩ (fun hHeld => ?_)
      generalize wr.drew = w1 at *
      refine take_dst (some 17) (i := 0) (v := ?vE0) rfl rfl (by kernel_rfl) (by kernel_rfl) (by kernel_rfl) (fun _ _ _ h => h) (Or.inl ⟨by rfl, fun wS hSw => ?hyE0⟩) (by assumption) ?restE0
      case hyE0 => (obtain ⟨q1, q2⟩ := hSw; go_simp; first | done | with_reducible rfl)
      try simp only [Act.put, List.setIfInBounds_toArray, List.set_cons_zero, List.set_cons_succ]
      refine take_dst (some 18) (i := 1) (v := ?vE1) rfl rfl (by kernel_rfl) (by kernel_rfl) (by kernel_rfl) (fun _ _ _ h => h) (Or.inl ⟨by rfl, fun wS hSw => ?hyE1⟩) (by assumption) ?restE1
      case hyE1 => (obtain ⟨q1, q2⟩ := hSw; go_simp; first | done | with_reducible rfl)
      try simp only [Act.put, List.setIfInBounds_toArray, List.set_cons_zero, List.set_cons_succ]
      refine take_dst (some 19) (i := 2) (v := ?vE2) rfl rfl (by kernel_rfl) (by kernel_rfl) (by kernel_rfl) (fun _ _ _ h => h) (Or.inl ⟨by rfl, fun wS hSw => ?hyE2⟩) (by assumption) ?restE2
      case hyE2 => (obtain ⟨q1, q2⟩ := hSw; go_simp; first | done | with_reducible rfl)
      try simp only [Act.put, List.setIfInBounds_toArray, List.set_cons_zero, List.set_cons_succ]
      refine take_dst (some 20) (i := 3) (v := dv x.1) rfl rfl (by kernel_rfl) (by kernel_rfl) (by kernel_rfl) (fun _ _ _ h => h) (yieldsIf_load_mid (by rfl) 29 _ rfl b (off + k * 32) rfl (bcells x.1) _ (fun wS hSw => by obtain ⟨q1, q2⟩ := hSw; exact q1) Tryd.underlying29 rfl (by rw [bcells_length, Hxl.out]; exact dig_sz)) (by assumption) ?restE3
      try simp only [Act.put, List.setIfInBounds_toArray, List.set_cons_zero, List.set_cons_succ]
      refine take_dst (some 21) (i := 4) (v := ?vE4) rfl rfl (by kernel_rfl) (by kernel_rfl) (by kernel_rfl) (fun _ _ _ h => h) (Or.inl ⟨by rfl, fun wS hSw => ?hyE4⟩) (by assumption) ?restE4
      case hyE4 => (obtain ⟨q1, q2⟩ := hSw; go_simp; first | done | with_reducible rfl)
      try simp only [Act.put, List.setIfInBounds_toArray, List.set_cons_zero, List.set_cons_succ]
      refine take_dst (some 22) (i := 5) (v := ?vE5) rfl rfl (by kernel_rfl) (by kernel_rfl) (by kernel_rfl) (fun _ _ _ h => h) (Or.inl ⟨by rfl, fun wS hSw => ?hyE5⟩) (by assumption) ?restE5
      case hyE5 => (obtain ⟨q1, q2⟩ := hSw; go_simp; first | done | with_reducible rfl)
      try simp only [Act.put, List.setIfInBounds_toArray, List.set_cons_zero, List.set_cons_succ]
      refine take_dst (some 23) (i := 6) (v := ?vE6) rfl rfl (by kernel_rfl) (by kernel_rfl) (by kernel_rfl) (fun _ _ _ h => h) (Or.inl ⟨by rfl, fun wS hSw => ?hyE6⟩) (by assumption) ?restE6
      case hyE6 => (obtain ⟨q1, q2⟩ := hSw; go_simp; first | done | with_reducible rfl)
      try simp only [Act.put, List.setIfInBounds_toArray, List.set_cons_zero, List.set_cons_succ]
      refine take_dst (some 24) (i := 7) (v := dv y.1) rfl rfl (by kernel_rfl) (by kernel_rfl) (by kernel_rfl) (fun _ _ _ h => h) (yieldsIf_load_mid (by rfl) 29 _ rfl b2 (off2 + k * 32) rfl (bcells y.1) _ (fun wS hSw => by obtain ⟨q1, q2⟩ := hSw; exact q2) Tryd.underlying29 rfl (by rw [bcells_length, Hyl.out]; exact dig_sz)) (by assumption) ?restE7
      try simp only [Act.put, List.setIfInBounds_toArray, List.set_cons_zero, List.set_cons_succ]
      refine take_dst (some 25) (i := 8) (v := ?vE8) rfl rfl (by kernel_rfl) (by kernel_rfl) (by kernel_rfl) (fun _ _ _ h => h) (Or.inl ⟨by rfl, fun wS hSw => ?hyE8⟩) (by assumption) ?restE8
      case hyE8 => (obtain ⟨q1, q2⟩ := hSw; go_simp; first | done | with_reducible rfl)
      try simp only [Act.put, List.setIfInBounds_toArray, List.set_cons_zero, List.set_cons_succ]
      refine wpAnyH_done (by kernel_rfl) ?_ _
      go_wp2_with fail
      go_roundw
      case rel => exact ⟨⟨k + 1, by omega, by go_num, fun j hj => by
        by_cases e : j = k
        · subst e; rw [hx2.out, hy2.out]; exact congrArg some (Subtype.ext Hxy.out)
        · exact HN.out j (by omega), HBd.out⟩⟩
      case measure => simp [natS]; omega
    · have hne : ∀ W, (binOp .neq 29 (dv x.1) (dv y.1)).run Tryd.prog W = .ok (.bool true) W := fun W => by rw [neq_dv _ _ Hxl.out Hyl.out, decide_eq_false hxy]; rfl
      have hzz : Hid (z = false) := by
        show _ = _; rw [← Hz.out]
        refine decide_eq_false (fun e => hxy ?_)
        have h1 := hx2.out
        rw [e, hy2.out] at h1
        injection h1 with h1; rw [h1]
      clear hxy
      go_upto_region 6 with fail
      refine wp_region_held_drew (S := fun w' => w'.rangeAt b (off + k * 32) (bcells x.1) ∧ w'.rangeAt b2 (off2 + k * 32) (bcells y.1)) (by kernel_rfl) ⟨Q1.out, Q2.out⟩ (fun hHeld => ?_)
      generalize wr.drew = w1 at *
      refine take_dst (some 17) (i := 0) (v := ?vF0) rfl rfl (by kernel_rfl) (by kernel_rfl) (by kernel_rfl) (fun _ _ _ h => h) (Or.inl ⟨by rfl, fun wS hSw => ?hyF0⟩) (by assumption) ?restF0
      case hyF0 => (obtain ⟨q1, q2⟩ := hSw; go_simp; first | done | with_reducible rfl)
      try simp only [Act.put, List.setIfInBounds_toArray, List.set_cons_zero, List.set_cons_succ]
      refine take_dst (some 18) (i := 1) (v := ?vF1) rfl rfl (by kernel_rfl) (by kernel_rfl) (by kernel_rfl) (fun _ _ _ h => h) (Or.inl ⟨by rfl, fun wS hSw => ?hyF1⟩) (by assumption) ?restF1
      case hyF1 => (obtain ⟨q1, q2⟩ := hSw; go_simp; first | done | with_reducible rfl)
      try simp only [Act.put, List.setIfInBounds_toArray, List.set_cons_zero, List.set_cons_succ]
      refine take_dst (some 19) (i := 2) (v := ?vF2) rfl rfl (by kernel_rfl) (by kernel_rfl) (by kernel_rfl) (fun _ _ _ h => h) (Or.inl ⟨by rfl, fun wS hSw => ?hyF2⟩) (by assumption) ?restF2
      case hyF2 => (obtain ⟨q1, q2⟩ := hSw; go_simp; first | done | with_reducible rfl)
      try simp only [Act.put, List.setIfInBounds_toArray, List.set_cons_zero, List.set_cons_succ]
      refine take_dst (some 20) (i := 3) (v := dv x.1) rfl rfl (by kernel_rfl) (by kernel_rfl) (by kernel_rfl) (fun _ _ _ h => h) (yieldsIf_load_mid (by rfl) 29 _ rfl b (off + k * 32) rfl (bcells x.1) _ (fun wS hSw => by obtain ⟨q1, q2⟩ := hSw; exact q1) Tryd.underlying29 rfl (by rw [bcells_length, Hxl.out]; exact dig_sz)) (by assumption) ?restF3
      try simp only [Act.put, List.setIfInBounds_toArray, List.set_cons_zero, List.set_cons_succ]
      refine take_dst (some 21) (i := 4) (v := ?vF4) rfl rfl (by kernel_rfl) (by kernel_rfl) (by kernel_rfl) (fun _ _ _ h => h) (Or.inl ⟨by rfl, fun wS hSw => ?hyF4⟩) (by assumption) ?restF4
      case hyF4 => (obtain ⟨q1, q2⟩ := hSw; go_simp; first | done | with_reducible rfl)
      try simp only [Act.put, List.setIfInBounds_toArray, List.set_cons_zero, List.set_cons_succ]
      refine take_dst (some 22) (i := 5) (v := ?vF5) rfl rfl (by kernel_rfl) (by kernel_rfl) (by kernel_rfl) (fun _ _ _ h => h) (Or.inl ⟨by rfl, fun wS hSw => ?hyF5⟩) (by assumption) ?restF5
      case hyF5 => (obtain ⟨q1, q2⟩ := hSw; go_simp; first | done | with_reducible rfl)
      try simp only [Act.put, List.setIfInBounds_toArray, List.set_cons_zero, List.set_cons_succ]
      refine take_dst (some 23) (i := 6) (v := ?vF6) rfl rfl (by kernel_rfl) (by kernel_rfl) (by kernel_rfl) (fun _ _ _ h => h) (Or.inl ⟨by rfl, fun wS hSw => ?hyF6⟩) (by assumption) ?restF6
      case hyF6 => (obtain ⟨q1, q2⟩ := hSw; go_simp; first | done | with_reducible rfl)
      try simp only [Act.put, List.setIfInBounds_toArray, List.set_cons_zero, List.set_cons_succ]
      refine take_dst (some 24) (i := 7) (v := dv y.1) rfl rfl (by kernel_rfl) (by kernel_rfl) (by kernel_rfl) (fun _ _ _ h => h) (yieldsIf_load_mid (by rfl) 29 _ rfl b2 (off2 + k * 32) rfl (bcells y.1) _ (fun wS hSw => by obtain ⟨q1, q2⟩ := hSw; exact q2) Tryd.underlying29 rfl (by rw [bcells_length, Hyl.out]; exact dig_sz)) (by assumption) ?restF7
      try simp only [Act.put, List.setIfInBounds_toArray, List.set_cons_zero, List.set_cons_succ]
      refine take_dst (some 25) (i := 8) (v := ?vF8) rfl rfl (by kernel_rfl) (by kernel_rfl) (by kernel_rfl) (fun _ _ _ h => h) (Or.inl ⟨by rfl, fun wS hSw => ?hyF8⟩) (by assumption) ?restF8
      case hyF8 => (obtain ⟨q1, q2⟩ := hSw; go_simp; first | done | with_reducible rfl)
      try simp only [Act.put, List.setIfInBounds_toArray, List.set_cons_zero, List.set_cons_succ]
      refine wpAnyH_done (by kernel_rfl) ?_ _
      go_wp2_with fail
      go_ret
      exact ⟨by rw [hzz.out]; rfl, HBd.out⟩
end Go.Proofs.YtbonebmboolemaaDoor
