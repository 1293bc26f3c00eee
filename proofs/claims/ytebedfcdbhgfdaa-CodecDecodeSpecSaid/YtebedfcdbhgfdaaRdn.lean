/- codec.reader: number. -/
import Derived.Test.YtebedfcdbhgfdaaRdr
namespace Go.Proofs.Ytebedfcdbhgfdaa
open Go.RowKit

set_option maxHeartbeats 1000000 in
theorem take_bad (B R : Nat) (l : List UInt8) (n : Nat) (ni : Int) (hni : ni = (n : Int)) (w : World) (hr : RdrAt B w R l) (hn : l.length < n) (_ : n ≤ 1000000000) :
    Calls Try.prog 44 #[.pointer (some ⟨R, 0, none⟩), .int .i64 ni] w fun e w' => e = .panicked badChain ∧ w = w' := by
  subst hni
  obtain ⟨hle, hfr, v, hv, hb⟩ := hr
  obtain ⟨oa, cap, rfl, hlc, hcm⟩ := hb.form
  clear hb
  have hd : decide (n ≤ l.length) = false := by simpa using hn
  go_enter Try.func44, Try.ntmps44
  go_wp2_with (go_at_call 33; refine (want_false _ _).mono ?_; rintro e w' ⟨rfl, rfl⟩)
  exact ⟨rfl, rfl, rfl⟩

theorem setCell_grown (w : World) (R : Nat) (v : Value) : w.grownBy (w.setCell ⟨R, 0, none⟩ v) (some R) :=
  ⟨rfl, rfl, rfl, by simp [World.setCell], fun k _ hk => Below.heap_setCell _ _ _ _ (fun h => hk (by rw [h]))⟩
theorem RdrAt.took {B R : Nat} {w : World} {l l' : List UInt8} {v' : Value} (h : RdrAt B w R l) (hb : BtsAt B w l' v') : RdrAt B (w.setCell ⟨R, 0, none⟩ v') R l' := by
  obtain ⟨hle, hfr, v, hv, _⟩ := h
  refine ⟨hle, by rw [World.frozen?_setCell]; exact hfr, v', World.cell?_setCell_same _ _ _ hv, hb.keep (Nat.le_refl _) fun k hk => Below.heap_setCell _ _ _ _ (by show k ≠ R; omega)⟩

/-- a numeral that is read -/
def rdNum : Nat → Nat → List UInt8 → Option (Nat × List UInt8)
  | _, _, [] => none
  | i, u, c :: r => if (i = 0 ∨ c.toNat ≠ 0) ∧ (i < 9 ∨ c.toNat ≤ 1) then (if c.toNat < 128 then some (u + c.toNat * 2 ^ (7 * i), r) else rdNum (i + 1) (u + (c.toNat - 128) * 2 ^ (7 * i)) r) else none

/-- what a reading leaves: the value and the rest, or the panic -/
def ReadPost (B R : Nat) (o : Option (Value × List UInt8)) (w : World) (e : Ending) (w' : World) : Prop :=
  match o with
  | some (v, r) => e = .returned v ∧ RdrAt B w' R r ∧ w.grownBy w' (some R)
  | none => e = .panicked badChain ∧ w.grownBy w' (some R)

theorem and127 : ∀ b : Fin 256, bits BinOp.and IntKind.u8 ((b : Nat) : Int) 127 = ((b.val % 128 : Nat) : Int) := by decide +kernel
theorem num_or (x k : Nat) (c : UInt8) (hk : k ≤ 9) (hx : x < 2 ^ (7 * k)) (hc : k = 9 → c.toNat ≤ 1) :
    bits BinOp.or IntKind.u64 (x : Int) (IntKind.u64.wrap (IntKind.u64.wrap (bits BinOp.and IntKind.u8 (c.toNat : Int) 127) * 2 ^ (7 * k))) = ((x + c.toNat % 128 * 2 ^ (7 * k) : Nat) : Int) := by
  have h1 := and127 ⟨c.toNat, c.toNat_lt⟩
  simp only at h1
  have hm : c.toNat % 128 < 128 := Nat.mod_lt _ (by decide)
  have hpow : (2 : Nat) ^ (7 * k) ≤ 2 ^ 63 := Nat.pow_le_pow_right (by decide) (by omega)
  have hb : c.toNat % 128 * 2 ^ (7 * k) < 18446744073709551616 := by
    by_cases h9 : k = 9
    · subst h9; have := hc rfl; omega
    · have h2 : (2 : Nat) ^ (7 * k) ≤ 2 ^ 56 := Nat.pow_le_pow_right (by decide) (by omega)
      have h3 : c.toNat % 128 * 2 ^ (7 * k) ≤ 127 * 2 ^ 56 := Nat.mul_le_mul (by omega) h2
      omega
  rw [h1]
  rw [IntKind.wrap_u64, IntKind.wrap_u64]
  have e1 : ((c.toNat % 128 : Nat) : Int) % 18446744073709551616 = ((c.toNat % 128 : Nat) : Int) := by omega
  rw [e1]
  have e2 : ((c.toNat % 128 : Nat) : Int) * 2 ^ (7 * k) = ((c.toNat % 128 * 2 ^ (7 * k) : Nat) : Int) := by push_cast; rfl
  rw [e2]
  have e3 : ((c.toNat % 128 * 2 ^ (7 * k) : Nat) : Int) % 18446744073709551616 = ((c.toNat % 128 * 2 ^ (7 * k) : Nat) : Int) := by omega
  rw [e3, bits_or_u64_nat _ _ (by omega) hb]
  congr 1
  have h4 := Nat.shiftLeft_add_eq_or_of_lt hx (c.toNat % 128)
  rw [Nat.shiftLeft_eq] at h4
  rw [Nat.or_comm, ← h4]; omega
theorem rdNum_end {k x : Nat} {c : UInt8} {r : List UInt8} (h : (k = 0 ∨ c.toNat ≠ 0) ∧ (k < 9 ∨ c.toNat ≤ 1)) (hc : c.toNat < 128) : rdNum k x (c :: r) = some (x + c.toNat % 128 * 2 ^ (7 * k), r) := by
  rw [rdNum, if_pos h, if_pos hc, Nat.mod_eq_of_lt hc]
theorem rdNum_on {k x : Nat} {c : UInt8} {r : List UInt8} (h : (k = 0 ∨ c.toNat ≠ 0) ∧ (k < 9 ∨ c.toNat ≤ 1)) (hc : ¬ c.toNat < 128) : rdNum k x (c :: r) = rdNum (k + 1) (x + c.toNat % 128 * 2 ^ (7 * k)) r := by
  rw [rdNum, if_pos h, if_neg hc]
  have := c.toNat_lt
  rw [show c.toNat - 128 = c.toNat % 128 from by omega]
theorem rdNum_bad {k x : Nat} {c : UInt8} {r : List UInt8} (h : ¬ ((k = 0 ∨ c.toNat ≠ 0) ∧ (k < 9 ∨ c.toNat ≤ 1))) : rdNum k x (c :: r) = none := by rw [rdNum, if_neg h]
def NumbRel (B R : Nat) (l : List UInt8) (w : World) (i u : Value) (wr : World) : Prop :=
  ∃ (k x : Nat) (r : List UInt8), i = .int .i64 k ∧ u = .int .u64 x ∧ k ≤ 9 ∧ x < 2 ^ (7 * k) ∧ rdNum 0 0 l = rdNum k x r ∧ r.length ≤ 1000000 ∧ RdrAt B wr R r ∧ w.grownBy wr (some R)

set_option maxRecDepth 100000 in
set_option maxHeartbeats 1000000 in
theorem number_any (B R : Nat) (l : List UInt8) (hl : l.length ≤ 1000000) (w : World) (hr : RdrAt B w R l) :
    Calls Try.prog 46 #[.pointer (some ⟨R, 0, none⟩)] w (ReadPost B R ((rdNum 0 0 l).map fun p => (.int .u64 (p.1 : Int), p.2)) w) := by
  have HR := Lib.hid hr; clear hr
  go_enter Try.func46, Try.ntmps46
  go_wp2
  go_loopw [2, 3] (fun u i wr => NumbRel B R l w i u wr) (fun _ i _ => 10 - (intOf i).toNat)
  case atStart => exact ⟨0, 0, l, rfl, rfl, by omega, by simp, rfl, hl, HR.out, grown_refl _ _⟩
  case round =>
    obtain ⟨k, x, r, rfl, rfl, hk, hx, heq, hrl, hrd, hg⟩ := hrel
    have Heq := Lib.hid heq; have Hx := Lib.hid hx; have HRd := Lib.hid hrd
    clear heq hx hrd
    cases r with
    | nil =>
      have hn : Hid (rdNum 0 0 l = none) := by have := Heq.out; rw [rdNum] at this; exact this
      go_wp2_with (go_at_call 44; refine (take_bad B R [] 1 _ rfl _ HRd.out (by simp) (by omega)).mono ?_; rintro e w' ⟨rfl, rfl⟩)
      exact ⟨rfl, by rw [hn.out]; exact And.intro rfl hg⟩
    | cons c r =>
      have c0 : ∀ v, BtsAt B wr [c] v → ∃ b off cap, v = .slice (some ⟨b, off, none⟩) 1 cap ∧ b < B ∧ wr.cell? ⟨b, off, none⟩ = some (.int .u8 (c.toNat : Int)) := fun v hv => by
        rcases hv with ⟨h, _⟩ | ⟨_, b, off, cap, rfl, _, _, h4, h5⟩
        · cases h
        · exact ⟨b, off, cap, rfl, h4, by simpa using h5 0 c rfl⟩
      have C0 := Lib.hid c0; clear c0
      have hrl' : r.length ≤ 1000000 := by simp at hrl; omega
      obtain ⟨b0, e0⟩ : ∃ b, ((k : Int) == 0) = b := ⟨_, rfl⟩
      obtain ⟨b1, e1⟩ : ∃ b, ((c.toNat : Int) != 0) = b := ⟨_, rfl⟩
      obtain ⟨b2, e2⟩ : ∃ b, decide ((k : Int) < 9) = b := ⟨_, rfl⟩
      obtain ⟨b3, e3⟩ : ∃ b, decide ((c.toNat : Int) ≤ 1) = b := ⟨_, rfl⟩
      obtain ⟨b4, e4⟩ : ∃ b, decide ((c.toNat : Int) < 128) = b := ⟨_, rfl⟩
      have E := Lib.hid (And.intro e0 (And.intro e1 (And.intro e2 (And.intro e3 e4))))
      have hcond : Hid (((b0 || b1) && (b2 || b3)) = true ↔ ((k = 0 ∨ c.toNat ≠ 0) ∧ (k < 9 ∨ c.toNat ≤ 1))) := by
        show _ ↔ _
        rw [← e0, ← e1, ← e2, ← e3]
        simp; omega
      by_cases hgood : ((b0 || b1) && (b2 || b3)) = true
      case neg =>
        have hn : Hid (rdNum 0 0 l = none) := by show _ = _; rw [Heq.out]; exact rdNum_bad fun h => hgood (hcond.out.2 h)
        have hgf : ((b0 || b1) && (b2 || b3)) = false := by simpa using hgood
        clear hgood hcond
        have HG := Lib.hid hgf; clear hgf
        cases b0 <;> cases b1 <;> cases b2 <;> cases b3
        all_goals first | (exfalso; exact absurd HG.out (by decide)) | skip
        all_goals
          go_wp2_with (first
            | (go_at_call 44; refine (take_ok B R (c :: r) 1 _ rfl _ HRd.out (by simp) hrl).mono ?_; rintro e w1 ⟨v, v', rfl, hv, hv', rfl⟩; obtain ⟨b, off, cap, rfl, hbB, hc⟩ := C0.out v hv; have hbR : R ≠ b := by (have := HRd.out.le; omega))
            | (go_at_call 33; refine (want_false _ _).mono ?_; rintro e w' ⟨rfl, rfl⟩))
          exact ⟨rfl, by rw [hn.out]; exact And.intro rfl (grown_trans hg (setCell_grown _ _ _) (.inl rfl))⟩
      case pos =>
        have hgd := hcond.out.1 hgood
        have HGD := Lib.hid hgd
        have HG := Lib.hid hgood; clear hgood hgd hcond
        cases b4
        · have hc128 : Hid (¬ c.toNat < 128) := by have := E.out.2.2.2.2; simp at this; show ¬ _; omega
          have hk9 : k < 9 := by
            have h1 := HGD.out.2; have h2 := hc128.out; omega
          have hor := Lib.hid (num_or x k c hk Hx.out (by omega))
          have hon := Lib.hid (rdNum_on (x := x) (r := r) HGD.out hc128.out)
          cases b0 <;> cases b1 <;> cases b2 <;> cases b3
          all_goals first | (exfalso; exact absurd HG.out (by decide)) | skip
          all_goals
            go_wp2_with (first
              | (go_at_call 44; refine (take_ok B R (c :: r) 1 _ rfl _ HRd.out (by simp) hrl).mono ?_; rintro e w1 ⟨v, v', rfl, hv, hv', rfl⟩; obtain ⟨b, off, cap, rfl, hbB, hc⟩ := C0.out v hv; have hbR : R ≠ b := by (have := HRd.out.le; omega))
              | (go_at_call 33; refine (want_true _ _).mono ?_; rintro e w' ⟨rfl, rfl⟩))
            go_roundw
            case rel =>
              refine ⟨k + 1, x + c.toNat % 128 * 2 ^ (7 * k), r, by go_num, by rw [hor.out], by omega, ?_, by rw [Heq.out, hon.out], hrl', HRd.out.took (by simpa using hv'), grown_trans hg (setCell_grown _ _ _) (.inl rfl)⟩
              have h1 : c.toNat % 128 * 2 ^ (7 * k) ≤ 127 * 2 ^ (7 * k) := Nat.mul_le_mul_right _ (by omega)
              have h2 : (2 : Nat) ^ (7 * (k + 1)) = 128 * 2 ^ (7 * k) := by rw [show 7 * (k + 1) = 7 + 7 * k from by omega, Nat.pow_add]
              have h3 := Hx.out
              omega
            case measure => simp [intOf]; omega
        · have hc128 : Hid (c.toNat < 128) := by have := E.out.2.2.2.2; simp at this; show _ < _; omega
          have hor := Lib.hid (num_or x k c hk Hx.out (fun h => by have := HGD.out.2; omega))
          have hen := Lib.hid (rdNum_end (x := x) (r := r) HGD.out hc128.out)
          cases b0 <;> cases b1 <;> cases b2 <;> cases b3
          all_goals first | (exfalso; exact absurd HG.out (by decide)) | skip
          all_goals
            go_wp2_with (first
              | (go_at_call 44; refine (take_ok B R (c :: r) 1 _ rfl _ HRd.out (by simp) hrl).mono ?_; rintro e w1 ⟨v, v', rfl, hv, hv', rfl⟩; obtain ⟨b, off, cap, rfl, hbB, hc⟩ := C0.out v hv; have hbR : R ≠ b := by (have := HRd.out.le; omega))
              | (go_at_call 33; refine (want_true _ _).mono ?_; rintro e w' ⟨rfl, rfl⟩))
            go_ret
            rw [Heq.out, hen.out]
            exact And.intro (by rw [← hor.out]; rfl) (And.intro (HRd.out.took (by simpa using hv')) (grown_trans hg (setCell_grown _ _ _) (.inl rfl)))
end Go.Proofs.Ytebedfcdbhgfdaa
