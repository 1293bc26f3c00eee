/- the reference's Reader: next, number. -/
import Derived.Test.YtebedfcdbhgfdaaLar
import Derived.Deep.QuietTactic
import Derived.BigQuiet
import Derived.Shelf.Bits.Mul64
namespace Go.Proofs.Ytebedfcdbhgfdaa
open Go.RowKit

/-- the reference's reader in memory: all its bytes, how far it is, whether it has failed -/
structure RefAt (B : Nat) (w : World) (R : Nat) (l : List UInt8) (p : Nat) (bad : Bool) : Prop where
  le : B ≤ R
  fr : ∀ o, w.frozen? ⟨R, o, none⟩ = false
  c0 : ∃ v, w.cell? ⟨R, 0, none⟩ = some v ∧ BtsAt B w l v
  c1 : w.cell? ⟨R, 1, none⟩ = some (.int .i64 (p : Int))
  c2 : w.cell? ⟨R, 2, none⟩ = some (.bool bad)
  hp : p ≤ l.length
theorem RefAt.keep {B R p : Nat} {bad : Bool} {w w' : World} {l : List UInt8} (h : RefAt B w R l p bad) (hs : ∀ k, k ≤ R → w'.heap[k]? = w.heap[k]?) : RefAt B w' R l p bad := by
  obtain ⟨hle, hfr, ⟨v, hv, hb⟩, h1, h2, h3⟩ := h
  have hc : ∀ o, w'.cell? ⟨R, o, none⟩ = w.cell? ⟨R, o, none⟩ := fun o => World.cell?_of_block (w := w) (hs R (Nat.le_refl _))
  exact ⟨hle, fun o => by rw [World.frozen?_of_block (w := w) (hs R (Nat.le_refl _))]; exact hfr o, ⟨v, (hc 0).trans hv, hb.keep (Nat.le_refl _) fun k hk => hs k (by omega)⟩, (hc 1).trans h1, (hc 2).trans h2, h3⟩
theorem RefAt.set1 {B R p q : Nat} {bad : Bool} {w : World} {l : List UInt8} (h : RefAt B w R l p bad) (i : Int) (hi : i = (q : Int)) (hq : q ≤ l.length) : RefAt B (w.setCell ⟨R, 1, none⟩ (.int .i64 i)) R l q bad := by
  subst hi
  obtain ⟨hle, hfr, ⟨v, hv, hb⟩, h1, h2, h3⟩ := h
  refine ⟨hle, fun o => by rw [World.frozen?_setCell]; exact hfr o, ⟨v, ?_, hb.keep (Nat.le_refl _) fun k hk => Below.heap_setCell _ _ _ _ (by show k ≠ R; omega)⟩, World.cell?_setCell_same _ _ _ h1, ?_, hq⟩
  · rw [World.cell?_setCell_other _ _ _ _ (by simp)]; exact hv
  · rw [World.cell?_setCell_other _ _ _ _ (by simp)]; exact h2
theorem RefAt.set2 {B R p : Nat} {bad : Bool} {w : World} {l : List UInt8} (h : RefAt B w R l p bad) (b : Bool) : RefAt B (w.setCell ⟨R, 2, none⟩ (.bool b)) R l p b := by
  obtain ⟨hle, hfr, ⟨v, hv, hb⟩, h1, h2, h3⟩ := h
  refine ⟨hle, fun o => by rw [World.frozen?_setCell]; exact hfr o, ⟨v, ?_, hb.keep (Nat.le_refl _) fun k hk => Below.heap_setCell _ _ _ _ (by show k ≠ R; omega)⟩, ?_, World.cell?_setCell_same _ _ _ h2, h3⟩
  · rw [World.cell?_setCell_other _ _ _ _ (by simp)]; exact hv
  · rw [World.cell?_setCell_other _ _ _ _ (by simp)]; exact h1
theorem RefAt.drewN {B R p : Nat} {bad : Bool} {w : World} {l : List UInt8} (h : RefAt B w R l p bad) (n : Nat) : RefAt B (w.drewN n) R l p bad := h.keep fun _ _ => rfl
theorem grown_drewN (w : World) (n : Nat) (G : Option Nat) : w.grownBy (w.drewN n) G := ⟨rfl, rfl, rfl, Nat.le_refl _, fun _ _ _ => rfl⟩
theorem grown_drewN' {w w1 : World} {G : Option Nat} (h : w.grownBy w1 G) (n : Nat) : w.grownBy (w1.drewN n) G := ⟨h.os, h.tape, h.output, h.size, h.block⟩
theorem grown_setR {w w1 : World} {R i : Nat} {v : Value} (h : w.grownBy w1 (some R)) : w.grownBy (w1.setCell ⟨R, i, none⟩ v) (some R) :=
  ⟨h.os, h.tape, h.output, by have := h.size; simpa [World.setCell] using this, fun k hk hne => by rw [Below.heap_setCell _ _ _ _ (by show k ≠ R; exact fun e => hne (by rw [e]))]; exact h.block k hk hne⟩

def NextPost (B R : Nat) (l : List UInt8) (x : Int) (q : Nat) (bad : Bool) (w : World) (e : Ending) (w' : World) : Prop := e = .returned (.int .u8 x) ∧ RefAt B w' R l q bad ∧ w.grownBy w' (some R)
set_option maxRecDepth 100000 in
set_option maxHeartbeats 1000000 in
theorem next_end (B R p : Nat) (bad : Bool) (l : List UInt8) (hl : l.length ≤ 1000000) (w : World) (h : RefAt B w R l p bad) (hp : l.length ≤ p) :
    Calls Try.prog 48 #[.pointer (some ⟨R, 0, none⟩)] w (NextPost B R l 0 p true w) := by
  have H := Lib.hid h
  obtain ⟨_, hfr, ⟨v, hv, hb⟩, h1, h2, h3⟩ := h
  obtain ⟨oa, cap, rfl, _, _⟩ := hb.form
  have f2 := hfr 2
  clear hb hfr
  have hge : (l.length : Int) ≤ (p : Int) := by omega
  have hpi : (p : Int) ≤ 1000000 := by omega
  go_enter Try.func48, Try.ntmps48
  go_wp2
  go_quiet (fail)
  go_wp2
  go_ret
  exact ⟨rfl, (H.out.drewN _).set2 true, grown_setR (grown_drewN _ _ _)⟩
set_option maxRecDepth 100000 in
set_option maxHeartbeats 1000000 in
theorem next_some (B R p : Nat) (bad : Bool) (c : UInt8) (l : List UInt8) (hl : l.length ≤ 1000000) (w : World) (h : RefAt B w R l p bad) (hp : l[p]? = some c) :
    Calls Try.prog 48 #[.pointer (some ⟨R, 0, none⟩)] w (NextPost B R l (c.toNat : Int) (p + 1) bad w) := by
  have H := Lib.hid h
  have hlt : p < l.length := (List.getElem?_eq_some_iff.1 hp).1
  obtain ⟨hle, hfr, ⟨v, hv, hb⟩, h1, h2, h3⟩ := h
  rcases hb with ⟨rfl, _⟩ | ⟨_, b, off, cap, rfl, hc1, hc2, hbB, hcell⟩
  · simp at hlt
  have hc := hcell p c hp
  have f1 := hfr 1
  have hbR : R ≠ b := by omega
  clear hcell hfr hp
  have hpl : (p : Int) < (l.length : Int) := by omega
  have hpi : (p : Int) ≤ 1000000 := by omega
  go_enter Try.func48, Try.ntmps48
  go_wp2
  go_quiet (fail)
  go_wp2
  go_quiet (fail)
  go_wp2
  go_ret
  exact ⟨rfl, ((H.out.drewN _).set1 _ (by omega) (by omega)).drewN _, grown_drewN' (grown_setR (grown_drewN _ _ _)) _⟩

/-- a numeral that the reference has read -/
def NumbPost (B R : Nat) (l : List UInt8) (o : Option (Nat × List UInt8)) (w : World) (e : Ending) (w' : World) : Prop :=
  match o with
  | some (n, r) => e = .returned (.int .u64 (n : Int)) ∧ ∃ q, l.drop q = r ∧ RefAt B w' R l q false ∧ w.grownBy w' (some R)
  | none => e = .returned (.int .u64 0) ∧ ∃ q, RefAt B w' R l q true ∧ w.grownBy w' (some R)
def RNumRel (B R : Nat) (l s : List UInt8) (w : World) (i u : Value) (wr : World) : Prop :=
  ∃ (k x q : Nat), i = .int .i64 k ∧ u = .int .u64 x ∧ k ≤ 9 ∧ x < 2 ^ (7 * k) ∧ rdNum 0 0 s = rdNum k x (l.drop q) ∧ RefAt B wr R l q false ∧ w.grownBy wr (some R)
theorem num_add (x k : Nat) (c : UInt8) (hk : k ≤ 9) (hx : x < 2 ^ (7 * k)) (hc : k = 9 → c.toNat ≤ 1) :
    IntKind.u64.wrap ((x : Int) + IntKind.u64.wrap ((c.toNat : Int) % 128 * 2 ^ (7 * k))) = ((x + c.toNat % 128 * 2 ^ (7 * k) : Nat) : Int) := by
  have hm : c.toNat % 128 < 128 := Nat.mod_lt _ (by decide)
  have hb : x + c.toNat % 128 * 2 ^ (7 * k) < 18446744073709551616 := by
    by_cases h9 : k = 9
    · subst h9; have := hc rfl; simp at hx ⊢; omega
    · have h2 : (2 : Nat) ^ (7 * k) ≤ 2 ^ 56 := Nat.pow_le_pow_right (by decide) (by omega)
      have h3 : c.toNat % 128 * 2 ^ (7 * k) ≤ 127 * 2 ^ 56 := Nat.mul_le_mul (by omega) h2
      omega
  have e2 : (c.toNat : Int) % 128 * 2 ^ (7 * k) = ((c.toNat % 128 * 2 ^ (7 * k) : Nat) : Int) := by push_cast; rfl
  rw [e2, Go.Proofs.Mul64.wrapN _ (by omega), Go.Proofs.Mul64.addN, Go.Proofs.Mul64.wrapN _ hb]
theorem drop_nil {l : List UInt8} {q : Nat} (h : l.length ≤ q) : l.drop q = [] := List.drop_of_length_le h
theorem drop_cons {l : List UInt8} {q : Nat} (h : q < l.length) : l.drop q = l[q] :: l.drop (q + 1) := List.drop_eq_getElem_cons h

set_option maxRecDepth 100000 in
set_option maxHeartbeats 1000000 in
theorem rnumber_any (B R p : Nat) (l : List UInt8) (hl : l.length ≤ 1000000) (w : World) (h : RefAt B w R l p false) :
    Calls Try.prog 49 #[.pointer (some ⟨R, 0, none⟩)] w (NumbPost B R l (rdNum 0 0 (l.drop p)) w) := by
  have H := Lib.hid h; clear h
  go_enter Try.func49, Try.ntmps49
  go_wp2
  go_loopw [3, 4] (fun u i wr => RNumRel B R l (l.drop p) w i u wr) (fun _ i _ => 10 - (intOf i).toNat)
  case atStart => exact ⟨0, 0, p, rfl, rfl, by omega, by simp, rfl, H.out, grown_refl _ _⟩
  case round =>
    obtain ⟨k, x, q, rfl, rfl, hk, hx, heq, hrd, hg⟩ := hrel
    have Heq := Lib.hid heq; have Hx := Lib.hid hx; have HRd := Lib.hid hrd
    have c2 := hrd.c2
    clear heq hx hrd
    by_cases hq : q < l.length
    case neg =>
      have hn : Hid (rdNum 0 0 (l.drop p) = none) := by show _ = _; rw [Heq.out, drop_nil (by omega), rdNum]
      by_cases hk0 : k = 0
      · subst hk0
        have hx0 : x = 0 := by have := Hx.out; simpa using this
        subst hx0
        go_wp2_with (go_at_call 48; refine (next_end B R q false l hl _ HRd.out (by omega)).mono ?_; rintro e w' ⟨rfl, hr', hg'⟩)
        go_ret
        rw [hn.out]
        exact ⟨rfl, q, hr', grown_trans hg hg' (.inl rfl)⟩
      · have hk1 : (0 : Int) < (k : Int) := by omega
        go_wp2_with (go_at_call 48; refine (next_end B R q false l hl _ HRd.out (by omega)).mono ?_; rintro e w' ⟨rfl, hr', hg'⟩; have HR' := Lib.hid hr'; have f2 := hr'.fr 2; have d2 := hr'.c2; clear hr')
        all_goals
          go_ret
          rw [hn.out]
          exact ⟨rfl, q, HR'.out.set2 true, grown_setR (grown_trans hg hg' (.inl rfl))⟩
    case pos =>
      obtain ⟨c, hcq⟩ : ∃ c, l[q]? = some c := ⟨_, List.getElem?_eq_getElem hq⟩
      have hdr : l.drop q = c :: l.drop (q + 1) := by
        rw [drop_cons hq]; congr 1
        have := List.getElem?_eq_getElem hq; rw [hcq] at this; injection this with this; exact this.symm
      have Hcq := Lib.hid hcq
      have Heq2 : Hid (rdNum 0 0 (l.drop p) = rdNum k x (c :: l.drop (q + 1))) := by show _ = _; rw [Heq.out, hdr]
      clear hcq hdr Heq
      obtain ⟨b0, e0⟩ : ∃ b, ((k : Int) == 9) = b := ⟨_, rfl⟩
      obtain ⟨b1, e1⟩ : ∃ b, decide ((1 : Int) < (c.toNat : Int)) = b := ⟨_, rfl⟩
      obtain ⟨b2, e2⟩ : ∃ b, decide (0 < k) = b := ⟨_, rfl⟩
      obtain ⟨b3, e3⟩ : ∃ b, ((c.toNat : Int) == 0) = b := ⟨_, rfl⟩
      obtain ⟨b4, e4⟩ : ∃ b, decide ((c.toNat : Int) < 128) = b := ⟨_, rfl⟩
      have E := Lib.hid (And.intro e0 (And.intro e1 (And.intro e2 (And.intro e3 e4))))
      have hcond : Hid (((b0 && b1) || (b2 && b3)) = false ↔ ((k = 0 ∨ c.toNat ≠ 0) ∧ (k < 9 ∨ c.toNat ≤ 1))) := by
        show _ ↔ _
        rw [← e0, ← e1, ← e2, ← e3]
        simp; omega
      by_cases hgood : ((b0 && b1) || (b2 && b3)) = false
      case neg =>
        have hn : Hid (rdNum 0 0 (l.drop p) = none) := by show _ = _; rw [Heq2.out]; exact rdNum_bad fun h => hgood (hcond.out.2 h)
        have hgf : ((b0 && b1) || (b2 && b3)) = true := eq_true_of_ne_false hgood
        clear hgood hcond
        have HG := Lib.hid hgf; clear hgf
        cases b0 <;> cases b1 <;> cases b2 <;> cases b3
        all_goals first | (exfalso; exact absurd HG.out (by decide)) | skip
        all_goals
          go_wp2_with (go_at_call 48; refine (next_some B R q false c l hl _ HRd.out Hcq.out).mono ?_; rintro e w' ⟨rfl, hr', hg'⟩; have HR' := Lib.hid hr'; have f2 := hr'.fr 2; have d2 := hr'.c2; clear hr')
        all_goals
          go_ret
          rw [hn.out]
          exact ⟨rfl, q + 1, HR'.out.set2 true, grown_setR (grown_trans hg hg' (.inl rfl))⟩
      case pos =>
        have hgd := hcond.out.1 hgood
        have HGD := Lib.hid hgd
        have HG := Lib.hid hgood; clear hgood hgd hcond
        cases b4
        · have hc128 : Hid (¬ c.toNat < 128) := by have := E.out.2.2.2.2; simp at this; show ¬ _; omega
          have hk9 : k < 9 := by
            have h1 := HGD.out.2; have h2 := hc128.out; omega
          have hor := Lib.hid (num_add x k c hk Hx.out (by omega))
          have hon := Lib.hid (rdNum_on (x := x) (r := l.drop (q + 1)) HGD.out hc128.out)
          cases b0 <;> cases b1 <;> cases b2 <;> cases b3
          all_goals first | (exfalso; exact absurd HG.out (by decide)) | skip
          all_goals
            go_wp2_with (go_at_call 48; refine (next_some B R q false c l hl _ HRd.out Hcq.out).mono ?_; rintro e w' ⟨rfl, hr', hg'⟩; have HR' := Lib.hid hr'; have f2 := hr'.fr 2; have d2 := hr'.c2; clear hr')
            go_roundw
            case rel =>
              refine ⟨k + 1, x + c.toNat % 128 * 2 ^ (7 * k), q + 1, by go_num, by rw [hor.out], by omega, ?_, by rw [Heq2.out, hon.out], HR'.out, grown_trans hg hg' (.inl rfl)⟩
              have h1 : c.toNat % 128 * 2 ^ (7 * k) ≤ 127 * 2 ^ (7 * k) := Nat.mul_le_mul_right _ (by omega)
              have h2 : (2 : Nat) ^ (7 * (k + 1)) = 128 * 2 ^ (7 * k) := by rw [show 7 * (k + 1) = 7 + 7 * k from by omega, Nat.pow_add]
              have h3 := Hx.out
              omega
            case measure => simp [intOf]; omega
        · have hc128 : Hid (c.toNat < 128) := by have := E.out.2.2.2.2; simp at this; show _ < _; omega
          have hor := Lib.hid (num_add x k c hk Hx.out (fun h => by have := HGD.out.2; omega))
          have hen := Lib.hid (rdNum_end (x := x) (r := l.drop (q + 1)) HGD.out hc128.out)
          cases b0 <;> cases b1 <;> cases b2 <;> cases b3
          all_goals first | (exfalso; exact absurd HG.out (by decide)) | skip
          all_goals
            go_wp2_with (go_at_call 48; refine (next_some B R q false c l hl _ HRd.out Hcq.out).mono ?_; rintro e w' ⟨rfl, hr', hg'⟩; have HR' := Lib.hid hr'; have f2 := hr'.fr 2; have d2 := hr'.c2; clear hr')
            go_ret
            rw [Heq2.out, hen.out]
            exact ⟨by rw [← hor.out]; rfl, q + 1, rfl, HR'.out, grown_trans hg hg' (.inl rfl)⟩
end Go.Proofs.Ytebedfcdbhgfdaa
