/- codec.reader: value. -/
import Derived.Test.YtebedfcdbhgfdaaRdl
import Derived.Test.YtebedfcdbhgfdaaVd
import Derived.Deep.RegionHeld3
namespace Go.Proofs.Ytebedfcdbhgfdaa
open Go.RowKit

/-- so many values that are read, one after the other -/
def rdVs (f : List UInt8 → Option (V × List UInt8)) : Nat → List UInt8 → Option (List V × List UInt8)
  | 0, l => some ([], l)
  | n + 1, l => match rdVs f n l with
    | some (xs, r) => (match f r with | some (x, r') => some (xs ++ [x], r') | none => none)
    | none => none
/-- a value that is read; d: how many lists may lie within each other -/
def rdV : Nat → List UInt8 → Option (V × List UInt8)
  | d, l => match l with
    | [] => none
    | c :: r =>
      if c = 1 then (match rdNum 0 0 r with | some (u, r') => some (.mk 1 (sgn u) ⟨#[]⟩ [], r') | none => none)
      else if c = 2 then (match rdLen r with | some (n, r') => some (.mk 2 0 ⟨(r'.take n).toArray⟩ [], r'.drop n) | none => none)
      else if c = 3 then (match d with
        | 0 => none
        | d + 1 => (match rdLen r with | some (n, r') => (match rdVs (rdV d) n r' with | some (xs, r'') => some (.mk 3 0 ⟨#[]⟩ xs, r'') | none => none) | none => none))
      else none

def ValPost (B R : Nat) (o : Option (V × List UInt8)) (w : World) (e : Ending) (w' : World) : Prop :=
  match o with
  | some (x, r) => ∃ v, e = .returned v ∧ RdVD (fun k => w.heap.size ≤ k ∧ k < w'.heap.size) w' x v ∧ RdrAt B w' R r ∧ w.grownBy w' (some R)
  | none => e = .panicked badChain ∧ w.grownBy w' (some R)

def ValSaid (d : Nat) : Prop := ∀ (B R : Nat) (l : List UInt8) (di : Int) (_ : di = 16 - (d : Int)) (_ : l.length ≤ 1000000) (w : World) (_ : RdrAt B w R l) (_ : R < w.heap.size),
  Calls Try.prog 32 #[.pointer (some ⟨R, 0, none⟩), .int .i64 di] w (ValPost B R (rdV d l) w)

theorem RdrAt.keep {B R : Nat} {w w' : World} {l : List UInt8} (h : RdrAt B w R l) (hs : ∀ k, k ≤ R → w'.heap[k]? = w.heap[k]?) : RdrAt B w' R l := by
  obtain ⟨hle, hfr, v, hv, hb⟩ := h
  exact ⟨hle, by rw [World.frozen?_of_block (w := w) (hs R (Nat.le_refl _))]; exact hfr, v, by rw [World.cell?_of_block (w := w) (hs R (Nat.le_refl _))]; exact hv, hb.keep (Nat.le_refl _) fun k hk => hs k (by omega)⟩

/-- a value of the call's own, field by field -/
structure BoxAt (w : World) (T : Nat) (a b c d : Value) : Prop where
  c0 : w.cell? ⟨T, 0, none⟩ = some a
  c1 : w.cell? ⟨T, 1, none⟩ = some b
  c2 : w.cell? ⟨T, 2, none⟩ = some c
  c3 : w.cell? ⟨T, 3, none⟩ = some d
  fr : ∀ o, w.frozen? ⟨T, o, none⟩ = false
theorem BoxAt.grown {w w2 : World} {T R : Nat} {a b c d : Value} (h : BoxAt w T a b c d) (hg : w.grownBy w2 (some R)) (hR : R ≠ T) : BoxAt w2 T a b c d := by
  have hne : some T ≠ some R := fun e => hR (by injection e with e; exact e.symm)
  have hlt := World.block_lt_of_cell? w _ h.c0
  exact ⟨hg.cell h.c0 hne, hg.cell h.c1 hne, hg.cell h.c2 hne, hg.cell h.c3 hne, fun o => by rw [World.frozen?_of_block (w := w) (hg.block T hlt hne)]; exact h.fr o⟩
theorem BoxAt.made (w : World) (t : TypeId) (a b c d : Value) : BoxAt (w.alloc (.cells #[a, b, c, d] t)) w.heap.size a b c d :=
  ⟨by simp, by simp, by simp, by simp, fun o => World.frozen?_alloc_at _ _ _ _ rfl⟩

theorem grown_set_new {w w1 : World} {G : Option Nat} {T i : Nat} {v : Value} (h : w.grownBy w1 G) (hT : w.heap.size ≤ T) : w.grownBy (w1.setCell ⟨T, i, none⟩ v) G :=
  ⟨h.os, h.tape, h.output, by have := h.size; simpa [World.setCell] using this, fun k hk hne => by rw [Below.heap_setCell _ _ _ _ (by show k ≠ T; omega)]; exact h.block k hk hne⟩
theorem RdrAt.set {B R T i : Nat} {w : World} {l : List UInt8} {v : Value} (h : RdrAt B w R l) (hT : R < T) : RdrAt B (w.setCell ⟨T, i, none⟩ v) R l :=
  h.keep fun k hk => Below.heap_setCell _ _ _ _ (by show k ≠ T; omega)
theorem rdV_nil (d : Nat) : rdV d [] = none := by cases d <;> simp [rdV]
theorem rdV_1 (d : Nat) (r : List UInt8) : rdV d (1 :: r) = match rdNum 0 0 r with | some (u, r') => some (.mk 1 (sgn u) ⟨#[]⟩ [], r') | none => none := by cases d <;> simp [rdV]
theorem rdV_2 (d : Nat) (r : List UInt8) : rdV d (2 :: r) = match rdLen r with | some (n, r') => some (.mk 2 0 ⟨(r'.take n).toArray⟩ [], r'.drop n) | none => none := by cases d <;> simp [rdV]
theorem rdV_30 (r : List UInt8) : rdV 0 (3 :: r) = none := by simp [rdV]
theorem rdV_3 (d : Nat) (r : List UInt8) : rdV (d + 1) (3 :: r) = match rdLen r with | some (n, r') => (match rdVs (rdV d) n r' with | some (xs, r'') => some (.mk 3 0 ⟨#[]⟩ xs, r'') | none => none) | none => none := by simp [rdV]
theorem rdV_bad (d : Nat) (c : UInt8) (r : List UInt8) (h1 : c ≠ 1) (h2 : c ≠ 2) (h3 : c ≠ 3) : rdV d (c :: r) = none := by cases d <;> simp [rdV, h1, h2, h3]

/-- what is known where value begins to look at the first byte -/
theorem value_head (B R : Nat) (c : UInt8) (r : List UInt8) (hl : (c :: r).length ≤ 1000000) (w : World) (hr : RdrAt B w R (c :: r)) (hRw : R < w.heap.size) (ob : Obj) :
    Calls Try.prog 44 #[.pointer (some ⟨R, 0, none⟩), .int .i64 1] (w.alloc ob) fun e w1 =>
      ∃ b off cap v', e = .returned (.slice (some ⟨b, off, none⟩) 1 cap) ∧ w1 = (w.alloc ob).setCell ⟨R, 0, none⟩ v' ∧ R ≠ b ∧ b < w.heap.size ∧ w.cell? ⟨b, off, none⟩ = some (.int .u8 (c.toNat : Int)) ∧ RdrAt B (w.setCell ⟨R, 0, none⟩ v') R r := by
  have hrA : RdrAt B (w.alloc ob) R (c :: r) := hr.keep fun k hk => Below.heap_alloc w _ k (by omega)
  refine (take_ok B R (c :: r) 1 1 rfl _ hrA (by simp) hl).mono ?_
  rintro e w1 ⟨v, v', rfl, hv, hv', rfl⟩
  have hBR := hr.le
  have hback : ∀ k, k < B → w.heap[k]? = (w.alloc ob).heap[k]? := fun k hk => (Below.heap_alloc w _ k (by omega)).symm
  have hv2 := hv'.keep (w' := w) (Nat.le_refl B) hback
  have hv1 := hv.keep (w' := w) (Nat.le_refl B) hback
  rcases hv1 with ⟨h, _⟩ | ⟨_, b, off, cap, rfl, _, _, h4, h5⟩
  · cases h
  · exact ⟨b, off, cap, v', rfl, rfl, by omega, by omega, by simpa using h5 0 c rfl, hr.took (by simpa using hv2)⟩

theorem rdLen_len {l r : List UInt8} {n : Nat} (h : rdLen l = some (n, r)) : n ≤ r.length ∧ r.length < l.length := by
  unfold rdLen at h
  cases hN : rdNum 0 0 l with
  | none => rw [hN] at h; cases h
  | some p =>
    obtain ⟨m, t⟩ := p
    rw [hN] at h
    simp only at h
    split at h
    · rename_i hm
      simp at h; obtain ⟨rfl, rfl⟩ := h
      exact ⟨hm, rdNum_len l 0 0 _ _ hN⟩
    · cases h
theorem sgn_I64 (u : Nat) (h : u < 18446744073709551616) : I64 (sgn u) := by unfold I64 sgn; split <;> omega
set_option maxRecDepth 100000 in
set_option maxHeartbeats 1000000 in
theorem value_1 (d : Nat) (B R : Nat) (r : List UInt8) (di : Int) (hl : (1 :: r).length ≤ 1000000) (w : World) (hr : RdrAt B w R (1 :: r)) (hRw : R < w.heap.size) :
    Calls Try.prog 32 #[.pointer (some ⟨R, 0, none⟩), .int .i64 di] w (ValPost B R (rdV d (1 :: r)) w) := by
  have HR := Lib.hid hr; clear hr
  have hrl : r.length ≤ 1000000 := by simp at hl; omega
  have hv := Lib.hid (rdV_1 d r)
  cases hN : rdNum 0 0 r with
  | none =>
    have hn : Hid (rdV d (1 :: r) = none) := by show _ = _; rw [hv.out, hN]
    have HN := Lib.hid hN; clear hN
    go_enter Try.func32, Try.ntmps32
    go_wp2_with (first
      | (go_at_call 44; refine (value_head B R 1 r hl w HR.out hRw _).mono ?_; rintro e w1 ⟨b, off, cap, v', rfl, rfl, hbR, hbw, hc, hrd⟩))
    have hszw : (w.setCell ⟨R, 0, none⟩ v').heap.size = w.heap.size := by simp [World.setCell]
    refine (number_any B R r hrl _ (hrd.keep fun k hk => Below.heap_alloc _ _ k (by omega))).mono ?_
    rw [HN.out]
    rintro e w2 ⟨rfl, hg⟩
    exact ⟨rfl, by rw [hn.out]; exact And.intro rfl (grown_trans (grown_alloc (setCell_grown w R v') _) hg (.inl rfl))⟩
  | some p =>
    obtain ⟨u, r'⟩ := p
    have hn : Hid (rdV d (1 :: r) = some (.mk 1 (sgn u) ⟨#[]⟩ [], r')) := by show _ = _; rw [hv.out, hN]
    have hu64 := Lib.hid (rdNum_lt r 0 0 u r' (by decide) (by simp) hN)
    have HN := Lib.hid hN; clear hN
    go_enter Try.func32, Try.ntmps32
    go_wp2_with (first
      | (go_at_call 44; refine (value_head B R 1 r hl w HR.out hRw _).mono ?_; rintro e w1 ⟨b, off, cap, v', rfl, rfl, hbR, hbw, hc, hrd⟩))
    have hszw : (w.setCell ⟨R, 0, none⟩ v').heap.size = w.heap.size := by simp [World.setCell]
    refine (number_any B R r hrl _ (hrd.keep fun k hk => Below.heap_alloc _ _ k (by omega))).mono ?_
    rw [HN.out]
    rintro e w2 ⟨rfl, hrd2, hg⟩
    have hbx := (BoxAt.made (w.setCell ⟨R, 0, none⟩ v') 24 (.int .i64 1) (.int .i64 0) (.string ⟨#[]⟩) (.slice none 0 0)).grown hg (by omega)
    rw [hszw] at hbx
    obtain ⟨x0, x1, x2, x3, xf⟩ := hbx
    have hgw : w.grownBy w2 (some R) := grown_trans (grown_alloc (setCell_grown w R v') _) hg (.inl rfl)
    have hszw2 := hgw.size
    clear hg
    go_wp2_with (first | (go_at_call 45; refine (signed_any u hu64 _).mono ?_; rintro e w' ⟨rfl, rfl⟩))
    have hI := Lib.hid (sgn_I64 u hu64.out)
    refine bodyPost_ret (v := .agg #[.int .i64 1, .int .i64 (sgn u), .string ⟨#[]⟩, .slice none 0 0]) (by simp [results, Try.results32, go_sem, x0, x1, x2, x3]) rfl ?_
    rw [hn.out]
    exact ⟨_, rfl, ⟨by show I64 1; unfold I64; omega, hI.out, Nat.zero_le maxLen, _, rfl, .inl ⟨rfl, none, 0, rfl⟩⟩, by repeat (first | exact hrd2 | refine RdrAt.set ?_ hRw), by repeat (first | exact hgw | refine grown_set_new ?_ (Nat.le_refl _))⟩
end Go.Proofs.Ytebedfcdbhgfdaa
