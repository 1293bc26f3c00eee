/- Merged: Ivk. -/
import Derived.Test.YtbonebmboolemaaDoorK08
import Derived.Test.YtbonebmboolemaaDoorK17
/- a list of values that are numbers, built by append. -/
namespace Go.Proofs.YtbonebmboolemaaDoor
open Go.RowKit
theorem ok_ck2 {x : V} (h1 : fm x = true) (h2 : dp x ≤ 16) : ck x = 0 := by unfold ck; rw [if_pos h1, if_neg (by omega)]
/-- a value that is a number -/
def iV (x : Int) : V := .mk 1 x ⟨#[]⟩ []
def lsI (xs : List Int) : V := .mk 3 0 ⟨#[]⟩ (xs.map iV)
def ivK : EK Int := ⟨4, fun x => [.int .i64 1, .int .i64 x, .string ⟨#[]⟩, .slice none 0 0], fun _ => rfl, fun x u hu => by simp only [List.mem_cons, List.not_mem_nil, or_false] at hu; rcases hu with rfl | rfl | rfl | rfl <;> rfl, by decide⟩
theorem v_info : (Tryd.prog.info? 74).map (fun i => (i.zero, i.size, i.bytes)) = some (some (.agg #[.int .i64 0, .int .i64 0, .string ⟨#[]⟩, .slice none 0 0]), 4, 56) := by kernel_rfl
theorem iv_ats {B : Nat} {w : World} {b : Nat} (hb : b < B) : ∀ (xs : List Int) (off : Nat), (∀ x ∈ xs, I64 x) → (∀ j x, xs[j]? = some x → ElAt ivK w b (off + j * 4) x) → V.ats B w (xs.map iV) b off
  | [], _, _, _ => trivial
  | x :: r, off, hi, h => by
    have h0 := h 0 x rfl
    rw [Nat.zero_mul, Nat.add_zero] at h0
    refine ⟨⟨hb, by unfold I64; omega, hi x List.mem_cons_self, by unfold maxLen; decide, h0 0 _ rfl, h0 1 _ rfl, h0 2 _ rfl, _, h0 3 _ rfl, .inl ⟨rfl, _, _, rfl⟩⟩, iv_ats hb r (off + 4) (fun y hy => hi y (List.mem_cons_of_mem _ hy)) fun j y hj => ?_⟩
    have := h (j + 1) y (by simpa using hj)
    rw [show off + 4 + j * 4 = off + (j + 1) * 4 by omega]; exact this
theorem iv_sl {B : Nat} {w : World} {xs : List Int} {v : Value} (hi : ∀ x ∈ xs, I64 x) (h : LsAt ivK B w xs v) : SlV B w (xs.map iV) v := by
  rcases h with ⟨rfl, oa, cap, rfl⟩ | ⟨b, off, cap, rfl, h2, h3, h4, h5⟩
  · exact .inl ⟨rfl, oa, cap, rfl⟩
  · by_cases h0 : xs = []
    · subst h0; exact .inl ⟨rfl, _, _, rfl⟩
    · refine .inr ⟨by simpa using h0, b, off, cap, by rw [List.length_map], by rw [List.length_map]; omega, iv_ats h4 xs off hi h5⟩
theorem iv_rd {B : Nat} {w : World} {xs : List Int} {v : Value} (hi : ∀ x ∈ xs, I64 x) (h : LsAt ivK B w xs v) : RdV B w (lsI xs) (.agg #[.int .i64 3, .int .i64 0, .string ⟨#[]⟩, v]) :=
  ⟨by show I64 3; unfold I64; omega, by show I64 0; unfold I64; omega, by show (0 : Nat) ≤ _; unfold maxLen; decide, v, rfl, iv_sl hi h⟩
theorem iv_sz : ∀ xs : List Int, szs (xs.map iV) ≤ 30 * xs.length
  | [] => by simp [szs]
  | x :: r => by
    have := iv_sz r
    simp only [List.map_cons, szs, iV, sz, List.length_cons]
    have h0 : (⟨#[]⟩ : ByteArray).size = 0 := rfl
    simp only [h0]
    omega
theorem iv_fm : ∀ xs : List Int, fms (xs.map iV) = true ∧ dps (xs.map iV) = 0
  | [] => by simp [fms, dps]
  | x :: r => by
    obtain ⟨h1, h2⟩ := iv_fm r
    simp only [List.map_cons, fms, dps, h1, h2]
    constructor
    · simp [iV, fm, ByteArray.toList_eq]
    · simp [iV, dp]
theorem lsI_ck (xs : List Int) : ck (lsI xs) = 0 := by
  obtain ⟨h1, h2⟩ := iv_fm xs
  refine ok_ck2 ?_ ?_
  · unfold lsI; simp [fm, h1, ByteArray.toList_eq]
  · unfold lsI; simp [dp, h2]
theorem lsI_sz (xs : List Int) : sz (lsI xs) ≤ 30 * xs.length + 60 := by
  have := iv_sz xs
  unfold lsI
  simp only [sz]
  have h0 : (⟨#[]⟩ : ByteArray).size = 0 := rfl
  simp only [h0]
  omega
theorem iv_oks : ∀ xs : List Int, (∀ x ∈ xs, I64 x) → okVs (xs.map iV)
  | [], _ => by simp [okVs]
  | x :: r, h => by
    have := iv_oks r fun y hy => h y (List.mem_cons_of_mem _ hy)
    have hx := h x List.mem_cons_self
    have h0 : (⟨#[]⟩ : ByteArray).size ≤ maxLen := by show (0 : Nat) ≤ _; unfold maxLen; decide
    simp only [List.map_cons, okVs, iV, okV]
    refine ⟨?_, this⟩
    first
      | exact ⟨by unfold I64; omega, hx, h0, by simp⟩
      | exact ⟨by unfold I64; omega, hx, h0, by simp, by simp [okVs]⟩
      | exact ⟨by unfold I64; omega, hx, h0, trivial, by unfold maxLen; simp⟩
theorem lsI_ok {xs : List Int} (h : ∀ x ∈ xs, I64 x) (hl : xs.length ≤ 1000) : okV (lsI xs) := by
  have := iv_oks xs h
  have h0 : (⟨#[]⟩ : ByteArray).size ≤ maxLen := by show (0 : Nat) ≤ _; unfold maxLen; decide
  unfold lsI
  simp only [okV]
  first
    | exact ⟨by unfold I64; omega, by unfold I64; omega, h0, by rw [List.length_map]; unfold maxLen; omega, this⟩
    | exact ⟨by unfold I64; omega, by unfold I64; omega, h0, this, by rw [List.length_map]; unfold maxLen; omega⟩
    | exact ⟨by unfold I64; omega, by unfold I64; omega, h0, this⟩
theorem own_belowK {α : Type} {K : EK α} {e : TypeId} {w0 w1 w2 : World} {base : Nat} {v : Value} {l : List α} (hb : Below w0.heap.size w0 w1) (hO : OwnK K e w1 base v l) (hg : w1.grownBy w2 v.ownBlock) (hbs : w0.heap.size ≤ base := by omega) : Below w0.heap.size w0 w2 :=
  hb.trans ⟨hg.os, hg.tape, hg.output, hg.size, fun k hk => hg.block k (Nat.lt_of_lt_of_le hk hb.size) (fun e => by have := (hO.lt k e.symm).1; omega)⟩
end Go.Proofs.YtbonebmboolemaaDoor
