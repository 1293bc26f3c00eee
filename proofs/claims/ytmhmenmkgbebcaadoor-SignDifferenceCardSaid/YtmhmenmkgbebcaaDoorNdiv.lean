/- long division by two digits (Knuth's algorithm D), in plain Lean. -/
import Derived.KernelRfl
namespace Go.Proofs.YtmhmenmkgbebcaaDoor

def cW : Nat := 4294967296
/-- a digit that is guessed: not less than the true one -/
structure Dg (y yn1 yn0 u32 u1 q r : Nat) : Prop where
  hy : y = yn1 * cW + yn0
  h1 : 2147483648 ≤ yn1
  h2 : yn1 < cW
  h3 : yn0 < cW
  h4 : u32 < y
  h5 : u1 < cW
  h6 : q * yn1 + r = u32
  h7 : (u32 * cW + u1) / y ≤ q
  h8 : q ≤ cW + 1
  h9 : r < cW
theorem Dg.mk0 {y yn1 yn0 u32 u1 : Nat} (hy : y = yn1 * cW + yn0) (h1 : 2147483648 ≤ yn1) (h2 : yn1 < cW) (h3 : yn0 < cW) (h4 : u32 < y) (h5 : u1 < cW) : Dg y yn1 yn0 u32 u1 (u32 / yn1) (u32 % yn1) := by
  have hdm := Nat.div_add_mod u32 yn1
  have hr := Nat.mod_lt u32 (show 0 < yn1 by omega)
  have hq : u32 / yn1 ≤ cW + 1 := by
    have : u32 < (cW + 2) * yn1 := by rw [Nat.add_mul]; rw [Nat.mul_comm cW]; unfold cW at *; omega
    have := (Nat.div_lt_iff_lt_mul (show 0 < yn1 by omega)).2 this
    omega
  refine ⟨hy, h1, h2, h3, h4, h5, by rw [Nat.mul_comm]; exact hdm, ?_, hq, by omega⟩
  -- the guess is not less
  have hy0 : 0 < y := by omega
  have : (u32 * cW + u1) / y < u32 / yn1 + 1 := by
    rw [Nat.div_lt_iff_lt_mul hy0, hy, Nat.mul_add]
    have e : (u32 / yn1 + 1) * (yn1 * cW) = (yn1 * (u32 / yn1) + yn1) * cW := by rw [← Nat.mul_assoc, Nat.add_mul, Nat.one_mul, Nat.mul_comm yn1]
    rw [e]
    have h : (u32 + 1) * cW ≤ (yn1 * (u32 / yn1) + yn1) * cW := Nat.mul_le_mul_right _ (by omega)
    rw [Nat.add_mul, Nat.one_mul] at h
    omega
  omega
theorem Dg.mul {y yn1 yn0 u32 u1 q r : Nat} (h : Dg y yn1 yn0 u32 u1 q r) : q * y + r * cW = u32 * cW + q * yn0 := by
  have := h.h6
  rw [h.hy, Nat.mul_add, ← Nat.mul_assoc, ← this, Nat.add_mul]; omega
/-- too great: one less is still not less than the true one -/
theorem Dg.down {y yn1 yn0 u32 u1 q r : Nat} (h : Dg y yn1 yn0 u32 u1 q r) (hc : cW ≤ q ∨ cW * r + u1 < q * yn0) : 1 ≤ q ∧ (q - 1) * yn1 + (r + yn1) = u32 ∧ (u32 * cW + u1) / y ≤ q - 1 := by
  have hm := h.mul
  have hy0 : 0 < y := by have := h.hy; have := h.h1; unfold cW at *; omega
  have hlt : u32 * cW + u1 < q * y := by
    rcases hc with hc | hc
    · have h1 : cW * y ≤ q * y := Nat.mul_le_mul_right _ hc
      have h2 : (u32 + 1) * cW ≤ y * cW := Nat.mul_le_mul_right _ h.h4
      rw [Nat.add_mul, Nat.one_mul] at h2
      rw [Nat.mul_comm cW] at h1
      have := h.h5; omega
    · rw [Nat.mul_comm cW] at hc; omega
  have hq : 1 ≤ q := by
    rcases Nat.eq_zero_or_pos q with rfl | h0
    · simp at hlt
    · exact h0
  refine ⟨hq, ?_, ?_⟩
  · obtain ⟨q', rfl⟩ : ∃ q', q = q' + 1 := ⟨q - 1, by omega⟩
    have := h.h6
    rw [Nat.add_mul, Nat.one_mul] at this
    simp only [Nat.add_sub_cancel]; omega
  · have := (Nat.div_lt_iff_lt_mul hy0).2 hlt
    omega
theorem Dg.next {y yn1 yn0 u32 u1 q r : Nat} (h : Dg y yn1 yn0 u32 u1 q r) (hc : cW ≤ q ∨ cW * r + u1 < q * yn0) (hr : r + yn1 < cW) : Dg y yn1 yn0 u32 u1 (q - 1) (r + yn1) := by
  obtain ⟨h1, h2, h3⟩ := h.down hc
  exact ⟨h.hy, h.h1, h.h2, h.h3, h.h4, h.h5, h2, h3, by have := h.h8; omega, hr⟩
/-- the guess is true -/
theorem Dg.stop {y yn1 yn0 u32 u1 q r : Nat} (h : Dg y yn1 yn0 u32 u1 q r) (hc : ¬ (cW ≤ q ∨ cW * r + u1 < q * yn0)) : q = (u32 * cW + u1) / y := by
  have hm := h.mul
  have hy0 : 0 < y := by have := h.hy; have := h.h1; unfold cW at *; omega
  have hle : q * y ≤ u32 * cW + u1 := by rw [Nat.mul_comm cW] at hc; omega
  have := (Nat.le_div_iff_mul_le hy0).2 hle
  have := h.h7; omega
theorem Dg.broke {y yn1 yn0 u32 u1 q r : Nat} (h : Dg y yn1 yn0 u32 u1 q r) (hc : cW ≤ q ∨ cW * r + u1 < q * yn0) (hr : cW ≤ r + yn1) : q - 1 = (u32 * cW + u1) / y := by
  obtain ⟨h1, h2, h3⟩ := h.down hc
  have hy0 : 0 < y := by have := h.hy; have := h.h1; unfold cW at *; omega
  have hle : (q - 1) * y ≤ u32 * cW + u1 := by
    have e : (q - 1) * y + (r + yn1) * cW = u32 * cW + (q - 1) * yn0 := by
      have := h.hy
      rw [this, Nat.mul_add, ← Nat.mul_assoc, ← h2, Nat.add_mul ((q - 1) * yn1)]; omega
    have k1 : (q - 1) * yn0 ≤ cW * yn0 := Nat.mul_le_mul_right _ (by have := h.h8; omega)
    have k2 : cW * yn0 ≤ cW * cW := Nat.mul_le_mul_left _ (by have := h.h3; omega)
    have k3 : cW * cW ≤ (r + yn1) * cW := Nat.mul_le_mul_right _ hr
    omega
  have := (Nat.le_div_iff_mul_le hy0).2 hle
  omega
/-- what the guess is multiplied with stays in 64 bits -/
theorem Dg.fits {y yn1 yn0 u32 u1 q r : Nat} (h : Dg y yn1 yn0 u32 u1 q r) : q * yn0 < 18446744073709551616 := by
  have h1 : q * yn0 ≤ (cW + 1) * yn0 := Nat.mul_le_mul_right _ h.h8
  have h2 : (cW + 1) * yn0 ≤ (cW + 1) * (cW - 1) := Nat.mul_le_mul_left _ (by have := h.h3; omega)
  have h3 : (cW + 1) * (cW - 1) < 18446744073709551616 := by decide
  omega
end Go.Proofs.YtmhmenmkgbebcaaDoor
