/- Parts of the proofs of chapter 49's laws: Ndiv Nt Nel Nbit. -/
import Derived.KernelRfl
namespace Go.Proofs.YtdblnbnofjggnaaGreatDoor
def cW : Nat := 4294967296
structure Dg (y yn1 yn0 u32 u1 q r : Nat) : Prop where
 hy : y = yn1 * cW + yn0
 h1 : 2147483648 ≤ yn1
 h2 : yn1 < cW
 h3 : yn0 < cW
 h4 : u32 < y
 h5 : u1 < cW
 h6 : q * yn1 + r = u32
 h7 : (u32 * cW + u1) / y ≤ q
 h8 : q ≤ cW + 1
 h9 : r < cW
theorem Dg.mk0 {y yn1 yn0 u32 u1 : Nat} (hy : y = yn1 * cW + yn0) (h1 : 2147483648 ≤ yn1) (h2 : yn1 < cW) (h3 : yn0 < cW) (h4 : u32 < y) (h5 : u1 < cW) : Dg y yn1 yn0 u32 u1 (u32 / yn1) (u32 % yn1) := by
 have hdm := Nat.div_add_mod u32 yn1
 have hr := Nat.mod_lt u32 (show 0 < yn1 by omega)
 have hq : u32 / yn1 ≤ cW + 1 := by
  have : u32 < (cW + 2) * yn1 := by rw [Nat.add_mul]; rw [Nat.mul_comm cW]; unfold cW at *; omega
  have := (Nat.div_lt_iff_lt_mul (show 0 < yn1 by omega)).2 this
  omega
 refine ⟨hy, h1, h2, h3, h4, h5, by rw [Nat.mul_comm]; exact hdm, ?_, hq, by omega⟩
 have hy0 : 0 < y := by omega
 have : (u32 * cW + u1) / y < u32 / yn1 + 1 := by
  rw [Nat.div_lt_iff_lt_mul hy0, hy, Nat.mul_add]
  have e : (u32 / yn1 + 1) * (yn1 * cW) = (yn1 * (u32 / yn1) + yn1) * cW := by rw [← Nat.mul_assoc, Nat.add_mul, Nat.one_mul, Nat.mul_comm yn1]
  rw [e]
  have h : (u32 + 1) * cW ≤ (yn1 * (u32 / yn1) + yn1) * cW := Nat.mul_le_mul_right _ (by omega)
  rw [Nat.add_mul, Nat.one_mul] at h
  omega
 omega
theorem Dg.mul {y yn1 yn0 u32 u1 q r : Nat} (h : Dg y yn1 yn0 u32 u1 q r) : q * y + r * cW = u32 * cW + q * yn0 := by
 have := h.h6
 rw [h.hy, Nat.mul_add, ← Nat.mul_assoc, ← this, Nat.add_mul]; omega
theorem Dg.down {y yn1 yn0 u32 u1 q r : Nat} (h : Dg y yn1 yn0 u32 u1 q r) (hc : cW ≤ q ∨ cW * r + u1 < q * yn0) : 1 ≤ q ∧ (q - 1) * yn1 + (r + yn1) = u32 ∧ (u32 * cW + u1) / y ≤ q - 1 := by
 have hm := h.mul
 have hy0 : 0 < y := by have := h.hy; have := h.h1; unfold cW at *; omega
 have hlt : u32 * cW + u1 < q * y := by
  rcases hc with hc | hc
  · have h1 : cW * y ≤ q * y := Nat.mul_le_mul_right _ hc
    have h2 : (u32 + 1) * cW ≤ y * cW := Nat.mul_le_mul_right _ h.h4
    rw [Nat.add_mul, Nat.one_mul] at h2
    rw [Nat.mul_comm cW] at h1
    have := h.h5; omega
  · rw [Nat.mul_comm cW] at hc; omega
 have hq : 1 ≤ q := by
  rcases Nat.eq_zero_or_pos q with rfl | h0
  · simp at hlt
  · exact h0
 refine ⟨hq, ?_, ?_⟩
 · obtain ⟨q', rfl⟩ : ∃ q', q = q' + 1 := ⟨q - 1, by omega⟩
   have := h.h6
   rw [Nat.add_mul, Nat.one_mul] at this
   simp only [Nat.add_sub_cancel]; omega
 · have := (Nat.div_lt_iff_lt_mul hy0).2 hlt
   omega
theorem Dg.next {y yn1 yn0 u32 u1 q r : Nat} (h : Dg y yn1 yn0 u32 u1 q r) (hc : cW ≤ q ∨ cW * r + u1 < q * yn0) (hr : r + yn1 < cW) : Dg y yn1 yn0 u32 u1 (q - 1) (r + yn1) := by
 obtain ⟨h1, h2, h3⟩ := h.down hc
 exact ⟨h.hy, h.h1, h.h2, h.h3, h.h4, h.h5, h2, h3, by have := h.h8; omega, hr⟩
theorem Dg.stop {y yn1 yn0 u32 u1 q r : Nat} (h : Dg y yn1 yn0 u32 u1 q r) (hc : ¬ (cW ≤ q ∨ cW * r + u1 < q * yn0)) : q = (u32 * cW + u1) / y := by
 have hm := h.mul
 have hy0 : 0 < y := by have := h.hy; have := h.h1; unfold cW at *; omega
 have hle : q * y ≤ u32 * cW + u1 := by rw [Nat.mul_comm cW] at hc; omega
 have := (Nat.le_div_iff_mul_le hy0).2 hle
 have := h.h7; omega
theorem Dg.broke {y yn1 yn0 u32 u1 q r : Nat} (h : Dg y yn1 yn0 u32 u1 q r) (hc : cW ≤ q ∨ cW * r + u1 < q * yn0) (hr : cW ≤ r + yn1) : q - 1 = (u32 * cW + u1) / y := by
 obtain ⟨h1, h2, h3⟩ := h.down hc
 have hy0 : 0 < y := by have := h.hy; have := h.h1; unfold cW at *; omega
 have hle : (q - 1) * y ≤ u32 * cW + u1 := by
  have e : (q - 1) * y + (r + yn1) * cW = u32 * cW + (q - 1) * yn0 := by
   have := h.hy
   rw [this, Nat.mul_add, ← Nat.mul_assoc, ← h2, Nat.add_mul ((q - 1) * yn1)]; omega
  have k1 : (q - 1) * yn0 ≤ cW * yn0 := Nat.mul_le_mul_right _ (by have := h.h8; omega)
  have k2 : cW * yn0 ≤ cW * cW := Nat.mul_le_mul_left _ (by have := h.h3; omega)
  have k3 : cW * cW ≤ (r + yn1) * cW := Nat.mul_le_mul_right _ hr
  omega
 have := (Nat.le_div_iff_mul_le hy0).2 hle
 omega
theorem Dg.fits {y yn1 yn0 u32 u1 q r : Nat} (h : Dg y yn1 yn0 u32 u1 q r) : q * yn0 < 18446744073709551616 := by
 have h1 : q * yn0 ≤ (cW + 1) * yn0 := Nat.mul_le_mul_right _ h.h8
 have h2 : (cW + 1) * yn0 ≤ (cW + 1) * (cW - 1) := Nat.mul_le_mul_left _ (by have := h.h3; omega)
 have h3 : (cW + 1) * (cW - 1) < 18446744073709551616 := by decide
 omega
end Go.Proofs.YtdblnbnofjggnaaGreatDoor
namespace Go.Proofs.YtdblnbnofjggnaaGreatDoor
def powM (n : Nat) : Nat → Nat → Nat → Nat
 | 0, _, _ => 1 % n
 | f + 1, a, k => if k % 2 = 1 then powM n f (a * a % n) (k / 2) * a % n else powM n f (a * a % n) (k / 2)
theorem powM_eq (n : Nat) : ∀ f a k, k < 2 ^ f → powM n f a k = a ^ k % n
 | 0, a, k, h => by have : k = 0 := by simpa using h
                    subst this; simp [powM]
 | f + 1, a, k, h => by
  have hk : k / 2 < 2 ^ f := by rw [Nat.pow_succ] at h; omega
  have e : (a * a % n) ^ (k / 2) % n = a ^ (2 * (k / 2)) % n := by rw [← Nat.pow_mod, Nat.pow_mul, Nat.pow_two]
  rw [powM, powM_eq n f _ _ hk, e]
  split
  · rename_i h1
    rw [Nat.mod_mul_mod, ← Nat.pow_succ]; congr 2; omega
  · congr 2; omega
def cP : Nat := 4611686018427377339
def cQ : Nat := 2305843009213688669
end Go.Proofs.YtdblnbnofjggnaaGreatDoor
namespace Go.Proofs.YtdblnbnofjggnaaGreatDoor
def isEl (x : Nat) : Prop := 1 ≤ x ∧ x < cP ∧ x ^ cQ % cP = 1
instance (x : Nat) : Decidable (isEl x) := inferInstanceAs (Decidable (_ ∧ _ ∧ _))
theorem cP_pos : 0 < cP := by decide
def pw (a k : Nat) : Nat := a ^ k % cP
theorem pw_lt (a k : Nat) : pw a k < cP := Nat.mod_lt _ cP_pos
theorem ne_zero_of_not_dvd {x : Nat} (h : ¬ cP ∣ x) : 1 ≤ x % cP := by
 rcases Nat.eq_zero_or_pos (x % cP) with h0 | h0
 · exact absurd (Nat.dvd_of_mod_eq_zero h0) h
 · exact h0
theorem mod_el {x : Nat} (h : x ^ cQ % cP = 1) : isEl (x % cP) := by
 have hd : ¬ cP ∣ x := by
  intro hc
  obtain ⟨c, rfl⟩ := hc
  rw [Nat.pow_mod, Nat.mul_mod_right, Nat.zero_pow (by decide), Nat.zero_mod] at h
  cases h
 exact ⟨ne_zero_of_not_dvd hd, Nat.mod_lt _ cP_pos, by rw [← Nat.pow_mod]; exact h⟩
theorem pw_el {a : Nat} (ha : isEl a) (k : Nat) : isEl (pw a k) := by
 apply mod_el
 rw [← Nat.pow_mul, Nat.mul_comm, Nat.pow_mul, Nat.pow_mod, ha.2.2, Nat.one_pow]; decide
theorem pw_mod {a : Nat} (ha : isEl a) (k : Nat) : pw a (k % cQ) = pw a k := by
 unfold pw
 have e : a ^ k = (a ^ cQ) ^ (k / cQ) * a ^ (k % cQ) := by rw [← Nat.pow_mul, ← Nat.pow_add, Nat.div_add_mod]
 rw [e, Nat.mul_mod, Nat.pow_mod (a ^ cQ), ha.2.2, Nat.one_pow]
 have : 1 % cP = 1 := by decide
 rw [this, Nat.one_mul, Nat.mod_mod]
theorem pw_add (a j k : Nat) : pw a j * pw a k % cP = pw a (j + k) := by unfold pw; rw [← Nat.mul_mod, Nat.pow_add]
theorem pw_mul (a j k : Nat) : pw (pw a j) k = pw a (j * k) := by unfold pw; rw [← Nat.pow_mod, Nat.pow_mul]
theorem pw_zero (a : Nat) : pw a 0 = 1 := by unfold pw; rw [Nat.pow_zero]; decide
end Go.Proofs.YtdblnbnofjggnaaGreatDoor
namespace Go.Proofs.YtdblnbnofjggnaaGreatDoor
def bitsF : Nat → Nat → List Bool
 | 0, _ => []
 | n + 1, k => bitsF n (k / 2) ++ [k % 2 == 1]
def bval (l : List Bool) : Nat := l.foldl (fun v b => 2 * v + (if b then 1 else 0)) 0
theorem bval_snoc (l : List Bool) (b : Bool) : bval (l ++ [b]) = 2 * bval l + (if b then 1 else 0) := by simp [bval]
theorem bitsF_len : ∀ n k, (bitsF n k).length = n
 | 0, _ => rfl
 | n + 1, k => by simp [bitsF, bitsF_len n]
theorem bval_bitsF : ∀ n k, k < 2 ^ n → bval (bitsF n k) = k
 | 0, k, h => by have : k = 0 := by simpa using h
                 subst this; rfl
 | n + 1, k, h => by
  rw [bitsF, bval_snoc, bval_bitsF n (k / 2) (by rw [Nat.pow_succ] at h; omega)]
  by_cases h1 : k % 2 = 1
  · simp [h1]; omega
  · have : k % 2 = 0 := by omega
    simp [this]; omega
theorem bitsF_get : ∀ n k j, j < n → (bitsF n k)[j]? = some (k / 2 ^ (n - 1 - j) % 2 == 1)
 | 0, _, _, h => by omega
 | n + 1, k, j, h => by
  rw [bitsF]
  by_cases hj : j < n
  · rw [List.getElem?_append_left (by rw [bitsF_len]; exact hj), bitsF_get n (k / 2) j hj, Nat.div_div_eq_div_mul, Nat.mul_comm 2, ← Nat.pow_succ]
    rw [show (n - 1 - j).succ = n + 1 - 1 - j from by omega]
  · obtain rfl : j = n := by omega
    rw [List.getElem?_append_right (by rw [bitsF_len]; omega), bitsF_len]
    simp
theorem pw_step0 (a v : Nat) : pw a v * pw a v % cP = pw a (2 * v) := by rw [pw_add, Nat.two_mul]
theorem pw_step1 (a v : Nat) : pw a (2 * v) * a % cP = pw a (2 * v + 1) := by unfold pw; rw [Nat.mod_mul_mod, ← Nat.pow_succ]
end Go.Proofs.YtdblnbnofjggnaaGreatDoor
