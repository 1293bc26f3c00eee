/- the group of squares modulo P, in plain Lean. -/
import Derived.Test.YtmhmenmkgbebcaaDoorNt
namespace Go.Proofs.YtmhmenmkgbebcaaDoor

/-- an element of the group -/
def isEl (x : Nat) : Prop := 1 ≤ x ∧ x < cP ∧ x ^ cQ % cP = 1
instance (x : Nat) : Decidable (isEl x) := inferInstanceAs (Decidable (_ ∧ _ ∧ _))
theorem cP_pos : 0 < cP := by decide
theorem two_Q : 2 * cQ = cP - 1 := by decide
/-- a power in the group, as a number -/
def pw (a k : Nat) : Nat := a ^ k % cP
theorem pw_lt (a k : Nat) : pw a k < cP := Nat.mod_lt _ cP_pos
theorem not_dvd {x : Nat} (h1 : 1 ≤ x) (h2 : x < cP) : ¬ cP ∣ x := fun h => by have := Nat.le_of_dvd h1 h; omega
theorem ne_zero_of_not_dvd {x : Nat} (h : ¬ cP ∣ x) : 1 ≤ x % cP := by
  rcases Nat.eq_zero_or_pos (x % cP) with h0 | h0
  · exact absurd (Nat.dvd_of_mod_eq_zero h0) h
  · exact h0
theorem mod_el {x : Nat} (h : x ^ cQ % cP = 1) : isEl (x % cP) := by
  have hd : ¬ cP ∣ x := by
    intro hc
    obtain ⟨c, rfl⟩ := hc
    rw [Nat.pow_mod, Nat.mul_mod_right, Nat.zero_pow (by decide), Nat.zero_mod] at h
    cases h
  exact ⟨ne_zero_of_not_dvd hd, Nat.mod_lt _ cP_pos, by rw [← Nat.pow_mod]; exact h⟩
theorem mul_el {a b : Nat} (ha : isEl a) (hb : isEl b) : isEl (a * b % cP) := by
  apply mod_el
  rw [Nat.mul_pow, Nat.mul_mod, ha.2.2, hb.2.2]; decide
theorem pw_el {a : Nat} (ha : isEl a) (k : Nat) : isEl (pw a k) := by
  apply mod_el
  rw [← Nat.pow_mul, Nat.mul_comm, Nat.pow_mul, Nat.pow_mod, ha.2.2, Nat.one_pow]; decide
theorem sq_el {s : Nat} (h : ¬ cP ∣ s) : isEl (s * s % cP) := by
  apply mod_el
  rw [← Nat.pow_two, ← Nat.pow_mul, two_Q]
  exact fermat1 prP h
theorem sq_zero {s : Nat} (h : cP ∣ s) : s * s % cP = 0 := Nat.mod_eq_zero_of_dvd (Nat.dvd_trans h (Nat.dvd_mul_right _ _))
/-- exponents count modulo Q -/
theorem pw_mod {a : Nat} (ha : isEl a) (k : Nat) : pw a (k % cQ) = pw a k := by
  unfold pw
  have e : a ^ k = (a ^ cQ) ^ (k / cQ) * a ^ (k % cQ) := by rw [← Nat.pow_mul, ← Nat.pow_add, Nat.div_add_mod]
  rw [e, Nat.mul_mod, Nat.pow_mod (a ^ cQ), ha.2.2, Nat.one_pow]
  have : 1 % cP = 1 := by decide
  rw [this, Nat.one_mul, Nat.mod_mod]
theorem pw_add (a j k : Nat) : pw a j * pw a k % cP = pw a (j + k) := by unfold pw; rw [← Nat.mul_mod, Nat.pow_add]
theorem pw_mul (a j k : Nat) : pw (pw a j) k = pw a (j * k) := by unfold pw; rw [← Nat.pow_mod, Nat.pow_mul]
theorem pw_zero (a : Nat) : pw a 0 = 1 := by unfold pw; rw [Nat.pow_zero]; decide
theorem pw_one {a : Nat} (ha : isEl a) : pw a 1 = a := by unfold pw; rw [Nat.pow_one, Nat.mod_eq_of_lt ha.2.1]
theorem inv_el {a : Nat} (ha : isEl a) : a * pw a (cQ - 1) % cP = 1 := by
  have h : a * pw a (cQ - 1) % cP = pw a 1 * pw a (cQ - 1) % cP := by rw [pw_one ha]
  rw [h, pw_add, show 1 + (cQ - 1) = cQ from by decide]
  exact ha.2.2
/-- roots of 1 -/
theorem root_one {x : Nat} (hx : x < cP) (h : x * x % cP = 1) : x = 1 ∨ x = cP - 1 := by
  have hx0 : x ≠ 0 := by rintro rfl; simp at h
  have h1 : cP ∣ x * x - 1 := Nat.dvd_of_mod_eq_zero (Nat.sub_mod_eq_zero_of_mod_eq (by rw [h]; decide))
  have h2 : x * x - 1 = (x - 1) * (x + 1) := by
    obtain ⟨y, rfl⟩ : ∃ y, x = y + 1 := ⟨x - 1, by omega⟩
    simp only [Nat.add_sub_cancel, Nat.mul_add, Nat.add_mul, Nat.mul_one, Nat.one_mul]; omega
  rw [h2] at h1
  rcases prP.mul h1 with ⟨c, hc⟩ | ⟨c, hc⟩
  · rcases Nat.eq_zero_or_pos c with rfl | h0
    · left; omega
    · have := Nat.le_mul_of_pos_right cP h0; omega
  · right
    have h3 : c = 1 := by
      rcases Nat.lt_trichotomy c 1 with h4 | h4 | h4
      · have : c = 0 := by omega
        subst this; omega
      · exact h4
      · have : cP * 2 ≤ cP * c := Nat.mul_le_mul_left _ h4
        have : 2 ≤ cP := by decide
        omega
    subst h3; omega
theorem euler {a : Nat} (h1 : 1 ≤ a) (h2 : a < cP) : pw a cQ = 1 ∨ pw a cQ = cP - 1 := by
  apply root_one (pw_lt _ _)
  rw [pw_add, show cQ + cQ = cP - 1 from by decide]
  exact fermat1 prP (not_dvd h1 h2)
/-- an odd power of the negative -/
theorem neg_pow {a : Nat} (h2 : a ≤ cP) (j : Nat) : ((cP - a) ^ (2 * j + 1) + a ^ (2 * j + 1)) % cP = 0 := by
  have hsq : (cP - a) * (cP - a) % cP = a * a % cP := by
    obtain ⟨b, hb⟩ : ∃ b, cP = a + b := ⟨cP - a, by omega⟩
    have hb' : cP - a = b := by omega
    rw [hb']
    -- b*b = a*a + (b - a)(b + a): modulo a + b
    have e1 : (b * b + a * cP) % cP = b * b % cP := Nat.add_mul_mod_self_right _ _ _
    have e2 : (a * a + b * cP) % cP = a * a % cP := Nat.add_mul_mod_self_right _ _ _
    rw [← e1, ← e2]
    congr 1
    rw [hb, Nat.mul_add, Nat.mul_add, Nat.mul_comm b a]; omega
  have e : (cP - a) ^ (2 * j + 1) % cP = (a * a) ^ j * (cP - a) % cP := by
    rw [Nat.pow_succ, Nat.pow_mul, Nat.pow_two, Nat.mul_mod, Nat.pow_mod, hsq, ← Nat.pow_mod, ← Nat.mul_mod]
  have e3 : a ^ (2 * j + 1) = (a * a) ^ j * a := by rw [Nat.pow_succ, Nat.pow_mul, Nat.pow_two]
  rw [Nat.add_mod, e, e3, ← Nat.add_mod, ← Nat.mul_add, Nat.sub_add_cancel h2]
  exact Nat.mul_mod_left _ _
/-- of a number and its negative, exactly one is an element -/
theorem halves {a : Nat} (h1 : 1 ≤ a) (h2 : a < cP) : isEl a ↔ ¬ isEl (cP - a) := by
  have hn := neg_pow (Nat.le_of_lt h2) ((cQ - 1) / 2)
  rw [show 2 * ((cQ - 1) / 2) + 1 = cQ from by decide] at hn
  have hs : (pw (cP - a) cQ + pw a cQ) % cP = 0 := by unfold pw; rw [← Nat.add_mod]; exact hn
  have hp1 : 2 < cP := by decide
  rcases euler h1 h2 with h3 | h3 <;> rcases euler (a := cP - a) (by omega) (by omega) with h4 | h4
  · exfalso; rw [h3, h4] at hs; revert hs; decide
  · refine ⟨fun _ hc => ?_, fun _ => ⟨h1, h2, h3⟩⟩
    have := hc.2.2; unfold pw at h4; omega
  · refine ⟨fun hc => ?_, fun hc => absurd ⟨by omega, by omega, h4⟩ hc⟩
    exfalso; have := hc.2.2; unfold pw at h3; omega
  · exfalso; rw [h3, h4] at hs; revert hs; decide
end Go.Proofs.YtmhmenmkgbebcaaDoor
