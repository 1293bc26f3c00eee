/- number theory in plain Lean: Fermat's little theorem and Pocklington's test; the two primes. -/
import Derived.KernelRfl
namespace Go.Proofs.YtmhmenmkgbebcaaDoor

/-- a prime number -/
def Pr (n : Nat) : Prop := 2 ≤ n ∧ ∀ d, d ∣ n → d = 1 ∨ d = n

theorem Pr.coprime {p a : Nat} (hp : Pr p) (h : ¬ p ∣ a) : Nat.Coprime p a := by
  rcases hp.2 _ (Nat.gcd_dvd_left p a) with h1 | h1
  · exact h1
  · exact absurd (h1 ▸ Nat.gcd_dvd_right p a) h
theorem Pr.mul {p a b : Nat} (hp : Pr p) (h : p ∣ a * b) : p ∣ a ∨ p ∣ b := by
  by_cases ha : p ∣ a
  · exact .inl ha
  · exact .inr ((hp.coprime ha).dvd_of_dvd_mul_left h)

/-- the numbers of Pascal -/
def pasc : Nat → Nat → Nat
  | _, 0 => 1
  | 0, _ + 1 => 0
  | n + 1, k + 1 => pasc n k + pasc n (k + 1)
theorem pasc_mul : ∀ n k : Nat, (k + 1) * pasc (n + 1) (k + 1) = (n + 1) * pasc n k
  | 0, 0 => by simp [pasc]
  | 0, k + 1 => by simp [pasc]
  | n + 1, 0 => by
    have h := pasc_mul n 0
    simp only [pasc, Nat.zero_add, Nat.one_mul, Nat.mul_one] at h ⊢
    omega
  | n + 1, k + 1 => by
    have h1 := pasc_mul n k
    have h2 := pasc_mul n (k + 1)
    have e1 : pasc (n + 2) (k + 2) = pasc (n + 1) (k + 1) + pasc (n + 1) (k + 2) := rfl
    have e2 : pasc (n + 1) (k + 1) = pasc n k + pasc n (k + 1) := rfl
    rw [show n + 1 + 1 = n + 2 from rfl, show k + 1 + 1 = k + 2 from rfl, e1, Nat.mul_add]
    rw [show k + 1 + 1 = k + 2 from rfl] at h2
    have e3 : (k + 2) * pasc (n + 1) (k + 1) = (k + 1) * pasc (n + 1) (k + 1) + pasc (n + 1) (k + 1) := by rw [show k + 2 = (k + 1) + 1 from rfl, Nat.add_mul, Nat.one_mul]
    rw [e3, h1, h2]
    have e4 : (n + 1) * pasc (n + 1) (k + 1) = (n + 1) * pasc n k + (n + 1) * pasc n (k + 1) := by rw [e2, Nat.mul_add]
    have e5 : (n + 2) * pasc (n + 1) (k + 1) = (n + 1) * pasc (n + 1) (k + 1) + pasc (n + 1) (k + 1) := by rw [show n + 2 = (n + 1) + 1 from rfl, Nat.add_mul, Nat.one_mul]
    rw [e5, e4]; omega
theorem pasc_hi : ∀ n k : Nat, n < k → pasc n k = 0
  | _, 0, h => by omega
  | 0, k + 1, _ => rfl
  | n + 1, k + 1, h => by simp [pasc, pasc_hi n k (by omega), pasc_hi n (k + 1) (by omega)]
theorem pasc_self : ∀ n : Nat, pasc n n = 1
  | 0 => rfl
  | n + 1 => by simp [pasc, pasc_self n, pasc_hi n (n + 1) (by omega)]
def bsum (n a : Nat) : Nat → Nat
  | 0 => 0
  | m + 1 => bsum n a m + pasc n m * a ^ m
theorem bsum_step (n a : Nat) : ∀ m, bsum (n + 1) a (m + 1) = bsum n a (m + 1) + a * bsum n a m
  | 0 => by simp [bsum, pasc]
  | m + 1 => by
    have ih := bsum_step n a m
    rw [bsum, ih]
    have e : pasc (n + 1) (m + 1) = pasc n m + pasc n (m + 1) := rfl
    have e2 : bsum n a (m + 1 + 1) = bsum n a (m + 1) + pasc n (m + 1) * a ^ (m + 1) := rfl
    have e3 : bsum n a (m + 1) = bsum n a m + pasc n m * a ^ m := rfl
    rw [e, e2, Nat.add_mul]
    have e4 : a * bsum n a (m + 1) = a * bsum n a m + pasc n m * a ^ (m + 1) := by
      rw [e3, Nat.mul_add, Nat.pow_succ]
      congr 1
      rw [← Nat.mul_assoc, Nat.mul_comm a, Nat.mul_assoc, Nat.mul_comm a]
    rw [e4]; omega
theorem binomial (a : Nat) : ∀ n, (a + 1) ^ n = bsum n a (n + 1)
  | 0 => by simp [bsum, pasc]
  | n + 1 => by
    rw [Nat.pow_succ, binomial a n, bsum_step]
    have e : bsum n a (n + 1 + 1) = bsum n a (n + 1) := by rw [bsum, pasc_hi n (n + 1) (by omega)]; simp
    rw [e, Nat.mul_add, Nat.mul_one, Nat.mul_comm]
    omega
theorem pasc_dvd {p : Nat} (hp : Pr p) (k : Nat) (h : k + 1 < p) : p ∣ pasc p (k + 1) := by
  obtain ⟨m, rfl⟩ : ∃ m, p = m + 1 := ⟨p - 1, by omega⟩
  have h1 := pasc_mul m k
  have h2 : (m + 1) ∣ (k + 1) * pasc (m + 1) (k + 1) := ⟨_, h1⟩
  rcases hp.mul h2 with h3 | h3
  · exact absurd (Nat.le_of_dvd (by omega) h3) (by omega)
  · exact h3
theorem bsum_mod {p : Nat} (hp : Pr p) (a : Nat) : ∀ m, m < p → bsum p a (m + 1) % p = 1
  | 0, _ => by simp only [bsum, pasc, Nat.pow_zero, Nat.zero_add, Nat.mul_one]; exact Nat.mod_eq_of_lt hp.1
  | m + 1, h => by
    rw [bsum, Nat.add_mod, bsum_mod hp a m (by omega)]
    have h1 : pasc p (m + 1) * a ^ (m + 1) % p = 0 := Nat.mod_eq_zero_of_dvd (Nat.dvd_trans (pasc_dvd hp m h) (Nat.dvd_mul_right _ _))
    rw [h1, Nat.add_zero]
    exact Nat.mod_eq_of_lt hp.1
theorem fermat {p : Nat} (hp : Pr p) : ∀ a, a ^ p % p = a % p
  | 0 => by have := hp.1; rw [Nat.zero_pow (by omega)]
  | a + 1 => by
    obtain ⟨m, hm⟩ : ∃ m, p = m + 1 := ⟨p - 1, by have := hp.1; omega⟩
    have h1 : bsum p a p % p = 1 := by
      have := bsum_mod hp a m (by omega)
      rw [← hm] at this; exact this
    rw [binomial, bsum, pasc_self, Nat.one_mul, Nat.add_mod, h1, fermat hp a, Nat.add_comm 1, Nat.mod_add_mod]
theorem fermat1 {p a : Nat} (hp : Pr p) (h : ¬ p ∣ a) : a ^ (p - 1) % p = 1 := by
  have h1 := fermat hp a
  obtain ⟨m, hm⟩ : ∃ m, p = m + 1 := ⟨p - 1, by have := hp.1; omega⟩
  have ha : 1 ≤ a := by
    rcases Nat.eq_zero_or_pos a with rfl | h0
    · exact absurd (Nat.dvd_zero p) h
    · exact h0
  have hpow : 1 ≤ a ^ m := Nat.one_le_pow _ _ ha
  have h2 : p ∣ a ^ p - a := Nat.dvd_of_mod_eq_zero (Nat.sub_mod_eq_zero_of_mod_eq h1)
  have h3 : a ^ p - a = a * (a ^ m - 1) := by rw [hm, Nat.pow_succ, Nat.mul_comm (a ^ m), Nat.mul_sub, Nat.mul_one]
  rw [h3] at h2
  rcases hp.mul h2 with h4 | ⟨c, hc⟩
  · exact absurd h4 h
  · rw [hm, Nat.add_sub_cancel, show a ^ m = (m + 1) * c + 1 from by rw [← hm]; omega, Nat.mul_add_mod]
    rw [hm] at hp; exact Nat.mod_eq_of_lt hp.1

/-! orders -/
theorem pow_mod_mul {b m p : Nat} (h : b ^ m % p = 1 % p) (n : Nat) : b ^ (m * n) % p = 1 % p := by
  rw [Nat.pow_mul, Nat.pow_mod, h]
  induction n with
  | zero => simp
  | succ n ih =>
    rw [Nat.pow_succ, Nat.mul_mod, ih, Nat.mod_mod, ← Nat.mul_mod, Nat.mul_one]
theorem pow_mod_rest {b m n p : Nat} (h : b ^ n % p = 1 % p) (h2 : b ^ m % p = 1 % p) : b ^ (m % n) % p = 1 % p := by
  have e : b ^ m = b ^ (n * (m / n)) * b ^ (m % n) := by rw [← Nat.pow_add, Nat.div_add_mod]
  rw [e, Nat.mul_mod, pow_mod_mul h, ← Nat.mul_mod, Nat.one_mul] at h2
  exact h2
theorem pow_mod_gcd {b p : Nat} (m n : Nat) : b ^ m % p = 1 % p → b ^ n % p = 1 % p → b ^ (Nat.gcd m n) % p = 1 % p := by
  induction m, n using Nat.gcd.induction with
  | H0 n => intro _ h; simpa using h
  | H1 m n hm ih =>
    intro h1 h2
    rw [Nat.gcd_rec]
    exact ih (pow_mod_rest h1 h2) h1
theorem exists_prime (n : Nat) (h : 2 ≤ n) : ∃ p, Pr p ∧ p ∣ n := by
  induction n using Nat.strongRecOn with
  | ind n ih =>
    by_cases hp : Pr n
    · exact ⟨n, hp, Nat.dvd_refl n⟩
    · have : ∃ d, d ∣ n ∧ d ≠ 1 ∧ d ≠ n := by
        refine Classical.byContradiction fun hc => hp ⟨h, fun d hd => ?_⟩
        by_cases h1 : d = 1
        · exact .inl h1
        · by_cases h2 : d = n
          · exact .inr h2
          · exact absurd ⟨d, hd, h1, h2⟩ hc
      obtain ⟨d, hd, h1, h2⟩ := this
      have hle := Nat.le_of_dvd (by omega) hd
      have h0 : d ≠ 0 := by rintro rfl; have := Nat.eq_zero_of_zero_dvd hd; omega
      obtain ⟨p, hp1, hp2⟩ := ih d (by omega) (by omega)
      exact ⟨p, hp1, Nat.dvd_trans hp2 hd⟩
/-- Pocklington: n - 1 = q * m with a prime q above the root of n -/
theorem pocklington {n q m a : Nat} (hn : 2 ≤ n) (hq : Pr q) (hm : n = q * m + 1) (hs : n < q * q) (h1 : a ^ (q * m) % n = 1) (h2 : Nat.gcd (a ^ m % n - 1) n = 1) : Pr n := by
  have key : ∀ p, Pr p → p ∣ n → q < p := by
    intro p hp hd
    have hb1 : (a ^ m) ^ q % p = 1 % p := by
      rw [← Nat.pow_mul, Nat.mul_comm m q, ← Nat.mod_mod_of_dvd _ hd, h1]
    have hpa : ¬ p ∣ a ^ m := by
      intro hc
      have h3 : (a ^ m) ^ q % p = 0 := by
        obtain ⟨c, hc⟩ := hc
        rw [Nat.pow_mod, hc, Nat.mul_mod_right, Nat.zero_pow (by have := hq.1; omega)]; exact Nat.zero_mod _
      rw [h3, Nat.mod_eq_of_lt hp.1] at hb1; cases hb1
    have hb2 : (a ^ m) ^ (p - 1) % p = 1 % p := by rw [fermat1 hp hpa, Nat.mod_eq_of_lt hp.1]
    have hg := pow_mod_gcd q (p - 1) hb1 hb2
    rcases hq.2 _ (Nat.gcd_dvd_left q (p - 1)) with h3 | h3
    · rw [h3, Nat.pow_one] at hg
      have hx : (a ^ m % n) % p = 1 % p := by rw [Nat.mod_mod_of_dvd _ hd]; exact hg
      have h4 : p ∣ a ^ m % n - 1 := Nat.dvd_of_mod_eq_zero (Nat.sub_mod_eq_zero_of_mod_eq hx)
      have h5 := Nat.dvd_gcd h4 hd
      rw [h2] at h5
      have := Nat.le_of_dvd (by omega) h5; have := hp.1; omega
    · have h4 : q ∣ p - 1 := h3 ▸ Nat.gcd_dvd_right q (p - 1)
      have h5 := hp.1
      have h6 := Nat.le_of_dvd (by omega) h4
      omega
  refine ⟨hn, fun d hd => ?_⟩
  by_cases hd1 : d = 1
  · exact .inl hd1
  by_cases hdn : d = n
  · exact .inr hdn
  exfalso
  obtain ⟨e, he⟩ := hd
  have hd0 : d ≠ 0 := by rintro rfl; omega
  have he0 : e ≠ 0 := by rintro rfl; omega
  have he1 : e ≠ 1 := by rintro rfl; omega
  obtain ⟨p, hp, hpd⟩ := exists_prime d (by omega)
  obtain ⟨p', hp', hpe⟩ := exists_prime e (by omega)
  have k1 := key p hp (Nat.dvd_trans hpd ⟨e, he⟩)
  have k2 := key p' hp' (Nat.dvd_trans hpe ⟨d, by rw [he, Nat.mul_comm]⟩)
  have l1 := Nat.le_of_dvd (by omega) hpd
  have l2 := Nat.le_of_dvd (by omega) hpe
  have : q * q ≤ d * e := Nat.mul_le_mul (by omega) (by omega)
  omega
/-- trial division -/
def noDiv (n : Nat) : Nat → Nat → Bool
  | 0, _ => true
  | f + 1, d => n % d != 0 && noDiv n f (d + 1)
theorem noDiv_spec (n : Nat) : ∀ f d, noDiv n f d = true → ∀ k, d ≤ k → k < d + f → n % k ≠ 0
  | 0, d, _, k, h1, h2 => by omega
  | f + 1, d, h, k, h1, h2 => by
    simp only [noDiv, Bool.and_eq_true, bne_iff_ne] at h
    by_cases hk : k = d
    · rw [hk]; exact h.1
    · exact noDiv_spec n f (d + 1) h.2 k (by omega) (by omega)
theorem trial {n f : Nat} (hn : 2 ≤ n) (h : noDiv n f 2 = true) (hs : n < (f + 2) * (f + 2)) : Pr n := by
  refine ⟨hn, fun d hd => ?_⟩
  by_cases hd1 : d = 1
  · exact .inl hd1
  by_cases hdn : d = n
  · exact .inr hdn
  exfalso
  obtain ⟨e, he⟩ := hd
  have hd0 : d ≠ 0 := by rintro rfl; omega
  have he0 : e ≠ 0 := by rintro rfl; omega
  have he1 : e ≠ 1 := by rintro rfl; omega
  by_cases hdf : d < 2 + f
  · exact noDiv_spec n f 2 h d (by omega) hdf (by rw [he]; exact Nat.mul_mod_right d e)
  by_cases hef : e < 2 + f
  · exact noDiv_spec n f 2 h e (by omega) hef (by rw [he]; exact Nat.mul_mod_left d e)
  have : (f + 2) * (f + 2) ≤ d * e := Nat.mul_le_mul (by omega) (by omega)
  omega
/-- a power modulo a number, by squares; f: so many binary digits -/
def powM (n : Nat) : Nat → Nat → Nat → Nat
  | 0, _, _ => 1 % n
  | f + 1, a, k => if k % 2 = 1 then powM n f (a * a % n) (k / 2) * a % n else powM n f (a * a % n) (k / 2)
theorem powM_eq (n : Nat) : ∀ f a k, k < 2 ^ f → powM n f a k = a ^ k % n
  | 0, a, k, h => by have : k = 0 := by simpa using h
                     subst this; simp [powM]
  | f + 1, a, k, h => by
    have hk : k / 2 < 2 ^ f := by rw [Nat.pow_succ] at h; omega
    have e : (a * a % n) ^ (k / 2) % n = a ^ (2 * (k / 2)) % n := by rw [← Nat.pow_mod, Nat.pow_mul, Nat.pow_two]
    rw [powM, powM_eq n f _ _ hk, e]
    split
    · rename_i h1
      rw [Nat.mod_mul_mod, ← Nat.pow_succ]; congr 2; omega
    · congr 2; omega
def cP : Nat := 4611686018427377339
def cQ : Nat := 2305843009213688669
theorem pr0 : Pr 7930907 := trial (f := 2816) (by decide) (by decide +kernel) (by decide)
/-- the test, ready for the kernel -/
theorem pockM {n q m a : Nat} (f : Nat) (hq : Pr q) (h : (decide (2 ≤ n) && decide (n = q * m + 1) && decide (n < q * q) && decide (q * m < 2 ^ f) && powM n f a (q * m) == 1 && Nat.gcd (powM n f a m - 1) n == 1) = true) : Pr n := by
  simp only [Bool.and_eq_true, decide_eq_true_eq, beq_iff_eq] at h
  obtain ⟨⟨⟨⟨⟨h1, h2⟩, h3⟩, h4⟩, h5⟩, h6⟩ := h
  have hm : m < 2 ^ f := Nat.lt_of_le_of_lt (Nat.le_mul_of_pos_left _ (by have := hq.1; omega)) h4
  rw [powM_eq n f a _ h4] at h5
  rw [powM_eq n f a _ hm] at h6
  exact pocklington h1 hq h2 h3 h5 h6
theorem pr1 : Pr 11864636873 := pockM (m := 1496) (a := 3) 64 pr0 (by decide +kernel)
theorem pr2 : Pr 1732236983459 := pockM (m := 146) (a := 2) 64 pr1 (by decide +kernel)
theorem pr3 : Pr 249442125618097 := pockM (m := 144) (a := 5) 64 pr2 (by decide +kernel)
theorem prQ : Pr cQ := pockM (m := 9244) (a := 2) 64 pr3 (by decide +kernel)
theorem prP : Pr cP := pockM (m := 2) (a := 2) 64 prQ (by decide +kernel)
end Go.Proofs.YtmhmenmkgbebcaaDoor
