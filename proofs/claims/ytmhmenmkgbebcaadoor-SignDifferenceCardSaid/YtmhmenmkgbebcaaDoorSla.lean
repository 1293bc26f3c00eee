/- chapter 04: the plain laws of Schnorr's signatures. -/
import Derived.Test.YtmhmenmkgbebcaaDoorNpw
import Derived.Test.YtmhmenmkgbebcaaDoorGex
namespace Go.Proofs.YtmhmenmkgbebcaaDoor
/-- the S of a signature -/
def sigS (k c x : Nat) : Nat := (k + c * x % cQ) % cQ
theorem sigS_lt (k c x : Nat) : sigS k c x < cQ := Nat.mod_lt _ (by decide)
theorem pw4_mod (k : Nat) : pw 4 (k % cQ) = pw 4 k := pw_mod el_four k
theorem sig_eq (k c x : Nat) : pw 4 (sigS k c x) = pw 4 k * pw (pw 4 x) c % cP := by
  unfold sigS
  rw [pw4_mod, ← pw_add, pw4_mod, pw_mul, Nat.mul_comm c x]
theorem pw_cancel {d e : Nat} (h1 : d ≤ e) (he : e < cQ) (h : pw 4 d = pw 4 e) : d = e := by
  rcases Nat.lt_or_ge d e with hlt | hge
  · exfalso
    have hne := pw_ne (a := 4) (k := e - d) el_four (by decide) (by omega) (by omega)
    apply hne
    have hd : e = (e - d) + d := by omega
    have h2 : pw 4 (e - d) * pw 4 d % cP = pw 4 d := by rw [pw_add, ← hd]; exact h.symm
    have hel := pw_el el_four d
    have hi := inv_el hel
    have h3 : pw 4 (e - d) * (pw 4 d * pw (pw 4 d) (cQ - 1) % cP) % cP = pw 4 d * pw (pw 4 d) (cQ - 1) % cP := by
      rw [Nat.mul_mod_mod, ← Nat.mul_assoc, ← Nat.mod_mul_mod, h2]
    rw [hi, Nat.mul_one, Nat.mod_eq_of_lt (pw_lt _ _)] at h3
    exact h3
  · omega
theorem pw4_inj {d e : Nat} (hd : d < cQ) (he : e < cQ) (h : pw 4 d = pw 4 e) : d = e := by
  rcases Nat.le_total d e with h1 | h1
  · exact pw_cancel h1 he h
  · exact (pw_cancel h1 hd h.symm).symm
/-- minus: a difference of scalars -/
def mnS (a b : Nat) : Nat := (a + (cQ - 1) * b % cQ) % cQ
theorem mnS_lt (a b : Nat) : mnS a b < cQ := Nat.mod_lt _ (by decide)
theorem q1 : cQ - 1 + 1 = cQ := by decide
theorem mn_zero (b : Nat) : (b + (cQ - 1) * b) % cQ = 0 := by
  have : b + (cQ - 1) * b = cQ * b := by
    conv => rhs; rw [← q1, Nat.add_mul, Nat.one_mul]
    exact Nat.add_comm _ _
  rw [this]; exact Nat.mul_mod_right _ _
theorem nonce_back {k c x : Nat} (hk : k < cQ) : mnS (sigS k c x) (c * x % cQ) = k := by
  unfold mnS sigS
  simp only [Nat.add_mod_mod, Nat.mod_add_mod, Nat.mul_mod_mod]
  rw [Nat.add_assoc, ← Nat.add_mod_mod k, mn_zero, Nat.add_zero, Nat.mod_eq_of_lt hk]
theorem quot_eq (k1 c1 k2 c2 x : Nat) :
    pw 4 (mnS (sigS k1 c1 x) (sigS k2 c2 x)) = (pw 4 k1 * pw (pw 4 k2) (cQ - 1) % cP) * pw (pw 4 x) (mnS c1 c2) % cP := by
  rw [pw_mul, pw_mul, pw_add, pw_add, ← pw4_mod, ← pw4_mod (_ + _)]
  congr 1
  unfold mnS sigS
  simp only [Nat.add_mod_mod, Nat.mod_add_mod, Nat.mul_mod_mod, Nat.mod_mod]
  rw [show (k1 + k2 * (cQ - 1) + x * ((c1 + (cQ - 1) * c2) % cQ)) % cQ = (k1 + k2 * (cQ - 1) + x * (c1 + (cQ - 1) * c2)) % cQ from by rw [Nat.add_mod, Nat.mul_mod_mod, ← Nat.add_mod]]
  congr 1
  generalize cQ - 1 = q
  rw [Nat.mul_add, Nat.mul_add, Nat.mul_comm k2 q, Nat.mul_comm x c1, Nat.mul_comm c2 x, ← Nat.mul_assoc, ← Nat.mul_assoc, Nat.mul_comm x q]
  omega
end Go.Proofs.YtmhmenmkgbebcaaDoor
