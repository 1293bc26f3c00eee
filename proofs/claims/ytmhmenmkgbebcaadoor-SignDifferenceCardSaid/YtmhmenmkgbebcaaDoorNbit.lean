/- binary digits, the most significant one first; powers by squares. -/
import Derived.Test.YtmhmenmkgbebcaaDoorNel
namespace Go.Proofs.YtmhmenmkgbebcaaDoor

def bitsF : Nat → Nat → List Bool
  | 0, _ => []
  | n + 1, k => bitsF n (k / 2) ++ [k % 2 == 1]
def bval (l : List Bool) : Nat := l.foldl (fun v b => 2 * v + (if b then 1 else 0)) 0
theorem bval_snoc (l : List Bool) (b : Bool) : bval (l ++ [b]) = 2 * bval l + (if b then 1 else 0) := by simp [bval]
theorem bitsF_len : ∀ n k, (bitsF n k).length = n
  | 0, _ => rfl
  | n + 1, k => by simp [bitsF, bitsF_len n]
theorem bval_bitsF : ∀ n k, k < 2 ^ n → bval (bitsF n k) = k
  | 0, k, h => by have : k = 0 := by simpa using h
                  subst this; rfl
  | n + 1, k, h => by
    rw [bitsF, bval_snoc, bval_bitsF n (k / 2) (by rw [Nat.pow_succ] at h; omega)]
    by_cases h1 : k % 2 = 1
    · simp [h1]; omega
    · have : k % 2 = 0 := by omega
      simp [this]; omega
theorem bitsF_get : ∀ n k j, j < n → (bitsF n k)[j]? = some (k / 2 ^ (n - 1 - j) % 2 == 1)
  | 0, _, _, h => by omega
  | n + 1, k, j, h => by
    rw [bitsF]
    by_cases hj : j < n
    · rw [List.getElem?_append_left (by rw [bitsF_len]; exact hj), bitsF_get n (k / 2) j hj, Nat.div_div_eq_div_mul, Nat.mul_comm 2, ← Nat.pow_succ]
      rw [show (n - 1 - j).succ = n + 1 - 1 - j from by omega]
    · obtain rfl : j = n := by omega
      rw [List.getElem?_append_right (by rw [bitsF_len]; omega), bitsF_len]
      simp
theorem pw_step0 (a v : Nat) : pw a v * pw a v % cP = pw a (2 * v) := by rw [pw_add, Nat.two_mul]
theorem pw_step1 (a v : Nat) : pw a (2 * v) * a % cP = pw a (2 * v + 1) := by unfold pw; rw [Nat.mod_mul_mod, ← Nat.pow_succ]
end Go.Proofs.YtmhmenmkgbebcaaDoor
