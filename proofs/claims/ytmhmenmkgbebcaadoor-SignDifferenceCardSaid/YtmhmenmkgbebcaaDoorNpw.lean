/- no power of an element other than one, below Q, is one. -/
import Derived.Test.YtmhmenmkgbebcaaDoorNel
namespace Go.Proofs.YtmhmenmkgbebcaaDoor
theorem pow_ne_gen {a p q k : Nat} (hq : Pr q) (h1 : 1 ≤ k) (h2 : k < q) (one : 1 % p = 1) (h4 : a ^ q % p = 1) (hne : a % p ≠ 1) : a ^ k % p ≠ 1 := by
  intro h
  have hc : Nat.gcd k q = 1 := by
    have := hq.coprime (a := k) (fun hd => by have := Nat.le_of_dvd h1 hd; omega)
    rw [Nat.gcd_comm]; exact this
  have h3 := pow_mod_gcd (b := a) (p := p) k q (by rw [h, one]) (by rw [h4, one])
  rw [hc, Nat.pow_one, one] at h3
  exact hne h3
theorem pw_ne {a k : Nat} (ha : isEl a) (hne : a ≠ 1) (h1 : 1 ≤ k) (h2 : k < cQ) : pw a k ≠ 1 :=
  pow_ne_gen prQ h1 h2 (by decide) ha.2.2 (by rw [Nat.mod_eq_of_lt ha.2.1]; exact hne)
end Go.Proofs.YtmhmenmkgbebcaaDoor
