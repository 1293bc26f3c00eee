/- Parts of the proofs of chapter 49's laws: Ndiv Nt Nel Nbit. -/
import Derived.KernelRfl
namespace Go.Proofs.YtdblnbnofjggnaaGreatDoor
def cW:Nat:=4294967296
structure Dg (y yn1 yn0 u32 u1 q r:Nat):Prop where
 hy:y = yn1 * cW + yn0
 h1:2147483648 ≤ yn1
 h2:yn1 < cW
 h3:yn0 < cW
 h4:u32 < y
 h5:u1 < cW
 h6:q * yn1 + r = u32
 h7:(u32 * cW + u1) / y ≤ q
 h8:q ≤ cW + 1
 h9:r < cW
theorem Dg.mk0 {y yn1 yn0 u32 u1:Nat} (hy:y = yn1 * cW + yn0) (h1:2147483648 ≤ yn1) (h2:yn1 < cW) (h3:yn0 < cW) (h4:u32 < y) (h5:u1 < cW):Dg y yn1 yn0 u32 u1 (u32 / yn1) (u32 % yn1):=by
 have hdm:=Nat.div_add_mod u32 yn1
 have hr:=Nat.mod_lt u32 (show 0 < yn1 by omega)
 have hq:u32 / yn1 ≤ cW + 1:=by
  have:u32 < (cW + 2) * yn1:=by rw [Nat.add_mul];rw [Nat.mul_comm cW];unfold cW at *;omega
  have:=(Nat.div_lt_iff_lt_mul (show 0 < yn1 by omega)).2 this
  omega
 refine ⟨hy,h1,h2,h3,h4,h5,by rw [Nat.mul_comm];exact hdm,?_,hq,by omega⟩
 have hy0:0 < y:=by omega
 have:(u32 * cW + u1) / y < u32 / yn1 + 1:=by
  rw [Nat.div_lt_iff_lt_mul hy0,hy,Nat.mul_add]
  have e:(u32 / yn1 + 1) * (yn1 * cW) = (yn1 * (u32 / yn1) + yn1) * cW:=by rw [← Nat.mul_assoc,Nat.add_mul,Nat.one_mul,Nat.mul_comm yn1]
  rw [e]
  have h:(u32 + 1) * cW ≤ (yn1 * (u32 / yn1) + yn1) * cW:=Nat.mul_le_mul_right _ (by omega)
  rw [Nat.add_mul,Nat.one_mul] at h
  omega
 omega
theorem Dg.mul {y yn1 yn0 u32 u1 q r:Nat} (h:Dg y yn1 yn0 u32 u1 q r):q * y + r * cW = u32 * cW + q * yn0:=by
 have:=h.h6
 rw [h.hy,Nat.mul_add,← Nat.mul_assoc,← this,Nat.add_mul];omega
theorem Dg.down {y yn1 yn0 u32 u1 q r:Nat} (h:Dg y yn1 yn0 u32 u1 q r) (hc:cW ≤ q∨cW * r + u1 < q * yn0):1 ≤ q∧(q - 1) * yn1 + (r + yn1) = u32∧(u32 * cW + u1) / y ≤ q - 1:=by
 have hm:=h.mul
 have hy0:0 < y:=by have:=h.hy;have:=h.h1;unfold cW at *;omega
 have hlt:u32 * cW + u1 < q * y:=by
  rcases hc with hc | hc
  · have h1:cW * y ≤ q * y:=Nat.mul_le_mul_right _ hc
    have h2:(u32 + 1) * cW ≤ y * cW:=Nat.mul_le_mul_right _ h.h4
    rw [Nat.add_mul,Nat.one_mul] at h2
    rw [Nat.mul_comm cW] at h1
    have:=h.h5;omega
  · rw [Nat.mul_comm cW] at hc;omega
 have hq:1 ≤ q:=by
  rcases Nat.eq_zero_or_pos q with rfl | h0
  · simp at hlt
  · exact h0
 refine ⟨hq,?_,?_⟩
 · obtain ⟨q',rfl⟩:∃ q',q = q' + 1:=⟨q - 1,by omega⟩
   have:=h.h6
   rw [Nat.add_mul,Nat.one_mul] at this
   simp only [Nat.add_sub_cancel];omega
 · have:=(Nat.div_lt_iff_lt_mul hy0).2 hlt
   omega
theorem Dg.next {y yn1 yn0 u32 u1 q r:Nat} (h:Dg y yn1 yn0 u32 u1 q r) (hc:cW ≤ q∨cW * r + u1 < q * yn0) (hr:r + yn1 < cW):Dg y yn1 yn0 u32 u1 (q - 1) (r + yn1):=by
 obtain ⟨h1,h2,h3⟩:=h.down hc
 exact ⟨h.hy,h.h1,h.h2,h.h3,h.h4,h.h5,h2,h3,by have:=h.h8;omega,hr⟩
theorem Dg.stop {y yn1 yn0 u32 u1 q r:Nat} (h:Dg y yn1 yn0 u32 u1 q r) (hc:¬ (cW ≤ q∨cW * r + u1 < q * yn0)):q = (u32 * cW + u1) / y:=by
 have hm:=h.mul
 have hy0:0 < y:=by have:=h.hy;have:=h.h1;unfold cW at *;omega
 have hle:q * y ≤ u32 * cW + u1:=by rw [Nat.mul_comm cW] at hc;omega
 have:=(Nat.le_div_iff_mul_le hy0).2 hle
 have:=h.h7;omega
theorem Dg.broke {y yn1 yn0 u32 u1 q r:Nat} (h:Dg y yn1 yn0 u32 u1 q r) (hc:cW ≤ q∨cW * r + u1 < q * yn0) (hr:cW ≤ r + yn1):q - 1 = (u32 * cW + u1) / y:=by
 obtain ⟨h1,h2,h3⟩:=h.down hc
 have hy0:0 < y:=by have:=h.hy;have:=h.h1;unfold cW at *;omega
 have hle:(q - 1) * y ≤ u32 * cW + u1:=by
  have e:(q - 1) * y + (r + yn1) * cW = u32 * cW + (q - 1) * yn0:=by
   have:=h.hy
   rw [this,Nat.mul_add,← Nat.mul_assoc,← h2,Nat.add_mul ((q - 1) * yn1)];omega
  have k1:(q - 1) * yn0 ≤ cW * yn0:=Nat.mul_le_mul_right _ (by have:=h.h8;omega)
  have k2:cW * yn0 ≤ cW * cW:=Nat.mul_le_mul_left _ (by have:=h.h3;omega)
  have k3:cW * cW ≤ (r + yn1) * cW:=Nat.mul_le_mul_right _ hr
  omega
 have:=(Nat.le_div_iff_mul_le hy0).2 hle
 omega
theorem Dg.fits {y yn1 yn0 u32 u1 q r:Nat} (h:Dg y yn1 yn0 u32 u1 q r):q * yn0 < 18446744073709551616:=by
 have h1:q * yn0 ≤ (cW + 1) * yn0:=Nat.mul_le_mul_right _ h.h8
 have h2:(cW + 1) * yn0 ≤ (cW + 1) * (cW - 1):=Nat.mul_le_mul_left _ (by have:=h.h3;omega)
 have h3:(cW + 1) * (cW - 1) < 18446744073709551616:=by decide
 omega
def k2f (n:Nat):Nat→Nat→Nat→Nat
 | 0,_,_=>1 % n
 | f + 1,a,k=>if k % 2 = 1 then k2f n f (a * a % n) (k / 2) * a % n else k2f n f (a * a % n) (k / 2)
theorem x7v (n:Nat):∀ f a k,k < 2 ^ f→k2f n f a k = a ^ k % n
 | 0,a,k,h=>by
   have:k = 0:=by simpa using h
   subst this;simp [k2f]
 | f + 1,a,k,h=>by
  have hk:k / 2 < 2 ^ f:=by rw [Nat.pow_succ] at h;omega
  have e:(a * a % n) ^ (k / 2) % n = a ^ (2 * (k / 2)) % n:=by rw [← Nat.pow_mod,Nat.pow_mul,Nat.pow_two]
  rw [k2f,x7v n f _ _ hk,e]
  split
  · rename_i h1
    rw [Nat.mod_mul_mod,← Nat.pow_succ];congr 2;omega
  · congr 2;omega
def cP:Nat:=4611686018427377339
def cQ:Nat:=2305843009213688669
def z4t (x:Nat):Prop:=1 ≤ x∧x < cP∧x ^ cQ % cP = 1
instance (x:Nat):Decidable (z4t x):=inferInstanceAs (Decidable (_∧_∧_))
theorem y1r:0 < cP:=by decide
def pw (a k:Nat):Nat:=a ^ k % cP
theorem j2v (a k:Nat):pw a k < cP:=Nat.mod_lt _ y1r
theorem z7u {x:Nat} (h:¬ cP ∣ x):1 ≤ x % cP:=by
 rcases Nat.eq_zero_or_pos (x % cP) with h0 | h0
 · exact absurd (Nat.dvd_of_mod_eq_zero h0) h
 · exact h0
theorem k3f {x:Nat} (h:x ^ cQ % cP = 1):z4t (x % cP):=by
 have hd:¬ cP ∣ x:=by
  intro hc
  obtain ⟨c,rfl⟩:=hc
  rw [Nat.pow_mod,Nat.mul_mod_right,Nat.zero_pow (by decide),Nat.zero_mod] at h
  cases h
 exact ⟨z7u hd,Nat.mod_lt _ y1r,by rw [← Nat.pow_mod];exact h⟩
theorem x1b {a:Nat} (ha:z4t a) (k:Nat):z4t (pw a k):=by
 apply k3f
 rw [← Nat.pow_mul,Nat.mul_comm,Nat.pow_mul,Nat.pow_mod,ha.2.2,Nat.one_pow];decide
theorem k4f {a:Nat} (ha:z4t a) (k:Nat):pw a (k % cQ) = pw a k:=by
 unfold pw
 have e:a ^ k = (a ^ cQ) ^ (k / cQ) * a ^ (k % cQ):=by rw [← Nat.pow_mul,← Nat.pow_add,Nat.div_add_mod]
 rw [e,Nat.mul_mod,Nat.pow_mod (a ^ cQ),ha.2.2,Nat.one_pow]
 have:1 % cP = 1:=by decide
 rw [this,Nat.one_mul,Nat.mod_mod]
theorem j8q (a j k:Nat):pw a j * pw a k % cP = pw a (j + k):=by unfold pw;rw [← Nat.mul_mod,Nat.pow_add]
theorem k5f (a j k:Nat):pw (pw a j) k = pw a (j * k):=by unfold pw;rw [← Nat.pow_mod,Nat.pow_mul]
theorem j3v (a:Nat):pw a 0 = 1:=by unfold pw;rw [Nat.pow_zero];decide
def z8s:Nat→Nat→List Bool
 | 0,_=>[]
 | n + 1,k=>z8s n (k / 2) ++ [k % 2 == 1]
def x8v (l:List Bool):Nat:=l.foldl (fun v b=>2 * v + (if b then 1 else 0)) 0
theorem y2r (l:List Bool) (b:Bool):x8v (l ++ [b]) = 2 * x8v l + (if b then 1 else 0):=by simp [x8v]
theorem z1l:∀ n k,(z8s n k).length = n
 | 0,_=>rfl
 | n + 1,k=>by simp [z8s,z1l n]
theorem y2h:∀ n k,k < 2 ^ n→x8v (z8s n k) = k
 | 0,k,h=>by
   have:k = 0:=by simpa using h
   subst this;rfl
 | n + 1,k,h=>by
  rw [z8s,y2r,y2h n (k / 2) (by rw [Nat.pow_succ] at h;omega)]
  by_cases h1:k % 2 = 1
  · simp [h1];omega
  · have:k % 2 = 0:=by omega
    simp [this];omega
theorem y3r:∀ n k j,j < n→(z8s n k)[j]? = some (k / 2 ^ (n - 1 - j) % 2 == 1)
 | 0,_,_,h=>by omega
 | n + 1,k,j,h=>by
  rw [z8s]
  by_cases hj:j < n
  · rw [List.getElem?_append_left (by rw [z1l];exact hj),y3r n (k / 2) j hj,Nat.div_div_eq_div_mul,Nat.mul_comm 2,← Nat.pow_succ]
    rw [show (n - 1 - j).succ = n + 1 - 1 - j from by omega]
  · obtain rfl:j = n:=by omega
    rw [List.getElem?_append_right (by rw [z1l];omega),z1l]
    simp
theorem j0k (a v:Nat):pw a v * pw a v % cP = pw a (2 * v):=by rw [j8q,Nat.two_mul]
theorem j1k (a v:Nat):pw a (2 * v) * a % cP = pw a (2 * v + 1):=by unfold pw;rw [Nat.mod_mul_mod,← Nat.pow_succ]
end Go.Proofs.YtdblnbnofjggnaaGreatDoor
