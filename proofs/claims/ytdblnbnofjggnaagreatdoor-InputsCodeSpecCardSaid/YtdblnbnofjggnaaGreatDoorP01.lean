/- Parts of the proofs of chapter 49's laws. -/
import Derived.KernelRfl
set_option linter.all false
namespace Go.Proofs.YtdblnbnofjggnaaGreatDoor
def cW:Nat:=4294967296
structure Dg (y aJ bN u32 u1 q r:Nat):Prop where
 hy:y=aJ * cW+bN
 h1:2147483648≤aJ
 h2:aJ<cW
 h3:bN<cW
 h4:u32<y
 h5:u1<cW
 h6:q * aJ+r=u32
 h7:(u32 * cW+u1) / y≤q
 h8:q≤cW+1
 h9:r<cW
theorem Dg.mk0 {y aJ bN u32 u1:Nat} (hy:y=aJ * cW+bN) (h1:2147483648≤aJ) (h2:aJ<cW) (h3:bN<cW) (h4:u32<y) (h5:u1<cW):Dg y aJ bN u32 u1 (u32 / aJ) (u32 % aJ):=by
 have hdm:=Nat.div_add_mod u32 aJ
 have hr:=Nat.mod_lt u32 (show 0<aJ by omega)
 have hq:u32 / aJ≤cW+1:=by
  have:u32<(cW+2) * aJ:=by rw [Nat.add_mul];rw [Nat.mul_comm cW];unfold cW at *;omega
  have:=(Nat.div_lt_iff_lt_mul (show 0<aJ by omega)).2 this
  omega
 refine ⟨hy,h1,h2,h3,h4,h5,by rw [Nat.mul_comm];exact hdm,?_,hq,by omega⟩
 have hy0:0<y:=by omega
 have:(u32 * cW+u1) / y<u32 / aJ+1:=by
  rw [Nat.div_lt_iff_lt_mul hy0,hy,Nat.mul_add]
  have e:(u32 / aJ+1) * (aJ * cW)=(aJ * (u32 / aJ)+aJ) * cW:=by rw [← Nat.mul_assoc,Nat.add_mul,Nat.one_mul,Nat.mul_comm aJ]
  rw [e]
  have h:(u32+1) * cW≤(aJ * (u32 / aJ)+aJ) * cW:=Nat.mul_le_mul_right _ (by omega)
  rw [Nat.add_mul,Nat.one_mul] at h
  omega
 omega
theorem Dg.mul {y aJ bN u32 u1 q r:Nat} (h:Dg y aJ bN u32 u1 q r):q * y+r * cW=u32 * cW+q * bN:=by
 have:=h.h6
 rw [h.hy,Nat.mul_add,← Nat.mul_assoc,← this,Nat.add_mul];omega
theorem Dg.down {y aJ bN u32 u1 q r:Nat} (h:Dg y aJ bN u32 u1 q r) (hc:cW≤q∨cW * r+u1<q * bN):1≤q∧(q - 1) * aJ+(r+aJ)=u32∧(u32 * cW+u1) / y≤q - 1:=by
 have hm:=h.mul
 have hy0:0<y:=by have:=h.hy;have:=h.h1;unfold cW at *;omega
 have hlt:u32 * cW+u1<q * y:=by
  rcases hc with hc|hc
  ·have h1:cW * y≤q * y:=Nat.mul_le_mul_right _ hc
   have h2:(u32+1) * cW≤y * cW:=Nat.mul_le_mul_right _ h.h4
   rw [Nat.add_mul,Nat.one_mul] at h2
   rw [Nat.mul_comm cW] at h1
   have:=h.h5;omega
  ·rw [Nat.mul_comm cW] at hc;omega
 have hq:1≤q:=by
  rcases Nat.eq_zero_or_pos q with rfl|h0
  ·simp at hlt
  ·exact h0
 refine ⟨hq,?_,?_⟩
 ·obtain ⟨q',rfl⟩:∃ q',q=q'+1:=⟨q - 1,by omega⟩
  have:=h.h6
  rw [Nat.add_mul,Nat.one_mul] at this
  simp only [Nat.add_sub_cancel];omega
 ·have:=(Nat.div_lt_iff_lt_mul hy0).2 hlt
  omega
theorem Dg.next {y aJ bN u32 u1 q r:Nat} (h:Dg y aJ bN u32 u1 q r) (hc:cW≤q∨cW * r+u1<q * bN) (hr:r+aJ<cW):Dg y aJ bN u32 u1 (q - 1) (r+aJ):=by
 obtain ⟨h1,h2,h3⟩:=h.down hc
 exact ⟨h.hy,h.h1,h.h2,h.h3,h.h4,h.h5,h2,h3,by have:=h.h8;omega,hr⟩
theorem Dg.stop {y aJ bN u32 u1 q r:Nat} (h:Dg y aJ bN u32 u1 q r) (hc:¬ (cW≤q∨cW * r+u1<q * bN)):q=(u32 * cW+u1) / y:=by
 have hm:=h.mul
 have hy0:0<y:=by have:=h.hy;have:=h.h1;unfold cW at *;omega
 have hle:q * y≤u32 * cW+u1:=by rw [Nat.mul_comm cW] at hc;omega
 have:=(Nat.le_div_iff_mul_le hy0).2 hle
 have:=h.h7;omega
theorem Dg.broke {y aJ bN u32 u1 q r:Nat} (h:Dg y aJ bN u32 u1 q r) (hc:cW≤q∨cW * r+u1<q * bN) (hr:cW≤r+aJ):q - 1=(u32 * cW+u1) / y:=by
 obtain ⟨h1,h2,h3⟩:=h.down hc
 have hy0:0<y:=by have:=h.hy;have:=h.h1;unfold cW at *;omega
 have hle:(q - 1) * y≤u32 * cW+u1:=by
  have e:(q - 1) * y+(r+aJ) * cW=u32 * cW+(q - 1) * bN:=by
   have:=h.hy
   rw [this,Nat.mul_add,← Nat.mul_assoc,← h2,Nat.add_mul ((q - 1) * aJ)];omega
  have k1:(q - 1) * bN≤cW * bN:=Nat.mul_le_mul_right _ (by have:=h.h8;omega)
  have k2:cW * bN≤cW * cW:=Nat.mul_le_mul_left _ (by have:=h.h3;omega)
  have k3:cW * cW≤(r+aJ) * cW:=Nat.mul_le_mul_right _ hr
  omega
 have:=(Nat.le_div_iff_mul_le hy0).2 hle
 omega
theorem Dg.fits {y aJ bN u32 u1 q r:Nat} (h:Dg y aJ bN u32 u1 q r):q * bN<18446744073709551616:=by
 have h1:q * bN≤(cW+1) * bN:=Nat.mul_le_mul_right _ h.h8
 have h2:(cW+1) * bN≤(cW+1) * (cW - 1):=Nat.mul_le_mul_left _ (by have:=h.h3;omega)
 have h3:(cW+1) * (cW - 1)<18446744073709551616:=by decide
 omega
def k5m (n:Nat):Nat→Nat→Nat→Nat
 | 0,_,_=>1 % n
 | f+1,a,k=>if k % 2=1 then k5m n f (a * a % n) (k / 2) * a % n else k5m n f (a * a % n) (k / 2)
theorem x3z (n:Nat):∀ f a k,k<2 ^ f→k5m n f a k=a ^ k % n
 | 0,a,k,h=>by
   have:k=0:=by simpa using h
   subst this;simp [k5m]
 | f+1,a,k,h=>by
  have hk:k / 2<2 ^ f:=by rw [Nat.pow_succ] at h;omega
  have e:(a * a % n) ^ (k / 2) % n=a ^ (2 * (k / 2)) % n:=by rw [← Nat.pow_mod,Nat.pow_mul,Nat.pow_two]
  rw [k5m,x3z n f _ _ hk,e]
  split
  ·rename_i h1
   rw [Nat.mod_mul_mod,← Nat.pow_succ];congr 2;omega
  ·congr 2;omega
def cP:Nat:=4611686018427377339
def cQ:Nat:=2305843009213688669
def y7k (x:Nat):Prop:=1≤x∧x<cP∧x ^ cQ % cP=1
instance (x:Nat):Decidable (y7k x):=inferInstanceAs (Decidable (_∧_∧_))
theorem j4w:0<cP:=by decide
def pw (a k:Nat):Nat:=a ^ k % cP
theorem k8a (a k:Nat):pw a k<cP:=Nat.mod_lt _ j4w
theorem z5w {x:Nat} (h:¬ cP ∣ x):1≤x % cP:=by
 rcases Nat.eq_zero_or_pos (x % cP) with h0|h0
 ·exact absurd (Nat.dvd_of_mod_eq_zero h0) h
 ·exact h0
theorem k6m {x:Nat} (h:x ^ cQ % cP=1):y7k (x % cP):=by
 have hd:¬ cP ∣ x:=by
  intro hc
  obtain ⟨c,rfl⟩:=hc
  rw [Nat.pow_mod,Nat.mul_mod_right,Nat.zero_pow (by decide),Nat.zero_mod] at h
  cases h
 exact ⟨z5w hd,Nat.mod_lt _ j4w,by rw [← Nat.pow_mod];exact h⟩
theorem x4z {a:Nat} (ha:y7k a) (k:Nat):y7k (pw a k):=by
 apply k6m
 rw [← Nat.pow_mul,Nat.mul_comm,Nat.pow_mul,Nat.pow_mod,ha.2.2,Nat.one_pow];decide
theorem k7m {a:Nat} (ha:y7k a) (k:Nat):pw a (k % cQ)=pw a k:=by
 unfold pw
 have e:a ^ k=(a ^ cQ) ^ (k / cQ) * a ^ (k % cQ):=by rw [← Nat.pow_mul,← Nat.pow_add,Nat.div_add_mod]
 rw [e,Nat.mul_mod,Nat.pow_mod (a ^ cQ),ha.2.2,Nat.one_pow]
 have:1 % cP=1:=by decide
 rw [this,Nat.one_mul,Nat.mod_mod]
theorem j5w (a j k:Nat):pw a j * pw a k % cP=pw a (j+k):=by unfold pw;rw [← Nat.mul_mod,Nat.pow_add]
theorem k8m (a j k:Nat):pw (pw a j) k=pw a (j * k):=by unfold pw;rw [← Nat.pow_mod,Nat.pow_mul]
theorem k9a (a:Nat):pw a 0=1:=by unfold pw;rw [Nat.pow_zero];decide
def z4u:Nat→Nat→List Bool
 | 0,_=>[]
 | n+1,k=>z4u n (k / 2)++[k % 2 == 1]
def x5z (l:List Bool):Nat:=l.foldl (fun v b=>2 * v+(if b then 1 else 0)) 0
theorem y8t (l:List Bool) (b:Bool):x5z (l++[b])=2 * x5z l+(if b then 1 else 0):=by simp [x5z]
theorem z0m:∀ n k,(z4u n k).length=n
 | 0,_=>rfl
 | n+1,k=>by simp [z4u,z0m n]
theorem y8k:∀ n k,k<2 ^ n→x5z (z4u n k)=k
 | 0,k,h=>by
   have:k=0:=by simpa using h
   subst this;rfl
 | n+1,k,h=>by
  rw [z4u,y8t,y8k n (k / 2) (by rw [Nat.pow_succ] at h;omega)]
  by_cases h1:k % 2=1
  ·simp [h1];omega
  ·have:k % 2=0:=by omega
   simp [this];omega
theorem y9t:∀ n k j,j<n→(z4u n k)[j]? = some (k / 2 ^ (n - 1 - j) % 2 == 1)
 | 0,_,_,h=>by omega
 | n+1,k,j,h=>by
  rw [z4u]
  by_cases hj:j<n
  ·rw [List.getElem?_append_left (by rw [z0m];exact hj),y9t n (k / 2) j hj,Nat.div_div_eq_div_mul,Nat.mul_comm 2,← Nat.pow_succ]
   rw [show (n - 1 - j).succ=n+1 - 1 - j from by omega]
  ·obtain rfl:j=n:=by omega
   rw [List.getElem?_append_right (by rw [z0m];omega),z0m]
   simp
theorem j5p (a v:Nat):pw a v * pw a v % cP=pw a (2 * v):=by rw [j5w,Nat.two_mul]
theorem j6p (a v:Nat):pw a (2 * v) * a % cP=pw a (2 * v+1):=by unfold pw;rw [Nat.mod_mul_mod,← Nat.pow_succ]
end Go.Proofs.YtdblnbnofjggnaaGreatDoor
