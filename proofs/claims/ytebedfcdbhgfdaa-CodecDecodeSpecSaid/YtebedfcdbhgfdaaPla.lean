/- the plain law of the codec: what is encoded is read back, and what is read was encoded so. -/
import Derived.Test.YtebedfcdbhgfdaaFew
namespace Go.Proofs.Ytebedfcdbhgfdaa
open Go.RowKit

theorem lo_nat (x : Nat) (h : x < 256) : (loDig x).toNat = x := by have := lo_cast x; omega
theorem hi_nat (x : Nat) : (hiDig x).toNat = x % 128 + 128 := by have := hi_cast x; omega
theorem pow_split (k : Nat) : (2 : Nat) ^ (7 * (k + 1)) = 128 * 2 ^ (7 * k) := by rw [show 7 * (k + 1) = 7 + 7 * k from by omega, Nat.pow_add]
theorem digit_sum (u p : Nat) : u % 128 * p + u / 128 * (128 * p) = u * p := by
  have h := Nat.mod_add_div u 128
  calc u % 128 * p + u / 128 * (128 * p) = u % 128 * p + 128 * (u / 128) * p := by rw [← Nat.mul_assoc, Nat.mul_comm (u / 128) 128]
    _ = (u % 128 + 128 * (u / 128)) * p := by rw [Nat.add_mul]
    _ = u * p := by rw [h]

theorem num_read : ∀ (f k u x : Nat) (r : List UInt8), f + k = 9 → u < 128 ^ f * 2 → (k = 0 ∨ u ≠ 0) → rdNum k x (numF f u ++ r) = some (x + u * 2 ^ (7 * k), r)
  | 0, k, u, x, r, hk, hu, h0 => by
    have hu' : u < 2 := by simpa using hu
    have hl := lo_nat u (by omega)
    simp only [numF, List.singleton_append]
    rw [rdNum_end (by rw [hl]; omega) (by omega), hl, Nat.mod_eq_of_lt (by omega)]
  | f + 1, k, u, x, r, hk, hu, h0 => by
    by_cases h : u < 128
    · have hl := lo_nat u (by omega)
      rw [numF, if_pos h]
      simp only [List.singleton_append]
      rw [rdNum_end (by rw [hl]; omega) (by omega), hl, Nat.mod_eq_of_lt (by omega)]
    · have hh := hi_nat u
      rw [numF, if_neg h, List.cons_append, rdNum_on (by rw [hh]; omega) (by omega), hh]
      rw [num_read f (k + 1) (u / 128) _ r (by omega) (by
        rw [Nat.pow_succ] at hu
        exact Nat.div_lt_of_lt_mul (by rw [← Nat.mul_assoc, Nat.mul_comm 128]; exact hu)) (by omega)]
      congr 2
      rw [pow_split, show (u % 128 + 128) % 128 = u % 128 from by omega, Nat.add_assoc, digit_sum]
theorem num_rd (u : Nat) (hu : u < 18446744073709551616) (r : List UInt8) : rdNum 0 0 (num u ++ r) = some (u, r) := by
  have := num_read 9 0 u 0 r rfl (by simpa using hu) (.inl rfl)
  simpa [num] using this

theorem num_sound : ∀ (f k x n : Nat) (l r : List UInt8), f + k = 9 → rdNum k x l = some (n, r) → ∃ u, l = numF f u ++ r ∧ n = x + u * 2 ^ (7 * k) ∧ (k = 0 ∨ u ≠ 0) ∧ u < 128 ^ f * 2
  | f, k, x, n, [], r, hk, h => by simp [rdNum] at h
  | f, k, x, n, c :: t, r, hk, h => by
    by_cases hg : (k = 0 ∨ c.toNat ≠ 0) ∧ (k < 9 ∨ c.toNat ≤ 1)
    case neg => rw [rdNum_bad hg] at h; cases h
    have hlo : c.toNat < 256 := c.toNat_lt
    by_cases hc : c.toNat < 128
    · rw [rdNum_end hg hc, Nat.mod_eq_of_lt hc] at h
      simp at h; obtain ⟨rfl, rfl⟩ := h
      have hcl : loDig c.toNat = c := UInt8.toNat_inj.1 (lo_nat c.toNat hlo)
      refine ⟨c.toNat, ?_, rfl, hg.1, ?_⟩
      · cases f with
        | zero => simp [numF, hcl]
        | succ f => rw [numF, if_pos hc]; simp [hcl]
      · have h1 : 1 ≤ 128 ^ f := Nat.one_le_pow _ _ (by decide)
        cases f with
        | zero => have := hg.2; simp; omega
        | succ f =>
          have h2 : 1 ≤ 128 ^ f := Nat.one_le_pow _ _ (by decide)
          rw [Nat.pow_succ]; omega
    · cases f with
      | zero => have := hg.2; omega
      | succ f =>
        rw [rdNum_on hg hc] at h
        obtain ⟨u, rfl, rfl, hu0, hul⟩ := num_sound f (k + 1) _ n t r (by omega) h
        have hu1 : u ≠ 0 := by omega
        have hd : (c.toNat % 128 + 128 * u) / 128 = u := by omega
        have hm : (c.toNat % 128 + 128 * u) % 128 = c.toNat % 128 := by omega
        have hh : hiDig (c.toNat % 128 + 128 * u) = c := UInt8.toNat_inj.1 (by rw [hi_nat, hm]; omega)
        refine ⟨c.toNat % 128 + 128 * u, ?_, ?_, .inr (by omega), ?_⟩
        · rw [numF, if_neg (by omega), hh, hd, List.cons_append]
        · have := digit_sum (c.toNat % 128 + 128 * u) (2 ^ (7 * k))
          rw [hm, hd] at this
          rw [pow_split, ← this, Nat.add_assoc]
        · rw [Nat.pow_succ]; omega
theorem num_snd {n : Nat} {l r : List UInt8} (h : rdNum 0 0 l = some (n, r)) : l = num n ++ r ∧ n < 18446744073709551616 := by
  obtain ⟨u, h1, h2, _, h4⟩ := num_sound 9 0 0 n l r rfl h
  have : n = u := by simpa using h2
  subst this
  exact ⟨h1, by simpa using h4⟩

theorem sgn_uns (n : Int) (h : I64 n) : sgn (uns n) = n := by unfold I64 at h; unfold sgn uns; split <;> split <;> omega
theorem uns_sgn (u : Nat) : uns (sgn u) = u := by unfold sgn uns; split <;> split <;> omega

theorem num_pos (u : Nat) : 1 ≤ (num u).length := numF_pos 9 u
theorem fm_cases : ∀ x : V, fm x = true → (∃ n, x = .mk 1 n ⟨#[]⟩ []) ∨ (∃ s, x = .mk 2 0 s []) ∨ (∃ l, x = .mk 3 0 ⟨#[]⟩ l ∧ fms l = true)
  | .mk k n s l, h => by
    have he : ∀ s : ByteArray, s.toList.isEmpty = true → s = ⟨#[]⟩ := fun s hs => str_eq (by rw [List.isEmpty_iff.1 hs, ByteArray.toList_eq])
    rw [fm] at h
    split at h
    · rename_i hk; subst hk
      simp only [Bool.and_eq_true] at h
      obtain rfl := he s h.1
      obtain rfl := List.isEmpty_iff.1 h.2
      exact .inl ⟨n, rfl⟩
    · split at h
      · rename_i hk; subst hk
        simp only [Bool.and_eq_true, beq_iff_eq] at h
        obtain ⟨rfl, h2⟩ := h
        obtain rfl := List.isEmpty_iff.1 h2
        exact .inr (.inl ⟨s, rfl⟩)
      · split at h
        · rename_i hk; subst hk
          simp only [Bool.and_eq_true, beq_iff_eq] at h
          obtain ⟨⟨rfl, h2⟩, h3⟩ := h
          obtain rfl := he s h2
          exact .inr (.inr ⟨l, rfl, h3⟩)
        · cases h
theorem fms_cons {x : V} {r : List V} (h : fms (x :: r) = true) : fm x = true ∧ fms r = true := by simpa [fms] using h
/-- an encoding is not much shorter than what it holds -/
theorem enc_lenN (N : Nat) : (∀ x : V, sz x ≤ N → fm x = true → sz x ≤ 13 * (enc x).length ∧ 2 ≤ (enc x).length) := by
  induction N with
  | zero => intro x h; obtain ⟨k, n, s, l⟩ := x; simp [sz] at h
  | succ N ih =>
    intro x hN hf
    have hs : ∀ l : List V, szs l ≤ N → fms l = true → szs l ≤ 13 * (encs l).length ∧ l.length ≤ (encs l).length := by
      intro l
      induction l with
      | nil => intro _ _; simp [szs]
      | cons y r ihr =>
        intro h1 h2
        obtain ⟨h3, h4⟩ := fms_cons h2
        simp only [szs] at h1 ⊢
        have := ih y (by omega) h3
        have := ihr (by omega) h4
        simp only [encs, List.length_append, List.length_cons]; omega
    rcases fm_cases x hf with ⟨n, rfl⟩ | ⟨s, rfl⟩ | ⟨l, rfl, hl⟩
    · have := num_pos (uns n)
      rw [enc_1]
      simp [sz, szs]
      have h0 : (⟨#[]⟩ : ByteArray).size = 0 := rfl
      omega
    · have := num_pos s.size
      have h5 : s.data.toList.length = s.size := by simp
      rw [enc_2]
      simp [sz, szs]
      omega
    · have := num_pos l.length
      have h0 : (⟨#[]⟩ : ByteArray).size = 0 := rfl
      simp only [sz] at hN
      have := hs l (by omega) hl
      rw [enc_3]
      simp [sz]
      omega
theorem enc_len {x : V} (h : fm x = true) : sz x ≤ 13 * (enc x).length ∧ 2 ≤ (enc x).length := enc_lenN (sz x) x (Nat.le_refl _) h
theorem encs_len : ∀ l : List V, fms l = true → l.length ≤ (encs l).length
  | [], _ => by simp
  | x :: r, h => by
    obtain ⟨h1, h2⟩ := fms_cons h
    have := (enc_len h1).2; have := encs_len r h2
    simp only [encs, List.length_append, List.length_cons]; omega

theorem rdLen_enc {n : Nat} (h : n < 18446744073709551616) (r : List UInt8) (hr : n ≤ r.length) : rdLen (num n ++ r) = some (n, r) := by
  unfold rdLen; rw [num_rd n h]; simp [hr]
theorem rdVs_enc (f : List UInt8 → Option (V × List UInt8)) (l : List V) (r : List UInt8) (hf : ∀ x ∈ l, ∀ t, f (enc x ++ t) = some (x, t)) : ∀ k, k ≤ l.length → rdVs f k (encs l ++ r) = some (l.take k, encs (l.drop k) ++ r)
  | 0, _ => by simp [rdVs]
  | k + 1, hk => by
    have h1 := rdVs_enc f l r hf k (by omega)
    have hd : l.drop k = l[k] :: l.drop (k + 1) := List.drop_eq_getElem_cons (by omega)
    rw [hd] at h1
    simp only [encs, List.append_assoc] at h1
    rw [rdVs_some f k _ _ _ _ _ h1 (hf l[k] (List.getElem_mem _) _)]
    congr 2
    rw [List.take_succ_eq_append_getElem (by omega)]
theorem dps_mem : ∀ {l : List V} {x : V}, x ∈ l → dp x ≤ dps l
  | y :: r, x, h => by
    simp only [dps]
    rcases List.mem_cons.1 h with rfl | h
    · omega
    · have := dps_mem h; omega
theorem fms_mem : ∀ {l : List V} {x : V}, fms l = true → x ∈ l → fm x = true
  | y :: r, x, hf, h => by
    obtain ⟨h1, h2⟩ := fms_cons hf
    rcases List.mem_cons.1 h with rfl | h
    · exact h1
    · exact fms_mem h2 h
theorem rdV_enc : ∀ (d : Nat) (x : V), fm x = true → dp x ≤ d → okV x → ∀ r, rdV d (enc x ++ r) = some (x, r) := by
  intro d
  induction d with
  | zero =>
    intro x hf hd hok r
    rcases fm_cases x hf with ⟨n, rfl⟩ | ⟨s, rfl⟩ | ⟨l, rfl, hl⟩
    · obtain ⟨_, hn, _⟩ := hok
      rw [enc_1, List.append_assoc, List.singleton_append, rdV_1, num_rd _ (uns_lt n hn)]
      show some (V.mk 1 (sgn (uns n)) ⟨#[]⟩ [], r) = _
      rw [sgn_uns n hn]
    · obtain ⟨_, _, hs, _⟩ := hok
      unfold maxLen at hs
      rw [enc_2, List.append_assoc, List.append_assoc, List.singleton_append, rdV_2, rdLen_enc (by omega) _ (by simp)]
      simp
    · rw [dp_3] at hd; omega
  | succ d ih =>
    intro x hf hd hok r
    rcases fm_cases x hf with ⟨n, rfl⟩ | ⟨s, rfl⟩ | ⟨l, rfl, hl⟩
    · obtain ⟨_, hn, _⟩ := hok
      rw [enc_1, List.append_assoc, List.singleton_append, rdV_1, num_rd _ (uns_lt n hn)]
      show some (V.mk 1 (sgn (uns n)) ⟨#[]⟩ [], r) = _
      rw [sgn_uns n hn]
    · obtain ⟨_, _, hs, _⟩ := hok
      unfold maxLen at hs
      rw [enc_2, List.append_assoc, List.append_assoc, List.singleton_append, rdV_2, rdLen_enc (by omega) _ (by simp)]
      simp
    · obtain ⟨_, _, _, hll, hoks⟩ := hok
      unfold maxLen at hll
      rw [dp_3] at hd
      rw [enc_3, List.append_assoc, List.append_assoc, List.singleton_append, rdV_3, rdLen_enc (by omega) _ (by have := encs_len l hl; simp; omega)]
      have h1 := rdVs_enc (rdV d) l r (fun x hx t => ih x (fms_mem hl hx) (by have := dps_mem hx; omega) (okVs_mem hoks hx) t) l.length (Nat.le_refl _)
      simp only [h1]
      simp [encs]

theorem rdLen_snd {n : Nat} {l r : List UInt8} (h : rdLen l = some (n, r)) : l = num n ++ r ∧ n < 18446744073709551616 ∧ n ≤ r.length := by
  unfold rdLen at h
  cases hN : rdNum 0 0 l with
  | none => rw [hN] at h; cases h
  | some p =>
    obtain ⟨m, t⟩ := p
    rw [hN] at h
    simp only at h
    split at h
    · rename_i hm
      simp at h; obtain ⟨rfl, rfl⟩ := h
      obtain ⟨h1, h2⟩ := num_snd hN
      exact ⟨h1, h2, hm⟩
    · cases h
theorem encs_append (a b : List V) : encs (a ++ b) = encs a ++ encs b := by
  induction a with
  | nil => simp [encs]
  | cons x r ih => simp [encs, ih]
/-- what a value that was read is good for -/
structure Rd1 (d : Nat) (l : List UInt8) (x : V) (r : List UInt8) : Prop where
  eq : l = enc x ++ r
  fm : fm x = true
  dp : dp x ≤ d
  ok : l.length ≤ maxLen → okV x
theorem dps_append (a : List V) (x : V) : dps (a ++ [x]) = max (dps a) (dp x) := by
  induction a with
  | nil => simp [dps]
  | cons y r ih => simp only [List.cons_append, dps, ih]; omega
theorem fms_append (a : List V) (x : V) : fms (a ++ [x]) = (fms a && Go.Proofs.Ytebedfcdbhgfdaa.fm x) := by
  induction a with
  | nil => simp [fms]
  | cons y r ih => simp only [List.cons_append, fms, ih, Bool.and_assoc]
theorem okVs_append (a : List V) (x : V) (h : okVs a) (hx : okV x) : okVs (a ++ [x]) := by
  induction a with
  | nil => exact ⟨hx, trivial⟩
  | cons y r ih => exact ⟨h.1, ih h.2⟩
theorem rdVs_sound (d : Nat) (ih : ∀ l x r, rdV d l = some (x, r) → Rd1 d l x r) : ∀ (n : Nat) (l : List UInt8) (xs : List V) (r : List UInt8), rdVs (rdV d) n l = some (xs, r) →
    xs.length = n ∧ l = encs xs ++ r ∧ fms xs = true ∧ dps xs ≤ d ∧ (l.length ≤ maxLen → okVs xs)
  | 0, l, xs, r, h => by simp [rdVs] at h; obtain ⟨rfl, rfl⟩ := h; simp [encs, fms, dps, okVs]
  | n + 1, l, xs, r, h => by
    simp only [rdVs] at h
    cases hN : rdVs (rdV d) n l with
    | none => rw [hN] at h; cases h
    | some p =>
      obtain ⟨ys, t⟩ := p
      rw [hN] at h; simp only at h
      cases hM : rdV d t with
      | none => rw [hM] at h; cases h
      | some q =>
        obtain ⟨y, t'⟩ := q
        rw [hM] at h; simp at h
        obtain ⟨rfl, rfl⟩ := h
        obtain ⟨h1, h2, h3, h4, h5⟩ := rdVs_sound d ih n l ys t hN
        obtain ⟨g1, g2, g3, g4⟩ := ih t y t' hM
        refine ⟨by simp [h1], ?_, by rw [fms_append, h3, g2]; rfl, by rw [dps_append]; omega, fun hl => okVs_append _ _ (h5 hl) (g4 ?_)⟩
        · rw [h2, g1, encs_append]; simp [encs]
        · have : t.length ≤ l.length := by rw [h2]; simp
          omega
theorem sound_12 (d : Nat) (c : UInt8) (t : List UInt8) (x : V) (r : List UInt8) (h3 : c ≠ 3) (h : rdV d (c :: t) = some (x, r)) : Rd1 d (c :: t) x r := by
  by_cases h1 : c = 1
  · subst h1
    rw [rdV_1] at h
    cases hN : rdNum 0 0 t with
    | none => rw [hN] at h; cases h
    | some p =>
      obtain ⟨u, t'⟩ := p
      rw [hN] at h; simp at h
      obtain ⟨rfl, rfl⟩ := h
      obtain ⟨e1, e2⟩ := num_snd hN
      refine ⟨?_, by simp [Go.Proofs.Ytebedfcdbhgfdaa.fm, ByteArray.toList_eq], by rw [dp_1]; omega, fun _ => ⟨by unfold I64; omega, sgn_I64 u e2, Nat.zero_le _, Nat.zero_le _, trivial⟩⟩
      rw [enc_1, uns_sgn, e1]; simp
  by_cases h2 : c = 2
  · subst h2
    rw [rdV_2] at h
    cases hN : rdLen t with
    | none => rw [hN] at h; cases h
    | some p =>
      obtain ⟨n, t'⟩ := p
      rw [hN] at h; simp at h
      obtain ⟨rfl, rfl⟩ := h
      obtain ⟨e1, e2, e3⟩ := rdLen_snd hN
      have hsz : (⟨(t'.take n).toArray⟩ : ByteArray).size = n := by simp [ByteArray.size]; omega
      refine ⟨?_, by simp [Go.Proofs.Ytebedfcdbhgfdaa.fm], by rw [dp_2]; omega, fun hl => ⟨by unfold I64; omega, by unfold I64; omega, ?_, Nat.zero_le _, trivial⟩⟩
      · rw [enc_2, hsz, e1]; simp
      · rw [hsz]; simp only [List.length_cons] at hl; rw [e1] at hl; simp at hl; omega
  · rw [rdV_bad d c t h1 h2 h3] at h; cases h
theorem rdV_sound : ∀ (d : Nat) (l : List UInt8) (x : V) (r : List UInt8), rdV d l = some (x, r) → Rd1 d l x r := by
  intro d
  induction d with
  | zero =>
    intro l x r h
    cases l with
    | nil => rw [rdV_nil] at h; cases h
    | cons c t =>
      by_cases h3 : c = 3
      · subst h3; rw [rdV_30] at h; cases h
      · exact sound_12 0 c t x r h3 h
  | succ d ih =>
    intro l x r h
    cases l with
    | nil => rw [rdV_nil] at h; cases h
    | cons c t =>
      by_cases h3 : c = 3
      · subst h3
        rw [rdV_3] at h
        cases hN : rdLen t with
        | none => rw [hN] at h; cases h
        | some p =>
          obtain ⟨n, t'⟩ := p
          rw [hN] at h; simp only at h
          cases hM : rdVs (rdV d) n t' with
          | none => rw [hM] at h; cases h
          | some q =>
            obtain ⟨xs, t''⟩ := q
            rw [hM] at h; simp at h
            obtain ⟨rfl, rfl⟩ := h
            obtain ⟨e1, e2, e3⟩ := rdLen_snd hN
            obtain ⟨g1, g2, g3, g4, g5⟩ := rdVs_sound d ih n t' xs t'' hM
            have hlen : t'.length ≤ (3 :: t).length := by rw [e1]; simp; omega
            refine ⟨?_, by simp [Go.Proofs.Ytebedfcdbhgfdaa.fm, g3, ByteArray.toList_eq], by rw [dp_3]; omega, fun hl => ⟨by unfold I64; omega, by unfold I64; omega, Nat.zero_le _, by omega, g5 (by omega)⟩⟩
            rw [enc_3, g1, e1, g2]; simp
      · exact sound_12 (d + 1) c t x r h3 h

theorem ck_ok {x : V} (h : ck x = 0) : fm x = true ∧ dp x ≤ 16 := by
  unfold ck at h
  by_cases hf : fm x = true
  · rw [if_pos hf] at h
    refine ⟨hf, ?_⟩
    by_cases h16 : 16 < dp x
    · rw [if_pos h16] at h; cases h
    · omega
  · rw [if_neg hf] at h; cases h
theorem ok_ck {x : V} (h1 : fm x = true) (h2 : dp x ≤ 16) : ck x = 0 := by unfold ck; rw [if_pos h1, if_neg (by omega)]
/-- what is encoded is decoded -/
theorem decF_enc {x : V} (h : ck x = 0) (hok : okV x) : decF (enc x) = some x := by
  obtain ⟨h1, h2⟩ := ck_ok h
  have := rdV_enc 16 x h1 h2 hok []
  rw [List.append_nil] at this
  unfold decF; rw [this]
/-- what is decoded was encoded so -/
theorem decF_sound {l : List UInt8} {x : V} (h : decF l = some x) (hl : l.length ≤ maxLen) : enc x = l ∧ ck x = 0 ∧ okV x ∧ sz x ≤ 13 * l.length := by
  unfold decF at h
  cases hN : rdV 16 l with
  | none => rw [hN] at h; cases h
  | some p =>
    obtain ⟨y, r⟩ := p
    rw [hN] at h
    cases r with
    | cons c r => cases h
    | nil =>
      simp at h; subst h
      obtain ⟨e, f, g, o⟩ := rdV_sound 16 l y [] hN
      rw [List.append_nil] at e
      refine ⟨e.symm, ok_ck f g, o hl, ?_⟩
      rw [e]; exact (enc_len f).1
/-- no encoding begins another -/
theorem enc_prefix {x y : V} (hx : ck x = 0) (hy : ck y = 0) (ox : okV x) (oy : okV y) (r s : List UInt8) (h : enc x ++ r = enc y ++ s) : x = y ∧ r = s := by
  have h1 := rdV_enc 16 x (ck_ok hx).1 (ck_ok hx).2 ox r
  have h2 := rdV_enc 16 y (ck_ok hy).1 (ck_ok hy).2 oy s
  rw [h] at h1
  rw [h1] at h2
  simpa using h2
mutual
theorem sm_eq : ∀ x y : V, sm x y = true → x = y
  | .mk k n s l, .mk k2 n2 s2 l2, h => by
    simp only [sm, V.kind, V.n, V.s, V.l, Bool.and_eq_true, beq_iff_eq] at h
    obtain ⟨⟨⟨rfl, rfl⟩, h3⟩, h4⟩ := h
    rw [str_eq h3, sms_eq l l2 h4]
theorem sms_eq : ∀ a b : List V, sms a b = true → a = b
  | [], [], _ => rfl
  | x :: r, y :: t, h => by
    simp only [sms, Bool.and_eq_true] at h
    rw [sm_eq x y h.1, sms_eq r t h.2]
  | [], _ :: _, h => by simp [sms] at h
  | _ :: _, [], h => by simp [sms] at h
end
end Go.Proofs.Ytebedfcdbhgfdaa
