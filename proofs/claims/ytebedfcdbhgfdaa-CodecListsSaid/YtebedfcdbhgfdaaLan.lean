/- CodecNumbers: the walk. -/
import Derived.Test.YtebedfcdbhgfdaaPla
import Derived.Test.YtebedfcdbhgfdaaLae
namespace Go.Proofs.Ytebedfcdbhgfdaa
open Go.RowKit

theorem numF_mono : ∀ (f u v : Nat), u ≤ v → (numF f u).length ≤ (numF f v).length
  | 0, u, v, h => by simp [numF]
  | f + 1, u, v, h => by
    by_cases hu : u < 128
    · rw [numF, if_pos hu]; exact numF_pos (f + 1) v
    · rw [numF, if_neg hu, numF, if_neg (by omega)]
      have := numF_mono f (u / 128) (v / 128) (by omega)
      simp only [List.length_cons]; omega
def vInt (n : Int) : V := .mk 1 n ⟨#[]⟩ []
theorem vInt_ck (n : Int) : ck (vInt n) = 0 := ok_ck (by simp [vInt, fm, ByteArray.toList_eq]) (by simp [vInt, dp])
theorem vInt_sz (n : Int) : sz (vInt n) ≤ 60000 := by simp only [vInt, sz, szs]; decide
theorem vInt_enc (n : Int) : (enc (vInt n)).length = 1 + (num (uns n)).length := by rw [vInt, enc_1]; simp; omega
theorem rd_vInt {n : Int} (h : I64 n) (B : Nat) (w : World) : RdV B w (vInt n) (.agg #[.int .i64 1, .int .i64 n, .string ⟨#[]⟩, .slice none 0 0]) := ⟨by simp [vInt, V.kind, I64], h, Nat.zero_le _, _, rfl, slV_nil B w⟩
theorem vInt_ok {n : Int} (h : I64 n) : okV (vInt n) := ⟨by unfold I64; omega, h, Nat.zero_le _, Nat.zero_le _, trivial⟩
def szInt (n : Int) : Int := (if ck (vInt n) = 0 then ((enc (vInt n)).length : Int) else 0)
theorem szInt_eq (n : Int) : szInt n = 1 + ((num (uns n)).length : Int) := by unfold szInt; rw [if_pos (vInt_ck n), vInt_enc]; omega
theorem szInt_bd (n : Int) : 2 ≤ szInt n ∧ szInt n ≤ 11 := by
  have h1 := num_pos (uns n); have h2 := numF_len 9 (uns n)
  rw [szInt_eq]; unfold num at *; omega
theorem szInt_mono (a b : Int) (h : uns a ≤ uns b) : szInt a ≤ szInt b := by
  have := numF_mono 9 _ _ h
  rw [szInt_eq, szInt_eq]; unfold num; omega
set_option maxRecDepth 100000 in
set_option maxHeartbeats 4000000 in
theorem numbers_walk (a b : Int) (w : World) (ha0 : I64 a) (hb0 : I64 b) : Calls Try.prog 9 #[.int .i64 a, .int .i64 b] w (BoolPost true w) := by
  have Ha := Lib.hid ha0; have Hb := Lib.hid hb0
  unfold I64 at ha0 hb0
  obtain ⟨ha1, ha2⟩ := ha0
  obtain ⟨hb1', hb2'⟩ := hb0
  obtain ⟨m1, m2⟩ := szInt_bd a
  obtain ⟨n1, n2⟩ := szInt_bd b
  have hcase : (0 ≤ a ∧ a ≤ b ∧ szInt a ≤ szInt b) ∨ (0 ≤ a ∧ b < a) ∨ (a < 0 ∧ b ≤ a ∧ szInt a ≤ szInt b) ∨ (a < 0 ∧ a < b) := by
    by_cases h0 : 0 ≤ a
    · by_cases h1 : a ≤ b
      · exact .inl ⟨h0, h1, szInt_mono a b (by unfold uns; rw [if_pos h0, if_pos (by omega)]; omega)⟩
      · exact .inr (.inl ⟨h0, by omega⟩)
    · by_cases h1 : b ≤ a
      · exact .inr (.inr (.inl ⟨by omega, h1, szInt_mono a b (by unfold uns; rw [if_neg h0, if_neg (by omega)]; omega)⟩))
      · exact .inr (.inr (.inr ⟨by omega, by omega⟩))
  have hM : ∀ n, Hid (szInt n = szInt n) := fun _ => rfl
  obtain ⟨M, hMe⟩ : ∃ M, szInt a = M := ⟨_, rfl⟩
  obtain ⟨N, hNe⟩ : ∃ N, szInt b = N := ⟨_, rfl⟩
  rw [hMe] at m1 m2 hcase
  rw [hNe] at n1 n2 hcase
  have HM := Lib.hid hMe; have HN := Lib.hid hNe
  clear hMe hNe hM
  rcases hcase with ⟨q1, q2, q3⟩ | ⟨q1, q2⟩ | ⟨q1, q2, q3⟩ | ⟨q1, q2⟩
  all_goals
    go_enter Try.func9, Try.ntmps9
    go_wp2_with fail
    refine (sane_any _).mono ?_
    rintro e w1 ⟨rfl, hb1⟩
    go_wp2_with fail
    refine (rInt_any a _).mono ?_
    rintro e w2 ⟨rfl, hb2⟩
    go_wp2_with fail
    refine (size_any (vInt a) (vInt_sz a) _ _ (rd_vInt Ha.out _ _)).mono ?_
    rintro e w3 ⟨rfl, hb3⟩
    rw [vInt_ck a]
    have hme : (if (0 : Int) = 0 then ((enc (vInt a)).length : Int) else 0) = M := by have := HM.out; unfold szInt at this; rw [vInt_ck a] at this; exact this
    rw [hme]
    clear hme
    have hB3 := below_ext (below_ext hb1 hb2) hb3
    clear hb1 hb2 hb3
    go_wp2_with fail
    refine (rInt_any b _).mono ?_
    rintro e w4 ⟨rfl, hb4⟩
    go_wp2_with fail
    refine (size_any (vInt b) (vInt_sz b) _ _ (rd_vInt Hb.out _ _)).mono ?_
    rintro e w5 ⟨rfl, hb5⟩
    rw [vInt_ck b]
    have hne : (if (0 : Int) = 0 then ((enc (vInt b)).length : Int) else 0) = N := by have := HN.out; unfold szInt at this; rw [vInt_ck b] at this; exact this
    rw [hne]
    clear hne
    have hB5 := below_ext (below_ext hB3 hb4) hb5
    clear hB3 hb4 hb5
    go_wp2_with fail
    refine (rInt_any a _).mono ?_
    rintro e w6 ⟨rfl, hb6⟩
    go_wp2_with fail
    refine (encode_any (vInt a) (vInt_sz a) _ _ (rd_vInt Ha.out _ _)).mono ?_
    rintro e w7 ⟨v7, rfl, hv7, hb7⟩
    rw [vInt_ck a] at hv7 ⊢
    rw [if_pos rfl] at hv7
    obtain ⟨oa7, cap7, rfl⟩ := hv7.form
    have Hv7 := Lib.hid hv7
    have hB7 := below_ext (below_ext hB5 hb6) hb7
    clear hB5 hb6 hb7 hv7
    go_wp2_with fail
    refine (decode_rd (enc (vInt a)) (by have := enc_sz (vInt a); have := vInt_sz a; omega) _ _ Hv7.out.bts).mono ?_
    rw [decF_enc (vInt_ck a) (vInt_ok Ha.out)]
    rintro e w8 ⟨oa8, cap8, rfl, hv8, hb8⟩
    have hB8 := below_ext hB7 hb8
    clear hB7 hb8 hv8
    simp only [vInt, V.kind, V.n, V.s, V.l, List.length_nil]
    go_wp2_with fail
    go_ret
    exact ⟨rfl, by repeat (first | exact hB8 | refine Below.alloc ?_ (by have := hB8.size; simp; omega) _)⟩
end Go.Proofs.Ytebedfcdbhgfdaa
