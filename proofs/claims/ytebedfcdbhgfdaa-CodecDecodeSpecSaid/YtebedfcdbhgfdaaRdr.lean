/- codec.reader: want, take. -/
import Derived.Test.YtebedfcdbhgfdaaEco
namespace Go.Proofs.Ytebedfcdbhgfdaa
open Go.RowKit

/-- bytes in blocks below B -/
def BtsAt (B : Nat) (w : World) (l : List UInt8) (v : Value) : Prop :=
  (l = [] ∧ ∃ oa cap, v = .slice oa 0 cap ∧ cap ≤ maxLen) ∨ (l ≠ [] ∧ ∃ b off cap, v = .slice (some ⟨b, off, none⟩) l.length cap ∧ l.length ≤ cap ∧ cap ≤ maxLen ∧ b < B ∧ ∀ j c, l[j]? = some c → w.cell? ⟨b, off + j, none⟩ = some (.int .u8 (c.toNat : Int)))
theorem BtsAt.keep {B B' : Nat} {w w' : World} {l : List UInt8} {v : Value} (h : BtsAt B w l v) (hB : B ≤ B') (hs : ∀ k, k < B → w'.heap[k]? = w.heap[k]?) : BtsAt B' w' l v := by
  rcases h with h | ⟨hne, b, off, cap, h1, h2, h3, h4, h5⟩
  · exact .inl h
  · exact .inr ⟨hne, b, off, cap, h1, h2, h3, Nat.lt_of_lt_of_le h4 hB, fun j c hj => by rw [World.cell?_of_block (w := w) (hs _ h4)]; exact h5 j c hj⟩

theorem BtsAt.mk' {B : Nat} {w : World} {l : List UInt8} {b off cap n : Nat} (hn : n = l.length) (h2 : l.length ≤ cap) (h3 : cap ≤ maxLen) (h4 : b < B) (h5 : ∀ j c, l[j]? = some c → w.cell? ⟨b, off + j, none⟩ = some (.int .u8 (c.toNat : Int))) : BtsAt B w l (.slice (some ⟨b, off, none⟩) n cap) := by
  subst hn
  by_cases h : l = []
  · subst h; exact .inl ⟨rfl, _, cap, rfl, h3⟩
  · exact .inr ⟨h, b, off, cap, rfl, h2, h3, h4, h5⟩
theorem BtsAt.form {B : Nat} {w : World} {l : List UInt8} {v : Value} (h : BtsAt B w l v) : ∃ oa cap, v = .slice oa l.length cap ∧ l.length ≤ cap ∧ cap ≤ maxLen := by
  rcases h with ⟨rfl, oa, cap, rfl, h⟩ | ⟨_, b, off, cap, rfl, h2, h3, _⟩
  · exact ⟨oa, cap, rfl, Nat.zero_le _, h⟩
  · exact ⟨_, cap, rfl, h2, h3⟩
theorem RdB.bts {w : World} {l : List UInt8} {v : Value} (h : RdB w v l) : BtsAt w.heap.size w l v := by
  rcases h with ⟨rfl, rfl⟩ | ⟨⟨b, off, sp⟩, cap, rfl, hs, h2, h3, h4⟩
  · exact .inl ⟨rfl, none, 0, rfl, Nat.zero_le _⟩
  · by_cases hl : l = []
    · subst hl; exact .inl ⟨rfl, _, cap, rfl, h3⟩
    · rcases hs with hs | hs
      · exact absurd hs hl
      · have hsp : sp = none := hs
        subst hsp
        have hc : ∀ j c, l[j]? = some c → w.cell? ⟨b, off + j, none⟩ = some (.int .u8 (c.toNat : Int)) := fun j c hj => by
          have := h4 j (.int .u8 (c.toNat : Int)) (by simp [bcells, hj])
          have hplain : (⟨b, off, none⟩ : Addr).add j = ⟨b, off + j, none⟩ := by unfold Addr.add; split <;> simp_all
          rw [hplain] at this; exact this
        obtain ⟨c, hc0⟩ : ∃ c, l[0]? = some c := by cases l with | nil => exact absurd rfl hl | cons c _ => exact ⟨c, rfl⟩
        exact .inr ⟨hl, b, off, cap, rfl, h2, h3, World.block_lt_of_cell? w ⟨b, off + 0, none⟩ (hc 0 c hc0), hc⟩
/-- the panic of want -/
def badChain : List PanicEntry := [{ v := .iface 28 (.int .i64 10), recovered := false }]

set_option maxHeartbeats 1000000 in
theorem want_true (p : Value) (w : World) : Calls Try.prog 33 #[p, .bool true] w fun e w' => e = .returned (.tuple #[]) ∧ w = w' := by
  go_enter Try.func33, Try.ntmps33
  go_wp2
  go_end0
  exact ⟨rfl, rfl⟩
set_option maxHeartbeats 1000000 in
theorem want_false (p : Value) (w : World) : Calls Try.prog 33 #[p, .bool false] w fun e w' => e = .panicked badChain ∧ w = w' := by
  go_enter Try.func33, Try.ntmps33
  go_wp2
  exact ⟨rfl, rfl, rfl⟩

/-- the reader in memory: what is left to be read -/
structure RdrAt (B : Nat) (w : World) (R : Nat) (l : List UInt8) : Prop where
  le : B ≤ R
  free : w.frozen? ⟨R, 0, none⟩ = false
  rest : ∃ v, w.cell? ⟨R, 0, none⟩ = some v ∧ BtsAt B w l v

def TakePost (B : Nat) (R : Nat) (l : List UInt8) (n : Nat) (w : World) (e : Ending) (w' : World) : Prop :=
  ∃ v v', e = .returned v ∧ BtsAt B w (l.take n) v ∧ BtsAt B w (l.drop n) v' ∧ w' = w.setCell ⟨R, 0, none⟩ v'

set_option maxRecDepth 100000 in
set_option maxHeartbeats 1000000 in
theorem take_ok (B R : Nat) (l : List UInt8) (n : Nat) (ni : Int) (hni : ni = (n : Int)) (w : World) (hr : RdrAt B w R l) (hn : n ≤ l.length) (hl : l.length ≤ 1000000) :
    Calls Try.prog 44 #[.pointer (some ⟨R, 0, none⟩), .int .i64 ni] w (TakePost B R l n w) := by
  subst hni
  obtain ⟨hle, hfr, v, hv, hb⟩ := hr
  rcases hb with ⟨rfl, oa, cap, rfl, hcm⟩ | ⟨hne, b, off, cap, rfl, h2, h3, h4, h5⟩
  · obtain rfl : n = 0 := by simpa using hn
    go_enter Try.func44, Try.ntmps44
    go_wp2_with (go_at_call 33; refine (want_true _ _).mono ?_; rintro e w' ⟨rfl, rfl⟩)
    all_goals go_ret
    all_goals exact ⟨_, _, rfl, .inl ⟨rfl, _, _, rfl, by first | exact hcm | simp⟩, .inl ⟨rfl, _, _, rfl, by first | exact hcm | simp⟩, by first | rfl | simp⟩
  · have H5 := Lib.hid h5; clear h5
    go_enter Try.func44, Try.ntmps44
    go_wp2_with (go_at_call 33; refine (want_true _ _).mono ?_; rintro e w' ⟨rfl, rfl⟩)
    all_goals go_ret
    · have hnl : n = l.length := by omega
      refine ⟨_, _, rfl, BtsAt.mk' (by simp; omega) (by simp; omega) (by omega) h4 (fun j c hj => H5.out j c ?_), BtsAt.mk' (by simp) (by simp; omega) (by omega) h4 (fun j c hj => ?_), rfl⟩
      · rw [List.getElem?_take] at hj; split at hj
        · exact hj
        · cases hj
      · rw [List.getElem?_drop, List.getElem?_eq_none (by omega)] at hj; cases hj
    · refine ⟨_, _, rfl, BtsAt.mk' (by simp; omega) (by simp; omega) (by omega) h4 (fun j c hj => H5.out j c ?_), BtsAt.mk' (by simp) (by simp; omega) (by omega) h4 (fun j c hj => ?_), rfl⟩
      · rw [List.getElem?_take] at hj; split at hj
        · exact hj
        · cases hj
      · rw [Nat.add_assoc]; exact H5.out (n + j) c (by simpa using hj)
end Go.Proofs.Ytebedfcdbhgfdaa
