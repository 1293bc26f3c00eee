/- codec.numeral appends the digits of a number to a slice of bytes of the call's own. -/
import Derived.Test.YtebedfcdbhgfdaaMem
namespace Go.Proofs.Ytebedfcdbhgfdaa
open Go.RowKit

theorem lo_cast (x : Nat) : ((loDig x).toNat : Int) = ((x % 256 : Nat) : Int) := by simp [loDig, Nat.toUInt8]
theorem hi_cast (x : Nat) : ((hiDig x).toNat : Int) = (((x % 128 + 128) % 256 : Nat) : Int) := by simp [hiDig, Nat.toUInt8]
theorem low_or (y : Nat) : bits BinOp.or IntKind.u8 ((y : Int) % 256) 128 = ((hiDig y).toNat : Int) := by
  have h := or128 ⟨y % 256, Nat.mod_lt _ (by decide)⟩
  simp only at h
  rw [hi_cast]
  have e : ((y : Int) % 256) = ((y % 256 : Nat) : Int) := by omega
  rw [e, h]; congr 1; omega
theorem cell_alloc_one (w : World) (v : Value) (t : TypeId) (l : List Value) (hl : l = [v]) : ∀ (j : Nat) (u : Value), l[j]? = some u → (w.alloc (.cells #[v] t)).cell? ((⟨w.heap.size, 0, none⟩ : Addr).add j) = some u := by
  subst hl
  intro j u hu
  match j, hu with
  | 0, hu => simp at hu; subst hu; simp [Addr.add]
theorem numF_more (f y : Nat) (h : ¬ y < 128) : numF (f + 1) y = [hiDig y] ++ numF f (y / 128) := by simp [numF, h]
theorem numF_end (f y : Nat) (h : y < 128) : numF f y = [loDig y] := by cases f <;> simp [numF, h]
theorem bcells_sing (c : UInt8) (x : Int) (h : x = (c.toNat : Int)) : bcells [c] = [Value.int .u8 x] := by subst h; rfl

/-- the post of numeral -/
def NumPost (base : Nat) (v : Value) (l : List UInt8) (w : World) (e : Ending) (w' : World) : Prop := ∃ v', e = .returned v' ∧ OwnB 5 w' base v' l ∧ w.grownBy w' v.ownBlock ∧ Next w v v'
/-- the relation of numeral's loop -/
def NumRel (base : Nat) (v0 : Value) (out : List UInt8) (w : World) (b x : Value) (wr : World) : Prop :=
  ∃ (k : Nat) (pr : List UInt8) (y : Nat), y < 128 ^ (k + 1) ∧ x = .int .u64 y ∧ OwnB 5 wr base b pr ∧ out = pr ++ numF k y ∧ pr.length + k ≤ 100000000020 ∧ w.grownBy wr v0.ownBlock ∧ Next w v0 b ∧ base ≤ wr.heap.size

set_option maxRecDepth 100000 in
set_option maxHeartbeats 400000 in
theorem numeral_any (base : Nat) (v : Value) (pre : List UInt8) (u : Nat) (hu : Hid (u < 18446744073709551616)) (w : World) (hown : OwnB 5 w base v pre) (hsz : pre.length ≤ 100000000000) (hbase : base ≤ w.heap.size) :
    Calls Try.prog 38 #[v, .int .u64 u] w (NumPost base v (pre ++ num u) w) := by
  go_enter Try.func38, Try.ntmps38
  go_wp2
  go_loopw [0, 1] (fun b x wr => NumRel base v (pre ++ num u) w b x wr) (fun _ x _ => (intOf x).toNat)
  case atStart => exact ⟨9, pre, u, Nat.lt_of_lt_of_le hu.out (by decide), rfl, hown, rfl, by omega, grown_refl _ _, Next.refl _ _, hbase⟩
  case round =>
    obtain ⟨k, pr, y, hy, rfl, hown', heq, hlen, hg, hn, hb⟩ := hrel
    have Heq := Lib.hid heq; have Hy := Lib.hid hy; clear heq hy
    by_cases h : y < 128
    · go_wp2_with (at_builtin; refine wpList_append_b (e := 5) Try.underlying27 (by kernel_rfl) rfl _ _ rfl base _ pr rfl (hown'.alloc _) ⟨wr.heap.size, 0, none⟩ 1 [loDig y] rfl ?c1 ?c2 ?c3 ?_)
      case c1 => refine cell_alloc_one _ _ _ _ (bcells_sing _ _ ?_); rw [lo_cast]; omega
      case c2 => simp; omega
      case c3 => simp; omega
      intro v' w1 ho2 hg2 hn2
      go_wp2
      go_ret
      refine ⟨_, rfl, ?_, grown_trans (grown_alloc hg _) hg2 hn, hn.trans (grown_alloc hg _).size hn2⟩
      rw [Heq.out, numF_end _ _ h]; exact ho2
    · go_wp2_with (at_builtin; refine wpList_append_b (e := 5) Try.underlying27 (by kernel_rfl) rfl _ _ rfl base _ pr rfl (hown'.alloc _) ⟨wr.heap.size, 0, none⟩ 1 [hiDig y] rfl ?c1 ?c2 ?c3 ?_)
      case c1 => exact cell_alloc_one _ _ _ _ (bcells_sing _ _ (low_or y))
      case c2 => simp; omega
      case c3 => simp; omega
      intro v' w1 ho2 hg2 hn2
      go_wp2
      go_roundw
      case rel =>
        obtain ⟨k', rfl⟩ : ∃ k', k = k' + 1 := ⟨k - 1, by
          rcases k with _ | k
          · have := Hy.out; simp at this; omega
          · rfl⟩
        refine ⟨k', _, y / 128, ?_, ?_, ho2, ?_, ?_, grown_trans (grown_alloc hg _) hg2 hn, hn.trans (grown_alloc hg _).size hn2, ?_⟩
        · have := Hy.out; rw [Nat.pow_succ] at this; exact Nat.div_lt_of_lt_mul (by omega)
        · go_num
        · rw [Heq.out, numF_more _ _ h, List.append_assoc]
        · simp; omega
        · have := hg2.size; simp at this; omega
      case measure => simp [intOf]; omega
end Go.Proofs.Ytebedfcdbhgfdaa
