/- group: digits, power. -/
import Derived.Test.YtmhmenmkgbebcaaDoorGti
namespace Go.Proofs.YtmhmenmkgbebcaaDoor
open Go.RowKit Go.Shelf

attribute [local go_sem] Oper.semAt_some

set_option maxRecDepth 100000 in
set_option maxHeartbeats 1000000 in
theorem digits_any (k : Nat) (w : World) : Calls Tryd.prog 59 #[.int .u64 k] w fun e w' => e = .returned (.func (.func 65) #[] #[.pointer (some ⟨w.heap.size, 0, none⟩)]) ∧ w' = w.alloc (.cells #[.int .u64 k] 50) := by
  have hmf : ∀ (fn : Fn) (first cap : Array Value) (w : World), (Instr.makeFunc fn first cap).run Tryd.prog w = .ok (.func fn first cap) w := fun _ _ _ _ => rfl
  go_enter Tryd.func59, Tryd.ntmps59
  go_wp2
  go_ret
  exact ⟨rfl, rfl⟩

/-- the digits that are read when c rounds are over -/
theorem bitsF_take (n k c : Nat) (h : c < n) : (bitsF n k).take (c + 1) = (bitsF n k).take c ++ [k / 2 ^ (n - 1 - c) % 2 == 1] := by
  rw [List.take_add_one, bitsF_get n k c h]; rfl
theorem and_one (d : Nat) (h : d < 18446744073709551616) : bits .and .u64 (d : Int) 1 = ((d % 2 : Nat) : Int) := by
  have := bits_and_u64_nat d 1 h (by decide)
  rw [Nat.and_one_is_mod] at this
  exact this

/-- the box of the iterator lies as it lay -/
def SameAt (Bk : Nat) (A B : World) : Prop := B.heap[Bk]? = A.heap[Bk]?
theorem SameAt.trans {Bk : Nat} {A B C : World} (h : SameAt Bk A B) (h2 : SameAt Bk B C) : SameAt Bk A C := Eq.trans h2 h
set_option maxRecDepth 100000 in
set_option maxHeartbeats 2000000 in
theorem digits1_in (n : Nat) (hn : 1 ≤ n) (l Bk k : Nat) (hk : Hid (k < 18446744073709551616)) (J Jx : List Bool → World → Prop)
    (hY : ∀ pre x W, J pre W → pre.length < Lib.bitLen k → YieldAt Fence.wide (n - 1) Tryd.prog l #[.bool x] W fun e W' =>
      (e = .returned (.bool true) ∧ J (pre ++ [x]) W' ∧ SameAt Bk W W') ∨ (e = .returned (.bool false) ∧ Jx (pre ++ [x]) W'))
    (W : World) (hc : W.cell? ⟨Bk, 0, none⟩ = some (.int .u64 k)) (h0 : J [] W) :
    CallsIn Fence.wide n Tryd.prog 65 #[.func (.yield l) #[] #[], .pointer (some ⟨Bk, 0, none⟩)] W fun e W' => (∃ v, e = .returned v) ∧
      ((∃ ys, ys = bitsF (Lib.bitLen k) k ∧ J ys W') ∨ (∃ pre, (pre <+: bitsF (Lib.bitLen k) k) ∧ Jx pre W')) := by
  have hlen := (bitLen_lt k hk.out).2
  refine callsIn_of_wp Tryd.func65 rfl trivial ?_ rfl
  simp only [Tryd.ntmps65, List.size_toArray, List.length_cons, List.length_nil, Nat.reduceAdd, Nat.reduceSub, Array.replicate_succ, Array.replicate_zero, List.push_toArray, List.append_toArray, List.nil_append, List.cons_append]
  have HY := Lib.hid hY; clear hY
  gi_wp2_with (refine ⟨trivial, ?_⟩; gi_at_call 66; refine (callsIn_wide.2 (bits_Len64 (k : Int) _ (by omega) (by have := hk.out; omega))).mono ?_; rintro e w' ⟨rfl, hw⟩; obtain rfl := hw.symm)
  obtain ⟨L, hL⟩ : ∃ L, Lib.bitLen k = L := ⟨_, rfl⟩
  rw [hL] at hlen HY ⊢
  have HL := Lib.hid hL; clear hL
  gi_loopw [3] (fun i wr => ∃ (c : Nat) (z : Int), c ≤ L ∧ i = .int .i64 z ∧ Hid (z = (L : Int) - 1 - (c : Int)) ∧ J ((bitsF L k).take c) wr ∧ SameAt Bk W wr) (fun i _ => (intOf i + 1).toNat)
  case atStart => exact ⟨0, _, Nat.zero_le _, rfl, (by show _ = _; omega), by simpa using h0, (rfl : SameAt Bk W W)⟩
  case round =>
    obtain ⟨c, z, hcl, rfl, hz, hJ, hb⟩ := hrel
    have hkc : wr.cell? ⟨Bk, 0, none⟩ = some (.int .u64 k) := (World.cell?_of_block (w := W) (show wr.heap[Bk]? = W.heap[Bk]? from hb)).trans hc
    by_cases hlt : c < L
    case neg =>
      have hz' : z < 0 := by have := hz.out; omega
      gi_wp2
      go_end0
      exact ⟨⟨_, rfl⟩, .inl ⟨_, rfl, by rw [List.take_of_length_le (by rw [bitsF_len]; omega)] at hJ; rw [HL.out]; exact hJ⟩⟩
    case pos =>
      obtain ⟨j, hj⟩ : ∃ j : Nat, z = (j : Int) := ⟨L - 1 - c, by have := hz.out; omega⟩
      subst hj
      have hjL : L - 1 - c = j := by have := hz.out; omega
      have hj63 : (j : Int) ≤ 63 := by omega
      obtain ⟨d, hd⟩ : ∃ d, k / 2 ^ j = d := ⟨_, rfl⟩
      have hdk : d < 18446744073709551616 := by rw [← hd]; exact Nat.lt_of_le_of_lt (Nat.div_le_self _ _) hk.out
      have g1 : (k : Int) / 2 ^ j = (d : Int) := by rw [← hd, Int.natCast_ediv, Int.natCast_pow]; rfl
      have g2 := and_one d hdk
      have Ht := Lib.hid (bitsF_take L k c hlt)
      have Hd := Lib.hid hd
      have HjL := Lib.hid hjL
      clear hdk hd hjL
      rcases Nat.mod_two_eq_zero_or_one d with hm | hm
      all_goals
        have Hm := Lib.hid hm
        rw [hm] at g2
        clear hm
      · obtain ⟨fn, tmps, assign, body, hy, hR⟩ := HY.out _ false wr hJ (by rw [List.length_take, bitsF_len]; omega)
        gi_wp2
        refine hR.mono ?_
        rintro e W3 (⟨rfl, hJ3, hk3⟩ | ⟨rfl, hJx3⟩)
        · gi_wp2
          have ht := Ht.out
          rw [HjL.out, Hd.out, Hm.out] at ht
          refine ⟨⟨c + 1, _, by omega, rfl, (by show _ = _; have := hz.out; omega), by rw [ht]; exact hJ3, hb.trans hk3⟩, by simp [intOf] <;> omega⟩
        · gi_wp2
          refine bodyPost_ret (results_none rfl _ _ _) rfl ?_
          have ht := Ht.out
          rw [HjL.out, Hd.out, Hm.out] at ht
          exact ⟨⟨_, rfl⟩, .inr ⟨_, List.take_prefix (c + 1) _, by rw [HL.out, ht]; exact hJx3⟩⟩
      · obtain ⟨fn, tmps, assign, body, hy, hR⟩ := HY.out _ true wr hJ (by rw [List.length_take, bitsF_len]; omega)
        gi_wp2
        refine hR.mono ?_
        rintro e W3 (⟨rfl, hJ3, hk3⟩ | ⟨rfl, hJx3⟩)
        · gi_wp2
          have ht := Ht.out
          rw [HjL.out, Hd.out, Hm.out] at ht
          refine ⟨⟨c + 1, _, by omega, rfl, (by show _ = _; have := hz.out; omega), by rw [ht]; exact hJ3, hb.trans hk3⟩, by simp [intOf] <;> omega⟩
        · gi_wp2
          refine bodyPost_ret (results_none rfl _ _ _) rfl ?_
          have ht := Ht.out
          rw [HjL.out, Hd.out, Hm.out] at ht
          exact ⟨⟨_, rfl⟩, .inr ⟨_, List.take_prefix (c + 1) _, by rw [HL.out, ht]; exact hJx3⟩⟩
end Go.Proofs.YtmhmenmkgbebcaaDoor
