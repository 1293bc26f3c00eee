/- Merged: Tlg Tlh. -/
import Derived.Test.YtbonebmboolemaaDoorK35
import Derived.RangeFuncBound
import Derived.RangeFuncCalls
import Derived.RangeFuncFrom
import Derived.RangeFuncLeaves
import Derived.RangeFuncNested
import Derived.TacticsInMore
import Derived.LoopNIn
import Derived.LoopIn
/- commitment.leaves$1: the iterator. -/
namespace Go.Proofs.YtbonebmboolemaaDoor
open Go.RowKit
attribute [local go_sem] Oper.semAt_some
/-- what a round keeps: the blocks below one, and another -/
def KpL (S0 Bt : Nat) (A B : World) : Prop := (∀ k, k < S0 → B.heap[k]? = A.heap[k]?) ∧ B.heap[Bt]? = A.heap[Bt]?
theorem KpL.trans {S0 Bt : Nat} {A B C : World} (h : KpL S0 Bt A B) (h2 : KpL S0 Bt B C) : KpL S0 Bt A C := ⟨fun k hk => (h2.1 k hk).trans (h.1 k hk), h2.2.trans h.2⟩
theorem KpL.refl {S0 Bt : Nat} {A : World} : KpL S0 Bt A A := ⟨fun _ _ => rfl, rfl⟩
theorem KpL.below {S0 Bt : Nat} {A B : World} (h : Below A.heap.size A B) (h1 : S0 ≤ A.heap.size) (h2 : Bt < A.heap.size) : KpL S0 Bt A B := ⟨fun k hk => h.block k (by omega), h.block _ h2⟩
set_option maxRecDepth 100000 in
set_option maxHeartbeats 4000000 in
theorem leaves1_in (n : Nat) (hn : 1 ≤ n) (l S0 Bt : Nat) (t : Tab) (r : Tb) (J Jx : List Dg → World → Prop) (W : World) (hJ : AbidesFrom W.heap.size J)
    (hY : ∀ pre x W1, J pre W1 → pre.length < t.costs.length → YieldAt Fence.wide (n - 1) Tryd.prog l #[dv x.1] W1 fun e W' =>
      (e = .returned (.bool true) ∧ J (pre ++ [x]) W' ∧ KpL S0 Bt W1 W') ∨ (e = .returned (.bool false) ∧ Jx (pre ++ [x]) W'))
    (hL : Laid W) (hg : 1 < S0 ∧ 0 < S0) (hB : CB W Bt 31 r.cells) (hc : LsAt nuK S0 W t.costs r.cv) (ha : r.air = t.air) (hf : r.fl = t.fl) (hs : r.salt = t.salt) (hI : TabI t) (hSB : S0 ≤ Bt) (h0 : J [] W) :
    CallsIn Fence.wide n Tryd.prog 72 #[.func (.yield l) #[] #[], .pointer (some ⟨Bt, 0, none⟩)] W fun e W' => (∃ v, e = .returned v) ∧
      ((∃ ys, ys = leavesT t ∧ J ys W') ∨ (∃ pre, (pre <+: leavesT t) ∧ Jx pre W')) := by
  refine callsIn_of_wp Tryd.func72 rfl trivial ?_ rfl
  simp only [Tryd.ntmps72, List.size_toArray, List.length_cons, List.length_nil, Nat.reduceAdd, Nat.reduceSub, Array.replicate_succ, Array.replicate_zero, List.push_toArray, List.append_toArray, List.nil_append, List.cons_append]
  have HY := Lib.hid hY; have HJ := Lib.hid hJ; have HL := Lib.hid hL; have HC := Lib.hid hc; have HI := Lib.hid hI; have HG := Lib.hid hg
  have HB := Lib.hid hB
  obtain ⟨c1, c2, c3⟩ := tb_cell hB
  obtain ⟨oa, m, cap, hcv⟩ : ∃ a b c, r.cv = .slice a b c := ⟨_, _, _, rfl⟩
  rw [hcv] at c3 HC
  have hm : m = t.costs.length := by
    obtain ⟨_, _, he, _⟩ := HC.out.shape
    injection he with _ e2 _
  subst hm
  have bm : (t.costs.length : Int) ≤ 64 := by have := hI.few; omega
  clear hY hJ hL hc hI hB hg
  gi_wp2_with fail
  gi_loopw [8] (fun i wr => ∃ k : Nat, k ≤ t.costs.length ∧ i = .int .i64 (k : Int) ∧ J ((leavesT t).take k) wr ∧ KpL S0 Bt W wr) (fun i _ => t.costs.length - natOf i)
  case atStart => exact ⟨0, Nat.zero_le _, rfl, by simpa using h0, KpL.refl⟩
  case round =>
    obtain ⟨k, hk, rfl, hj, hkp⟩ := hrel
    have HJk := Lib.hid hj; have HK := Lib.hid hkp
    clear hj hkp c1 c2 c3
    by_cases hlt : k < t.costs.length
    case neg =>
      obtain rfl : k = t.costs.length := by omega
      have tj : decide ((t.costs.length : Int) < (t.costs.length : Int)) = false := by simp
      gi_wp2
      go_end0
      exact ⟨⟨_, rfl⟩, .inl ⟨_, rfl, by have := HJk.out; rwa [List.take_of_length_le (by rw [leavesT_len]; exact Nat.le_refl _)] at this⟩⟩
    case pos =>
    have tj : decide ((k : Int) < (t.costs.length : Int)) = true := by simp; omega
    have tj' : decide (k < t.costs.length) = true := by simp; omega
    have kb : (k : Int) < (t.costs.length : Int) := by omega
    have hBk : CB wr Bt 31 r.cells := HB.out.keep HK.out.2
    obtain ⟨c1, c2, c3⟩ := tb_cell hBk
    rw [ha] at c1; rw [hf] at c2; rw [hcv] at c3
    have hq := tb_salt hBk
    rw [hs] at hq
    have Q := Lib.hid hq
    have hck := HC.out.keep (w' := wr) (Nat.le_refl S0) HK.out.1
    obtain ⟨c, hcx⟩ : ∃ c, t.costs[k]? = some c := ⟨_, List.getElem?_eq_getElem hlt⟩
    obtain ⟨b, off, rfl, _, hat⟩ := hck.at hlt
    have c5 := hat k c hcx 0 _ rfl
    have c5 : wr.cell? ⟨b, off + k, none⟩ = some (.int .i64 c) := by simpa [nuK] using c5
    have hLr : Laid wr := HL.out.keep (HK.out.1 _ HG.out.1) (HK.out.1 _ HG.out.2)
    have hb4 := Lib.hid (b_al (w := wr) (.cells #[.int .i64 t.air, .int .i64 t.fl, .int .i64 (k : Int), .int .i64 c] 3))
    have hcb : CB (wr.alloc (.cells #[.int .i64 t.air, .int .i64 t.fl, .int .i64 (k : Int), .int .i64 c] 3)) wr.heap.size 3 (nuK.flat [t.air, t.fl, (k : Int), c]) := cb_one wr _ _ _ rfl
    have hIx : ∀ y ∈ [t.air, t.fl, (k : Int), c], I64 y := by
      intro y hy
      simp only [List.mem_cons, List.not_mem_nil, or_false] at hy
      rcases hy with rfl | rfl | rfl | rfl
      · exact HI.out.air
      · exact HI.out.fl
      · unfold I64; omega
      · obtain ⟨q1, q2⟩ := List.getElem?_eq_some_iff.1 hcx
        exact HI.out.cs _ (by rw [← q2]; exact List.getElem_mem q1)
    have hcl := Lib.hid (cleaf_any t.salt [t.air, t.fl, (k : Int), c] (.slice (some ⟨wr.heap.size, 0, none⟩) 4 4) _ (ls_block 4 hcb rfl (by unfold maxLen; omega)) hIx (by simp) (hLr.ext hb4.out))
    have hlx := leavesT_at hcx
    obtain ⟨x, hx⟩ : ∃ x, leafX t.salt [t.air, t.fl, (k : Int), c] = x := ⟨_, rfl⟩
    rw [hx] at hcl hlx
    have hts := Lib.hid (take_snocI hlx)
    have Hsl := Lib.hid t.salt.2
    clear hcb hIx hlx hx hck hat hcx hLr hq hBk
    gi_wp2_with (first
      | (with_reducible refine fin_load_mid rfl 29 (.tmp 14) rfl Bt 3 rfl (bcells t.salt.1) _ Q.out Tryd.underlying29 rfl (by rw [bcells_length, Hsl.out]; exact dig_sz) ?_)
      | (refine ⟨trivial, ?_⟩; gi_at_call 42; refine (callsIn_wide.2 hcl.out).mono ?_; go_loud (rintro e w2 ⟨rfl, hb2⟩)))
    have hw2 : wr.grownBy w2 none := by
      have h1 := (World.grownBy_alloc wr (.cells #[.int .i64 t.air, .int .i64 t.fl, .int .i64 (k : Int), .int .i64 c] 3) none)
      exact ⟨hb2.os.trans h1.os, hb2.tape.trans h1.tape, hb2.output.trans h1.output, Nat.le_trans h1.size hb2.size, fun g hg hne => (hb2.block g (Nat.lt_of_lt_of_le hg h1.size)).trans (h1.block g hg hne)⟩
    have hbw : Below wr.heap.size wr w2 := below_ext hb4.out hb2
    have hj2 := HJ.out _ wr w2 none HJk.out hw2 (fun r e => by cases e)
    have hBt : Bt < wr.heap.size := by have := (HB.out.keep (w' := wr) HK.out.2).lt; exact this
    have hk2 : KpL S0 Bt W w2 := HK.out.trans (KpL.below hbw (by omega) hBt)
    have Hk2 := Lib.hid hk2
    obtain ⟨fn, tmps, assign, body, hy, hR⟩ := HY.out _ x w2 hj2 (by rw [List.length_take, leavesT_len]; omega)
    clear hb2 hw2 hbw hj2 hBt hk2 c1 c2 c3 c5
    rw [hy, Oper.uponIn_round]
    refine ⟨fun _ => hn, hR.mono ?_⟩
    rintro e W3 (⟨rfl, hJ3, hk3⟩ | ⟨rfl, hJx3⟩)
    · gi_wp2
      exact ⟨⟨k + 1, by omega, by go_num, by rw [hts.out]; exact hJ3, Hk2.out.trans hk3⟩, by simp [natOf]; omega⟩
    · gi_wp2
      refine bodyPost_ret (results_none rfl _ _ _) rfl ?_
      exact ⟨⟨_, rfl⟩, .inr ⟨_, List.take_prefix (k + 1) _, by rw [hts.out]; exact hJx3⟩⟩
end Go.Proofs.YtbonebmboolemaaDoor
/- commitment.leaves. -/
namespace Go.Proofs.YtbonebmboolemaaDoor
open Go.RowKit
set_option maxRecDepth 100000 in
set_option maxHeartbeats 1000000 in
theorem leaves_any (r : Tb) (w : World) : Calls Tryd.prog 58 #[r.v] w fun e w' => e = .returned (.func (.func 72) #[] #[.pointer (some ⟨w.heap.size, 0, none⟩)]) ∧ w' = w.alloc (bT r) := by
  have hmf : ∀ (fn : Fn) (first cap : Array Value) (w : World), (Instr.makeFunc fn first cap).run Tryd.prog w = .ok (.func fn first cap) w := fun _ _ _ _ => rfl
  change Calls Tryd.prog 58 #[.agg r.cells.toArray] w _
  go_enter Tryd.func58, Tryd.ntmps58
  go_upto_region 1 with fail
  obtain ⟨w0, hw0⟩ : ∃ w0, w.alloc (bT r) = w0 := ⟨_, rfl⟩
  have hw := hw0
  change Code.wp _ _ _ _ (w.alloc (bT r))
  rw [hw0]
  have Hw := Lib.hid hw0
  clear hw hw0
  go_wp2
  go_ret
  exact ⟨rfl, Hw.out.symm⟩
end Go.Proofs.YtbonebmboolemaaDoor
