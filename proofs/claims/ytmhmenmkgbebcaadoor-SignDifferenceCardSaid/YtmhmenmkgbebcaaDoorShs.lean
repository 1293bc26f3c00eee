/- chapter 04: eight bytes of a number (the reference, the law); sign.hash -/
import Derived.Test.YtmhmenmkgbebcaaDoorErp
import Derived.Test.YtmhmenmkgbebcaaDoorFsc
namespace Go.Proofs.YtmhmenmkgbebcaaDoor
section
open Go.RowKit
/-- a number as uint64 -/
def u64 (n : Int) : Nat := (IntKind.u64.wrap n).toNat
theorem u64_wrap (n : Int) : IntKind.u64.wrap n = (u64 n : Int) := by
  have h : 0 ≤ IntKind.u64.wrap n := by simp only [IntKind.wrap_u64]; omega
  unfold u64; omega
def b8 (n : Int) : List UInt8 := be 8 (u64 n)
theorem b8_len (n : Int) : (b8 n).length = 8 := be_len _ _
theorem b8_at (u j : Nat) (h : j < 8) (c : UInt8) (hc : (be 8 u)[j]? = some c) : (u : Int) / 2 ^ (8 * (7 - j)) % 256 = (c.toNat : Int) := by
  have h1 := be_get 8 u (7 - j) (by omega)
  rw [show 8 - 1 - (7 - j) = j by omega] at h1
  simp only [bcells, List.getElem?_map, hc, Option.map_some, Option.some.injEq, Value.int.injEq, true_and] at h1
  exact h1.symm
set_option maxRecDepth 100000 in
set_option maxHeartbeats 2000000 in
theorem rbytes_any (n : Int) (w : World) :
    Calls Tryd.prog 38 #[.int .i64 n] w fun e w' => ∃ v', e = .returned v' ∧ OwnB 5 w' w.heap.size v' (b8 n) ∧ Below w.heap.size w w' := by
  obtain ⟨u, hu⟩ : ∃ u, u64 n = u := ⟨_, rfl⟩
  have e0 : IntKind.u64.wrap n = (u : Int) := by rw [u64_wrap, hu]
  have Hu := Lib.hid hu
  clear hu
  have hO := Lib.hid (made_own w)
  have hB := Lib.hid ((Below.refl w.heap.size w).alloc (Nat.le_refl _) (.cells #[] 5))
  go_enter Tryd.func38, Tryd.ntmps38
  go_wp2
  go_loopw [3, 4] (fun v i wr => P2Rel w [] (be 8 u) v i wr) (fun _ i _ => (intOf i + 1).toNat)
  case atStart => exact ⟨0, Nat.zero_le _, rfl, by rw [List.take_zero, List.append_nil]; have h := hO.out; exact h, hB.out⟩
  case round =>
    obtain ⟨j, hj, rfl, ho, hb⟩ := hrel
    obtain ⟨oa4, cp4, rfl⟩ := OwnB.form ho
    have hbl : (be 8 u).length = 8 := be_len _ _
    have HO4 := Lib.hid ho; have HB4 := Lib.hid hb
    have hlt4 := Lib.hid (fun g hg => (World.ownsRow.lt ho g hg).1)
    obtain ⟨q, hq⟩ : ∃ q, [] ++ (be 8 u).take j = q := ⟨_, rfl⟩
    have hql : q.length = j := by rw [← hq, List.nil_append, List.length_take, hbl]; omega
    rw [hq] at HO4 hlt4 ⊢
    rw [hql] at HO4 hlt4 ⊢
    have Hq := Lib.hid hq; have Hql := Lib.hid hql
    clear ho hb hq hql
    by_cases h8 : j < 8
    · have tk : decide ((0 : Int) ≤ 7 - (j : Int)) = true := by simp; omega
      have tk2 : (0 : Int) ≤ 7 - (j : Int) := by omega
      have tk3 : (7 : Int) - (j : Int) ≤ 7 := by omega
      have tk4 : (j : Int) ≤ 7 := by omega
      have e5 : ((8 : Int) * (7 - (j : Int))).toNat = 8 * (7 - j) := by omega
      have e6 : wrap64 (7 - (j : Int) - 1) = 7 - ((j + 1 : Nat) : Int) := by unfold wrap64; omega
      obtain ⟨c, hc⟩ : ∃ c, (be 8 u)[j]? = some c := ⟨_, List.getElem?_eq_getElem (by omega)⟩
      have hxi := Lib.hid (b8_at u j h8 c hc)
      have htk := Lib.hid (take_at _ j c hc)
      have hw1 := Lib.hid (HO4.out.alloc (.cells #[.int .u8 ((u : Int) / 2 ^ (8 * (7 - j)) % 256)] 5)); have hw2 := Lib.hid (HB4.out.alloc HB4.out.size (.cells #[.int .u8 ((u : Int) / 2 ^ (8 * (7 - j)) % 256)] 5))
      clear hc hbl
      go_wp2_with (at_builtin; refine wpList_append_1 (e := 5) Tryd.underlying22 (by kernel_rfl) rfl _ _ rfl w.heap.size (.slice oa4 j cp4) q rfl hw1.out wr.heap.size ((u : Int) / 2 ^ (8 * (7 - j)) % 256) c rfl (by simp) hxi.out (by have := Hql.out; omega) hw2.out.size ?_; intro v5 w5 ho5 hg5 hn5)
      have hb5 : Below w.heap.size w w5 := hw2.out.grown hg5 hw2.out.size hlt4.out
      go_roundw
      case rel => exact ⟨j + 1, by omega, by rw [show (7 : Int) - (j : Int) - 1 = 7 - ((j + 1 : Nat) : Int) by omega], by rw [htk.out, ← List.append_assoc, Hq.out]; exact ho5, hb5⟩
      case measure => simp [intOf]; omega
    · have h8' : j = 8 := by omega
      have tk : decide ((0 : Int) ≤ 7 - (j : Int)) = false := by simp; omega
      have hfin : Hid (q = b8 n) := by
        show q = b8 n
        rw [← Hq.out, h8', List.take_of_length_le (by rw [hbl]; exact Nat.le_refl _)]
        unfold b8; rw [Hu.out]; rfl
      clear hbl h8'
      go_wp2
      go_ret
      exact ⟨_, rfl, by rw [← hfin.out]; have h := HO4.out; exact h, HB4.out⟩
set_option maxRecDepth 100000 in
set_option maxHeartbeats 2000000 in
theorem number_any (n : Int) (w : World) :
    Calls Tryd.prog 29 #[.int .i64 n] w fun e w' => ∃ v', e = .returned v' ∧ OwnB 5 w' w.heap.size v' (b8 n) ∧ Below w.heap.size w w' := by
  obtain ⟨u, hu⟩ : ∃ u, u64 n = u := ⟨_, rfl⟩
  have e0 : IntKind.u64.wrap n = (u : Int) := by rw [u64_wrap, hu]
  have Hu := Lib.hid hu
  clear hu
  go_enter Tryd.func29, Tryd.ntmps29
  go_wp2
  go_loopw [3, 4] (fun v i wr => P2Rel w [] (be 8 u) v i wr) (fun _ i _ => (intOf i + 1).toNat)
  case atStart => exact ⟨0, Nat.zero_le _, rfl, OwnB.nil _ _ _, Below.refl _ _⟩
  case round =>
    obtain ⟨j, hj, rfl, ho, hb⟩ := hrel
    obtain ⟨oa4, cp4, rfl⟩ := OwnB.form ho
    have hbl : (be 8 u).length = 8 := be_len _ _
    have HO4 := Lib.hid ho; have HB4 := Lib.hid hb
    have hlt4 := Lib.hid (fun g hg => (World.ownsRow.lt ho g hg).1)
    obtain ⟨q, hq⟩ : ∃ q, [] ++ (be 8 u).take j = q := ⟨_, rfl⟩
    have hql : q.length = j := by rw [← hq, List.nil_append, List.length_take, hbl]; omega
    rw [hq] at HO4 hlt4 ⊢
    rw [hql] at HO4 hlt4 ⊢
    have Hq := Lib.hid hq; have Hql := Lib.hid hql
    clear ho hb hq hql
    by_cases h8 : j < 8
    · have tk : decide ((0 : Int) ≤ 7 - (j : Int)) = true := by simp; omega
      have tk2 : (0 : Int) ≤ 7 - (j : Int) := by omega
      have tk3 : (7 : Int) - (j : Int) ≤ 7 := by omega
      have tk4 : (j : Int) ≤ 7 := by omega
      have e5 : ((8 : Int) * (7 - (j : Int))).toNat = 8 * (7 - j) := by omega
      have e6 : wrap64 (7 - (j : Int) - 1) = 7 - ((j + 1 : Nat) : Int) := by unfold wrap64; omega
      obtain ⟨c, hc⟩ : ∃ c, (be 8 u)[j]? = some c := ⟨_, List.getElem?_eq_getElem (by omega)⟩
      have hxi := Lib.hid (b8_at u j h8 c hc)
      have htk := Lib.hid (take_at _ j c hc)
      have hw1 := Lib.hid (HO4.out.alloc (.cells #[.int .u8 ((u : Int) / 2 ^ (8 * (7 - j)) % 256)] 5)); have hw2 := Lib.hid (HB4.out.alloc HB4.out.size (.cells #[.int .u8 ((u : Int) / 2 ^ (8 * (7 - j)) % 256)] 5))
      clear hc hbl
      go_wp2_with (at_builtin; refine wpList_append_1 (e := 5) Tryd.underlying22 (by kernel_rfl) rfl _ _ rfl w.heap.size (.slice oa4 j cp4) q rfl hw1.out wr.heap.size ((u : Int) / 2 ^ (8 * (7 - j)) % 256) c rfl (by simp) hxi.out (by have := Hql.out; omega) hw2.out.size ?_; intro v5 w5 ho5 hg5 hn5)
      have hb5 : Below w.heap.size w w5 := hw2.out.grown hg5 hw2.out.size hlt4.out
      go_roundw
      case rel => exact ⟨j + 1, by omega, by rw [show (7 : Int) - (j : Int) - 1 = 7 - ((j + 1 : Nat) : Int) by omega], by rw [htk.out, ← List.append_assoc, Hq.out]; exact ho5, hb5⟩
      case measure => simp [intOf]; omega
    · have h8' : j = 8 := by omega
      have tk : decide ((0 : Int) ≤ 7 - (j : Int)) = false := by simp; omega
      have hfin : Hid (q = b8 n) := by
        show q = b8 n
        rw [← Hq.out, h8', List.take_of_length_le (by rw [hbl]; exact Nat.le_refl _)]
        unfold b8; rw [Hu.out]; rfl
      clear hbl h8'
      go_wp2
      go_ret
      exact ⟨_, rfl, by rw [← hfin.out]; have h := HO4.out; exact h, HB4.out⟩
end
section
open Go.RowKit
def HRel (w : World) (ns : List Int) (v i : Value) (wr : World) : Prop :=
  ∃ k : Nat, k ≤ ns.length ∧ i = .int .i64 k ∧ OwnB 5 wr w.heap.size v ((ns.take k).flatMap b8) ∧ Below w.heap.size w wr
def P3Rel (w : World) (p B : List UInt8) (v i : Value) (wr : World) : Prop :=
  ∃ j : Nat, j ≤ 8 ∧ i = .int .i64 (56 - 8 * (j : Int)) ∧ OwnB 5 wr w.heap.size v (p ++ B.take j) ∧ Below w.heap.size w wr
theorem flat_len (ns : List Int) : (ns.flatMap b8).length = 8 * ns.length := by
  induction ns with
  | nil => rfl
  | cons a r ih => rw [List.flatMap_cons, List.length_append, ih, b8_len, List.length_cons]; omega
set_option maxRecDepth 100000 in
set_option maxHeartbeats 2000000 in
theorem hash_any (s : ByteArray) (v : Value) (l : List UInt8) (nb n cap : Nat) (ns : List Int) (w : World) (hs : s.size ≤ 100000) (hl : l.length ≤ 50000) (hb : BtsAt w.heap.size w l v) (hL : Laid w) (hnl : ns.length = n) (hn2 : n ≤ 1000)
    (hc : ∀ j x, ns[j]? = some x → w.cell? ⟨nb, j, none⟩ = some (.int .i64 x)) :
    Calls Tryd.prog 35 #[.string s, v, .slice (some ⟨nb, 0, none⟩) n cap] w fun e w' => e = .returned (.int .i64 (scalF s.data.toList (ns.flatMap b8 ++ l) : Nat)) ∧ Below w.heap.size w w' := by
  have HB := Lib.hid hb; have HL := Lib.hid hL; have HC := Lib.hid hc; have Hs := Lib.hid hs; have Hl := Lib.hid hl; have Hnl := Lib.hid hnl; have Hn2 := Lib.hid hn2
  have bn : (n : Int) ≤ 1000 := by omega
  obtain ⟨oa, capm, rfl⟩ := hb.shape
  clear hb hL hc hs hl hnl hn2
  go_enter Tryd.func35, Tryd.ntmps35
  go_wp2
  go_loopw [7, 13] (fun v i wr => HRel w ns v i wr) (fun _ i _ => n - (intOf i).toNat)
  case atStart => exact ⟨0, Nat.zero_le _, rfl, OwnB.nil _ _ _, Below.refl _ _⟩
  case round =>
    obtain ⟨k, hk, rfl, ho, hb⟩ := hrel
    have HO := Lib.hid ho; have HBr := Lib.hid hb
    obtain ⟨oa3, cp3, rfl⟩ := OwnB.form ho
    have hkn : k ≤ n := by have := Hnl.out; omega
    obtain ⟨p, hp⟩ : ∃ p, (ns.take k).flatMap b8 = p := ⟨_, rfl⟩
    have hpl : p.length = 8 * k := by rw [← hp, flat_len, List.length_take]; omega
    rw [hp] at HO ⊢
    have Hp := Lib.hid hp; have Hpl := Lib.hid hpl
    rw [hpl] at HO ⊢
    clear ho hb hp hpl hk
    by_cases hlt : k < n
    · have tk : decide ((k : Int) < (n : Int)) = true := by simp; omega
      have tk' : decide (k < n) = true := by simp; omega
      obtain ⟨x, hx⟩ : ∃ x, ns[k]? = some x := ⟨_, List.getElem?_eq_getElem (by rw [Hnl.out]; exact hlt)⟩
      have cc : wr.cell? ⟨nb, k, none⟩ = some (.int .i64 x) := cell_ext HBr.out (HC.out k x hx)
      have Hx := Lib.hid hx
      obtain ⟨u, hu⟩ : ∃ u, u64 x = u := ⟨_, rfl⟩
      have e0 : IntKind.u64.wrap x = (u : Int) := by rw [u64_wrap, hu]
      have Hu := Lib.hid hu
      clear hx hu
      go_wp2
      clear cc
      obtain ⟨wo, rfl⟩ : ∃ wo : World, wo = wr := ⟨_, rfl⟩
      go_loopw [7, 10] (fun v i wr => P3Rel w p (be 8 u) v i wr) (fun _ i _ => (intOf i + 8).toNat)
      case atStart => exact ⟨0, Nat.zero_le _, rfl, by rw [List.take_zero, List.append_nil]; have h := HO.out; exact h, HBr.out⟩
      case round =>
        obtain ⟨j, hj, rfl, ho, hb⟩ := hrel
        obtain ⟨oa4, cp4, rfl⟩ := OwnB.form ho
        have hbl : (be 8 u).length = 8 := be_len _ _
        have HO4 := Lib.hid ho; have HB4 := Lib.hid hb
        have hlt4 := Lib.hid (fun g hg => (World.ownsRow.lt ho g hg).1)
        obtain ⟨q, hq⟩ : ∃ q, p ++ (be 8 u).take j = q := ⟨_, rfl⟩
        have hql : q.length = 8 * k + j := by rw [← hq, List.length_append, Hpl.out, List.length_take, hbl]; omega
        rw [hq] at HO4 hlt4 ⊢
        rw [hql] at HO4 hlt4 ⊢
        have Hq := Lib.hid hq; have Hql := Lib.hid hql
        clear ho hb hq hql
        by_cases h8 : j < 8
        · have tj : decide ((0 : Int) ≤ 56 - 8 * (j : Int)) = true := by simp; omega
          have tj2 : (0 : Int) ≤ 56 - 8 * (j : Int) := by omega
          have tj3 : (56 : Int) - 8 * (j : Int) ≤ 56 := by omega
          have e5 : ((56 : Int) - 8 * (j : Int)).toNat = 8 * (7 - j) := by omega
          have e6 : wrap64 (56 - 8 * (j : Int) - 8) = 56 - 8 * ((j + 1 : Nat) : Int) := by unfold wrap64; omega
          obtain ⟨c, hc⟩ : ∃ c, (be 8 u)[j]? = some c := ⟨_, List.getElem?_eq_getElem (by omega)⟩
          have hxi := Lib.hid (b8_at u j h8 c hc)
          have htk := Lib.hid (take_at _ j c hc)
          have hw1 := Lib.hid (HO4.out.alloc (.cells #[.int .u8 ((u : Int) / 2 ^ (8 * (7 - j)) % 256)] 5)); have hw2 := Lib.hid (HB4.out.alloc HB4.out.size (.cells #[.int .u8 ((u : Int) / 2 ^ (8 * (7 - j)) % 256)] 5))
          clear hc hbl
          go_wp2_with (at_builtin; refine wpList_append_1 (e := 5) Tryd.underlying22 (by kernel_rfl) rfl _ _ rfl w.heap.size (.slice oa4 (8 * k + j) cp4) q rfl hw1.out wr.heap.size ((u : Int) / 2 ^ (8 * (7 - j)) % 256) c rfl (by simp) hxi.out (by have := Hql.out; omega) hw2.out.size ?_; intro v5 w5 ho5 hg5 hn5)
          have hb5 : Below w.heap.size w w5 := hw2.out.grown hg5 hw2.out.size hlt4.out
          go_roundw
          case rel => exact ⟨j + 1, by omega, by rw [show (56 : Int) - 8 * (j : Int) - 8 = 56 - 8 * ((j + 1 : Nat) : Int) by omega], by rw [htk.out, ← List.append_assoc, Hq.out]; exact ho5, hb5⟩
          case measure => simp [intOf]; omega
        · have h8' : j = 8 := by omega
          have tj : decide ((0 : Int) ≤ 56 - 8 * (j : Int)) = false := by simp; omega
          have hfin : Hid (q = (ns.take (k + 1)).flatMap b8) := by
            show q = _
            rw [← Hq.out, h8', List.take_of_length_le (by rw [hbl]; exact Nat.le_refl _), List.take_add_one, Hx.out, List.flatMap_append, Hp.out, ← Hu.out]
            simp [b8]
          have hk8 : Hid (8 * k + j = 8 * (k + 1)) := by show _ = _; omega
          clear hbl h8'
          go_wp2
          go_roundw
          case rel => exact ⟨k + 1, by have := Hnl.out; omega, by go_num, by rw [← hfin.out]; have h := HO4.out; exact h, HB4.out⟩
          case measure => simp [intOf]; omega
    · have hkn' : k = n := by omega
      have tk : decide ((k : Int) < (n : Int)) = false := by simp; omega
      have tk' : decide (k < n) = false := by simp; omega
      have hpf : Hid (p = ns.flatMap b8) := by show p = _; rw [← Hp.out, List.take_of_length_le (by rw [Hnl.out]; omega)]
      have S2 := Lib.hid (SrcB.ofBts (P := Tryd.prog) Tryd.underlying22 (HB.out.ext HBr.out))
      have hlt := Lib.hid (fun g hg => (World.ownsRow.lt HO.out g hg).1)
      have h8k : Hid (8 * k ≤ 8000) := by show _ ≤ _; omega
      clear hkn'
      go_wp2_with (at_builtin; refine wpList_append_B (e := 5) Tryd.underlying22 (by kernel_rfl) rfl _ _ rfl w.heap.size (.slice oa3 (8 * k) cp3) p rfl HO.out _ l rfl S2.out (by have := Hpl.out; have := Hl.out; have := h8k.out; omega) HBr.out.size ?_; intro v5 w5 ho5 hg5 hn5)
      have hb5 : Below w.heap.size w w5 := HBr.out.grown hg5 HBr.out.size hlt.out
      have HO5 := Lib.hid (own_bts ho5); have HB5 := Lib.hid hb5
      clear ho5 hg5 hn5 hb5
      go_wp2_with fail
      refine (scalar_any s _ (p ++ l) _ Hs.out (by rw [List.length_append, Hpl.out]; have := Hl.out; have := h8k.out; omega) HO5.out (HL.out.ext HB5.out)).mono ?_
      rw [hpf.out]
      rintro e w6 ⟨rfl, hb6⟩
      have HB6 := Lib.hid (below_ext HB5.out hb6)
      clear hb6
      go_wp2
      go_ret
      exact ⟨rfl, HB6.out⟩
end
end Go.Proofs.YtmhmenmkgbebcaaDoor
