/- the reference's Reader: Value, texts. -/
import Derived.Test.YtebedfcdbhgfdaaRrb
namespace Go.Proofs.Ytebedfcdbhgfdaa
open Go.RowKit

set_option maxRecDepth 100000 in
set_option maxHeartbeats 4000000 in
theorem rvalue_2n (d : Nat) (B R p : Nat) (l : List UInt8) (di : Int) (hl : l.length ≤ 1000000) (w : World) (h : RefAt B w R l p false) (hRw : R < w.heap.size) (hp : l[p]? = some 2) (hN : rdNum 0 0 (l.drop (p + 1)) = none) :
    Calls Try.prog 34 #[.pointer (some ⟨R, 0, none⟩), .int .i64 di] w (RValPost B R l (rdV d (l.drop p)) w) := by
  have H := Lib.hid h; clear h
  have Hp := Lib.hid hp; clear hp
  have hv := Lib.hid (rdV_2 d (l.drop (p + 1)))
  have hn : Hid (rdV d (l.drop p) = none) := by show _ = _; rw [drop_at Hp.out, hv.out]; unfold rdLen; rw [hN]
  have HN := Lib.hid hN; clear hN
  go_enter Try.func34, Try.ntmps34
  go_wp2_with fail
  refine (rhead B R p 2 l hl w H.out hRw Hp.out).mono ?_
  rintro e w1 ⟨rfl, hh⟩
  go_wp2_with fail
  refine (rnumber_any B R (p + 1) l hl _ hh.rd).mono ?_
  rw [HN.out]
  rintro e w2 ⟨rfl, q, hr2, hg2⟩
  obtain ⟨⟨x0, x1, x2, x3, xf⟩, hgw⟩ := hh.num hRw hg2
  have f2 := hr2.fr 2; have r2 := hr2.c2
  have hRT : R ≠ w.heap.size := by omega
  have HH := Lib.hid hh; have HR2 := Lib.hid hr2
  clear hh hr2 hg2
  go_wp2
  go_quiet (fail)
  go_wp2
  refine bodyPost_ret (v := .agg #[.int .i64 0, .int .i64 0, .string ⟨#[]⟩, .slice none 0 0]) (by simp [results, Try.results34, go_sem, x0, x1, x2, x3]) rfl ?_
  exact rval_zero (q := q) hn.out (by repeat (first | exact (HR2.out.drewN _).set2 true | refine RefAt.setT ?_ hRw)) (by repeat (first | exact grown_setR (grown_drewN' hgw _) | refine grown_set_new ?_ (Nat.le_refl _)))
set_option maxRecDepth 100000 in
set_option maxHeartbeats 4000000 in
theorem rvalue_2l (d : Nat) (B R p : Nat) (l : List UInt8) (di : Int) (hl : l.length ≤ 1000000) (w : World) (h : RefAt B w R l p false) (hRw : R < w.heap.size) (hp : l[p]? = some 2) (n : Nat) (r' : List UInt8) (hN : rdNum 0 0 (l.drop (p + 1)) = some (n, r')) (hnr : ¬ n ≤ r'.length) :
    Calls Try.prog 34 #[.pointer (some ⟨R, 0, none⟩), .int .i64 di] w (RValPost B R l (rdV d (l.drop p)) w) := by
  have H := Lib.hid h; clear h
  have Hp := Lib.hid hp; clear hp
  have hv := Lib.hid (rdV_2 d (l.drop (p + 1)))
  have hn64 := Lib.hid (rdNum_lt _ 0 0 n r' (by decide) (by simp) hN)
  have hlr := rdNum_len _ 0 0 _ _ hN
  have hlp : (l.drop (p + 1)).length ≤ 1000000 := by simp; omega
  have HN := Lib.hid hN; clear hN
  have hn : Hid (rdV d (l.drop p) = none) := by show _ = _; rw [drop_at Hp.out, hv.out]; unfold rdLen; rw [HN.out]; simp only; rw [if_neg hnr]
  have Hnr := Lib.hid hnr
  have Hlr := Lib.hid hlr; have Hlp := Lib.hid hlp
  clear hnr hlr hlp
  go_enter Try.func34, Try.ntmps34
  go_wp2_with fail
  refine (rhead B R p 2 l hl w H.out hRw Hp.out).mono ?_
  rintro e w1 ⟨rfl, hh⟩
  go_wp2_with fail
  refine (rnumber_any B R (p + 1) l hl _ hh.rd).mono ?_
  rw [HN.out]
  rintro e w2 ⟨rfl, q, hq, hr2, hg2⟩
  obtain ⟨⟨x0, x1, x2, x3, xf⟩, hgw⟩ := hh.num hRw hg2
  have f2 := hr2.fr 2; have r2 := hr2.c2; have r1 := hr2.c1
  obtain ⟨v, r0, hb⟩ := hr2.c0
  obtain ⟨oa, cap, rfl, _, _⟩ := hb.form
  have hRT : R ≠ w.heap.size := by omega
  have hql := hr2.hp
  have hm : l.length - q = r'.length := by rw [← hq]; simp
  obtain ⟨m, hmm⟩ : ∃ m, r'.length = m := ⟨_, rfl⟩
  have e1 : wrap64 ((l.length : Int) - (q : Int)) = (m : Int) := by unfold wrap64; omega
  have e2 : IntKind.u64.wrap (m : Int) = (m : Int) := by rw [IntKind.wrap_u64]; omega
  have t1 : decide (m < n) = true := decide_eq_true (by have := Hnr.out; omega)
  have HH := Lib.hid hh; have HR2 := Lib.hid hr2
  clear hh hr2 hg2 hb hq hm hmm hql
  go_wp2
  go_quiet (fail)
  go_wp2
  refine bodyPost_ret (v := .agg #[.int .i64 0, .int .i64 0, .string ⟨#[]⟩, .slice none 0 0]) (by simp [results, Try.results34, go_sem, x0, x1, x2, x3]) rfl ?_
  exact rval_zero (q := q) hn.out (by repeat (first | exact (HR2.out.drewN _).set2 true | refine RefAt.setT ?_ hRw)) (by repeat (first | exact grown_setR (grown_drewN' hgw _) | refine grown_set_new ?_ (Nat.le_refl _)))
end Go.Proofs.Ytebedfcdbhgfdaa
