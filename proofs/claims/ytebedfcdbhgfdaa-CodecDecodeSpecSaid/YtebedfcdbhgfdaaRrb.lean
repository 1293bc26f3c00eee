/- the reference's Reader: Value, where no list is read. -/
import Derived.Test.YtebedfcdbhgfdaaRra
import Derived.StillTailTactics
namespace Go.Proofs.Ytebedfcdbhgfdaa
open Go.RowKit

theorem RefAt.setT {B R p T i : Nat} {bad : Bool} {w : World} {l : List UInt8} {v : Value} (h : RefAt B w R l p bad) (hT : R < T) : RefAt B (w.setCell ⟨T, i, none⟩ v) R l p bad :=
  h.keep fun k hk => Below.heap_setCell _ _ _ _ (by show k ≠ T; omega)
theorem RefAt.alloc {B R p : Nat} {bad : Bool} {w : World} {l : List UInt8} (h : RefAt B w R l p bad) (hR : R < w.heap.size) (o : Obj) : RefAt B (w.alloc o) R l p bad :=
  h.keep fun k hk => Below.heap_alloc w o k (by omega)
def RValPost (B R : Nat) (l : List UInt8) (o : Option (V × List UInt8)) (w : World) (e : Ending) (w' : World) : Prop :=
  ∃ x v q bad, e = .returned v ∧ RdVD (fun k => w.heap.size ≤ k ∧ k < w'.heap.size) w' x v ∧ RefAt B w' R l q bad ∧ w.grownBy w' (some R) ∧
    (match o with | some (y, r) => x = y ∧ bad = false ∧ l.drop q = r | none => bad = true)
def RValSaid (d : Nat) : Prop := ∀ (B R p : Nat) (l : List UInt8) (di : Int) (_ : di = 16 - (d : Int)) (_ : l.length ≤ 1000000) (w : World) (_ : RefAt B w R l p false) (_ : R < w.heap.size),
  Calls Try.prog 34 #[.pointer (some ⟨R, 0, none⟩), .int .i64 di] w (RValPost B R l (rdV d (l.drop p)) w)
theorem rdVD_nil (D : Nat → Prop) (w : World) (k n : Int) (s : ByteArray) (h1 : I64 k) (h2 : I64 n) (h3 : s.size ≤ maxLen) : RdVD D w (.mk k n s []) (.agg #[.int .i64 k, .int .i64 n, .string s, .slice none 0 0]) :=
  ⟨h1, h2, h3, _, rfl, .inl ⟨rfl, none, 0, rfl⟩⟩
theorem I64_0 : I64 0 := by unfold I64; omega
/-- Value returns the zero value, and the reader has failed -/
theorem rval_zero {B R q : Nat} {l : List UInt8} {o : Option (V × List UInt8)} {w w' : World} (ho : o = none) (hr : RefAt B w' R l q true) (hg : w.grownBy w' (some R)) :
    RValPost B R l o w (.returned (.agg #[.int .i64 0, .int .i64 0, .string ⟨#[]⟩, .slice none 0 0])) w' := by
  subst ho
  exact ⟨.mk 0 0 ⟨#[]⟩ [], _, q, true, rfl, rdVD_nil _ _ _ _ _ I64_0 I64_0 (Nat.zero_le _), hr, hg, rfl⟩

set_option maxRecDepth 100000 in
set_option maxHeartbeats 1000000 in
theorem rvalue_end (d : Nat) (B R p : Nat) (l : List UInt8) (di : Int) (hl : l.length ≤ 1000000) (w : World) (h : RefAt B w R l p false) (hRw : R < w.heap.size) (hp : l.length ≤ p) :
    Calls Try.prog 34 #[.pointer (some ⟨R, 0, none⟩), .int .i64 di] w (RValPost B R l (rdV d (l.drop p)) w) := by
  have H := Lib.hid h; clear h
  have hn : Hid (rdV d (l.drop p) = none) := by show _ = _; rw [drop_nil hp, rdV_nil]
  go_enter Try.func34, Try.ntmps34
  go_wp2_with fail
  refine (next_end B R p false l hl _ (H.out.alloc hRw _) hp).mono ?_
  rintro e w1 ⟨rfl, hr1, hg1⟩
  have hbx := (BoxAt.made w 24 (.int .i64 0) (.int .i64 0) (.string ⟨#[]⟩) (.slice none 0 0)).grown hg1 (by omega)
  obtain ⟨x0, x1, x2, x3, xf⟩ := hbx
  have hgw : w.grownBy w1 (some R) := grown_trans (grown_alloc (grown_refl w _) _) hg1 (.inl rfl)
  have f2 := hr1.fr 2; have r2 := hr1.c2
  have hRT : R ≠ w.heap.size := by omega
  have HR1 := Lib.hid (hr1.set2 true)
  clear hr1 hg1
  go_wp2
  refine bodyPost_ret (v := .agg #[.int .i64 0, .int .i64 0, .string ⟨#[]⟩, .slice none 0 0]) (by simp [results, Try.results34, go_sem, x0, x1, x2, x3]) rfl ?_
  exact rval_zero (q := p) hn.out (by repeat (first | exact HR1.out | refine RefAt.setT ?_ hRw)) (by repeat (first | exact grown_setR hgw | refine grown_set_new ?_ (Nat.le_refl _)))

/-- what is known where Value begins to look at the first byte -/
structure RHead (B R p : Nat) (l : List UInt8) (w w1 : World) : Prop where
  bx : BoxAt w1 w.heap.size (.int .i64 0) (.int .i64 0) (.string ⟨#[]⟩) (.slice none 0 0)
  gw : w.grownBy w1 (some R)
  rd : RefAt B w1 R l (p + 1) false
theorem rhead (B R p : Nat) (c : UInt8) (l : List UInt8) (hl : l.length ≤ 1000000) (w : World) (h : RefAt B w R l p false) (hRw : R < w.heap.size) (hp : l[p]? = some c) :
    Calls Try.prog 48 #[.pointer (some ⟨R, 0, none⟩)] (w.alloc (.cells #[.int .i64 0, .int .i64 0, .string ⟨#[]⟩, .slice none 0 0] 24)) fun e w1 => e = .returned (.int .u8 (c.toNat : Int)) ∧ RHead B R p l w w1 := by
  refine (next_some B R p false c l hl _ (h.alloc hRw _) hp).mono ?_
  rintro e w1 ⟨rfl, hr1, hg1⟩
  exact ⟨rfl, (BoxAt.made w 24 (.int .i64 0) (.int .i64 0) (.string ⟨#[]⟩) (.slice none 0 0)).grown hg1 (by omega), grown_trans (grown_alloc (grown_refl w _) _) hg1 (.inl rfl), hr1⟩
theorem drop_at {l : List UInt8} {p : Nat} {c : UInt8} (hp : l[p]? = some c) : l.drop p = c :: l.drop (p + 1) := by
  have hlt := (List.getElem?_eq_some_iff.1 hp)
  obtain ⟨h1, h2⟩ := hlt
  rw [drop_cons h1, h2]

set_option maxRecDepth 100000 in
set_option maxHeartbeats 1000000 in
theorem rvalue_0 (d : Nat) (B R p : Nat) (c : UInt8) (l : List UInt8) (di : Int) (hl : l.length ≤ 1000000) (w : World) (h : RefAt B w R l p false) (hRw : R < w.heap.size) (hp : l[p]? = some c) (h1 : c ≠ 1) (h2 : c ≠ 2) (h3 : c ≠ 3) :
    Calls Try.prog 34 #[.pointer (some ⟨R, 0, none⟩), .int .i64 di] w (RValPost B R l (rdV d (l.drop p)) w) := by
  have H := Lib.hid h; clear h
  have hn : Hid (rdV d (l.drop p) = none) := by show _ = _; rw [drop_at hp, rdV_bad d c _ h1 h2 h3]
  have n1 : ((c.toNat : Int) == 1) = false := by rw [beq_eq_false_iff_ne]; intro h; exact h1 (UInt8.toNat_inj.1 (by simpa using (by omega : c.toNat = 1)))
  have n2 : ((c.toNat : Int) == 2) = false := by rw [beq_eq_false_iff_ne]; intro h; exact h2 (UInt8.toNat_inj.1 (by simpa using (by omega : c.toNat = 2)))
  have n3 : ((c.toNat : Int) == 3) = false := by rw [beq_eq_false_iff_ne]; intro h; exact h3 (UInt8.toNat_inj.1 (by simpa using (by omega : c.toNat = 3)))
  have Hp := Lib.hid hp
  clear h1 h2 h3 hp
  go_enter Try.func34, Try.ntmps34
  go_wp2_with fail
  refine (rhead B R p c l hl w H.out hRw Hp.out).mono ?_
  rintro e w1 ⟨rfl, hh⟩
  obtain ⟨⟨x0, x1, x2, x3, xf⟩, hgw, hr1⟩ := hh
  have f2 := hr1.fr 2; have r2 := hr1.c2
  have hRT : R ≠ w.heap.size := by omega
  have HR1 := Lib.hid (hr1.set2 true)
  clear hr1
  go_wp2
  refine bodyPost_ret (v := .agg #[.int .i64 0, .int .i64 0, .string ⟨#[]⟩, .slice none 0 0]) (by simp [results, Try.results34, go_sem, x0, x1, x2, x3]) rfl ?_
  exact rval_zero (q := p + 1) hn.out (by repeat (first | exact HR1.out | refine RefAt.setT ?_ hRw)) (by repeat (first | exact grown_setR hgw | refine grown_set_new ?_ (Nat.le_refl _)))

theorem rval_int {B R q : Nat} {bad : Bool} {l : List UInt8} {o : Option (V × List UInt8)} {w w' : World} (n : Int) (hn : I64 n) (hr : RefAt B w' R l q bad) (hg : w.grownBy w' (some R))
    (ho : match o with | some (y, r) => V.mk 1 n ⟨#[]⟩ [] = y ∧ bad = false ∧ l.drop q = r | none => bad = true) :
    RValPost B R l o w (.returned (.agg #[.int .i64 1, .int .i64 n, .string ⟨#[]⟩, .slice none 0 0])) w' :=
  ⟨.mk 1 n ⟨#[]⟩ [], _, q, bad, rfl, rdVD_nil _ _ _ _ _ (by unfold I64; omega) hn (Nat.zero_le _), hr, hg, ho⟩
theorem RHead.num {B R p : Nat} {l : List UInt8} {w w1 w2 : World} (h : RHead B R p l w w1) (hRw : R < w.heap.size) (hg : w1.grownBy w2 (some R)) :
    BoxAt w2 w.heap.size (.int .i64 0) (.int .i64 0) (.string ⟨#[]⟩) (.slice none 0 0) ∧ w.grownBy w2 (some R) :=
  ⟨h.bx.grown hg (by omega), grown_trans h.gw hg (.inl rfl)⟩
set_option maxRecDepth 100000 in
set_option maxHeartbeats 1000000 in
theorem rvalue_1 (d : Nat) (B R p : Nat) (l : List UInt8) (di : Int) (hl : l.length ≤ 1000000) (w : World) (h : RefAt B w R l p false) (hRw : R < w.heap.size) (hp : l[p]? = some 1) :
    Calls Try.prog 34 #[.pointer (some ⟨R, 0, none⟩), .int .i64 di] w (RValPost B R l (rdV d (l.drop p)) w) := by
  have H := Lib.hid h; clear h
  have Hp := Lib.hid hp; clear hp
  have hv := Lib.hid (rdV_1 d (l.drop (p + 1)))
  cases hN : rdNum 0 0 (l.drop (p + 1)) with
  | none =>
    have hn : Hid (rdV d (l.drop p) = none) := by show _ = _; rw [drop_at Hp.out, hv.out, hN]
    have HN := Lib.hid hN; clear hN
    go_enter Try.func34, Try.ntmps34
    go_wp2_with fail
    refine (rhead B R p 1 l hl w H.out hRw Hp.out).mono ?_
    rintro e w1 ⟨rfl, hh⟩
    go_wp2_with fail
    refine (rnumber_any B R (p + 1) l hl _ hh.rd).mono ?_
    rw [HN.out]
    rintro e w2 ⟨rfl, q, hr2, hg2⟩
    obtain ⟨⟨x0, x1, x2, x3, xf⟩, hgw⟩ := hh.num hRw hg2
    have HH := Lib.hid hh; have HR2 := Lib.hid hr2
    clear hh hr2 hg2
    go_wp2
    refine bodyPost_ret (v := .agg #[.int .i64 1, .int .i64 0, .string ⟨#[]⟩, .slice none 0 0]) (by simp [results, Try.results34, go_sem, x0, x1, x2, x3]) rfl ?_
    exact rval_int (q := q) (bad := true) 0 I64_0 (by repeat (first | exact HR2.out | refine RefAt.setT ?_ hRw)) (by repeat (first | exact hgw | refine grown_set_new ?_ (Nat.le_refl _))) (by rw [hn.out])
  | some pr =>
    obtain ⟨u, r'⟩ := pr
    have hn : Hid (rdV d (l.drop p) = some (.mk 1 (sgn u) ⟨#[]⟩ [], r')) := by show _ = _; rw [drop_at Hp.out, hv.out, hN]
    have hu64 := Lib.hid (rdNum_lt _ 0 0 u r' (by decide) (by simp) hN)
    have hI := Lib.hid (sgn_I64 u hu64.out)
    have HN := Lib.hid hN; clear hN
    go_enter Try.func34, Try.ntmps34
    go_wp2_with fail
    refine (rhead B R p 1 l hl w H.out hRw Hp.out).mono ?_
    rintro e w1 ⟨rfl, hh⟩
    go_wp2_with fail
    refine (rnumber_any B R (p + 1) l hl _ hh.rd).mono ?_
    rw [HN.out]
    rintro e w2 ⟨rfl, q, hq, hr2, hg2⟩
    obtain ⟨⟨x0, x1, x2, x3, xf⟩, hgw⟩ := hh.num hRw hg2
    have HH := Lib.hid hh; have HR2 := Lib.hid hr2; have Hq := Lib.hid hq
    clear hh hr2 hg2 hq
    obtain ⟨m, hm⟩ : ∃ m, u / 2 = m := ⟨_, rfl⟩
    have hml : m < 9223372036854775808 := by have := hu64.out; omega
    have e2 : IntKind.u64.wrap ((u : Int) / 2) = (m : Int) := by rw [IntKind.wrap_u64]; omega
    have e3 : wrap64 (m : Int) = (m : Int) := by unfold wrap64; omega
    by_cases hpar : u % 2 = 1
    · have e1 : ((u : Int) % 2 == 1) = true := by rw [beq_iff_eq]; omega
      have e4 : wrap64 (-(m : Int)) = -(m : Int) := by unfold wrap64; omega
      obtain ⟨z, hz⟩ : ∃ z, sgn u = z := ⟨_, rfl⟩
      have e5 : wrap64 (-(m : Int) - 1) = z := by rw [← hz]; unfold wrap64 sgn; rw [if_neg (by omega)]; omega
      rw [hz] at hI hn
      clear hpar hm hml hz
      go_wp2
      refine bodyPost_ret (v := .agg #[.int .i64 1, .int .i64 z, .string ⟨#[]⟩, .slice none 0 0]) (by simp [results, Try.results34, go_sem, x0, x1, x2, x3]) rfl ?_
      exact rval_int (q := q) (bad := false) z hI.out (by repeat (first | exact HR2.out | refine RefAt.setT ?_ hRw)) (by repeat (first | exact hgw | refine grown_set_new ?_ (Nat.le_refl _))) (by rw [hn.out]; exact ⟨rfl, rfl, Hq.out⟩)
    · have e1 : ((u : Int) % 2 == 1) = false := by rw [beq_eq_false_iff_ne]; omega
      have hz : sgn u = (m : Int) := by unfold sgn; rw [if_pos (by omega), hm]
      rw [hz] at hI hn
      clear hpar hm hml hz
      go_wp2
      refine bodyPost_ret (v := .agg #[.int .i64 1, .int .i64 m, .string ⟨#[]⟩, .slice none 0 0]) (by simp [results, Try.results34, go_sem, x0, x1, x2, x3]) rfl ?_
      exact rval_int (q := q) (bad := false) m hI.out (by repeat (first | exact HR2.out | refine RefAt.setT ?_ hRw)) (by repeat (first | exact hgw | refine grown_set_new ?_ (Nat.le_refl _))) (by rw [hn.out]; exact ⟨rfl, rfl, Hq.out⟩)
end Go.Proofs.Ytebedfcdbhgfdaa
