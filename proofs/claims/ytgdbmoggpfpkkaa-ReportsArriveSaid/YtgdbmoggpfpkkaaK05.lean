/- Merged: Rre Rrf Rrg Rrh Rri Tkd Rnum Renc Rfm Rdp Reco. -/
import Derived.Test.YtgdbmoggpfpkkaaK01
import Derived.Test.YtgdbmoggpfpkkaaK02
import Derived.Test.YtgdbmoggpfpkkaaK03
import Derived.Test.YtgdbmoggpfpkkaaK04
import Derived.Deep.RegionLaw
import Derived.Deep.RegionHeld3
/- the reference's Reader: Value, a list that is refused at once. -/
namespace Go.Proofs.Ytgdbmoggpfpkkaa
open Go.RowKit

theorem rdV_3none (d : Nat) (r : List UInt8) (h : rdLen r = none) : rdV d (3 :: r) = none := by
  cases d with
  | zero => exact rdV_30 r
  | succ d => rw [rdV_3, h]
set_option maxRecDepth 100000 in
set_option maxHeartbeats 4000000 in
theorem rvalue_3n (d : Nat) (B R p : Nat) (l : List UInt8) (di : Int) (hl : l.length ≤ 1000000) (w : World) (h : RefAt B w R l p false) (hRw : R < w.heap.size) (hp : l[p]? = some 3) (hN : rdNum 0 0 (l.drop (p + 1)) = none) :
    Calls Try.prog 61 #[.pointer (some ⟨R, 0, none⟩), .int .i64 di] w (RValPost B R l (rdV d (l.drop p)) w) := by
  have H := Lib.hid h; clear h
  have Hp := Lib.hid hp; clear hp
  have hn : Hid (rdV d (l.drop p) = none) := by show _ = _; rw [drop_at Hp.out]; exact rdV_3none d _ (by unfold rdLen; rw [hN])
  have HN := Lib.hid hN; clear hN
  go_enter Try.func61, Try.ntmps61
  go_wp2_with fail
  refine (rhead B R p 3 l hl w H.out hRw Hp.out).mono ?_
  rintro e w1 ⟨rfl, hh⟩
  go_wp2_with fail
  refine (rnumber_any B R (p + 1) l hl _ hh.rd).mono ?_
  rw [HN.out]
  rintro e w2 ⟨rfl, q, hr2, hg2⟩
  obtain ⟨⟨x0, x1, x2, x3, xf⟩, hgw⟩ := hh.num hRw hg2
  have f2 := hr2.fr 2; have r2 := hr2.c2
  have hRT : R ≠ w.heap.size := by omega
  have HH := Lib.hid hh; have HR2 := Lib.hid hr2
  clear hh hr2 hg2
  go_wp2
  go_quiet (fail)
  go_wp2
  refine bodyPost_ret (v := .agg #[.int .i64 0, .int .i64 0, .string ⟨#[]⟩, .slice none 0 0]) (by simp [results, Try.results61, go_sem, x0, x1, x2, x3]) rfl ?_
  exact rval_zero (q := q) hn.out (by repeat (first | exact (HR2.out.drewN _).set2 true | refine RefAt.setT ?_ hRw)) (by repeat (first | exact grown_setR (grown_drewN' hgw _) | refine grown_set_new ?_ (Nat.le_refl _)))
set_option maxRecDepth 100000 in
set_option maxHeartbeats 4000000 in
theorem rvalue_3l (d : Nat) (B R p : Nat) (l : List UInt8) (di : Int) (hl : l.length ≤ 1000000) (w : World) (h : RefAt B w R l p false) (hRw : R < w.heap.size) (hp : l[p]? = some 3) (n : Nat) (r' : List UInt8) (hN : rdNum 0 0 (l.drop (p + 1)) = some (n, r')) (hnr : ¬ n ≤ r'.length) :
    Calls Try.prog 61 #[.pointer (some ⟨R, 0, none⟩), .int .i64 di] w (RValPost B R l (rdV d (l.drop p)) w) := by
  have H := Lib.hid h; clear h
  have Hp := Lib.hid hp; clear hp
  have hn64 := Lib.hid (rdNum_lt _ 0 0 n r' (by decide) (by simp) hN)
  have hlr := rdNum_len _ 0 0 _ _ hN
  have hlp : (l.drop (p + 1)).length ≤ 1000000 := by simp; omega
  have HN := Lib.hid hN; clear hN
  have hn : Hid (rdV d (l.drop p) = none) := by show _ = _; rw [drop_at Hp.out]; exact rdV_3none d _ (by unfold rdLen; rw [HN.out]; simp only; rw [if_neg hnr])
  have Hnr := Lib.hid hnr
  have Hlr := Lib.hid hlr; have Hlp := Lib.hid hlp
  clear hnr hlr hlp
  go_enter Try.func61, Try.ntmps61
  go_wp2_with fail
  refine (rhead B R p 3 l hl w H.out hRw Hp.out).mono ?_
  rintro e w1 ⟨rfl, hh⟩
  go_wp2_with fail
  refine (rnumber_any B R (p + 1) l hl _ hh.rd).mono ?_
  rw [HN.out]
  rintro e w2 ⟨rfl, q, hq, hr2, hg2⟩
  obtain ⟨⟨x0, x1, x2, x3, xf⟩, hgw⟩ := hh.num hRw hg2
  have f2 := hr2.fr 2; have r2 := hr2.c2; have r1 := hr2.c1
  obtain ⟨v, r0, hb⟩ := hr2.c0
  obtain ⟨oa, cap, rfl, _, _⟩ := hb.form
  have hRT : R ≠ w.heap.size := by omega
  have hql := hr2.hp
  have hm : l.length - q = r'.length := by rw [← hq]; simp
  obtain ⟨m, hmm⟩ : ∃ m, r'.length = m := ⟨_, rfl⟩
  have e1 : wrap64 ((l.length : Int) - (q : Int)) = (m : Int) := by unfold wrap64; omega
  have e2 : IntKind.u64.wrap (m : Int) = (m : Int) := by rw [IntKind.wrap_u64]; omega
  have t1 : decide (m < n) = true := decide_eq_true (by have := Hnr.out; omega)
  have HH := Lib.hid hh; have HR2 := Lib.hid hr2
  clear hh hr2 hg2 hb hq hm hmm hql
  go_wp2
  go_quiet (fail)
  go_wp2
  refine bodyPost_ret (v := .agg #[.int .i64 0, .int .i64 0, .string ⟨#[]⟩, .slice none 0 0]) (by simp [results, Try.results61, go_sem, x0, x1, x2, x3]) rfl ?_
  exact rval_zero (q := q) hn.out (by repeat (first | exact (HR2.out.drewN _).set2 true | refine RefAt.setT ?_ hRw)) (by repeat (first | exact grown_setR (grown_drewN' hgw _) | refine grown_set_new ?_ (Nat.le_refl _)))
set_option maxRecDepth 100000 in
set_option maxHeartbeats 4000000 in
theorem rvalue_3z (B R p : Nat) (l : List UInt8) (hl : l.length ≤ 1000000) (w : World) (h : RefAt B w R l p false) (hRw : R < w.heap.size) (hp : l[p]? = some 3) (n : Nat) (r' : List UInt8) (hN : rdNum 0 0 (l.drop (p + 1)) = some (n, r')) (hnr : n ≤ r'.length) :
    Calls Try.prog 61 #[.pointer (some ⟨R, 0, none⟩), .int .i64 16] w (RValPost B R l (rdV 0 (l.drop p)) w) := by
  have H := Lib.hid h; clear h
  have Hp := Lib.hid hp; clear hp
  have hn64 := Lib.hid (rdNum_lt _ 0 0 n r' (by decide) (by simp) hN)
  have hlr := rdNum_len _ 0 0 _ _ hN
  have hlp : (l.drop (p + 1)).length ≤ 1000000 := by simp; omega
  have HN := Lib.hid hN; clear hN
  have hn : Hid (rdV 0 (l.drop p) = none) := by show _ = _; rw [drop_at Hp.out]; exact rdV_30 _
  have Hnr := Lib.hid hnr
  have Hlr := Lib.hid hlr; have Hlp := Lib.hid hlp
  clear hnr hlr hlp
  go_enter Try.func61, Try.ntmps61
  go_wp2_with fail
  refine (rhead B R p 3 l hl w H.out hRw Hp.out).mono ?_
  rintro e w1 ⟨rfl, hh⟩
  go_wp2_with fail
  refine (rnumber_any B R (p + 1) l hl _ hh.rd).mono ?_
  rw [HN.out]
  rintro e w2 ⟨rfl, q, hq, hr2, hg2⟩
  obtain ⟨⟨x0, x1, x2, x3, xf⟩, hgw⟩ := hh.num hRw hg2
  have f2 := hr2.fr 2; have r2 := hr2.c2; have r1 := hr2.c1
  obtain ⟨v, r0, hb⟩ := hr2.c0
  obtain ⟨oa, cap, rfl, _, _⟩ := hb.form
  have hRT : R ≠ w.heap.size := by omega
  have hql := hr2.hp
  have hm : l.length - q = r'.length := by rw [← hq]; simp
  obtain ⟨m, hmm⟩ : ∃ m, r'.length = m := ⟨_, rfl⟩
  have e1 : wrap64 ((l.length : Int) - (q : Int)) = (m : Int) := by unfold wrap64; omega
  have e2 : IntKind.u64.wrap (m : Int) = (m : Int) := by rw [IntKind.wrap_u64]; omega
  have t1 : decide (m < n) = false := decide_eq_false (by have := Hnr.out; omega)
  have HH := Lib.hid hh; have HR2 := Lib.hid hr2
  clear hh hr2 hg2 hb hq hm hmm hql
  go_wp2
  go_quiet (fail)
  go_wp2
  refine bodyPost_ret (v := .agg #[.int .i64 0, .int .i64 0, .string ⟨#[]⟩, .slice none 0 0]) (by simp [results, Try.results61, go_sem, x0, x1, x2, x3]) rfl ?_
  exact rval_zero (q := q) hn.out (by repeat (first | exact (HR2.out.drewN _).set2 true | refine RefAt.setT ?_ hRw)) (by repeat (first | exact grown_setR (grown_drewN' hgw _) | refine grown_set_new ?_ (Nat.le_refl _)))
end Go.Proofs.Ytgdbmoggpfpkkaa
/- the reference's Reader: Value, lists. -/
namespace Go.Proofs.Ytgdbmoggpfpkkaa
open Go.RowKit

def RvOut (l : List UInt8) (o : Option (V × List UInt8)) (x : V) (bad : Bool) (q : Nat) : Prop := match o with | some (y, r) => x = y ∧ bad = false ∧ l.drop q = r | none => bad = true
def RlOut (d n : Nat) (l r0 : List UInt8) (xs : List V) (k q : Nat) : Bool → Prop
  | true => rdVs (rdV d) n r0 = none
  | false => rdVs (rdV d) k r0 = some (xs, l.drop q)
def RListRel (B R T : Nat) (d n : Nat) (w : World) (l r0 : List UInt8) (i : Value) (wr : World) : Prop :=
  ∃ (k : Nat) (xs : List V) (q : Nat) (bad : Bool) (lv : Value), k ≤ n ∧ i = .int .u64 (k : Int) ∧ xs.length = k ∧ BoxAt wr T (.int .i64 3) (.int .i64 0) (.string ⟨#[]⟩) lv ∧
    (∃ oa cap, lv = .slice oa k cap) ∧ OwnV 57 (fun g => T < g ∧ some g ≠ lv.ownBlock ∧ g < wr.heap.size) wr (T + 1) lv xs ∧ RefAt B wr R l q bad ∧ w.grownBy wr (some R) ∧
    RlOut d n l r0 xs k q bad
theorem rl_step {d n k q q2 : Nat} {bad : Bool} {l r0 : List UInt8} {xs : List V} {x : V} (hk : k < n) (h : rdVs (rdV d) k r0 = some (xs, l.drop q)) (hm : RvOut l (rdV d (l.drop q)) x bad q2) : RlOut d n l r0 (xs ++ [x]) (k + 1) q2 bad := by
  cases hE : rdV d (l.drop q) with
  | none => rw [hE] at hm; have hb : bad = true := hm
            rw [hb]; exact rdVs_none _ n k r0 _ xs hk h hE
  | some pr =>
    obtain ⟨y, r⟩ := pr
    rw [hE] at hm
    obtain ⟨h1, h2, hr⟩ := hm
    rw [h2, h1]
    show rdVs (rdV d) (k + 1) r0 = some (xs ++ [y], l.drop q2)
    rw [hr]; exact rdVs_some _ k _ _ _ _ _ h hE
/-- a round of the list's loop: what stands behind it -/
theorem rlistRel_next {B R T d n k q : Nat} {bad : Bool} {w wr w9 w' : World} {l r0 : List UInt8} {x : V} {xs : List V} {oa oa2 : Option Addr} {cp cp2 : Nat} (hT : T = w.heap.size) (hRT : R < T) (hkn : k < n) (hxl : xs.length = k)
    (hn : RlOut d n l r0 (xs ++ [x]) (k + 1) q bad) (hbx : BoxAt wr T (.int .i64 3) (.int .i64 0) (.string ⟨#[]⟩) (.slice oa k cp))
    (hg3 : w.grownBy wr (some R)) (hTw : T < wr.heap.size) (hg9 : wr.grownBy w9 (some R)) (hrd9 : RefAt B w9 R l q bad) (ob : Obj)
    (hown0 : ∀ g, (Value.slice oa k cp).ownBlock = some g → T + 1 ≤ g ∧ g < wr.heap.size)
    (ho : OwnV 57 (fun g => T < g ∧ some g ≠ (Value.slice oa k cp).ownBlock ∧ g < (w9.alloc ob).heap.size) w' (T + 1) (.slice oa2 (xs ++ [x]).length cp2) (xs ++ [x])) (hg : (w9.alloc ob).grownBy w' (Value.slice oa k cp).ownBlock) :
    RListRel B R T d n w l r0 (.int .u64 ((k : Int) + 1)) (w'.setCell ⟨T, 3, none⟩ (.slice oa2 (xs ++ [x]).length cp2)) := by
  have hl : (xs ++ [x]).length = k + 1 := by simp [hxl]
  have hTo : some T ≠ (Value.slice oa k cp).ownBlock := fun e => by have := hown0 _ e.symm; omega
  have hRo : ∀ j, j ≤ R → some j ≠ (Value.slice oa k cp).ownBlock := fun j hj e => by have := hown0 _ e.symm; omega
  have hs9 := hg9.size
  have hs' := hg.size
  have hbx9 := hbx.grown hg9 (by omega)
  have hTa : T < (w9.alloc ob).heap.size := by simp; omega
  have cl : ∀ i, w'.cell? ⟨T, i, none⟩ = w9.cell? ⟨T, i, none⟩ := fun i => World.cell?_of_block (w := w9) ((hg.block T hTa hTo).trans (Below.heap_alloc w9 ob T (by omega)))
  have fl : ∀ i, w'.frozen? ⟨T, i, none⟩ = w9.frozen? ⟨T, i, none⟩ := fun i => World.frozen?_of_block (w := w9) ((hg.block T hTa hTo).trans (Below.heap_alloc w9 ob T (by omega)))
  have hwg : w.grownBy w' (some R) := grown_trans (grown_alloc (grown_trans hg3 hg9 (.inl rfl)) ob) hg (.inr fun g hg => by have := hown0 g hg; omega)
  rw [hl] at ho ⊢
  have hob := OwnV.own_lt ho
  refine ⟨k + 1, xs ++ [x], q, bad, .slice oa2 (k + 1) cp2, by omega, by simp, hl, ?_, ⟨oa2, cp2, rfl⟩, ?_, ?_, grown_set_new hwg (by omega), hn⟩
  · refine ⟨?_, ?_, ?_, ?_, ?_⟩
    · rw [World.cell?_setCell_other _ _ _ _ (by simp), cl 0]; exact hbx9.c0
    · rw [World.cell?_setCell_other _ _ _ _ (by simp), cl 1]; exact hbx9.c1
    · rw [World.cell?_setCell_other _ _ _ _ (by simp), cl 2]; exact hbx9.c2
    · exact World.cell?_setCell_same' _ _ _ (by rw [cl 3, hbx9.c3]; rfl)
    · intro o; rw [World.frozen?_setCell, fl o]; exact hbx9.fr o
  · obtain ⟨lvs, _, _, _, hd4⟩ := id ho
    refine ((OwnV.kept ho (grown_setT w' T 3 _) (.inr fun e => by have := hob T e; omega) (fun j hj e => by injection e with e; have := hj.1; omega) (fun j hj => by have := hj.2.2; omega))).mono (fun j hj => ⟨hj.1, hd4 j hj, by have := hj.2.2; simp [World.setCell]; omega⟩) ?_
    exact fun j hj => hj.2.1
  · refine RefAt.setT ?_ hRT
    exact hrd9.keep fun j hj => (hg.block j (by simp; omega) (hRo j hj)).trans (Below.heap_alloc w9 ob j (by omega))
set_option maxRecDepth 100000 in
set_option maxHeartbeats 4000000 in
theorem rvalue_3s (d : Nat) (hd : d + 1 ≤ 16) (ih : RValSaid d) (B R p : Nat) (l : List UInt8) (hl : l.length ≤ 1000000) (di : Int) (hdi : di = 16 - ((d + 1 : Nat) : Int)) (w : World) (h : RefAt B w R l p false) (hRw : R < w.heap.size) (hp : l[p]? = some 3) (n : Nat) (r' : List UInt8) (hN : rdNum 0 0 (l.drop (p + 1)) = some (n, r')) (hnr : n ≤ r'.length) :
    Calls Try.prog 61 #[.pointer (some ⟨R, 0, none⟩), .int .i64 di] w (RValPost B R l (rdV (d + 1) (l.drop p)) w) := by
  have H := Lib.hid h; clear h
  have Hp := Lib.hid hp; clear hp
  have hn64 := Lib.hid (rdNum_lt _ 0 0 n r' (by decide) (by simp) hN)
  have hlr := rdNum_len _ 0 0 _ _ hN
  have hlp : (l.drop (p + 1)).length ≤ 1000000 := by simp; omega
  have HN := Lib.hid hN; clear hN
  have hlen : rdLen (l.drop (p + 1)) = some (n, r') := by unfold rdLen; rw [HN.out]; simp only; rw [if_pos hnr]
  have hv : Hid (∀ xs r2, rdVs (rdV d) n r' = some (xs, r2) → rdV (d + 1) (l.drop p) = some (.mk 3 0 ⟨#[]⟩ xs, r2)) := by
    intro xs r2 hx; rw [drop_at Hp.out, rdV_3, hlen]; simp only; rw [hx]
  have hv0 : Hid (rdVs (rdV d) n r' = none → rdV (d + 1) (l.drop p) = none) := by
    intro hx; rw [drop_at Hp.out, rdV_3, hlen]; simp only; rw [hx]
  clear hlen
  have IH := Lib.hid ih; clear ih
  have td : (di == 16) = false := by rw [beq_eq_false_iff_ne]; omega
  obtain ⟨di2, hdi2⟩ : ∃ di2, 16 - (d : Int) = di2 := ⟨_, rfl⟩
  have td2 : wrap64 (di + 1) = di2 := by unfold wrap64; omega
  have Hdi2 := Lib.hid hdi2
  clear hdi hdi2 hd
  have Hnr := Lib.hid hnr
  have Hlr := Lib.hid hlr; have Hlp := Lib.hid hlp
  clear hnr hlr hlp
  go_enter Try.func61, Try.ntmps61
  go_wp2_with fail
  refine (rhead B R p 3 l hl w H.out hRw Hp.out).mono ?_
  rintro e w1 ⟨rfl, hh⟩
  go_wp2_with fail
  refine (rnumber_any B R (p + 1) l hl _ hh.rd).mono ?_
  rw [HN.out]
  rintro e w2 ⟨rfl, q, hq, hr2, hg2⟩
  obtain ⟨⟨x0, x1, x2, x3, xf⟩, hgw⟩ := hh.num hRw hg2
  have f2 := hr2.fr 2; have r2 := hr2.c2; have r1 := hr2.c1
  obtain ⟨v, r0, hb⟩ := hr2.c0
  obtain ⟨oa, cap, rfl, _, _⟩ := hb.form
  have hRT : R ≠ w.heap.size := by omega
  have hql := hr2.hp
  have hm : l.length - q = r'.length := by rw [← hq]; simp
  obtain ⟨m, hmm⟩ : ∃ m, r'.length = m := ⟨_, rfl⟩
  have e1 : wrap64 ((l.length : Int) - (q : Int)) = (m : Int) := by unfold wrap64; omega
  have e2 : IntKind.u64.wrap (m : Int) = (m : Int) := by rw [IntKind.wrap_u64]; omega
  have t1 : decide (m < n) = false := decide_eq_false (by have := Hnr.out; omega)
  have HH := Lib.hid hh; have HR2 := Lib.hid hr2
  have Hn : Hid (n ≤ 1000000) := by show _ ≤ _; have h1 := Hnr.out; have h2 := Hlr.out; have h3 := Hlp.out; omega
  have Hq := Lib.hid hq
  clear hh hr2 hg2 hb hq hm hmm hql
  go_wp2
  go_quiet (fail)
  have z0 : (w2.drewN nq).cell? ⟨w.heap.size, 0, none⟩ = some (.int .i64 0) := x0
  have z1 : (w2.drewN nq).cell? ⟨w.heap.size, 1, none⟩ = some (.int .i64 0) := x1
  have z2 : (w2.drewN nq).cell? ⟨w.heap.size, 2, none⟩ = some (.string ⟨#[]⟩) := x2
  have z3 : (w2.drewN nq).cell? ⟨w.heap.size, 3, none⟩ = some (.slice none 0 0) := x3
  have zf : ∀ o, (w2.drewN nq).frozen? ⟨w.heap.size, o, none⟩ = false := xf
  have HR3 : Hid (RefAt B (w2.drewN nq) R l q false) := HR2.out.drewN _
  have hg3 : w.grownBy (w2.drewN nq) (some R) := grown_drewN' hgw _
  clear x0 x1 x2 x3 xf f2 r2 r1 r0 hgw HR2
  generalize w2.drewN nq = w3 at *
  have HB3 := Lib.hid (BoxAt.mk z0 z1 z2 z3 zf)
  clear z0 z1 z2 z3 zf
  go_wp2
  have hTT : w.heap.size < w3.heap.size := World.block_lt_of_cell? w3 _ HB3.out.c0
  have hRT3 : R < w3.heap.size := by omega
  have HB4 := Lib.hid (BoxAt.made w3 57 (.int .i64 3) (.int .i64 0) (.string ⟨#[]⟩) (.slice none 0 0))
  have HR4 := Lib.hid (HR3.out.alloc hRT3 (.cells #[.int .i64 3, .int .i64 0, .string ⟨#[]⟩, .slice none 0 0] 57))
  clear e1 e2 t1
  go_loopw [9] (fun i wr => RListRel B R w3.heap.size d n w3 l r' i wr) (fun i _ => n - (intOf i).toNat)
  case atStart => exact ⟨0, [], q, false, .slice none 0 0, Nat.zero_le _, rfl, rfl, HB4.out, ⟨none, 0, rfl⟩, ⟨[], World.ownsRow_nil _ _ _ _, trivial, by simp, by simp [Value.ownBlock]⟩, HR4.out, grown_alloc (grown_refl _ _) _, by show rdVs (rdV d) 0 r' = some ([], l.drop q); rw [Hq.out]; rfl⟩
  case round =>
    obtain ⟨k, xs, q2, bad, lv, hkn, rfl, hxl, hbx, ⟨oa, cp, rfl⟩, hown, hrd3, hg3r, hmt⟩ := hrel
    have hsz3 := hg3r.size
    have hRwr : R < wr.heap.size := by omega
    have hT0 := Lib.hid (HB3.out.grown hg3r (by omega))
    have hgr := Lib.hid (grown_trans hg3 hg3r (.inl rfl))
    have Hxl := Lib.hid hxl; have Hown := Lib.hid hown; have Hrd3 := Lib.hid hrd3; have Hbx := Lib.hid hbx; have Hmt := Lib.hid hmt
    have c2 := hrd3.c2
    clear hxl hown hrd3 hmt
    by_cases hgo : k < n ∧ bad = false
    case neg =>
      obtain ⟨x0, x1, x2, x3, xf⟩ := hbx
      obtain ⟨u0, u1, u2, u3, uf⟩ := hT0.out
      have hne : w.heap.size ≠ w3.heap.size := by omega
      have hdd : (decide (k < n) = false) ∨ (decide (k < n) = true ∧ bad = true) := by
        by_cases h : k < n
        · exact .inr ⟨decide_eq_true h, by cases bad <;> simp_all⟩
        · exact .inl (decide_eq_false h)
      have hfin : Hid (RvOut l (rdV (d + 1) (l.drop p)) (V.mk 3 0 ⟨#[]⟩ xs) bad q2) := by
        show RvOut l (rdV (d + 1) (l.drop p)) (V.mk 3 0 ⟨#[]⟩ xs) bad q2
        cases bad with
        | true => rw [hv0.out Hmt.out]; rfl
        | false =>
          obtain rfl : k = n := by
            by_cases h : k < n
            · exact absurd ⟨h, rfl⟩ hgo
            · omega
          rw [hv.out _ _ Hmt.out]; exact ⟨rfl, rfl, rfl⟩
      have hsl : Hid (SlVD (fun g => w3.heap.size < g ∧ g < wr.heap.size) wr xs (.slice oa k cp)) := Hown.out.sl (fun g hg => by have := hg.1; have := hg.2.2; omega) (fun g hg => by have := Hown.out.own_lt g hg; omega)
      clear hgo
      rcases hdd with tk | ⟨tk, hbt⟩
      rotate_left
      rw [hbt] at c2
      clear hbt
      all_goals
        go_wp2
        refine bodyPost_ret (v := .agg #[.int .i64 3, .int .i64 0, .string ⟨#[]⟩, .slice oa k cp]) (by simp [results, Try.results61, go_sem, u0, u1, u2, u3]) rfl ?_
        refine ⟨.mk 3 0 ⟨#[]⟩ xs, _, q2, bad, rfl, ⟨by show I64 3; unfold I64; omega, I64_0, Nat.zero_le maxLen, _, rfl, hsl.out.keep (fun g hg => ⟨by omega, by simp [World.setCell]; omega⟩) (fun g hg => by repeat (first | rfl | refine (Below.heap_setCell _ _ _ _ (by show g ≠ w.heap.size; omega)).trans ?_))⟩, by repeat (first | exact Hrd3.out | refine RefAt.setT ?_ hRw), by repeat (first | exact hgr.out | refine grown_set_new ?_ (Nat.le_refl _)), hfin.out⟩
    case pos =>
      obtain ⟨hlt, rfl⟩ := hgo
      have tk : decide (k < n) = true := decide_eq_true hlt
      have e9 : IntKind.u64.wrap ((k : Int) + 1) = ((k + 1 : Nat) : Int) := by have := Hn.out; rw [IntKind.wrap_u64]; omega
      have td3 : IntKind.i64.wrap (di + 1) = di2 := (IntWalk.i64_left _).trans td2
      have Hlt := Lib.hid hlt
      obtain ⟨x0, x1, x2, x3, xf⟩ := hbx
      go_wp2
      have hTwr : w3.heap.size < wr.heap.size := World.block_lt_of_cell? wr _ x0
      have ho0 := Hown.out.own_lt
      have hTo : some w3.heap.size ≠ (Value.slice oa k cp).ownBlock := fun e => by have := ho0 _ e.symm; omega
      have hO0 := Lib.hid ho0; clear ho0
      go_region_law (first
        | (go_simp; go_at_call 61; refine (IH.out B R q2 l di2 Hdi2.out.symm hl wr.drew (RefAt.keep Hrd3.out fun j hj => rfl) (by simpa using hRwr)).mono ?_; rintro e w9 ⟨x, v9, q4, bad4, rfl, hv9, hrd9, hg9', hm9⟩
           have Hm9 := Lib.hid (rl_step Hlt.out Hmt.out hm9)
           have Hrd9 := Lib.hid hrd9
           have hg9 : wr.grownBy w9 (some R) := grown_trans (grown_drew' (grown_refl wr _)) hg9' (.inl rfl)
           have y0 : w9.cell? ⟨w3.heap.size, 3, none⟩ = some (.slice oa k cp) := hg9.cell x3 (fun e => by injection e with e; exact absurd e (by show w3.heap.size ≠ R; omega))
           have hs9 := hg9.size
           have hTw9 : w3.heap.size < w9.heap.size := by omega
           obtain ⟨z1, z2, z3, lx, rfl, z4⟩ := hv9
           have Z := Lib.hid (And.intro z1 (And.intro z2 (And.intro z3 z4)))
           clear z1 z2 z3 z4 hg9' hm9 hrd9)
        | (refine step_append_V (e := 57) (z := .agg #[.int .i64 0, .int .i64 0, .string ⟨#[]⟩, .slice none 0 0]) (bytes := 56) Try.underlying55 (by kernel_rfl) rfl (by decide) rfl _ _ rfl (fun g => w3.heap.size < g ∧ some g ≠ (Value.slice oa k cp).ownBlock ∧ g < (w9.alloc (.cells #[.int .i64 x.kind, .int .i64 x.n, .string x.s, lx] 57)).heap.size) (w3.heap.size + 1) (.slice oa k cp) xs rfl ?q1 _ x lx rfl ?q2 Z.out.2.2.2.one ?q3 ?q4 ?q5 ?q6 ?_
           case q1 =>
             refine ((Hown.out.kept hg9 (.inr fun e => by have := hO0.out R e; omega) (fun j hj e => by injection e with e; have := hj.1; omega) (fun j hj => hj.2.2)).kept (row := some R) (grown_alloc (grown_refl w9 _) _) (.inr fun e => by have := hO0.out R e; omega) (fun j hj e => by injection e with e; have := hj.1; omega) (fun j hj => by have := hj.2.2; omega)).mono (fun j hj => ⟨hj.1, hj.2.1, by have := hj.2.2; simp; omega⟩) (fun j hj => hj.2.1)
           case q2 => exact ⟨Z.out.1, Z.out.2.1, Z.out.2.2.1, Z.out.2.2.2.keep (fun j hj => ⟨by have : wr.heap.size ≤ j := hj.1; omega, fun e => by have h1 := (hO0.out j e.symm).2; have h2 : wr.heap.size ≤ j := hj.1; omega, by have := hj.2; simp; omega⟩) (fun j hj => Below.heap_alloc w9 _ j hj.2)⟩
           case q3 => simp
           case q4 => (have := Hxl.out; have := Hn.out; have := Hlt.out; omega)
           case q5 => simp; omega
           case q6 => exact fun j hj => hj.2.2
           intro v' w' ho hg hnx
           obtain ⟨oa2, cp2, rfl⟩ := ho.shape
           have hTb := (hg.block w3.heap.size (by simp; omega) hTo).trans (Below.heap_alloc w9 _ w3.heap.size (by omega))
           have y3 : w'.cell? ⟨w3.heap.size, 3, none⟩ = some (.slice oa k cp) := (World.cell?_of_block (w := w9) hTb).trans y0
           have yf : w'.frozen? ⟨w3.heap.size, 3, none⟩ = false := (World.frozen?_of_block (w := w9) hTb).trans ((World.frozen?_of_block (w := wr) (hg9.block w3.heap.size (by omega) (fun e => by injection e with e; omega))).trans (xf 3))
           clear hTb
           have HO := Lib.hid ho; clear ho))
      all_goals
        go_wp2
        go_roundw
        case rel =>
          have hll : (xs ++ [x]).length = xs.length + 1 := by simp
          have qq := rlistRel_next rfl hRT3 Hlt.out Hxl.out Hm9.out Hbx.out hg3r hTwr hg9 Hrd9.out _ hO0.out HO.out hg
          rw [hll] at qq
          first | exact qq | ((repeat apply Exists.intro); exact ⟨qq, rfl⟩)
        case measure => simp [intOf]; omega
end Go.Proofs.Ytgdbmoggpfpkkaa
/- the reference's Reader: Value, whatever lies ahead. -/
namespace Go.Proofs.Ytgdbmoggpfpkkaa
open Go.RowKit

theorem rvalue_any : ∀ d, d ≤ 16 → RValSaid d := by
  intro d
  induction d with
  | zero =>
    intro hd B R p l di hdi hl w h hRw
    cases hp : l[p]? with
    | none => exact rvalue_end 0 B R p l di hl w h hRw (List.getElem?_eq_none_iff.1 hp)
    | some c =>
      by_cases h1 : c = 1
      · subst h1; exact rvalue_1 0 B R p l di hl w h hRw hp
      by_cases h2 : c = 2
      · subst h2; exact rvalue_2 0 B R p l di hl w h hRw hp
      by_cases h3 : c = 3
      · subst h3
        cases hN : rdNum 0 0 (l.drop (p + 1)) with
        | none => exact rvalue_3n 0 B R p l di hl w h hRw hp hN
        | some pr =>
          obtain ⟨n, r'⟩ := pr
          by_cases hnr : n ≤ r'.length
          · have hdi' : di = 16 := by simpa using hdi
            subst hdi'; exact rvalue_3z B R p l hl w h hRw hp n r' hN hnr
          · exact rvalue_3l 0 B R p l di hl w h hRw hp n r' hN hnr
      · exact rvalue_0 0 B R p c l di hl w h hRw hp h1 h2 h3
  | succ d ih =>
    intro hd B R p l di hdi hl w h hRw
    cases hp : l[p]? with
    | none => exact rvalue_end (d + 1) B R p l di hl w h hRw (List.getElem?_eq_none_iff.1 hp)
    | some c =>
      by_cases h1 : c = 1
      · subst h1; exact rvalue_1 (d + 1) B R p l di hl w h hRw hp
      by_cases h2 : c = 2
      · subst h2; exact rvalue_2 (d + 1) B R p l di hl w h hRw hp
      by_cases h3 : c = 3
      · subst h3
        cases hN : rdNum 0 0 (l.drop (p + 1)) with
        | none => exact rvalue_3n (d + 1) B R p l di hl w h hRw hp hN
        | some pr =>
          obtain ⟨n, r'⟩ := pr
          by_cases hnr : n ≤ r'.length
          · exact rvalue_3s d hd (ih (by omega)) B R p l hl di hdi w h hRw hp n r' hN hnr
          · exact rvalue_3l (d + 1) B R p l di hl w h hRw hp n r' hN hnr
      · exact rvalue_0 (d + 1) B R p c l di hl w h hRw hp h1 h2 h3
end Go.Proofs.Ytgdbmoggpfpkkaa
/- the reference's Decode: what is refused. -/
namespace Go.Proofs.Ytgdbmoggpfpkkaa
open Go.RowKit

theorem refAt_made {w : World} {l : List UInt8} {v : Value} {t t2 : TypeId} {o : Array Value} (hb : BtsAt w.heap.size w l v) :
    RefAt w.heap.size ((w.alloc (.cells o t)).alloc (.cells #[v, .int .i64 0, .bool false] t2)) (w.heap.size + 1) l 0 false := by
  have hs : (w.alloc (.cells o t)).heap.size = w.heap.size + 1 := World.size_alloc _ _
  refine ⟨Nat.le_succ _, fun i => ?_, ⟨v, ?_, ?_⟩, ?_, ?_, Nat.zero_le _⟩
  · rw [← hs]; exact World.frozen?_alloc_at _ _ _ _ rfl
  · rw [← hs]; simp
  · exact hb.keep (Nat.le_refl _) fun k hk => (Below.heap_alloc _ _ k (by rw [hs]; omega)).trans (Below.heap_alloc w _ k hk)
  · rw [← hs]; simp
  · rw [← hs]; simp

theorem below_of_grown {w w' : World} {R : Nat} (h : w.grownBy w' (some R)) (hR : w.heap.size ≤ R) : Below w.heap.size w w' :=
  ⟨h.os, h.tape, h.output, h.size, fun k hk => h.block k hk (fun e => by injection e with e; omega)⟩
set_option maxRecDepth 100000 in
set_option maxHeartbeats 1000000 in
theorem rdecode_none (l : List UInt8) (hl : l.length ≤ 1000000) (oa : Option Addr) (cap : Nat) (w : World) (hb : BtsAt w.heap.size w l (.slice oa l.length cap)) (hN : rdV 16 l = none) :
    Calls Try.prog 39 #[.slice oa l.length cap] w fun e w' => e = .returned (.tuple #[.agg #[.int .i64 0, .int .i64 0, .string ⟨#[]⟩, .slice none 0 0], .int .i64 10]) ∧ Below w.heap.size w w' := by
  have HB := Lib.hid hb; clear hb
  have HN := Lib.hid hN; clear hN
  go_enter Try.func39, Try.ntmps39
  go_wp2_with fail
  refine (rvalue_any 16 (by omega) w.heap.size (w.heap.size + 1) 0 l 0 (by simp) hl _ (refAt_made HB.out) (by simp)).mono ?_
  rw [List.drop_zero, HN.out]
  rintro e w9 ⟨x, v9, q, bad, rfl, hv9, hrd9, hg9, hbad⟩
  have hbt : bad = true := hbad
  subst hbt
  obtain ⟨z1, z2, z3, lx, rfl, z4⟩ := hv9
  have hbx := Lib.hid (((BoxAt.made w 57 (.int .i64 0) (.int .i64 0) (.string ⟨#[]⟩) (.slice none 0 0)).grown (R := w.heap.size + 1) (grown_alloc (grown_refl _ _) (.cells #[.slice oa l.length cap, .int .i64 0, .bool false] 94)) (by omega)).grown hg9 (by omega))
  obtain ⟨x0, x1, x2, x3, xf⟩ := hbx.out
  have r2 := hrd9.c2
  have hlt : w.heap.size + 1 < w9.heap.size := World.block_lt_of_cell? w9 _ r2
  have hlt0 : w.heap.size < w9.heap.size := by omega
  have h1 := z4.one
  obtain ⟨xo, xn, xc, rfl⟩ := z4.shape
  have Z := Lib.hid z4; have HR := Lib.hid hrd9; have HG := Lib.hid hg9
  clear z1 z2 z3 z4 hrd9 hg9 hbad h1
  go_wp2
  go_quiet (fail)
  have hgw : w.grownBy w9 (some (w.heap.size + 1)) := grown_trans (grown_alloc (grown_alloc (grown_refl w _) _) _) HG.out (.inl rfl)
  have hb10 := hbx.out.grown (R := w.heap.size + 1) (grown_drewN' (grown_alloc (grown_refl w9 _) (.cells #[.int .i64 x.kind, .int .i64 x.n, .string x.s, .slice xo xn xc] 57)) nq) (by omega)
  have hg10 := grown_drewN' (grown_alloc hgw (.cells #[.int .i64 x.kind, .int .i64 x.n, .string x.s, .slice xo xn xc] 57)) nq
  clear x0 x1 x2 x3 xf r2 hbx hgw
  generalize World.drewN (w9.alloc (.cells #[.int .i64 x.kind, .int .i64 x.n, .string x.s, .slice xo xn xc] 57)) nq = w10 at *
  obtain ⟨x0, x1, x2, x3, xf⟩ := hb10
  go_wp2
  refine bodyPost_ret (v := .tuple #[.agg #[.int .i64 0, .int .i64 0, .string ⟨#[]⟩, .slice none 0 0], .int .i64 10]) (by simp [results, Try.results39, go_sem, x0, x1, x2, x3]) rfl ?_
  refine ⟨rfl, below_of_grown (R := w.heap.size + 1) ?_ (by omega)⟩
  repeat (first | exact hg10 | refine grown_set_new ?_ (Nat.le_refl _))
end Go.Proofs.Ytgdbmoggpfpkkaa
/- the reference's Decode: bytes that are left over. -/
namespace Go.Proofs.Ytgdbmoggpfpkkaa
open Go.RowKit

set_option maxRecDepth 100000 in
set_option maxHeartbeats 1000000 in
theorem rdecode_junk (l : List UInt8) (hl : l.length ≤ 1000000) (oa : Option Addr) (cap : Nat) (w : World) (hb : BtsAt w.heap.size w l (.slice oa l.length cap)) (x0' : V) (r : List UInt8) (hN : rdV 16 l = some (x0', r)) (hr : r ≠ []) :
    Calls Try.prog 39 #[.slice oa l.length cap] w fun e w' => e = .returned (.tuple #[.agg #[.int .i64 0, .int .i64 0, .string ⟨#[]⟩, .slice none 0 0], .int .i64 10]) ∧ Below w.heap.size w w' := by
  have HB := Lib.hid hb; clear hb
  have HN := Lib.hid hN; clear hN
  go_enter Try.func39, Try.ntmps39
  go_wp2_with fail
  refine (rvalue_any 16 (by omega) w.heap.size (w.heap.size + 1) 0 l 0 (by simp) hl _ (refAt_made HB.out) (by simp)).mono ?_
  rw [List.drop_zero, HN.out]
  rintro e w9 ⟨x, v9, q, bad, rfl, hv9, hrd9, hg9, hbad⟩
  obtain ⟨rfl, rfl, hq⟩ := hbad
  have r1 := hrd9.c1
  have hne : ((q : Int) != (l.length : Int)) = true := by
    rw [bne_iff_ne]; intro h
    have : q = l.length := by omega
    rw [this, List.drop_length] at hq; exact hr hq.symm
  obtain ⟨z1, z2, z3, lx, rfl, z4⟩ := hv9
  have hbx := Lib.hid (((BoxAt.made w 57 (.int .i64 0) (.int .i64 0) (.string ⟨#[]⟩) (.slice none 0 0)).grown (R := w.heap.size + 1) (grown_alloc (grown_refl _ _) (.cells #[.slice oa l.length cap, .int .i64 0, .bool false] 94)) (by omega)).grown hg9 (by omega))
  obtain ⟨x0, x1, x2, x3, xf⟩ := hbx.out
  have r2 := hrd9.c2
  have hlt : w.heap.size + 1 < w9.heap.size := World.block_lt_of_cell? w9 _ r2
  have hlt0 : w.heap.size < w9.heap.size := by omega
  have h1 := z4.one
  obtain ⟨xo, xn, xc, rfl⟩ := z4.shape
  have Z := Lib.hid z4; have HR := Lib.hid hrd9; have HG := Lib.hid hg9
  clear z1 z2 z3 z4 hrd9 hg9 h1 hq hr
  go_wp2
  go_quiet (fail)
  have hgw : w.grownBy w9 (some (w.heap.size + 1)) := grown_trans (grown_alloc (grown_alloc (grown_refl w _) _) _) HG.out (.inl rfl)
  have hb10 := hbx.out.grown (R := w.heap.size + 1) (grown_drewN' (grown_alloc (grown_refl w9 _) (.cells #[.int .i64 x.kind, .int .i64 x.n, .string x.s, .slice xo xn xc] 57)) nq) (by omega)
  have hg10 := grown_drewN' (grown_alloc hgw (.cells #[.int .i64 x.kind, .int .i64 x.n, .string x.s, .slice xo xn xc] 57)) nq
  clear x0 x1 x2 x3 xf r2 r1 hbx hgw
  generalize World.drewN (w9.alloc (.cells #[.int .i64 x.kind, .int .i64 x.n, .string x.s, .slice xo xn xc] 57)) nq = w10 at *
  obtain ⟨x0, x1, x2, x3, xf⟩ := hb10
  go_wp2
  refine bodyPost_ret (v := .tuple #[.agg #[.int .i64 0, .int .i64 0, .string ⟨#[]⟩, .slice none 0 0], .int .i64 10]) (by simp [results, Try.results39, go_sem, x0, x1, x2, x3]) rfl ?_
  refine ⟨rfl, below_of_grown (R := w.heap.size + 1) ?_ (by omega)⟩
  repeat (first | exact hg10 | refine grown_set_new ?_ (Nat.le_refl _))
end Go.Proofs.Ytgdbmoggpfpkkaa
/- a step of a drawn region walked by hand. -/
namespace Go.Proofs.Ytgdbmoggpfpkkaa
open Go.RowKit
theorem take_dst {P : Program} {md : Region.Mode} {ops : Array Oper} {Q : Exit → Act → World → Prop} {S : World → Prop} (d : Option Tmp) {i : Nat} {oi : Oper} {v : Value} {fuel : Nat} {listed : Array Bool} {a : Act} {w : World} (hi : ops[i]? = some oi) (hd : oi.dst = d)
    (hs : Region.noSelect ops = true) (hf : Region.free md ops listed i = true) (hr : (Region.ready md ops listed).contains i = true)
    (hQ : ∀ c a w, Q (.panic c) (a.put d v) w → Q (.panic c) a w) (hy : YieldsIf P ops S oi v a) (hS : S w)
    (h : wpAnyH P md ops Q S fuel (listed.setIfInBounds i true) (a.put d v) w) : wpAnyH P md ops Q S (fuel + 1) listed a w := by
  subst hd
  exact wpAnyH_take hi hs hf hr hQ hy hS h
end Go.Proofs.Ytgdbmoggpfpkkaa
/- the reference's numeral. -/
namespace Go.Proofs.Ytgdbmoggpfpkkaa
open Go.RowKit

/-- bytes that the call has made, in new blocks -/
def MadePost (l : List UInt8) (w : World) (e : Ending) (w' : World) : Prop := ∃ v, e = .returned v ∧ OwnB 5 w' w.heap.size v l ∧ Below w.heap.size w w'

theorem OwnB.lit1 {e : TypeId} (w : World) (base : Nat) (x : Int) (c : UInt8) (hx : x = (c.toNat : Int)) (hb : base ≤ w.heap.size) : OwnB e (w.alloc (.cells #[.int .u8 x] e)) base (.slice (some ⟨w.heap.size, 0, none⟩) 1 1) [c] := by
  subst hx
  exact World.ownsRow_lit (w := w) (base := base) (e := e) (size := 1) #[.int .u8 (c.toNat : Int)] 1 hb (by unfold maxLen; omega) rfl
theorem OwnB.lit1' {e : TypeId} (w : World) (base B : Nat) (x : Int) (c : UInt8) (hx : x = (c.toNat : Int)) (hB : w.heap.size = B) (hb : base ≤ B) : OwnB e (w.alloc (.cells #[.int .u8 x] e)) base (.slice (some ⟨B, 0, none⟩) 1 1) [c] := by
  subst hB; exact OwnB.lit1 w base x c hx hb
theorem OwnB.mono {e : TypeId} {w : World} {base base' : Nat} {v : Value} {l : List UInt8} (h : OwnB e w base v l) (hb : base' ≤ base) : OwnB e w base' v l := by
  refine ⟨h.1, ?_⟩
  rcases h.2 with h | ⟨g, cap, cur, h1, h2, h3⟩
  · exact .inl h
  · exact .inr ⟨g, cap, cur, h1, Nat.le_trans hb h2, h3⟩
theorem OwnB.below {e : TypeId} {w w' : World} {base : Nat} {v : Value} {l : List UInt8} (h : OwnB e w base v l) (hb : Below w.heap.size w w') : OwnB e w' base v l := by
  refine h.kept (row := none) ⟨hb.os, hb.tape, hb.output, hb.size, fun k hk _ => hb.block k hk⟩ ?_
  cases v.ownBlock <;> simp

set_option maxRecDepth 100000 in
set_option maxHeartbeats 1000000 in
theorem rnumeral_any (f : Nat) : ∀ (u : Nat) (ui : Int) (_ : ui = (u : Int)) (_ : Hid (u < 128 ^ (f + 1))) (_ : f ≤ 9) (w : World), Calls Try.prog 77 #[.int .u64 ui] w (MadePost (numF f u) w) := by
  induction f with
  | zero =>
    intro u ui hui hu _ w
    subst hui
    have h : u < 128 := by have := hu.out; simpa using this
    have hn := Lib.hid (numF_end 0 u h)
    go_enter Try.func77, Try.ntmps77
    go_wp2
    go_ret
    refine ⟨_, rfl, ?_, (Below.refl _ _).alloc (Nat.le_refl _) _⟩
    rw [hn.out]
    exact OwnB.lit1 w _ _ _ (by rw [lo_cast]; omega) (Nat.le_refl _)
  | succ f ih =>
    have IH := Lib.hid ih; clear ih
    intro u ui hui hu hf w
    subst hui
    by_cases h : u < 128
    · have hn := Lib.hid (numF_end (f + 1) u h)
      go_enter Try.func77, Try.ntmps77
      go_wp2
      go_ret
      refine ⟨_, rfl, ?_, (Below.refl _ _).alloc (Nat.le_refl _) _⟩
      rw [hn.out]
      exact OwnB.lit1 w _ _ _ (by rw [lo_cast]; omega) (Nat.le_refl _)
    · have hn := Lib.hid (numF_more f u h)
      have hp : Hid (u / 128 < 128 ^ (f + 1)) := by
        have := hu.out; rw [Nat.pow_succ] at this; exact Nat.div_lt_of_lt_mul (by omega)
      have hb : Hid (u / 128 < 18446744073709551616) := by
        have h1 := hp.out
        have h2 : (128 : Nat) ^ (f + 1) ≤ 128 ^ 9 := Nat.pow_le_pow_right (by decide) (by omega)
        have h3 : (128 : Nat) ^ 9 = 9223372036854775808 := by decide
        show _ < _; omega
      go_enter Try.func77, Try.ntmps77
      go_wp2_with (first
        | (go_at_call 77; refine (IH.out (u / 128) _ ?hui hp (by omega) _).mono ?_
           case hui => have := hb.out; rw [IntKind.wrap_u64]; omega
           rintro e w1 ⟨v1, rfl, ho1, hb1⟩)
        | (at_builtin; refine wpList_append_B (e := 5) Try.underlying33 (by kernel_rfl) rfl _ _ rfl w.heap.size _ [hiDig u] rfl ?own _ (numF f (u / 128)) rfl ?c1 ?c2 ?c3 ?_))
      case own => exact (OwnB.lit1 w _ _ _ (by rw [hi_cast]; omega) (Nat.le_refl _)).below hb1
      case c1 => exact SrcB.ofRd Try.underlying33 ho1.rd
      case c2 => have := numF_len f (u / 128); simp; omega
      case c3 => have := hb1.size; simp at this; omega
      intro v2 w2 ho2 hg2 hn2
      go_wp2
      go_ret
      refine ⟨_, rfl, ?_, ?_⟩
      · rw [hn.out]; exact ho2
      · exact (below_after hb1).grown hg2 (by have := hb1.size; simp at this; omega) (fun k hk => by simp [Value.ownBlock] at hk; omega)
end Go.Proofs.Ytgdbmoggpfpkkaa
/- the reference's encode. -/
namespace Go.Proofs.Ytgdbmoggpfpkkaa
open Go.RowKit

theorem next_lit {w : World} {k B : Nat} {v2 : Value} (h : Next w (.slice (some ⟨k, 0, none⟩) 1 1) v2) (hk : B ≤ k) (hw : B ≤ w.heap.size) : ∀ g, v2.ownBlock = some g → B ≤ g := by
  intro g hg
  rcases h with h | h
  · rw [h] at hg; simp [Value.ownBlock] at hg; omega
  · have := h g hg; omega
theorem num_hu {u : Nat} (h : u < 18446744073709551616) : Hid (u < 128 ^ (9 + 1)) := Nat.lt_of_lt_of_le h (by decide)
def REncRel (B0 : Nat) (W : World) (pre : List UInt8) (l : List V) (base : Nat) (b i : Value) (wr : World) : Prop :=
  ∃ k : Nat, k ≤ l.length ∧ i = .int .i64 k ∧ OwnB 5 wr base b (pre ++ encs (l.take k)) ∧ Below B0 W wr ∧ (∀ g, b.ownBlock = some g → B0 ≤ g)

set_option maxRecDepth 100000 in
set_option maxHeartbeats 1000000 in
theorem rencode_any (N : Nat) (hN : N ≤ 60000) : ∀ (x : V) (_ : fm x = true) (_ : sz x ≤ N) (v : Value) (w : World) (_ : RdV w.heap.size w x v), Calls Try.prog 57 #[v] w (MadePost (enc x) w) := by
  induction N with
  | zero => intro x _ hx; obtain ⟨k, n, s, l⟩ := x; simp [sz] at hx
  | succ N ih =>
  have IH := Lib.hid (ih (by omega)); clear ih
  intro x hf hx v w hr
  have hkind := fm_kind hf
  have hok := hr.ok
  obtain ⟨k, n, s, l⟩ := x
  obtain ⟨oa, cap, rfl, hl⟩ := hr.form
  clear hr
  simp only [V.kind, V.n, V.s, V.l] at *
  simp only [okV] at hok
  obtain ⟨_, hn64, _, _, _⟩ := hok
  have HL := Lib.hid hl; clear hl
  have Hn64 := Lib.hid hn64; clear hn64
  have hszs : szs l + s.size + 24 ≤ N + 1 := by have := hx; simp only [sz] at this; omega
  have hll : l.length ≤ 60000 := by have := szs_len l; omega
  have HF := Lib.hid hf; clear hf
  rcases hkind with rfl | rfl | rfl
  · have he := Lib.hid (enc_1 n s l)
    go_enter Try.func57, Try.ntmps57
    go_wp2_with (first
      | (go_at_call 78; refine (runsigned_any n Hn64 _).mono ?_; rintro e w' ⟨rfl, rfl⟩)
      | (go_at_call 77; refine (rnumeral_any 9 (uns n) _ rfl (num_hu (uns_lt n Hn64.out)) (by decide) _).mono ?_
         rintro e w1 ⟨v1, rfl, ho1, hb1⟩)
      | (at_builtin; refine wpList_append_B (e := 5) Try.underlying33 (by kernel_rfl) rfl _ _ rfl w.heap.size (.slice (some ⟨w.heap.size + 1, 0, none⟩) 1 1) [1] rfl ?own _ (num (uns n)) rfl ?c1 ?c2 ?c3 ?_))
    case own => exact (OwnB.lit1' (w.alloc _) w.heap.size (w.heap.size + 1) 1 1 rfl (by simp) (by omega)).below hb1
    case c1 => exact SrcB.ofRd Try.underlying33 ho1.rd
    case c2 => have := numF_len 9 (uns n); simp [num]; omega
    case c3 => have := hb1.size; simp at this; omega
    intro v2 w2 ho2 hg2 hn2
    go_wp2
    go_ret
    exact ⟨_, rfl, by rw [he.out]; exact ho2, ((((Below.refl _ w).alloc (Nat.le_refl _) _).alloc (by simp) _).trans (hb1.mono (by simp; omega))).grown hg2 (by have := hb1.size; simp at this; omega) (fun k hk => by simp [Value.ownBlock] at hk; omega)⟩
  · have he := Lib.hid (enc_2 n s l)
    have hs64 : Hid (s.size < 18446744073709551616) := by show s.size < _; omega
    have hsd : Hid (s.data.toList.length = s.size) := by show _ = _; simp
    have hw : IntKind.u64.wrap (s.size : Int) = (s.size : Int) := by rw [IntKind.wrap_u64]; omega
    go_enter Try.func57, Try.ntmps57
    go_wp2
    have hst : Hid (w.heap.size + 1 ≤ (w.alloc (.cells #[.int .i64 2, .int .i64 n, .string s, .slice oa l.length cap] 57)).heap.size) := by show _ ≤ _; simp
    go_region_held3 (fun w' => w'.cell? ⟨w.heap.size, 2, none⟩ = some (.string s)) (first | go_keep | exact (hB3.cell (p := ⟨w.heap.size, 2, none⟩) (by simp)).trans (by simp) | exact (hB2.cell (p := ⟨w.heap.size, 2, none⟩) (by simp)).trans (by simp) | exact (hB1.cell (p := ⟨w.heap.size, 2, none⟩) (by simp)).trans (by simp))
      (first
       | (go_at_call 77; refine (rnumeral_any 9 s.size _ rfl (num_hu hs64.out) (by decide) _).mono ?_
          rintro e w1 ⟨v1, rfl, ho1, hb1⟩
          have hB1 := (((Below.refl (w.heap.size + 1) _).alloc hst.out _).drew).trans (hb1.mono (by simp)))
       | (go_at_call 77; refine (rnumeral_any 9 s.size _ rfl (num_hu hs64.out) (by decide) _).mono ?_
          rintro e w1 ⟨v1, rfl, ho1, hb1⟩
          have hB1 := ((Below.refl (w.heap.size + 1) _).drew).trans (hb1.mono (by simp)))
       | (refine step_append_B (e := 5) Try.underlying33 (by kernel_rfl) rfl _ _ rfl w.heap.size (.slice (some ⟨w.heap.size + 1, 0, none⟩) 1 1) [2] rfl ?own v1 (num s.size) rfl ?c1 ?c2 ?c3 ?_
          case own => exact (OwnB.lit1' (w.alloc _) w.heap.size (w.heap.size + 1) 2 2 rfl (by simp) (by omega)).drew.below hb1
          case c1 => exact SrcB.ofRd Try.underlying33 ho1.rd
          case c2 => have := numF_len 9 s.size; simp [num]; omega
          case c3 => have := hb1.size; simp at this; omega
          intro v2 w2 ho2 hg2 hn2
          have hs1 := hB1.size
          have hB2 := hB1.grown hg2 (by simp at hs1; omega) (fun k hk => by simp [Value.ownBlock] at hk; omega)
          have hv2 := next_lit hn2 (B := w.heap.size + 1) (Nat.le_refl _) (by simp at hs1; omega))
       | (refine step_append_B (e := 5) Try.underlying33 (by kernel_rfl) rfl _ _ rfl w.heap.size (.slice (some ⟨w1.heap.size, 0, none⟩) 1 1) [2] rfl ?own v1 (num s.size) rfl ?c1 ?c2 ?c3 ?_
          case own => exact OwnB.lit1' w1 w.heap.size w1.heap.size 2 2 rfl rfl (by have := hB1.size; simp at this; omega)
          case c1 => exact SrcB.ofRd Try.underlying33 (ho1.alloc _).rd
          case c2 => have := numF_len 9 s.size; simp [num]; omega
          case c3 => have := hB1.size; simp at this; simp; omega
          intro v2 w2 ho2 hg2 hn2
          have hs1 := hB1.size
          have hB2 := (hB1.alloc (by simp at hs1; omega) _).grown hg2 (by simp at hs1; simp; omega) (fun k hk => by simp [Value.ownBlock] at hk; simp at hs1; omega)
          have hv2 := next_lit hn2 (B := w.heap.size + 1) (by simp at hs1; omega) (by simp at hs1; simp; omega))
       | (refine step_append_B (e := 5) Try.underlying33 (by kernel_rfl) rfl _ _ rfl w.heap.size v2 ([2] ++ num s.size) rfl ?own3 _ s.data.toList rfl ?c4 ?c5 ?c6 ?_
          case own3 => exact ho2
          case c4 => exact SrcB.ofString Try.underlying9 s _
          case c5 => have := numF_len 9 s.size; rw [hsd.out]; simp [num]; omega
          case c6 => have h8 := hB2.size; simp at h8; omega
          intro v3 w3 ho3 hg3 hn3
          have hs2 := hB2.size
          have hB3 := hB2.grown hg3 (by simp at hs2; omega) hv2))
    all_goals
      go_wp2
      go_ret
      exact ⟨_, rfl, by rw [he.out]; exact ho3, below_box hB3⟩
  · have he := Lib.hid (enc_3 n s l)
    have hl64 : Hid (l.length < 18446744073709551616) := by show l.length < _; omega
    have hw : IntKind.u64.wrap (l.length : Int) = (l.length : Int) := by rw [IntKind.wrap_u64]; omega
    go_enter Try.func57, Try.ntmps57
    go_wp2_with (first
      | (go_at_call 77; refine (rnumeral_any 9 l.length _ rfl (num_hu hl64.out) (by decide) _).mono ?_
         rintro e w1 ⟨v1, rfl, ho1, hb1⟩)
      | (at_builtin; refine wpList_append_B (e := 5) Try.underlying33 (by kernel_rfl) rfl _ _ rfl w.heap.size (.slice (some ⟨w.heap.size + 1, 0, none⟩) 1 1) [3] rfl ?own _ (num l.length) rfl ?c1 ?c2 ?c3 ?_))
    case own => exact (OwnB.lit1' (w.alloc _) w.heap.size (w.heap.size + 1) 3 3 rfl (by simp) (by omega)).below hb1
    case c1 => exact SrcB.ofRd Try.underlying33 ho1.rd
    case c2 => have := numF_len 9 l.length; simp [num]; omega
    case c3 => have := hb1.size; simp at this; omega
    intro v2 w2 ho2 hg2 hn2
    have hs1 := hb1.size
    have hs2 := hg2.size
    simp at hs1
    have hbW : Below (w.heap.size + 1) (w.alloc (.cells #[.int .i64 3, .int .i64 n, .string s, .slice oa l.length cap] 57)) w2 :=
      ((((Below.refl _ _).alloc (by simp) _)).trans (hb1.mono (by simp))).grown hg2 (by omega) (fun k hk => by simp [Value.ownBlock] at hk; omega)
    have hv2 : ∀ g, v2.ownBlock = some g → w.heap.size + 1 ≤ g := fun g hg => by
      rcases hn2 with h2 | h2
      · rw [h2] at hg; simp [Value.ownBlock] at hg; omega
      · have := h2 _ hg; omega
    have HO := Lib.hid ho2
    clear ho2 hg2 hn2 hb1 ho1 hw
    go_wp2
    go_loopw [3, 4] (fun b i wr => REncRel (w.heap.size + 1) (w.alloc (.cells #[.int .i64 3, .int .i64 n, .string s, .slice oa l.length cap] 57)) ([3] ++ num l.length) l w.heap.size b i wr) (fun _ i _ => l.length - (intOf i).toNat)
    case atStart => exact ⟨0, Nat.zero_le _, rfl, by simpa [encs] using HO.out, hbW, hv2⟩
    case round =>
      obtain ⟨k, hkl, rfl, ho, hb, hv⟩ := hrel
      have HO' := Lib.hid ho; clear ho
      have hbox := fun o => hb.cell (p := ⟨w.heap.size, o, none⟩) (by simp)
      have hbw : Below w.heap.size w wr := below_box hb
      have hlen5 : (num l.length).length ≤ 10 := numF_len 9 l.length
      have hsw := hb.size
      simp at hsw
      by_cases hlt : k < l.length
      case neg =>
        have hkk : Hid (l.take k = l) := List.take_of_length_le (by omega)
        go_wp2
        go_ret
        exact ⟨_, rfl, by rw [he.out]; have := HO'.out; rw [hkk.out] at this; exact this, hbw⟩
      case pos =>
        obtain ⟨x, hx'⟩ : ∃ x, l[k]? = some x := ⟨l[k], by simp [hlt]⟩
        have Hx := Lib.hid hx'; clear hx'
        obtain ⟨c, o, xo, xc, rfl, hcb, c0, c1, c2, c3, hrd⟩ := HL.out.elem hbw.block hbw.size Hx.out
        have hsx := szs_get Hx.out
        have hfx : fm x = true := by
          have h3 := HF.out; rw [fm_3 n s l _ _ rfl rfl] at h3; simp at h3; exact fms_get h3.2 Hx.out
        have hex := encs_len_take Hx.out
        have hesz := enc_sz x
        clear hbW hv2
        go_wp2_with (first
          | (go_at_call 57; refine (IH.out x hfx (by omega) _ _ hrd).mono ?_; rintro e w3 ⟨v3, rfl, ho3, hb3⟩)
          | (at_builtin; refine wpList_append_B (e := 5) Try.underlying33 (by kernel_rfl) rfl _ _ rfl w.heap.size u3 ([3] ++ num l.length ++ encs (l.take k)) rfl ?own _ (enc x) rfl ?c1 ?c2 ?c3 ?_))
        case own => exact HO'.out.below hb3
        case c1 => exact SrcB.ofRd Try.underlying33 ho3.rd
        case c2 => simp; omega
        case c3 => have := hb3.size; omega
        intro v4 w4 ho4 hg4 hn4
        go_wp2
        go_roundw
        case rel =>
          refine ⟨k + 1, by omega, by go_num, ?_, ?_, ?_⟩
          · rw [encs_take Hx.out, ← List.append_assoc]; simpa using ho4
          · exact (hb.trans (hb3.mono (by omega))).grown hg4 (by have := hb3.size; omega) hv
          · intro g hg
            rcases hn4 with h2 | h2
            · rw [h2] at hg; exact hv g hg
            · have := h2 _ hg; have := hb3.size; omega
        case measure => simp [intOf]; omega
end Go.Proofs.Ytgdbmoggpfpkkaa
/- the reference's Formed. -/
namespace Go.Proofs.Ytgdbmoggpfpkkaa
open Go.RowKit

def RFormRel (B : Nat) (w : World) (l : List V) (i : Value) (wr : World) : Prop := ∃ k : Nat, k ≤ l.length ∧ i = .int .i64 k ∧ fms (l.take k) = true ∧ Below B w wr

set_option maxRecDepth 100000 in
set_option maxHeartbeats 1000000 in
theorem rformed_any (N : Nat) (hN : N ≤ 1000000000) : ∀ (x : V) (_ : sz x ≤ N) (v : Value) (w : World) (_ : RdV w.heap.size w x v), Calls Try.prog 75 #[v] w (BoolPost (fm x) w) := by
  induction N with
  | zero => intro x hx; obtain ⟨k, n, s, l⟩ := x; simp [sz] at hx
  | succ N ih =>
  have IH := Lib.hid (ih (by omega)); clear ih
  intro x hx v w hr
  obtain ⟨k, n, s, l⟩ := x
  obtain ⟨oa, cap, rfl, hl⟩ := hr.form
  clear hr
  simp only [V.kind, V.n, V.s, V.l] at *
  have HL := Lib.hid hl; clear hl
  obtain ⟨le, hle⟩ : ∃ b, (((l.length : Nat) : Int) == 0) = b := ⟨_, rfl⟩
  have Hle : Hid (l.isEmpty = le) := by
    show l.isEmpty = le
    rw [← hle]; cases l <;> simp <;> omega
  obtain ⟨bn, hbn⟩ : ∃ b, (n == 0) = b := ⟨_, rfl⟩
  obtain ⟨bs, hbs⟩ : ∃ b, s.toList.isEmpty = b := ⟨_, rfl⟩
  have Hn : Hid ((n == 0) = bn) := hbn
  have Hs : Hid (s.toList.isEmpty = bs) := hbs
  have hszl : szs l ≤ N := by have := hx; simp only [sz] at this; omega
  have hll : l.length ≤ 1000000000 := by have := szs_len l; omega
  have hc : k = 1 ∨ k = 2 ∨ k = 3 ∨ (k < 1 ∨ 3 < k) := by omega
  rcases hc with rfl | rfl | rfl | hc
  · have HF := Lib.hid (fm_1 n s l bs Hs.out)
    cases bs <;> cases le
    all_goals
      go_enter Try.func75, Try.ntmps75
      go_wp2
      go_ret
      exact ⟨by rw [HF.out, Hle.out]; rfl, by repeat (first | exact Below.refl _ _ | refine Below.alloc ?_ (by simp) _)⟩
  · have HF := Lib.hid (fm_2 n s l bn Hn.out)
    cases bn <;> cases le
    all_goals
      go_enter Try.func75, Try.ntmps75
      go_wp2
      go_ret
      exact ⟨by rw [HF.out, Hle.out]; rfl, by repeat (first | exact Below.refl _ _ | refine Below.alloc ?_ (by simp) _)⟩
  · go_enter Try.func75, Try.ntmps75
    go_wp2
    go_loopw [2, 3] (fun r i wr => r = .bool false ∧ RFormRel (w.heap.size + 1) (w.alloc (.cells #[.int .i64 3, .int .i64 n, .string s, .slice oa l.length cap] 57)) l i wr) (fun _ i _ => l.length - (intOf i).toNat)
    case atStart => exact ⟨rfl, 0, Nat.zero_le _, rfl, rfl, Below.refl _ _⟩
    case round =>
      obtain ⟨rfl, k, hkl, rfl, hfm, hb⟩ := hrel
      have Hfm := Lib.hid hfm; clear hfm
      have hbox := fun o => hb.cell (p := ⟨w.heap.size, o, none⟩) (by simp)
      have hbw : Below w.heap.size w wr := below_box hb
      by_cases hlt : k < l.length
      case neg =>
        have HF := Lib.hid (fm_3 n s l bn bs Hn.out Hs.out)
        have hkk : Hid (l.take k = l) := List.take_of_length_le (by omega)
        cases bn <;> cases bs
        all_goals
          go_wp2
          go_ret
          exact ⟨by rw [HF.out, ← hkk.out, Hfm.out]; rfl, hbw⟩
      case pos =>
        obtain ⟨x, hx'⟩ : ∃ x, l[k]? = some x := ⟨l[k], by simp [hlt]⟩
        have Hx := Lib.hid hx'; clear hx'
        obtain ⟨c, o, xo, xc, rfl, hcb, c0, c1, c2, c3, hrd⟩ := HL.out.elem hbw.block hbw.size Hx.out
        have hsx := szs_get Hx.out
        rcases Bool.eq_false_or_eq_true (fm x) with hfx | hfx
        · go_wp2_with (go_at_call 75; refine (IH.out x (by omega) _ _ hrd).mono ?_; rintro e w' ⟨rfl, hb'⟩)
          go_roundw
          case rel => exact ⟨rfl, k + 1, by omega, by go_num, by rw [fms_take Hx.out, Hfm.out, hfx]; rfl, hb.trans (hb'.mono (by have := hb.size; simpa using this))⟩
          case measure => simp [intOf]; omega
        · go_wp2_with (go_at_call 75; refine (IH.out x (by omega) _ _ hrd).mono ?_; rintro e w' ⟨rfl, hb'⟩)
          have HF := Lib.hid (fm_3 n s l bn bs Hn.out Hs.out)
          have hfl := fms_false Hx.out hfx
          go_ret
          exact ⟨by rw [HF.out, hfl]; simp, below_ext hbw hb'⟩
  · have HF := Lib.hid (fm_bad k n s l (by omega))
    have n1 : (k == 1) = false := by rw [beq_eq_false_iff_ne]; omega
    have n2 : (k == 2) = false := by rw [beq_eq_false_iff_ne]; omega
    have n3 : (k == 3) = false := by rw [beq_eq_false_iff_ne]; omega
    clear hc
    go_enter Try.func75, Try.ntmps75
    go_wp2
    go_ret
    exact ⟨by rw [HF.out]; rfl, by repeat (first | exact Below.refl _ _ | refine Below.alloc ?_ (by simp) _)⟩
end Go.Proofs.Ytgdbmoggpfpkkaa
/- the reference's Depth. -/
namespace Go.Proofs.Ytgdbmoggpfpkkaa
open Go.RowKit

def RDepRel (B : Nat) (w : World) (l : List V) (d i : Value) (wr : World) : Prop := ∃ k : Nat, k ≤ l.length ∧ i = .int .i64 k ∧ d = .int .i64 (dps (l.take k)) ∧ dps (l.take k) ≤ 1000000000 ∧ Below B w wr

set_option maxRecDepth 100000 in
set_option maxHeartbeats 1000000 in
theorem rdepth_any (N : Nat) (hN : N ≤ 1000000000) : ∀ (x : V) (_ : sz x ≤ N) (v : Value) (w : World) (_ : RdV w.heap.size w x v), Calls Try.prog 76 #[v] w (IntPost (dp x) w) := by
  induction N with
  | zero => intro x hx; obtain ⟨k, n, s, l⟩ := x; simp [sz] at hx
  | succ N ih =>
  have IH := Lib.hid (ih (by omega)); clear ih
  intro x hx v w hr
  obtain ⟨k, n, s, l⟩ := x
  obtain ⟨oa, cap, rfl, hl⟩ := hr.form
  clear hr
  simp only [V.kind, V.n, V.s, V.l] at *
  have HL := Lib.hid hl; clear hl
  have hszl : szs l ≤ N := by have := hx; simp only [sz] at this; omega
  have hll : l.length ≤ 1000000000 := by have := szs_len l; omega
  by_cases hk3 : k = 3
  · subst hk3
    have HD := Lib.hid (dp_3 n s l)
    go_enter Try.func76, Try.ntmps76
    go_wp2
    go_loopw [3, 4] (fun d i wr => RDepRel (w.heap.size + 1) (w.alloc (.cells #[.int .i64 3, .int .i64 n, .string s, .slice oa l.length cap] 57)) l d i wr) (fun _ i _ => l.length - (intOf i).toNat)
    case atStart => exact ⟨0, Nat.zero_le _, rfl, rfl, by simp [dps], Below.refl _ _⟩
    case round =>
      obtain ⟨k, hkl, rfl, rfl, hdp, hb⟩ := hrel
      have hbox := fun o => hb.cell (p := ⟨w.heap.size, o, none⟩) (by simp)
      have hbw : Below w.heap.size w wr := below_box hb
      by_cases hlt : k < l.length
      case neg =>
        have hkk : Hid (l.take k = l) := List.take_of_length_le (by omega)
        go_wp2
        go_ret
        exact ⟨by rw [HD.out, hkk.out]; simp, hbw⟩
      case pos =>
        obtain ⟨x, hx'⟩ : ∃ x, l[k]? = some x := ⟨l[k], by simp [hlt]⟩
        have Hx := Lib.hid hx'; clear hx'
        obtain ⟨c, o, xo, xc, rfl, hcb, c0, c1, c2, c3, hrd⟩ := HL.out.elem hbw.block hbw.size Hx.out
        have hsx := szs_get Hx.out
        have hdx := dp_sz x
        go_wp2_with (go_at_call 76; refine (IH.out x (by omega) _ _ hrd).mono ?_; rintro e w' ⟨rfl, hb'⟩)
        go_roundw
        case rel =>
          refine ⟨k + 1, by omega, by go_num, ?_, ?_, hb.trans (hb'.mono (by have := hb.size; simpa using this))⟩
          · rw [dps_take Hx.out]; congr 1; split <;> omega
          · rw [dps_take Hx.out]; omega
        case measure => simp [intOf]; omega
  · have HD : Hid (dp (.mk k n s l) = 0) := by show dp (.mk k n s l) = 0; rw [dp, if_neg hk3]
    have n3 : (k != 3) = true := by rw [bne_iff_ne]; exact hk3
    clear hk3
    go_enter Try.func76, Try.ntmps76
    go_wp2
    go_ret
    exact ⟨by rw [HD.out]; rfl, by repeat (first | exact Below.refl _ _ | refine Below.alloc ?_ (by simp) _)⟩

set_option maxRecDepth 100000 in
set_option maxHeartbeats 1000000 in
theorem rdepth_test (x : V) (hx : sz x ≤ 1000000000) (v : Value) (w : World) (hr : RdV w.heap.size w x v) : Calls Try.prog 76 #[v] w (IntPost (dp x) w) := rdepth_any 1000000000 (by decide) x hx v w hr
end Go.Proofs.Ytgdbmoggpfpkkaa
/- the reference's Check, Encode, Size. -/
namespace Go.Proofs.Ytgdbmoggpfpkkaa
open Go.RowKit

set_option maxRecDepth 100000 in
set_option maxHeartbeats 1000000 in
theorem rcheck_any (x : V) (hx : sz x ≤ 60000) (v : Value) (w : World) (hr : RdV w.heap.size w x v) : Calls Try.prog 56 #[v] w (IntPost (ck x) w) := by
  have HR := Lib.hid (fun ob => hr.alloc ob)
  obtain ⟨oa, cap, rfl, hl⟩ := hr.form
  have hd := dp_sz x
  clear hr hl
  rcases Bool.eq_false_or_eq_true (fm x) with hfx | hfx
  · by_cases h16 : 16 < dp x
    all_goals
      have hck := Lib.hid (show ck x = (if 16 < dp x then 2 else 0) from by simp [ck, hfx])
      go_enter Try.func56, Try.ntmps56
      go_wp2_with (first
        | (go_at_call 75; refine (rformed_any 60000 (by decide) x hx _ _ (HR.out _)).mono ?_; rintro e w1 ⟨rfl, hb1⟩; obtain ⟨b0, b1, b2, b3⟩ := box_cells (to_box hb1))
        | (go_at_call 76; refine (rdepth_any 60000 (by decide) x hx _ _ ((HR.out _).ext hb1)).mono ?_; rintro e w2 ⟨rfl, hb2⟩))
      go_ret
      exact ⟨by rw [hck.out]; first | rw [if_pos h16]; rfl | rw [if_neg h16]; rfl, below_after (hb1.trans (hb2.mono hb1.size))⟩
  · have hck := Lib.hid (show ck x = 1 from by simp [ck, hfx])
    go_enter Try.func56, Try.ntmps56
    go_wp2_with (go_at_call 75; refine (rformed_any 60000 (by decide) x hx _ _ (HR.out _)).mono ?_; rintro e w1 ⟨rfl, hb1⟩)
    go_ret
    exact ⟨by rw [hck.out]; rfl, below_after hb1⟩

set_option maxRecDepth 100000 in
set_option maxHeartbeats 1000000 in
theorem rEncode_any (x : V) (hx : sz x ≤ 60000) (v : Value) (w : World) (hr : RdV w.heap.size w x v) : Calls Try.prog 32 #[v] w (EncPost x w) := by
  have HR := Lib.hid (fun ob => hr.alloc ob)
  obtain ⟨oa, cap, rfl, hl⟩ := hr.form
  clear hr hl
  by_cases hck : ck x = 0
  case neg =>
    have hne : (ck x != 0) = true := by rw [bne_iff_ne]; exact hck
    have Hck := Lib.hid hck; clear hck
    go_enter Try.func32, Try.ntmps32
    go_wp2_with (go_at_call 56; refine (rcheck_any x hx _ _ (HR.out _)).mono ?_; rintro e w' ⟨rfl, hb'⟩)
    go_ret2
    exact ⟨_, rfl, by rw [if_neg Hck.out]; exact .inl ⟨rfl, rfl⟩, below_after hb'⟩
  case pos =>
    have hfm := ck_fm hck
    have heq : (ck x != 0) = false := by rw [hck]; rfl
    have Hck := Lib.hid hck; clear hck
    go_enter Try.func32, Try.ntmps32
    go_wp2_with (first
      | (go_at_call 56; refine (rcheck_any x hx _ _ (HR.out _)).mono ?_; rintro e w1 ⟨rfl, hb1⟩; obtain ⟨b0, b1, b2, b3⟩ := box_cells (to_box hb1))
      | (go_at_call 57; refine (rencode_any 60000 (by decide) x hfm hx _ _ ((HR.out _).ext hb1)).mono ?_; rintro e w2 ⟨v2, rfl, ho2, hb2⟩))
    go_ret2
    exact ⟨_, by rw [Hck.out]; rfl, by rw [if_pos Hck.out]; exact ho2.rd, below_after (hb1.trans (hb2.mono hb1.size))⟩

end Go.Proofs.Ytgdbmoggpfpkkaa
