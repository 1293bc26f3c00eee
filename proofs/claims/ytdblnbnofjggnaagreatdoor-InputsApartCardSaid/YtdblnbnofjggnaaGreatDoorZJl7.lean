/- chapter 49's law: InputsApart (printed by gen49ao.py). -/
import Derived.Test.YtdblnbnofjggnaaGreatDoorK50
namespace Go.Proofs.YtdblnbnofjggnaaGreatDoor
open Go.RowKit
def ltS (a0 a1 a2 b0 b1 b2 : Int) : Prop := a0 < b0 ∨ (a0 = b0 ∧ (a1 < b1 ∨ (a1 = b1 ∧ a2 < b2)))
theorem cmpS_tri (a0 a1 a2 b0 b1 b2 : Int) : (cmpS a0 a1 a2 b0 b1 b2 = -1 ∧ ltS a0 a1 a2 b0 b1 b2) ∨ (cmpS a0 a1 a2 b0 b1 b2 = 0 ∧ a0 = b0 ∧ a1 = b1 ∧ a2 = b2) ∨ (cmpS a0 a1 a2 b0 b1 b2 = 1 ∧ ltS b0 b1 b2 a0 a1 a2) := by
 unfold cmpS ltS
 rcases Int.lt_trichotomy a0 b0 with h | h | h
 · rw [cmpZ_lt h, orZ_ne _ (by decide)]; omega
 · subst h
   rw [cmpZ_eq, orZ_zero]
   rcases Int.lt_trichotomy a1 b1 with h | h | h
   · rw [cmpZ_lt h, orZ_ne _ (by decide)]; omega
   · subst h
     rw [cmpZ_eq, orZ_zero]
     rcases Int.lt_trichotomy a2 b2 with h | h | h
     · rw [cmpZ_lt h]; omega
     · subst h; rw [cmpZ_eq]; omega
     · rw [cmpZ_gt h]; omega
   · rw [cmpZ_gt h, orZ_ne _ (by decide)]; omega
 · rw [cmpZ_gt h, orZ_ne _ (by decide)]; omega
theorem ltS_no {a0 a1 a2 b0 b1 b2 : Int} (h : ltS a0 a1 a2 b0 b1 b2) : ¬ ltS b0 b1 b2 a0 a1 a2 ∧ ¬ (a0 = b0 ∧ a1 = b1 ∧ a2 = b2) := by unfold ltS at *; omega
theorem ltS_tr {a0 a1 a2 b0 b1 b2 c0 c1 c2 : Int} (h : ltS a0 a1 a2 b0 b1 b2) (h2 : ltS b0 b1 b2 c0 c1 c2) : ltS a0 a1 a2 c0 c1 c2 := by unfold ltS at *; omega
theorem cmpS_neg (a0 a1 a2 b0 b1 b2 : Int) : cmpS b0 b1 b2 a0 a1 a2 = -cmpS a0 a1 a2 b0 b1 b2 := by
 rcases cmpS_tri a0 a1 a2 b0 b1 b2 with ⟨h, l⟩ | ⟨h, rfl, rfl, rfl⟩ | ⟨h, l⟩
 · rcases cmpS_tri b0 b1 b2 a0 a1 a2 with ⟨k, m⟩ | ⟨k, m⟩ | ⟨k, m⟩
   · exact absurd m (ltS_no l).1
   · exact absurd ⟨m.1.symm, m.2.1.symm, m.2.2.symm⟩ (ltS_no l).2
   · rw [h, k]; rfl
 · rw [h]; rfl
 · rcases cmpS_tri b0 b1 b2 a0 a1 a2 with ⟨k, m⟩ | ⟨k, m⟩ | ⟨k, m⟩
   · rw [h, k]
   · exact absurd m (ltS_no l).2
   · exact absurd m (ltS_no l).1
theorem cmpS_law (a0 a1 a2 b0 b1 b2 c0 c1 c2 : Int) {c c' d e : Int} {be : Bool} (hc : cmpS a0 a1 a2 b0 b1 b2 = c) (hc' : cmpS b0 b1 b2 a0 a1 a2 = c') (hd : cmpS b0 b1 b2 c0 c1 c2 = d) (he : cmpS a0 a1 a2 c0 c1 c2 = e) (hb : (a0 == b0 && a1 == b1 && a2 == b2) = be) :
 (c = 1 ∧ c' = -1 ∧ be = false) ∨ (c = -1 ∧ c' = 1 ∧ be = false ∧ d = 1) ∨ (c = 0 ∧ c' = 0 ∧ be = true ∧ d = 1) ∨ (c = -1 ∧ c' = 1 ∧ be = false ∧ d = -1 ∧ e = -1) ∨ (c = -1 ∧ c' = 1 ∧ be = false ∧ d = 0 ∧ e = -1) ∨ (c = 0 ∧ c' = 0 ∧ be = true ∧ d = -1 ∧ e = -1) ∨ (c = 0 ∧ c' = 0 ∧ be = true ∧ d = 0 ∧ e = 0) := by
 have hn := cmpS_neg a0 a1 a2 b0 b1 b2
 rw [hc, hc'] at hn
 have hbf : ¬ (a0 = b0 ∧ a1 = b1 ∧ a2 = b2) → be = false := fun h => by
  rw [← hb]; apply Bool.eq_false_iff.2; intro k; simp only [Bool.and_eq_true, beq_iff_eq] at k; exact h ⟨k.1.1, k.1.2, k.2⟩
 rcases cmpS_tri a0 a1 a2 b0 b1 b2 with ⟨h, l⟩ | ⟨h, rfl, rfl, rfl⟩ | ⟨h, l⟩
 · rw [hc] at h; subst h
   have b := hbf (ltS_no l).2
   rcases cmpS_tri b0 b1 b2 c0 c1 c2 with ⟨k, m⟩ | ⟨k, rfl, rfl, rfl⟩ | ⟨k, m⟩
   · have q := ltS_tr l m
     rcases cmpS_tri a0 a1 a2 c0 c1 c2 with ⟨j, o⟩ | ⟨j, o⟩ | ⟨j, o⟩
     · rw [hd] at k; rw [he] at j; refine .inr (.inr (.inr (.inl ⟨rfl, by omega, b, k, j⟩)))
     · exact absurd o (ltS_no q).2
     · exact absurd o (ltS_no q).1
   · rw [hd] at k; rw [hc] at he; exact .inr (.inr (.inr (.inr (.inl ⟨rfl, by omega, b, k, he.symm⟩))))
   · rw [hd] at k; exact .inr (.inl ⟨rfl, by omega, b, k⟩)
 · rw [hc] at h; subst h
   have b : be = true := by rw [← hb]; simp
   rw [he] at hd
   subst hd
   rcases cmpS_tri a0 a1 a2 c0 c1 c2 with ⟨k, m⟩ | ⟨k, m⟩ | ⟨k, m⟩
   · rw [he] at k; exact .inr (.inr (.inr (.inr (.inr (.inl ⟨rfl, by omega, b, k, k⟩)))))
   · rw [he] at k; exact .inr (.inr (.inr (.inr (.inr (.inr ⟨rfl, by omega, b, k, k⟩)))))
   · rw [he] at k; exact .inr (.inr (.inl ⟨rfl, by omega, b, k⟩))
 · rw [hc] at h; subst h
   exact .inl ⟨rfl, by omega, hbf (fun q => (ltS_no l).2 ⟨q.1.symm, q.2.1.symm, q.2.2.symm⟩)⟩
theorem cmp49a {x y : Inp} {c : Int} (W : World) (hc : cmpS x.mi x.ce x.no y.mi y.ce y.no = c) : Calls Tryz.prog 16 #[.agg (stC x).toArray, .agg (stC y).toArray] W fun e W' => e = .returned (.int .i64 c) ∧ Below W.heap.size W W' :=
 (compareS_any x.mi x.ce x.no y.mi y.ce y.no W).mono fun e W' h => by rw [hc] at h; exact h
theorem enc_inj {x y : Inp} (hi : InpI x) (hl : InpL x) (hj : InpI y) (hm : InpL y) (hk : okI x = true) (hq : okI y = true) (h : encI x = encI y) : x = y := by
 have h1 := decO_enc hi hl hk
 rw [h, decO_enc hj hm hq] at h1
 exact (congrArg Prod.fst h1).symm
theorem enc_str {x y : Inp} {a b : List UInt8} {sa sb : ByteArray} (ha : encI x = a) (hb : encI y = b) (hsa : (⟨a.toArray⟩ : ByteArray) = sa) (hsb : (⟨b.toArray⟩ : ByteArray) = sb) (h : encI x = encI y → x = y) : (sa.toList == sb.toList) = decide (x = y) := by
 rw [bal_eq]
 refine decide_eq_decide.2 ⟨fun e => h ?_, fun e => ?_⟩
 · rw [ha, hb]
   rw [← hsa, ← hsb] at e
   injection e with e
   exact List.toArray_inj e
 · subst e
   rw [← hsa, ← hsb, ← ha, ← hb]
theorem cb_third (w : World) (o o2 : Obj) (t : TypeId) (cs : List Value) : CB (((w.alloc o).alloc o2).alloc (.cells cs.toArray t)) (w.heap.size + 2) t cs := by
 have := cb_one ((w.alloc o).alloc o2) (.cells cs.toArray t) t cs rfl
 rw [World.size_alloc, World.size_alloc] at this
 exact this
set_option maxRecDepth 100000 in
set_option maxHeartbeats 16000000 in
theorem aptA (x y z : Inp) (s t : Slc) (w : World) (hx : InpR w x s) (hy : InpR w y t) (hi : InpI x) (hj : InpI y) (hL : Laid w) (hfw : fewB x = false) : Calls Tryz.prog 4 #[.agg (x.cells s).toArray, .agg (y.cells t).toArray, .agg (stC z).toArray] w (TrueP w) := by
 have hb1 : Below w.heap.size w ((w.alloc (bI x s)).alloc (bI y t)) := (b_al (w := w) (bI x s)).alloc (b_al (w := w) (bI x s)).size _
 have hb0 : Below w.heap.size w (((w.alloc (bI x s)).alloc (bI y t)).alloc (.cells (stC z).toArray 23)) := hb1.alloc hb1.size _
 have HI : Hid (CB (((w.alloc (bI x s)).alloc (bI y t)).alloc (.cells (stC z).toArray 23)) w.heap.size 41 (x.cells s)) := ((cb_one w (bI x s) _ _ rfl).alloc _).alloc _
 have HJ : Hid (CB (((w.alloc (bI x s)).alloc (bI y t)).alloc (.cells (stC z).toArray 23)) (w.heap.size + 1) 41 (y.cells t)) := (cb_two w (bI x s) _ _).alloc _
 have HZ3 : Hid (CB (((w.alloc (bI x s)).alloc (bI y t)).alloc (.cells (stC z).toArray 23)) (w.heap.size + 2) 23 (stC z)) := Lib.hid (cb_third w (bI x s) (bI y t) _ _)
 have HB := Lib.hid hb0; have RX := Lib.hid (hx.ext hb0); have RY := Lib.hid (hy.ext hb0); have Hi := Lib.hid hi; have Hj := Lib.hid hj; have HL := Lib.hid hL
 clear hb0 hb1 hx hy hi hj hL
 change Calls Tryz.prog 4 #[.agg (x.cells s).toArray, .agg (y.cells t).toArray, .agg (stC z).toArray] w _
 go_enter Tryz.func4, Tryz.ntmps4
 go_upto_region 1 with fail
 change Code.wp _ _ _ _ (((w.alloc (bI x s)).alloc (bI y t)).alloc (.cells (stC z).toArray 23))
 generalize (((w.alloc (bI x s)).alloc (bI y t)).alloc (.cells (stC z).toArray 23)) = w0 at *
 have Hf := Lib.hid hfw; clear hfw
 have T0 := Lib.hid (Nat.le_refl 0)
 go_wp2_with (first
  | (have _g := T0.out; go_at_call 11; refine (sane49_any _ (HL.out.ext HB.out)).mono ?_; go_loud (rintro e w1 ⟨rfl, hb⟩; replace HI := Lib.hid (HI.out.ext hb); replace HJ := Lib.hid (HJ.out.ext hb); replace HZ3 := Lib.hid (HZ3.out.ext hb); replace RX := Lib.hid (RX.out.ext hb); replace RY := Lib.hid (RY.out.ext hb); replace HB := Lib.hid (below_ext HB.out hb); clear hb; clear T0; have T1 := Lib.hid (Nat.le_refl 1)))
  | (have _g := T1.out; refine wpList_load_cs (by rfl) 41 (.tmp 3) rfl w.heap.size (x.cells s) rfl 41 _ HI.out Tryz.underlying41 rfl (by kernel_rfl) ?_; clear T1; have T2 := Lib.hid (Nat.le_refl 2))
  | (have _g := T2.out; go_at_call 12; refine (few49 RX.out Hi.out Hf.out).mono ?_; go_loud (rintro e w2 ⟨rfl, hb⟩; replace HI := Lib.hid (HI.out.ext hb); replace HJ := Lib.hid (HJ.out.ext hb); replace HZ3 := Lib.hid (HZ3.out.ext hb); replace RX := Lib.hid (RX.out.ext hb); replace RY := Lib.hid (RY.out.ext hb); replace HB := Lib.hid (below_ext HB.out hb); clear hb; clear T2; have T3 := Lib.hid (Nat.le_refl 3))))
 go_ret
 exact ⟨rfl, HB.out⟩
set_option maxRecDepth 100000 in
set_option maxHeartbeats 16000000 in
theorem aptB (x y z : Inp) (s t : Slc) (w : World) (hx : InpR w x s) (hy : InpR w y t) (hi : InpI x) (hj : InpI y) (hL : Laid w) (hfw : fewB x = true) (hgw : fewB y = false) : Calls Tryz.prog 4 #[.agg (x.cells s).toArray, .agg (y.cells t).toArray, .agg (stC z).toArray] w (TrueP w) := by
 have hb1 : Below w.heap.size w ((w.alloc (bI x s)).alloc (bI y t)) := (b_al (w := w) (bI x s)).alloc (b_al (w := w) (bI x s)).size _
 have hb0 : Below w.heap.size w (((w.alloc (bI x s)).alloc (bI y t)).alloc (.cells (stC z).toArray 23)) := hb1.alloc hb1.size _
 have HI : Hid (CB (((w.alloc (bI x s)).alloc (bI y t)).alloc (.cells (stC z).toArray 23)) w.heap.size 41 (x.cells s)) := ((cb_one w (bI x s) _ _ rfl).alloc _).alloc _
 have HJ : Hid (CB (((w.alloc (bI x s)).alloc (bI y t)).alloc (.cells (stC z).toArray 23)) (w.heap.size + 1) 41 (y.cells t)) := (cb_two w (bI x s) _ _).alloc _
 have HZ3 : Hid (CB (((w.alloc (bI x s)).alloc (bI y t)).alloc (.cells (stC z).toArray 23)) (w.heap.size + 2) 23 (stC z)) := Lib.hid (cb_third w (bI x s) (bI y t) _ _)
 have HB := Lib.hid hb0; have RX := Lib.hid (hx.ext hb0); have RY := Lib.hid (hy.ext hb0); have Hi := Lib.hid hi; have Hj := Lib.hid hj; have HL := Lib.hid hL
 clear hb0 hb1 hx hy hi hj hL
 change Calls Tryz.prog 4 #[.agg (x.cells s).toArray, .agg (y.cells t).toArray, .agg (stC z).toArray] w _
 go_enter Tryz.func4, Tryz.ntmps4
 go_upto_region 1 with fail
 change Code.wp _ _ _ _ (((w.alloc (bI x s)).alloc (bI y t)).alloc (.cells (stC z).toArray 23))
 generalize (((w.alloc (bI x s)).alloc (bI y t)).alloc (.cells (stC z).toArray 23)) = w0 at *
 have Hf := Lib.hid hfw; have Hg := Lib.hid hgw; clear hfw hgw
 have T0 := Lib.hid (Nat.le_refl 0)
 go_wp2_with (first
  | (have _g := T0.out; go_at_call 11; refine (sane49_any _ (HL.out.ext HB.out)).mono ?_; go_loud (rintro e w1 ⟨rfl, hb⟩; replace HI := Lib.hid (HI.out.ext hb); replace HJ := Lib.hid (HJ.out.ext hb); replace HZ3 := Lib.hid (HZ3.out.ext hb); replace RX := Lib.hid (RX.out.ext hb); replace RY := Lib.hid (RY.out.ext hb); replace HB := Lib.hid (below_ext HB.out hb); clear hb; clear T0; have T1 := Lib.hid (Nat.le_refl 1)))
  | (have _g := T1.out; refine wpList_load_cs (by rfl) 41 (.tmp 3) rfl w.heap.size (x.cells s) rfl 41 _ HI.out Tryz.underlying41 rfl (by kernel_rfl) ?_; clear T1; have T2 := Lib.hid (Nat.le_refl 2))
  | (have _g := T2.out; go_at_call 12; refine (few49 RX.out Hi.out Hf.out).mono ?_; go_loud (rintro e w2 ⟨rfl, hb⟩; replace HI := Lib.hid (HI.out.ext hb); replace HJ := Lib.hid (HJ.out.ext hb); replace HZ3 := Lib.hid (HZ3.out.ext hb); replace RX := Lib.hid (RX.out.ext hb); replace RY := Lib.hid (RY.out.ext hb); replace HB := Lib.hid (below_ext HB.out hb); clear hb; clear T2; have T3 := Lib.hid (Nat.le_refl 3)))
  | (have _g := T3.out; refine wpList_load_cs (by rfl) 41 (.tmp 4) rfl (w.heap.size + 1) (y.cells t) rfl 41 _ HJ.out Tryz.underlying41 rfl (by kernel_rfl) ?_; clear T3; have T4 := Lib.hid (Nat.le_refl 4))
  | (have _g := T4.out; go_at_call 12; refine (few49 RY.out Hj.out Hg.out).mono ?_; go_loud (rintro e w3 ⟨rfl, hb⟩; replace HI := Lib.hid (HI.out.ext hb); replace HJ := Lib.hid (HJ.out.ext hb); replace HZ3 := Lib.hid (HZ3.out.ext hb); replace RX := Lib.hid (RX.out.ext hb); replace RY := Lib.hid (RY.out.ext hb); replace HB := Lib.hid (below_ext HB.out hb); clear hb; clear T4; have T5 := Lib.hid (Nat.le_refl 5))))
 go_ret
 exact ⟨rfl, HB.out⟩
set_option maxRecDepth 100000 in
set_option maxHeartbeats 16000000 in
theorem aptD (x y z : Inp) (s t : Slc) (w : World) (hx : InpR w x s) (hy : InpR w y t) (hi : InpI x) (hj : InpI y) (hL : Laid w) (hfw : fewB x = true) (hgw : fewB y = true) : Calls Tryz.prog 4 #[.agg (x.cells s).toArray, .agg (y.cells t).toArray, .agg (stC z).toArray] w (TrueP w) := by
 obtain ⟨n1, hn1⟩ : ∃ n, (if okI x then (0 : Int) else 490) = n := ⟨_, rfl⟩
 obtain ⟨n2, hn2⟩ : ∃ n, (if okI y then (0 : Int) else 490) = n := ⟨_, rfl⟩
 obtain ⟨L1, hL1⟩ : ∃ L, (if okI x then encI x else []) = L := ⟨_, rfl⟩
 obtain ⟨L2, hL2⟩ : ∃ L, (if okI y then encI y else []) = L := ⟨_, rfl⟩
 obtain ⟨bq, hq⟩ : ∃ b, decide (x = y) = b := ⟨_, rfl⟩
 have hq2 : decide (y = x) = bq := by rw [← hq]; exact decide_eq_decide.2 eq_comm
 obtain ⟨sa, hsa⟩ : ∃ a, (⟨L1.toArray⟩ : ByteArray) = a := ⟨_, rfl⟩
 obtain ⟨sb, hsb⟩ : ∃ a, (⟨L2.toArray⟩ : ByteArray) = a := ⟨_, rfl⟩
 have hF := fewB_I hfw
 have hG := fewB_I hgw
 have hcase : n1 = 490 ∨ (n1 = 0 ∧ n2 = 490) ∨ (n1 = 0 ∧ n2 = 0 ∧ (sa.toList == sb.toList) = bq) := by
  cases hk : okI x with
  | false => rw [hk] at hn1; exact .inl hn1.symm
  | true =>
   cases hk2 : okI y with
   | false => rw [hk] at hn1; rw [hk2] at hn2; exact .inr (.inl ⟨hn1.symm, hn2.symm⟩)
   | true =>
    rw [hk] at hn1 hL1; rw [hk2] at hn2 hL2
    simp only [if_true] at hL1 hL2
    refine .inr (.inr ⟨hn1.symm, hn2.symm, ?_⟩)
    rw [← hq]
    exact enc_str hL1 hL2 hsa hsb (enc_inj hi (InpL.of hF.sz) hj (InpL.of hG.sz) hk hk2)
 obtain ⟨c, hc⟩ : ∃ c, cmpS x.mi x.ce x.no y.mi y.ce y.no = c := ⟨_, rfl⟩
 obtain ⟨c2, hc2⟩ : ∃ c, cmpS y.mi y.ce y.no x.mi x.ce x.no = c := ⟨_, rfl⟩
 obtain ⟨d, hd⟩ : ∃ c, cmpS y.mi y.ce y.no z.mi z.ce z.no = c := ⟨_, rfl⟩
 obtain ⟨e, he⟩ : ∃ c, cmpS x.mi x.ce x.no z.mi z.ce z.no = c := ⟨_, rfl⟩
 obtain ⟨be, hbe⟩ : ∃ b, (x.mi == y.mi && x.ce == y.ce && x.no == y.no) = b := ⟨_, rfl⟩
 have heq : ∀ W : World, (Op.equalIn 10000 23 (.agg #[.int .i64 x.mi, .int .i64 x.ce, .int .i64 x.no]) (.agg #[.int .i64 y.mi, .int .i64 y.ce, .int .i64 y.no])).run Tryz.prog W = .ok be W := fun W => by rw [eq_stamp, hbe]
 have hgd : ∀ (a b : Operand) (W : World), (eqGuard .eql 23 a b (.agg #[.int .i64 x.mi, .int .i64 x.ce, .int .i64 x.no]) (.agg #[.int .i64 y.mi, .int .i64 y.ce, .int .i64 y.no])).run Tryz.prog W = .ok () W := fun a b W => gd_stamp .eql a b _ _ _ _ _ _ W
 have HD := Lib.hid (cmpS_law _ _ _ _ _ _ _ _ _ hc hc2 hd he hbe)
 have Hc := Lib.hid hc; have Hc2 := Lib.hid hc2; have Hd := Lib.hid hd; have He := Lib.hid he
 have Hn1 := Lib.hid hn1; have Hn2 := Lib.hid hn2; have HL1 := Lib.hid hL1; have HL2 := Lib.hid hL2; have Hq := Lib.hid hq; have Hq2 := Lib.hid hq2; have HF := Lib.hid hF; have HG := Lib.hid hG
 have Hf := Lib.hid hfw; have Hg := Lib.hid hgw
 clear hc hc2 hd he hbe hn1 hn2 hL1 hL2 hq hq2 hF hG hfw hgw
 have hb1 : Below w.heap.size w ((w.alloc (bI x s)).alloc (bI y t)) := (b_al (w := w) (bI x s)).alloc (b_al (w := w) (bI x s)).size _
 have hb0 : Below w.heap.size w (((w.alloc (bI x s)).alloc (bI y t)).alloc (.cells (stC z).toArray 23)) := hb1.alloc hb1.size _
 have HI : Hid (CB (((w.alloc (bI x s)).alloc (bI y t)).alloc (.cells (stC z).toArray 23)) w.heap.size 41 (x.cells s)) := ((cb_one w (bI x s) _ _ rfl).alloc _).alloc _
 have HJ : Hid (CB (((w.alloc (bI x s)).alloc (bI y t)).alloc (.cells (stC z).toArray 23)) (w.heap.size + 1) 41 (y.cells t)) := (cb_two w (bI x s) _ _).alloc _
 have HZ3 : Hid (CB (((w.alloc (bI x s)).alloc (bI y t)).alloc (.cells (stC z).toArray 23)) (w.heap.size + 2) 23 (stC z)) := Lib.hid (cb_third w (bI x s) (bI y t) _ _)
 have HB := Lib.hid hb0; have RX := Lib.hid (hx.ext hb0); have RY := Lib.hid (hy.ext hb0); have Hi := Lib.hid hi; have Hj := Lib.hid hj; have HL := Lib.hid hL
 clear hb0 hb1 hx hy hi hj hL
 change Calls Tryz.prog 4 #[.agg (x.cells s).toArray, .agg (y.cells t).toArray, .agg (stC z).toArray] w _
 go_enter Tryz.func4, Tryz.ntmps4
 go_upto_region 1 with fail
 change Code.wp _ _ _ _ (((w.alloc (bI x s)).alloc (bI y t)).alloc (.cells (stC z).toArray 23))
 generalize (((w.alloc (bI x s)).alloc (bI y t)).alloc (.cells (stC z).toArray 23)) = w0 at *
 have T0 := Lib.hid (Nat.le_refl 0)
 go_upto_region 5 with (first
  | (have _g := T0.out; go_at_call 11; refine (sane49_any _ (HL.out.ext HB.out)).mono ?_; go_loud (rintro e w1 ⟨rfl, hb⟩; replace HI := Lib.hid (HI.out.ext hb); replace HJ := Lib.hid (HJ.out.ext hb); replace HZ3 := Lib.hid (HZ3.out.ext hb); replace RX := Lib.hid (RX.out.ext hb); replace RY := Lib.hid (RY.out.ext hb); replace HB := Lib.hid (below_ext HB.out hb); clear hb; clear T0; have T1 := Lib.hid (Nat.le_refl 1)))
  | (have _g := T1.out; refine wpList_load_cs (by rfl) 41 (.tmp 3) rfl w.heap.size (x.cells s) rfl 41 _ HI.out Tryz.underlying41 rfl (by kernel_rfl) ?_; clear T1; have T2 := Lib.hid (Nat.le_refl 2))
  | (have _g := T2.out; go_at_call 12; refine (few49 RX.out Hi.out Hf.out).mono ?_; go_loud (rintro e w2 ⟨rfl, hb⟩; replace HI := Lib.hid (HI.out.ext hb); replace HJ := Lib.hid (HJ.out.ext hb); replace HZ3 := Lib.hid (HZ3.out.ext hb); replace RX := Lib.hid (RX.out.ext hb); replace RY := Lib.hid (RY.out.ext hb); replace HB := Lib.hid (below_ext HB.out hb); clear hb; clear T2; have T3 := Lib.hid (Nat.le_refl 3)))
  | (have _g := T3.out; refine wpList_load_cs (by rfl) 41 (.tmp 4) rfl (w.heap.size + 1) (y.cells t) rfl 41 _ HJ.out Tryz.underlying41 rfl (by kernel_rfl) ?_; clear T3; have T4 := Lib.hid (Nat.le_refl 4))
  | (have _g := T4.out; go_at_call 12; refine (few49 RY.out Hj.out Hg.out).mono ?_; go_loud (rintro e w3 ⟨rfl, hb⟩; replace HI := Lib.hid (HI.out.ext hb); replace HJ := Lib.hid (HJ.out.ext hb); replace HZ3 := Lib.hid (HZ3.out.ext hb); replace RX := Lib.hid (RX.out.ext hb); replace RY := Lib.hid (RY.out.ext hb); replace HB := Lib.hid (below_ext HB.out hb); clear hb; clear T4; have T5 := Lib.hid (Nat.le_refl 5))))
 go_upto_region 6 with (first
  | (have _g := T5.out; refine wpList_load_cs (by rfl) 41 (.tmp 3) rfl w.heap.size (x.cells s) rfl 41 _ HI.out Tryz.underlying41 rfl (by kernel_rfl) ?_; clear T5; have T6 := Lib.hid (Nat.le_refl 6))
  | (have _g := T6.out; go_at_call 14; refine (enc49 RX.out Hi.out HF.out Hn1.out HL1.out).mono ?_; go_loud (rintro e w4 ⟨ou, cu, rfl, hu, hb⟩; replace HI := Lib.hid (HI.out.ext hb); replace HJ := Lib.hid (HJ.out.ext hb); replace HZ3 := Lib.hid (HZ3.out.ext hb); replace RX := Lib.hid (RX.out.ext hb); replace RY := Lib.hid (RY.out.ext hb); replace HB := Lib.hid (below_ext HB.out hb); have U1 := Lib.hid hu; clear hu; clear hb; clear T6; have T7 := Lib.hid (Nat.le_refl 7))))
 go_upto_region 7 with (first
  | (have _g := T7.out; refine wpList_load_cs (by rfl) 41 (.tmp 4) rfl (w.heap.size + 1) (y.cells t) rfl 41 _ HJ.out Tryz.underlying41 rfl (by kernel_rfl) ?_; clear T7; have T8 := Lib.hid (Nat.le_refl 8))
  | (have _g := T8.out; go_at_call 14; refine (enc49 RY.out Hj.out HG.out Hn2.out HL2.out).mono ?_; go_loud (rintro e w5 ⟨ov, cv, rfl, hu, hb⟩; replace HI := Lib.hid (HI.out.ext hb); replace HJ := Lib.hid (HJ.out.ext hb); replace HZ3 := Lib.hid (HZ3.out.ext hb); replace RX := Lib.hid (RX.out.ext hb); replace RY := Lib.hid (RY.out.ext hb); replace U1 := Lib.hid (U1.out.ext hb); replace HB := Lib.hid (below_ext HB.out hb); have U2 := Lib.hid hu; clear hu; clear hb; clear T8; have T9 := Lib.hid (Nat.le_refl 9))))
 go_upto_region 8 with (first
  | (have _g := T9.out; refine wpList_load_cs (by rfl) 41 (.tmp 3) rfl w.heap.size (x.cells s) rfl 41 _ HI.out Tryz.underlying41 rfl (by kernel_rfl) ?_; clear T9; have T10 := Lib.hid (Nat.le_refl 10))
  | (have _g := T10.out; refine wpList_load_cs (by rfl) 41 (.tmp 4) rfl (w.heap.size + 1) (y.cells t) rfl 41 _ HJ.out Tryz.underlying41 rfl (by kernel_rfl) ?_; clear T10; have T11 := Lib.hid (Nat.le_refl 11))
  | (have _g := T11.out; go_at_call 15; refine (sam_eq RX.out RY.out bq Hq.out).mono ?_; go_loud (rintro e w6 ⟨rfl, hb⟩; replace HI := Lib.hid (HI.out.ext hb); replace HJ := Lib.hid (HJ.out.ext hb); replace HZ3 := Lib.hid (HZ3.out.ext hb); replace RX := Lib.hid (RX.out.ext hb); replace RY := Lib.hid (RY.out.ext hb); replace U1 := Lib.hid (U1.out.ext hb); replace U2 := Lib.hid (U2.out.ext hb); replace HB := Lib.hid (below_ext HB.out hb); clear hb; clear T11; have T12 := Lib.hid (Nat.le_refl 12))))
 clear HF HG Hn1 Hn2 HL1 HL2
 have qq : (bq != bq) = false := by cases bq <;> rfl
 rcases hcase with rfl | ⟨rfl, rfl⟩ | ⟨rfl, rfl, hE⟩
 · skip
   go_upto_region 10 with (first
    | (have _g := T12.out; refine wpList_load_cs (by rfl) 41 (.tmp 4) rfl (w.heap.size + 1) (y.cells t) rfl 41 _ HJ.out Tryz.underlying41 rfl (by kernel_rfl) ?_; clear T12; have T13 := Lib.hid (Nat.le_refl 13))
    | (have _g := T13.out; refine wpList_load_cs (by rfl) 41 (.tmp 3) rfl w.heap.size (x.cells s) rfl 41 _ HI.out Tryz.underlying41 rfl (by kernel_rfl) ?_; clear T13; have T14 := Lib.hid (Nat.le_refl 14))
    | (have _g := T14.out; go_at_call 15; refine (sam_eq RY.out RX.out bq Hq2.out).mono ?_; go_loud (rintro e w7 ⟨rfl, hb⟩; replace HI := Lib.hid (HI.out.ext hb); replace HJ := Lib.hid (HJ.out.ext hb); replace HZ3 := Lib.hid (HZ3.out.ext hb); replace RX := Lib.hid (RX.out.ext hb); replace RY := Lib.hid (RY.out.ext hb); replace U1 := Lib.hid (U1.out.ext hb); replace U2 := Lib.hid (U2.out.ext hb); replace HB := Lib.hid (below_ext HB.out hb); have k1 := conv_bts U1.out; have k2 := conv_bts U2.out; rw [hsa] at k1; rw [hsb] at k2; clear U1 U2; clear hb; clear T14; have T15 := Lib.hid (Nat.le_refl 15))))
   refine wp_region_late_drew (S := fun w' => CB w' w.heap.size 41 (x.cells s) ∧ CB w' (w.heap.size + 1) 41 (y.cells t) ∧ CB w' (w.heap.size + 2) 23 (stC z)) (late := fun _ => false) (by kernel_rfl) ⟨HI.out.ext (Below.refl w7.heap.size w7).drew, HJ.out.ext (Below.refl w7.heap.size w7).drew, HZ3.out.ext (Below.refl w7.heap.size w7).drew⟩ (fun hHeld => ?_)
   have hdr := (Below.refl w7.heap.size w7).drew
   replace HI := Lib.hid (HI.out.ext hdr); replace HJ := Lib.hid (HJ.out.ext hdr); replace HZ3 := Lib.hid (HZ3.out.ext hdr); replace HB := Lib.hid (below_ext HB.out hdr)
   clear hdr
   generalize w7.drew = W1 at *
   refine tkL (some 60) 0 ?_ (hy := fun wS hSw => by (obtain ⟨s1, s2, s3⟩ := hSw); go_simp; first | done | with_reducible rfl)
   refine tkLy (some 61) 1 rfl (.agg (stC x).toArray) (yieldsIf_load_mid (by rfl) 23 _ rfl w.heap.size 0 rfl (stC x) _ (fun wS hSw => st_rng hSw.1) Tryz.underlying23 rfl (by kernel_rfl)) ?_
   refine tkL (some 62) 2 ?_ (hy := fun wS hSw => by (obtain ⟨s1, s2, s3⟩ := hSw); go_simp; first | done | with_reducible rfl)
   refine tkLy (some 63) 3 rfl (.agg (stC y).toArray) (yieldsIf_load_mid (by rfl) 23 _ rfl (w.heap.size + 1) 0 rfl (stC y) _ (fun wS hSw => st_rng hSw.2.1) Tryz.underlying23 rfl (by kernel_rfl)) ?_
   refine tkL (some 65) 5 ?_ (hy := fun wS hSw => by (obtain ⟨s1, s2, s3⟩ := hSw); go_simp; first | done | with_reducible rfl)
   refine tkLy (some 66) 6 rfl (.agg (stC y).toArray) (yieldsIf_load_mid (by rfl) 23 _ rfl (w.heap.size + 1) 0 rfl (stC y) _ (fun wS hSw => st_rng hSw.2.1) Tryz.underlying23 rfl (by kernel_rfl)) ?_
   refine tkLy (some 67) 7 rfl (.agg (stC z).toArray) (yieldsIf_load_mid (by rfl) 23 _ rfl (w.heap.size + 2) 0 rfl (stC z) _ (fun wS hSw => cb_rng0 hSw.2.2) Tryz.underlying23 rfl (by kernel_rfl)) ?_
   refine tkL (some 69) 9 ?_ (hy := fun wS hSw => by (obtain ⟨s1, s2, s3⟩ := hSw); go_simp; first | done | with_reducible rfl)
   refine tkLy (some 70) 10 rfl (.agg (stC x).toArray) (yieldsIf_load_mid (by rfl) 23 _ rfl w.heap.size 0 rfl (stC x) _ (fun wS hSw => st_rng hSw.1) Tryz.underlying23 rfl (by kernel_rfl)) ?_
   refine tkLy (some 71) 11 rfl (.agg (stC z).toArray) (yieldsIf_load_mid (by rfl) 23 _ rfl (w.heap.size + 2) 0 rfl (stC z) _ (fun wS hSw => cb_rng0 hSw.2.2) Tryz.underlying23 rfl (by kernel_rfl)) ?_
   refine rdL 4 fun K hK => ?_
   go_simp
   go_at_call 16
   refine (cmp49a _ Hc.out).mono ?_
   rintro e W2 ⟨rfl, hb⟩
   replace HI := Lib.hid (HI.out.ext hb); replace HJ := Lib.hid (HJ.out.ext hb); replace HZ3 := Lib.hid (HZ3.out.ext hb); replace HB := Lib.hid (below_ext HB.out hb)
   clear hb
   refine goLc hK ⟨HI.out, HJ.out, HZ3.out⟩ fun hHeld => ?_
   clear hK K
   refine rdL 8 fun K hK => ?_
   go_simp
   go_at_call 16
   refine (cmp49a _ Hd.out).mono ?_
   rintro e W3 ⟨rfl, hb⟩
   replace HI := Lib.hid (HI.out.ext hb); replace HJ := Lib.hid (HJ.out.ext hb); replace HZ3 := Lib.hid (HZ3.out.ext hb); replace HB := Lib.hid (below_ext HB.out hb)
   clear hb
   refine goLc hK ⟨HI.out, HJ.out, HZ3.out⟩ fun hHeld => ?_
   clear hK K
   refine rdL 12 fun K hK => ?_
   go_simp
   go_at_call 16
   refine (cmp49a _ He.out).mono ?_
   rintro e W4 ⟨rfl, hb⟩
   replace HI := Lib.hid (HI.out.ext hb); replace HJ := Lib.hid (HJ.out.ext hb); replace HZ3 := Lib.hid (HZ3.out.ext hb); replace HB := Lib.hid (below_ext HB.out hb)
   clear hb
   refine goLc hK ⟨HI.out, HJ.out, HZ3.out⟩ fun hHeld => ?_
   clear hK K
   refine tkL (some 12) 13 ?_ (hy := fun wS hSw => by (obtain ⟨s1, s2, s3⟩ := hSw); go_simp; first | done | with_reducible rfl)
   refine tkL (some 13) 14 ?_ (hy := fun wS hSw => by (obtain ⟨s1, s2, s3⟩ := hSw); go_simp; first | done | with_reducible rfl)
   refine tkL (some 14) 15 ?_ (hy := fun wS hSw => by (obtain ⟨s1, s2, s3⟩ := hSw); go_simp; first | done | with_reducible rfl)
   refine wpAnyL_done (by kernel_rfl) ?_ _
   have T40 := Lib.hid (Nat.le_refl 40)
   have yx0 : W4.cell? ⟨w.heap.size, 0, none⟩ = some (.int .i64 x.mi) := HI.out.cell 0; have yx1 : W4.cell? ⟨w.heap.size, 1, none⟩ = some (.int .i64 x.ce) := HI.out.cell 1; have yx2 : W4.cell? ⟨w.heap.size, 2, none⟩ = some (.int .i64 x.no) := HI.out.cell 2; have yy0 : W4.cell? ⟨w.heap.size + 1, 0, none⟩ = some (.int .i64 y.mi) := HJ.out.cell 0; have yy1 : W4.cell? ⟨w.heap.size + 1, 1, none⟩ = some (.int .i64 y.ce) := HJ.out.cell 1; have yy2 : W4.cell? ⟨w.heap.size + 1, 2, none⟩ = some (.int .i64 y.no) := HJ.out.cell 2
   rcases HD.out with ⟨rfl, rfl, rfl⟩ | ⟨rfl, rfl, rfl, rfl⟩ | ⟨rfl, rfl, rfl, rfl⟩ | ⟨rfl, rfl, rfl, rfl, rfl⟩ | ⟨rfl, rfl, rfl, rfl, rfl⟩ | ⟨rfl, rfl, rfl, rfl, rfl⟩ | ⟨rfl, rfl, rfl, rfl, rfl⟩
   all_goals
    go_wp2_with (first
     | (have _g := T40.out; go_at_call 16; refine (cmp49a _ Hc2.out).mono ?_; go_loud (rintro e wf ⟨rfl, hb⟩; replace HI := Lib.hid (HI.out.ext hb); replace HJ := Lib.hid (HJ.out.ext hb); replace HB := Lib.hid (below_ext HB.out hb); clear yx0 yx1 yx2 yy0 yy1 yy2; have yx0 : wf.cell? ⟨w.heap.size, 0, none⟩ = some (.int .i64 x.mi) := HI.out.cell 0; have yx1 : wf.cell? ⟨w.heap.size, 1, none⟩ = some (.int .i64 x.ce) := HI.out.cell 1; have yx2 : wf.cell? ⟨w.heap.size, 2, none⟩ = some (.int .i64 x.no) := HI.out.cell 2; have yy0 : wf.cell? ⟨w.heap.size + 1, 0, none⟩ = some (.int .i64 y.mi) := HJ.out.cell 0; have yy1 : wf.cell? ⟨w.heap.size + 1, 1, none⟩ = some (.int .i64 y.ce) := HJ.out.cell 1; have yy2 : wf.cell? ⟨w.heap.size + 1, 2, none⟩ = some (.int .i64 y.no) := HJ.out.cell 2; clear hb; clear T40; have T41 := Lib.hid (Nat.le_refl 41))))
    go_ret
    exact ⟨rfl, HB.out⟩
 · skip
   go_upto_region 10 with (first
    | (have _g := T12.out; refine wpList_load_cs (by rfl) 41 (.tmp 4) rfl (w.heap.size + 1) (y.cells t) rfl 41 _ HJ.out Tryz.underlying41 rfl (by kernel_rfl) ?_; clear T12; have T13 := Lib.hid (Nat.le_refl 13))
    | (have _g := T13.out; refine wpList_load_cs (by rfl) 41 (.tmp 3) rfl w.heap.size (x.cells s) rfl 41 _ HI.out Tryz.underlying41 rfl (by kernel_rfl) ?_; clear T13; have T14 := Lib.hid (Nat.le_refl 14))
    | (have _g := T14.out; go_at_call 15; refine (sam_eq RY.out RX.out bq Hq2.out).mono ?_; go_loud (rintro e w7 ⟨rfl, hb⟩; replace HI := Lib.hid (HI.out.ext hb); replace HJ := Lib.hid (HJ.out.ext hb); replace HZ3 := Lib.hid (HZ3.out.ext hb); replace RX := Lib.hid (RX.out.ext hb); replace RY := Lib.hid (RY.out.ext hb); replace U1 := Lib.hid (U1.out.ext hb); replace U2 := Lib.hid (U2.out.ext hb); replace HB := Lib.hid (below_ext HB.out hb); have k1 := conv_bts U1.out; have k2 := conv_bts U2.out; rw [hsa] at k1; rw [hsb] at k2; clear U1 U2; clear hb; clear T14; have T15 := Lib.hid (Nat.le_refl 15))))
   refine wp_region_late_drew (S := fun w' => CB w' w.heap.size 41 (x.cells s) ∧ CB w' (w.heap.size + 1) 41 (y.cells t) ∧ CB w' (w.heap.size + 2) 23 (stC z)) (late := fun _ => false) (by kernel_rfl) ⟨HI.out.ext (Below.refl w7.heap.size w7).drew, HJ.out.ext (Below.refl w7.heap.size w7).drew, HZ3.out.ext (Below.refl w7.heap.size w7).drew⟩ (fun hHeld => ?_)
   have hdr := (Below.refl w7.heap.size w7).drew
   replace HI := Lib.hid (HI.out.ext hdr); replace HJ := Lib.hid (HJ.out.ext hdr); replace HZ3 := Lib.hid (HZ3.out.ext hdr); replace HB := Lib.hid (below_ext HB.out hdr)
   clear hdr
   generalize w7.drew = W1 at *
   refine tkL (some 60) 0 ?_ (hy := fun wS hSw => by (obtain ⟨s1, s2, s3⟩ := hSw); go_simp; first | done | with_reducible rfl)
   refine tkLy (some 61) 1 rfl (.agg (stC x).toArray) (yieldsIf_load_mid (by rfl) 23 _ rfl w.heap.size 0 rfl (stC x) _ (fun wS hSw => st_rng hSw.1) Tryz.underlying23 rfl (by kernel_rfl)) ?_
   refine tkL (some 62) 2 ?_ (hy := fun wS hSw => by (obtain ⟨s1, s2, s3⟩ := hSw); go_simp; first | done | with_reducible rfl)
   refine tkLy (some 63) 3 rfl (.agg (stC y).toArray) (yieldsIf_load_mid (by rfl) 23 _ rfl (w.heap.size + 1) 0 rfl (stC y) _ (fun wS hSw => st_rng hSw.2.1) Tryz.underlying23 rfl (by kernel_rfl)) ?_
   refine tkL (some 65) 5 ?_ (hy := fun wS hSw => by (obtain ⟨s1, s2, s3⟩ := hSw); go_simp; first | done | with_reducible rfl)
   refine tkLy (some 66) 6 rfl (.agg (stC y).toArray) (yieldsIf_load_mid (by rfl) 23 _ rfl (w.heap.size + 1) 0 rfl (stC y) _ (fun wS hSw => st_rng hSw.2.1) Tryz.underlying23 rfl (by kernel_rfl)) ?_
   refine tkLy (some 67) 7 rfl (.agg (stC z).toArray) (yieldsIf_load_mid (by rfl) 23 _ rfl (w.heap.size + 2) 0 rfl (stC z) _ (fun wS hSw => cb_rng0 hSw.2.2) Tryz.underlying23 rfl (by kernel_rfl)) ?_
   refine tkL (some 69) 9 ?_ (hy := fun wS hSw => by (obtain ⟨s1, s2, s3⟩ := hSw); go_simp; first | done | with_reducible rfl)
   refine tkLy (some 70) 10 rfl (.agg (stC x).toArray) (yieldsIf_load_mid (by rfl) 23 _ rfl w.heap.size 0 rfl (stC x) _ (fun wS hSw => st_rng hSw.1) Tryz.underlying23 rfl (by kernel_rfl)) ?_
   refine tkLy (some 71) 11 rfl (.agg (stC z).toArray) (yieldsIf_load_mid (by rfl) 23 _ rfl (w.heap.size + 2) 0 rfl (stC z) _ (fun wS hSw => cb_rng0 hSw.2.2) Tryz.underlying23 rfl (by kernel_rfl)) ?_
   refine rdL 4 fun K hK => ?_
   go_simp
   go_at_call 16
   refine (cmp49a _ Hc.out).mono ?_
   rintro e W2 ⟨rfl, hb⟩
   replace HI := Lib.hid (HI.out.ext hb); replace HJ := Lib.hid (HJ.out.ext hb); replace HZ3 := Lib.hid (HZ3.out.ext hb); replace HB := Lib.hid (below_ext HB.out hb)
   clear hb
   refine goLc hK ⟨HI.out, HJ.out, HZ3.out⟩ fun hHeld => ?_
   clear hK K
   refine rdL 8 fun K hK => ?_
   go_simp
   go_at_call 16
   refine (cmp49a _ Hd.out).mono ?_
   rintro e W3 ⟨rfl, hb⟩
   replace HI := Lib.hid (HI.out.ext hb); replace HJ := Lib.hid (HJ.out.ext hb); replace HZ3 := Lib.hid (HZ3.out.ext hb); replace HB := Lib.hid (below_ext HB.out hb)
   clear hb
   refine goLc hK ⟨HI.out, HJ.out, HZ3.out⟩ fun hHeld => ?_
   clear hK K
   refine rdL 12 fun K hK => ?_
   go_simp
   go_at_call 16
   refine (cmp49a _ He.out).mono ?_
   rintro e W4 ⟨rfl, hb⟩
   replace HI := Lib.hid (HI.out.ext hb); replace HJ := Lib.hid (HJ.out.ext hb); replace HZ3 := Lib.hid (HZ3.out.ext hb); replace HB := Lib.hid (below_ext HB.out hb)
   clear hb
   refine goLc hK ⟨HI.out, HJ.out, HZ3.out⟩ fun hHeld => ?_
   clear hK K
   refine tkL (some 12) 13 ?_ (hy := fun wS hSw => by (obtain ⟨s1, s2, s3⟩ := hSw); go_simp; first | done | with_reducible rfl)
   refine tkL (some 13) 14 ?_ (hy := fun wS hSw => by (obtain ⟨s1, s2, s3⟩ := hSw); go_simp; first | done | with_reducible rfl)
   refine tkL (some 14) 15 ?_ (hy := fun wS hSw => by (obtain ⟨s1, s2, s3⟩ := hSw); go_simp; first | done | with_reducible rfl)
   refine wpAnyL_done (by kernel_rfl) ?_ _
   have T40 := Lib.hid (Nat.le_refl 40)
   have yx0 : W4.cell? ⟨w.heap.size, 0, none⟩ = some (.int .i64 x.mi) := HI.out.cell 0; have yx1 : W4.cell? ⟨w.heap.size, 1, none⟩ = some (.int .i64 x.ce) := HI.out.cell 1; have yx2 : W4.cell? ⟨w.heap.size, 2, none⟩ = some (.int .i64 x.no) := HI.out.cell 2; have yy0 : W4.cell? ⟨w.heap.size + 1, 0, none⟩ = some (.int .i64 y.mi) := HJ.out.cell 0; have yy1 : W4.cell? ⟨w.heap.size + 1, 1, none⟩ = some (.int .i64 y.ce) := HJ.out.cell 1; have yy2 : W4.cell? ⟨w.heap.size + 1, 2, none⟩ = some (.int .i64 y.no) := HJ.out.cell 2
   rcases HD.out with ⟨rfl, rfl, rfl⟩ | ⟨rfl, rfl, rfl, rfl⟩ | ⟨rfl, rfl, rfl, rfl⟩ | ⟨rfl, rfl, rfl, rfl, rfl⟩ | ⟨rfl, rfl, rfl, rfl, rfl⟩ | ⟨rfl, rfl, rfl, rfl, rfl⟩ | ⟨rfl, rfl, rfl, rfl, rfl⟩
   all_goals
    go_wp2_with (first
     | (have _g := T40.out; go_at_call 16; refine (cmp49a _ Hc2.out).mono ?_; go_loud (rintro e wf ⟨rfl, hb⟩; replace HI := Lib.hid (HI.out.ext hb); replace HJ := Lib.hid (HJ.out.ext hb); replace HB := Lib.hid (below_ext HB.out hb); clear yx0 yx1 yx2 yy0 yy1 yy2; have yx0 : wf.cell? ⟨w.heap.size, 0, none⟩ = some (.int .i64 x.mi) := HI.out.cell 0; have yx1 : wf.cell? ⟨w.heap.size, 1, none⟩ = some (.int .i64 x.ce) := HI.out.cell 1; have yx2 : wf.cell? ⟨w.heap.size, 2, none⟩ = some (.int .i64 x.no) := HI.out.cell 2; have yy0 : wf.cell? ⟨w.heap.size + 1, 0, none⟩ = some (.int .i64 y.mi) := HJ.out.cell 0; have yy1 : wf.cell? ⟨w.heap.size + 1, 1, none⟩ = some (.int .i64 y.ce) := HJ.out.cell 1; have yy2 : wf.cell? ⟨w.heap.size + 1, 2, none⟩ = some (.int .i64 y.no) := HJ.out.cell 2; clear hb; clear T40; have T41 := Lib.hid (Nat.le_refl 41))))
    go_ret
    exact ⟨rfl, HB.out⟩
 · skip
   go_upto_region 10 with (first
    | (have _g := T12.out; refine wpList_load_cs (by rfl) 41 (.tmp 4) rfl (w.heap.size + 1) (y.cells t) rfl 41 _ HJ.out Tryz.underlying41 rfl (by kernel_rfl) ?_; clear T12; have T13 := Lib.hid (Nat.le_refl 13))
    | (have _g := T13.out; refine wpList_load_cs (by rfl) 41 (.tmp 3) rfl w.heap.size (x.cells s) rfl 41 _ HI.out Tryz.underlying41 rfl (by kernel_rfl) ?_; clear T13; have T14 := Lib.hid (Nat.le_refl 14))
    | (have _g := T14.out; go_at_call 15; refine (sam_eq RY.out RX.out bq Hq2.out).mono ?_; go_loud (rintro e w7 ⟨rfl, hb⟩; replace HI := Lib.hid (HI.out.ext hb); replace HJ := Lib.hid (HJ.out.ext hb); replace HZ3 := Lib.hid (HZ3.out.ext hb); replace RX := Lib.hid (RX.out.ext hb); replace RY := Lib.hid (RY.out.ext hb); replace U1 := Lib.hid (U1.out.ext hb); replace U2 := Lib.hid (U2.out.ext hb); replace HB := Lib.hid (below_ext HB.out hb); have k1 := conv_bts U1.out; have k2 := conv_bts U2.out; rw [hsa] at k1; rw [hsb] at k2; clear U1 U2; clear hb; clear T14; have T15 := Lib.hid (Nat.le_refl 15))))
   refine wp_region_late_drew (S := fun w' => CB w' w.heap.size 41 (x.cells s) ∧ CB w' (w.heap.size + 1) 41 (y.cells t) ∧ CB w' (w.heap.size + 2) 23 (stC z)) (late := fun _ => false) (by kernel_rfl) ⟨HI.out.ext (Below.refl w7.heap.size w7).drew, HJ.out.ext (Below.refl w7.heap.size w7).drew, HZ3.out.ext (Below.refl w7.heap.size w7).drew⟩ (fun hHeld => ?_)
   have hdr := (Below.refl w7.heap.size w7).drew
   replace HI := Lib.hid (HI.out.ext hdr); replace HJ := Lib.hid (HJ.out.ext hdr); replace HZ3 := Lib.hid (HZ3.out.ext hdr); replace HB := Lib.hid (below_ext HB.out hdr)
   clear hdr
   generalize w7.drew = W1 at *
   refine tkL (some 60) 0 ?_ (hy := fun wS hSw => by (obtain ⟨s1, s2, s3⟩ := hSw); go_simp; first | done | with_reducible rfl)
   refine tkLy (some 61) 1 rfl (.agg (stC x).toArray) (yieldsIf_load_mid (by rfl) 23 _ rfl w.heap.size 0 rfl (stC x) _ (fun wS hSw => st_rng hSw.1) Tryz.underlying23 rfl (by kernel_rfl)) ?_
   refine tkL (some 62) 2 ?_ (hy := fun wS hSw => by (obtain ⟨s1, s2, s3⟩ := hSw); go_simp; first | done | with_reducible rfl)
   refine tkLy (some 63) 3 rfl (.agg (stC y).toArray) (yieldsIf_load_mid (by rfl) 23 _ rfl (w.heap.size + 1) 0 rfl (stC y) _ (fun wS hSw => st_rng hSw.2.1) Tryz.underlying23 rfl (by kernel_rfl)) ?_
   refine tkL (some 65) 5 ?_ (hy := fun wS hSw => by (obtain ⟨s1, s2, s3⟩ := hSw); go_simp; first | done | with_reducible rfl)
   refine tkLy (some 66) 6 rfl (.agg (stC y).toArray) (yieldsIf_load_mid (by rfl) 23 _ rfl (w.heap.size + 1) 0 rfl (stC y) _ (fun wS hSw => st_rng hSw.2.1) Tryz.underlying23 rfl (by kernel_rfl)) ?_
   refine tkLy (some 67) 7 rfl (.agg (stC z).toArray) (yieldsIf_load_mid (by rfl) 23 _ rfl (w.heap.size + 2) 0 rfl (stC z) _ (fun wS hSw => cb_rng0 hSw.2.2) Tryz.underlying23 rfl (by kernel_rfl)) ?_
   refine tkL (some 69) 9 ?_ (hy := fun wS hSw => by (obtain ⟨s1, s2, s3⟩ := hSw); go_simp; first | done | with_reducible rfl)
   refine tkLy (some 70) 10 rfl (.agg (stC x).toArray) (yieldsIf_load_mid (by rfl) 23 _ rfl w.heap.size 0 rfl (stC x) _ (fun wS hSw => st_rng hSw.1) Tryz.underlying23 rfl (by kernel_rfl)) ?_
   refine tkLy (some 71) 11 rfl (.agg (stC z).toArray) (yieldsIf_load_mid (by rfl) 23 _ rfl (w.heap.size + 2) 0 rfl (stC z) _ (fun wS hSw => cb_rng0 hSw.2.2) Tryz.underlying23 rfl (by kernel_rfl)) ?_
   refine rdL 4 fun K hK => ?_
   go_simp
   go_at_call 16
   refine (cmp49a _ Hc.out).mono ?_
   rintro e W2 ⟨rfl, hb⟩
   replace HI := Lib.hid (HI.out.ext hb); replace HJ := Lib.hid (HJ.out.ext hb); replace HZ3 := Lib.hid (HZ3.out.ext hb); replace HB := Lib.hid (below_ext HB.out hb)
   clear hb
   refine goLc hK ⟨HI.out, HJ.out, HZ3.out⟩ fun hHeld => ?_
   clear hK K
   refine rdL 8 fun K hK => ?_
   go_simp
   go_at_call 16
   refine (cmp49a _ Hd.out).mono ?_
   rintro e W3 ⟨rfl, hb⟩
   replace HI := Lib.hid (HI.out.ext hb); replace HJ := Lib.hid (HJ.out.ext hb); replace HZ3 := Lib.hid (HZ3.out.ext hb); replace HB := Lib.hid (below_ext HB.out hb)
   clear hb
   refine goLc hK ⟨HI.out, HJ.out, HZ3.out⟩ fun hHeld => ?_
   clear hK K
   refine rdL 12 fun K hK => ?_
   go_simp
   go_at_call 16
   refine (cmp49a _ He.out).mono ?_
   rintro e W4 ⟨rfl, hb⟩
   replace HI := Lib.hid (HI.out.ext hb); replace HJ := Lib.hid (HJ.out.ext hb); replace HZ3 := Lib.hid (HZ3.out.ext hb); replace HB := Lib.hid (below_ext HB.out hb)
   clear hb
   refine goLc hK ⟨HI.out, HJ.out, HZ3.out⟩ fun hHeld => ?_
   clear hK K
   refine tkL (some 12) 13 ?_ (hy := fun wS hSw => by (obtain ⟨s1, s2, s3⟩ := hSw); go_simp; first | done | with_reducible rfl)
   refine tkL (some 13) 14 ?_ (hy := fun wS hSw => by (obtain ⟨s1, s2, s3⟩ := hSw); go_simp; first | done | with_reducible rfl)
   refine tkL (some 14) 15 ?_ (hy := fun wS hSw => by (obtain ⟨s1, s2, s3⟩ := hSw); go_simp; first | done | with_reducible rfl)
   refine wpAnyL_done (by kernel_rfl) ?_ _
   have T40 := Lib.hid (Nat.le_refl 40)
   have yx0 : W4.cell? ⟨w.heap.size, 0, none⟩ = some (.int .i64 x.mi) := HI.out.cell 0; have yx1 : W4.cell? ⟨w.heap.size, 1, none⟩ = some (.int .i64 x.ce) := HI.out.cell 1; have yx2 : W4.cell? ⟨w.heap.size, 2, none⟩ = some (.int .i64 x.no) := HI.out.cell 2; have yy0 : W4.cell? ⟨w.heap.size + 1, 0, none⟩ = some (.int .i64 y.mi) := HJ.out.cell 0; have yy1 : W4.cell? ⟨w.heap.size + 1, 1, none⟩ = some (.int .i64 y.ce) := HJ.out.cell 1; have yy2 : W4.cell? ⟨w.heap.size + 1, 2, none⟩ = some (.int .i64 y.no) := HJ.out.cell 2
   rcases HD.out with ⟨rfl, rfl, rfl⟩ | ⟨rfl, rfl, rfl, rfl⟩ | ⟨rfl, rfl, rfl, rfl⟩ | ⟨rfl, rfl, rfl, rfl, rfl⟩ | ⟨rfl, rfl, rfl, rfl, rfl⟩ | ⟨rfl, rfl, rfl, rfl, rfl⟩ | ⟨rfl, rfl, rfl, rfl, rfl⟩
   all_goals
    go_wp2_with (first
     | (have _g := T40.out; go_at_call 16; refine (cmp49a _ Hc2.out).mono ?_; go_loud (rintro e wf ⟨rfl, hb⟩; replace HI := Lib.hid (HI.out.ext hb); replace HJ := Lib.hid (HJ.out.ext hb); replace HB := Lib.hid (below_ext HB.out hb); clear yx0 yx1 yx2 yy0 yy1 yy2; have yx0 : wf.cell? ⟨w.heap.size, 0, none⟩ = some (.int .i64 x.mi) := HI.out.cell 0; have yx1 : wf.cell? ⟨w.heap.size, 1, none⟩ = some (.int .i64 x.ce) := HI.out.cell 1; have yx2 : wf.cell? ⟨w.heap.size, 2, none⟩ = some (.int .i64 x.no) := HI.out.cell 2; have yy0 : wf.cell? ⟨w.heap.size + 1, 0, none⟩ = some (.int .i64 y.mi) := HJ.out.cell 0; have yy1 : wf.cell? ⟨w.heap.size + 1, 1, none⟩ = some (.int .i64 y.ce) := HJ.out.cell 1; have yy2 : wf.cell? ⟨w.heap.size + 1, 2, none⟩ = some (.int .i64 y.no) := HJ.out.cell 2; clear hb; clear T40; have T41 := Lib.hid (Nat.le_refl 41))))
    go_ret
    exact ⟨rfl, HB.out⟩
theorem lawapart_any (x y z : Inp) (s t : Slc) (w : World) (hx : InpR w x s) (hy : InpR w y t) (hi : InpI x) (hj : InpI y) (hL : Laid w) : Calls Tryz.prog 4 #[.agg (x.cells s).toArray, .agg (y.cells t).toArray, .agg (stC z).toArray] w (TrueP w) := by
 cases hf : fewB x with
 | false => exact aptA x y z s t w hx hy hi hj hL hf
 | true =>
  cases hg : fewB y with
  | false => exact aptB x y z s t w hx hy hi hj hL hf hg
  | true => exact aptD x y z s t w hx hy hi hj hL hf hg
end Go.Proofs.YtdblnbnofjggnaaGreatDoor
