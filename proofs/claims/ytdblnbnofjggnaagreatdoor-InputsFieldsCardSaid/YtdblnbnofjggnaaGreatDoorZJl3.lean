/- chapter 49's law: InputsFields (printed by gen49ao.py). -/
import Derived.Test.YtdblnbnofjggnaaGreatDoorK50
namespace Go.Proofs.YtdblnbnofjggnaaGreatDoor
open Go.RowKit
theorem ok_use {y : Inp} (h : useI y ≠ y) : okI y = false := by
 unfold okI; rw [decide_eq_false h]; simp
theorem use_text (y : Inp) (h : y.kind ≠ 1) : (useI y).text = ByteArray.empty := by
 unfold useI baseI; dsimp only; repeat' split
 all_goals first | rfl | omega
theorem use_stn (y : Inp) (h : y.kind ≠ 2) : (useI y).stn = ⟨[], 0, 0⟩ := by
 unfold useI baseI; dsimp only; repeat' split
 all_goals first | rfl | omega
theorem use_flt (y : Inp) (h : y.kind ≠ 3) : (useI y).flt = fltZ := by
 unfold useI baseI; dsimp only; repeat' split
 all_goals first | rfl | omega
theorem use_tree (y : Inp) (h : y.kind ≠ 4) : (useI y).tree = [] := by
 unfold useI baseI; dsimp only; repeat' split
 all_goals first | rfl | omega
theorem use_n (y : Inp) (h : y.kind ≠ 5) (h2 : y.kind ≠ 9) : (useI y).n = 0 := by
 unfold useI baseI; dsimp only; repeat' split
 all_goals first | rfl | omega
theorem use_chg (y : Inp) (h : y.kind ≠ 6) : (useI y).chg = ⟨0, 0, []⟩ := by
 unfold useI baseI; dsimp only; repeat' split
 all_goals first | rfl | omega
theorem use_rep (y : Inp) (h : y.kind ≠ 7) : (useI y).rep = rpZ := by
 unfold useI baseI; dsimp only; repeat' split
 all_goals first | rfl | omega
theorem use_sts (y : Inp) (h : y.kind ≠ 8) : (useI y).sts = ⟨0, 0, false⟩ := by
 unfold useI baseI; dsimp only; repeat' split
 all_goals first | rfl | omega
theorem chk_bad {y : Inp} {t : Slc} {W : World} (hx : InpR W y t) (h1 : y.text.size ≤ 9223372036854775807) (h2 : y.flt.call.size ≤ 9223372036854775807) (h3 : y.rep.cl.size ≤ 9223372036854775807) (hk : okI y = false) : Calls Tryz.prog 13 #[.agg (y.cells t).toArray] W fun e W' => e = .returned (.int .i64 490) ∧ Below W.heap.size W W' :=
 (check_any49 y t W hx h1 h2 h3).mono fun e W' h => by unfold ChkP at h; rw [hk] at h; exact h
theorem lsat_one {α : Type} {K : EK α} {W : World} {g : Nat} {t : TypeId} {a : α} (h : CB W g t (K.cells a)) : LsAt K W.heap.size W [a] (.slice (some ⟨g, 0, none⟩) 1 1) :=
 .inr ⟨g, 0, 1, rfl, Nat.le_refl _, by decide, h.lt, fun j b hj => by
  match j, hj with
  | 0, hj => simp at hj; subst hj; rw [Nat.zero_mul]; exact ElAt.of_cb h
  | j+1, hj => simp at hj⟩
theorem tree_one {W : World} {g : Nat} {t : TypeId} {v : Int} (h : CB W g t [.int .i64 v, .int .i64 0, .slice none 0 0]) : TreeAt W [⟨v, 0, []⟩] (.slice (some ⟨g, 0, none⟩) 1 1) :=
 ⟨[⟨v, 0, none, 0, 0⟩], lsat_one (K := ndK) (a := (⟨v, 0, none, 0, 0⟩ : Nb)) h, rfl, fun i t r ht hr => by
  match i, ht, hr with
  | 0, ht, hr => simp at ht hr; subst ht hr; exact ⟨rfl, rfl, LsAt.nil _ _ _ _⟩
  | i+1, ht, hr => simp at ht⟩
set_option maxRecDepth 100000 in
set_option maxHeartbeats 16000000 in
theorem fldA (x : Inp) (s : Slc) (f v : Int) (w : World) (hx : InpR w x s) (hi : InpI x) (_hf0 : 0 ≤ f ∧ f ≤ 255) (hL : Laid w) (hfw : fewB x = false) : Calls Tryz.prog 3 #[x.v s, .int .u8 f, .int .i64 v] w (TrueP w) := by
 have HI : Hid (CB (w.alloc (bI x s)) w.heap.size 41 (x.cells s)) := cb_one w (bI x s) _ _ rfl
 have HB := Lib.hid (b_al (w := w) (bI x s)); have RX := Lib.hid (hx.ext (b_al (w := w) (bI x s))); have Hi := Lib.hid hi; have HL := Lib.hid hL
 have HX0 := Lib.hid hx
 clear hx hi hL
 change Calls Tryz.prog 3 #[.agg (x.cells s).toArray, .int .u8 f, .int .i64 v] w _
 go_enter Tryz.func3, Tryz.ntmps3
 go_upto_region 1 with fail
 change Code.wp _ _ _ _ (w.alloc (bI x s))
 generalize w.alloc (bI x s) = w0 at *
 have Hf := Lib.hid hfw; clear hfw
 have T0 := Lib.hid (Nat.le_refl 0)
 go_wp2_with (first
  | (have _g := T0.out; go_at_call 11; refine (sane49_any _ (HL.out.ext HB.out)).mono ?_; go_loud (rintro e w1 ⟨rfl, hb⟩; replace HI := Lib.hid (HI.out.ext hb); replace RX := Lib.hid (RX.out.ext hb); replace HB := Lib.hid (below_ext HB.out hb); clear hb; clear T0; have T1 := Lib.hid (Nat.le_refl 1)))
  | (have _g := T1.out; refine wpList_load_cs (by rfl) 41 (.tmp 3) rfl w.heap.size (x.cells s) rfl 41 _ HI.out Tryz.underlying41 rfl (by kernel_rfl) ?_; clear T1; have T2 := Lib.hid (Nat.le_refl 2))
  | (have _g := T2.out; go_at_call 12; refine (few49 RX.out Hi.out Hf.out).mono ?_; go_loud (rintro e w2 ⟨rfl, hb⟩; replace HI := Lib.hid (HI.out.ext hb); replace RX := Lib.hid (RX.out.ext hb); replace HB := Lib.hid (below_ext HB.out hb); clear hb; clear T2; have T3 := Lib.hid (Nat.le_refl 3))))
 go_ret
 exact ⟨rfl, HB.out⟩
set_option maxRecDepth 100000 in
set_option maxHeartbeats 16000000 in
theorem fldB (x : Inp) (s : Slc) (f v : Int) (w : World) (hx : InpR w x s) (hi : InpI x) (_hf0 : 0 ≤ f ∧ f ≤ 255) (hL : Laid w) (hfw : fewB x = true) (hok : okI x = false) : Calls Tryz.prog 3 #[x.v s, .int .u8 f, .int .i64 v] w (TrueP w) := by
 have HI : Hid (CB (w.alloc (bI x s)) w.heap.size 41 (x.cells s)) := cb_one w (bI x s) _ _ rfl
 have HB := Lib.hid (b_al (w := w) (bI x s)); have RX := Lib.hid (hx.ext (b_al (w := w) (bI x s))); have Hi := Lib.hid hi; have HL := Lib.hid hL
 have HX0 := Lib.hid hx
 clear hx hi hL
 change Calls Tryz.prog 3 #[.agg (x.cells s).toArray, .int .u8 f, .int .i64 v] w _
 go_enter Tryz.func3, Tryz.ntmps3
 go_upto_region 1 with fail
 change Code.wp _ _ _ _ (w.alloc (bI x s))
 generalize w.alloc (bI x s) = w0 at *
 have Hf := Lib.hid hfw; have Hk := Lib.hid hok; clear hfw hok
 have T0 := Lib.hid (Nat.le_refl 0)
 go_wp2_with (first
  | (have _g := T0.out; go_at_call 11; refine (sane49_any _ (HL.out.ext HB.out)).mono ?_; go_loud (rintro e w1 ⟨rfl, hb⟩; replace HI := Lib.hid (HI.out.ext hb); replace RX := Lib.hid (RX.out.ext hb); replace HB := Lib.hid (below_ext HB.out hb); clear hb; clear T0; have T1 := Lib.hid (Nat.le_refl 1)))
  | (have _g := T1.out; refine wpList_load_cs (by rfl) 41 (.tmp 3) rfl w.heap.size (x.cells s) rfl 41 _ HI.out Tryz.underlying41 rfl (by kernel_rfl) ?_; clear T1; have T2 := Lib.hid (Nat.le_refl 2))
  | (have _g := T2.out; go_at_call 12; refine (few49 RX.out Hi.out Hf.out).mono ?_; go_loud (rintro e w2 ⟨rfl, hb⟩; replace HI := Lib.hid (HI.out.ext hb); replace RX := Lib.hid (RX.out.ext hb); replace HB := Lib.hid (below_ext HB.out hb); clear hb; clear T2; have T3 := Lib.hid (Nat.le_refl 3)))
  | (have _g := T3.out; refine wpList_load_cs (by rfl) 41 (.tmp 3) rfl w.heap.size (x.cells s) rfl 41 _ HI.out Tryz.underlying41 rfl (by kernel_rfl) ?_; clear T3; have T4 := Lib.hid (Nat.le_refl 4))
  | (have _g := T4.out; go_at_call 13; refine (chk_no RX.out Hi.out Hk.out).mono ?_; go_loud (rintro e w3 ⟨rfl, hb⟩; replace HI := Lib.hid (HI.out.ext hb); replace RX := Lib.hid (RX.out.ext hb); replace HB := Lib.hid (below_ext HB.out hb); clear hb; clear T4; have T5 := Lib.hid (Nat.le_refl 5))))
 go_ret
 exact ⟨rfl, HB.out⟩
set_option maxRecDepth 100000 in
set_option maxHeartbeats 16000000 in
theorem fldC (x : Inp) (s : Slc) (f v : Int) (w : World) (hx : InpR w x s) (hi : InpI x) (_hf0 : 0 ≤ f ∧ f ≤ 255) (hL : Laid w) (hfw : fewB x = true) (hok : okI x = true) (hv : v = 0) : Calls Tryz.prog 3 #[x.v s, .int .u8 f, .int .i64 v] w (TrueP w) := by
 have HI : Hid (CB (w.alloc (bI x s)) w.heap.size 41 (x.cells s)) := cb_one w (bI x s) _ _ rfl
 have HB := Lib.hid (b_al (w := w) (bI x s)); have RX := Lib.hid (hx.ext (b_al (w := w) (bI x s))); have Hi := Lib.hid hi; have HL := Lib.hid hL
 have HX0 := Lib.hid hx
 clear hx hi hL
 change Calls Tryz.prog 3 #[.agg (x.cells s).toArray, .int .u8 f, .int .i64 v] w _
 go_enter Tryz.func3, Tryz.ntmps3
 go_upto_region 1 with fail
 change Code.wp _ _ _ _ (w.alloc (bI x s))
 generalize w.alloc (bI x s) = w0 at *
 have Hf := Lib.hid hfw; have Hk := Lib.hid hok; clear hfw hok
 have v0 : (v == 0) = true := by rw [hv]; rfl
 have T0 := Lib.hid (Nat.le_refl 0)
 go_wp2_with (first
  | (have _g := T0.out; go_at_call 11; refine (sane49_any _ (HL.out.ext HB.out)).mono ?_; go_loud (rintro e w1 ⟨rfl, hb⟩; replace HI := Lib.hid (HI.out.ext hb); replace RX := Lib.hid (RX.out.ext hb); replace HB := Lib.hid (below_ext HB.out hb); clear hb; clear T0; have T1 := Lib.hid (Nat.le_refl 1)))
  | (have _g := T1.out; refine wpList_load_cs (by rfl) 41 (.tmp 3) rfl w.heap.size (x.cells s) rfl 41 _ HI.out Tryz.underlying41 rfl (by kernel_rfl) ?_; clear T1; have T2 := Lib.hid (Nat.le_refl 2))
  | (have _g := T2.out; go_at_call 12; refine (few49 RX.out Hi.out Hf.out).mono ?_; go_loud (rintro e w2 ⟨rfl, hb⟩; replace HI := Lib.hid (HI.out.ext hb); replace RX := Lib.hid (RX.out.ext hb); replace HB := Lib.hid (below_ext HB.out hb); clear hb; clear T2; have T3 := Lib.hid (Nat.le_refl 3)))
  | (have _g := T3.out; refine wpList_load_cs (by rfl) 41 (.tmp 3) rfl w.heap.size (x.cells s) rfl 41 _ HI.out Tryz.underlying41 rfl (by kernel_rfl) ?_; clear T3; have T4 := Lib.hid (Nat.le_refl 4))
  | (have _g := T4.out; go_at_call 13; refine (chk_ok RX.out Hi.out Hk.out).mono ?_; go_loud (rintro e w3 ⟨rfl, hb⟩; replace HI := Lib.hid (HI.out.ext hb); replace RX := Lib.hid (RX.out.ext hb); replace HB := Lib.hid (below_ext HB.out hb); clear hb; clear T4; have T5 := Lib.hid (Nat.le_refl 5))))
 go_ret
 exact ⟨rfl, HB.out⟩
set_option maxRecDepth 100000 in
set_option maxHeartbeats 16000000 in
theorem fldD (x : Inp) (s : Slc) (f v : Int) (w : World) (hx : InpR w x s) (hi : InpI x) (hf0 : 0 ≤ f ∧ f ≤ 255) (hL : Laid w) (hfw : fewB x = true) (hok : okI x = true) (hv : v ≠ 0) : Calls Tryz.prog 3 #[x.v s, .int .u8 f, .int .i64 v] w (TrueP w) := by
 have HI : Hid (CB (w.alloc (bI x s)) w.heap.size 41 (x.cells s)) := cb_one w (bI x s) _ _ rfl
 have HB := Lib.hid (b_al (w := w) (bI x s)); have RX := Lib.hid (hx.ext (b_al (w := w) (bI x s))); have Hi := Lib.hid hi; have HL := Lib.hid hL
 have HX0 := Lib.hid hx
 clear hx hi hL
 change Calls Tryz.prog 3 #[.agg (x.cells s).toArray, .int .u8 f, .int .i64 v] w _
 go_enter Tryz.func3, Tryz.ntmps3
 go_upto_region 1 with fail
 change Code.wp _ _ _ _ (w.alloc (bI x s))
 generalize w.alloc (bI x s) = w0 at *
 have Hf := Lib.hid hfw; have Hk := Lib.hid hok; have HV := Lib.hid hv
 have v0 : (v == 0) = false := beq_false_of_ne hv
 clear hfw hok hv
 have T0 := Lib.hid (Nat.le_refl 0)
 go_upto_region 7 with (first
  | (have _g := T0.out; go_at_call 11; refine (sane49_any _ (HL.out.ext HB.out)).mono ?_; go_loud (rintro e w1 ⟨rfl, hb⟩; replace HI := Lib.hid (HI.out.ext hb); replace RX := Lib.hid (RX.out.ext hb); replace HB := Lib.hid (below_ext HB.out hb); clear hb; clear T0; have T1 := Lib.hid (Nat.le_refl 1)))
  | (have _g := T1.out; refine wpList_load_cs (by rfl) 41 (.tmp 3) rfl w.heap.size (x.cells s) rfl 41 _ HI.out Tryz.underlying41 rfl (by kernel_rfl) ?_; clear T1; have T2 := Lib.hid (Nat.le_refl 2))
  | (have _g := T2.out; go_at_call 12; refine (few49 RX.out Hi.out Hf.out).mono ?_; go_loud (rintro e w2 ⟨rfl, hb⟩; replace HI := Lib.hid (HI.out.ext hb); replace RX := Lib.hid (RX.out.ext hb); replace HB := Lib.hid (below_ext HB.out hb); clear hb; clear T2; have T3 := Lib.hid (Nat.le_refl 3)))
  | (have _g := T3.out; refine wpList_load_cs (by rfl) 41 (.tmp 3) rfl w.heap.size (x.cells s) rfl 41 _ HI.out Tryz.underlying41 rfl (by kernel_rfl) ?_; clear T3; have T4 := Lib.hid (Nat.le_refl 4))
  | (have _g := T4.out; go_at_call 13; refine (chk_ok RX.out Hi.out Hk.out).mono ?_; go_loud (rintro e w3 ⟨rfl, hb⟩; replace HI := Lib.hid (HI.out.ext hb); replace RX := Lib.hid (RX.out.ext hb); replace HB := Lib.hid (below_ext HB.out hb); clear hb; clear T4; have T5 := Lib.hid (Nat.le_refl 5))))
 clear v0 T5
 have hm : f % 10 = 0 ∨ f % 10 = 1 ∨ f % 10 = 2 ∨ f % 10 = 3 ∨ f % 10 = 4 ∨ f % 10 = 5 ∨ f % 10 = 6 ∨ f % 10 = 7 ∨ f % 10 = 8 ∨ f % 10 = 9 := by omega
 clear hf0
 rcases hm with hm | hm | hm | hm | hm | hm | hm | hm | hm | hm
 · skip
   have q0 : (f % 10 == 0) = true := by rw [hm]; rfl
   clear hm
   by_cases hk : x.kind = 1
   case pos =>
    have kq : (x.kind == 1) = true := by rw [hk]; rfl
    clear hk
    have T20 := Lib.hid (Nat.le_refl 20)
    have c3 : w3.cell? ⟨w.heap.size, 3, none⟩ = some (.int .i64 x.kind) := HI.out.cell 3
    have fo : w3.cell? ⟨w.heap.size, 4, none⟩ = (x.cells s)[4]? := HI.out.cell 4
    have ff : w3.frozen? ⟨w.heap.size, 4, none⟩ = false := HI.out.frozen 4
    change _ = some _ at fo
    go_upto_region 27 with fail
    change Code.wp _ _ _ _ (w3.setCell ⟨w.heap.size, 4, none⟩ (.string ⟨#[120]⟩))
    have hHI : CB (w3.setCell ⟨w.heap.size, 4, none⟩ (.string ⟨#[120]⟩)) w.heap.size 41 ((({ x with text := ⟨#[120]⟩ } : Inp)).cells (s)) := HI.out.set 4 (.string ⟨#[120]⟩)
    have hHB := HB.out.setCell (p := ⟨w.heap.size, 4, none⟩) (Nat.le_refl _) (.string ⟨#[120]⟩)
    have hr := HX0.out.ext hHB
    have hRY : InpR (w3.setCell ⟨w.heap.size, 4, none⟩ (.string ⟨#[120]⟩)) ({ x with text := ⟨#[120]⟩ } : Inp) (s) := ⟨hr.ways, hr.tree, hr.modes, hr.vols⟩
    have HI' := Lib.hid hHI; have HB' := Lib.hid hHB; have RY := Lib.hid hRY
    clear hHI hHB hr hRY fo ff c3 HI HB RX
    have HI := HI'; have HB := HB'; clear HI' HB'
    generalize (w3.setCell ⟨w.heap.size, 4, none⟩ (.string ⟨#[120]⟩)) = w4 at *
    go_wp2_with fail
    go_ret
    exact ⟨rfl, HB.out⟩
   case neg =>
    have kq : (x.kind == 1) = false := beq_false_of_ne hk
    have Hkn := Lib.hid hk
    clear hk
    have T20 := Lib.hid (Nat.le_refl 20)
    have c3 : w3.cell? ⟨w.heap.size, 3, none⟩ = some (.int .i64 x.kind) := HI.out.cell 3
    have fo : w3.cell? ⟨w.heap.size, 4, none⟩ = (x.cells s)[4]? := HI.out.cell 4
    have ff : w3.frozen? ⟨w.heap.size, 4, none⟩ = false := HI.out.frozen 4
    change _ = some _ at fo
    go_upto_region 27 with fail
    change Code.wp _ _ _ _ (w3.setCell ⟨w.heap.size, 4, none⟩ (.string ⟨#[120]⟩))
    have hHI : CB (w3.setCell ⟨w.heap.size, 4, none⟩ (.string ⟨#[120]⟩)) w.heap.size 41 ((({ x with text := ⟨#[120]⟩ } : Inp)).cells (s)) := HI.out.set 4 (.string ⟨#[120]⟩)
    have hHB := HB.out.setCell (p := ⟨w.heap.size, 4, none⟩) (Nat.le_refl _) (.string ⟨#[120]⟩)
    have hr := HX0.out.ext hHB
    have hRY : InpR (w3.setCell ⟨w.heap.size, 4, none⟩ (.string ⟨#[120]⟩)) ({ x with text := ⟨#[120]⟩ } : Inp) (s) := ⟨hr.ways, hr.tree, hr.modes, hr.vols⟩
    have HI' := Lib.hid hHI; have HB' := Lib.hid hHB; have RY := Lib.hid hRY
    clear hHI hHB hr hRY fo ff c3 HI HB RX
    have HI := HI'; have HB := HB'; clear HI' HB'
    generalize (w3.setCell ⟨w.heap.size, 4, none⟩ (.string ⟨#[120]⟩)) = w4 at *
    have hbad : okI ({ x with text := ⟨#[120]⟩ } : Inp) = false := ok_use fun hq => by
     replace hq := congrArg Inp.text hq
     have h1 : (⟨#[120]⟩ : ByteArray) = ByteArray.empty := hq.symm.trans (use_text _ Hkn.out)
     exact absurd (congrArg ByteArray.size h1) (by decide)
    have Hbad := Lib.hid hbad; clear hbad
    go_wp2_with (first
    | (have _g := T20.out; refine wpList_load_cs (by rfl) 41 (.tmp 3) rfl w.heap.size (({ x with text := ⟨#[120]⟩ } : Inp).cells (s)) rfl 41 _ HI.out Tryz.underlying41 rfl (by kernel_rfl) ?_; clear T20; have T21 := Lib.hid (Nat.le_refl 21))
    | (have _g := T21.out; go_at_call 13; refine (chk_bad RY.out (show (1 : Nat) ≤ 9223372036854775807 by decide) Hi.out.flt.call Hi.out.rcl Hbad.out).mono ?_; go_loud (rintro e w5 ⟨rfl, hb⟩; replace HI := Lib.hid (HI.out.ext hb); replace HB := Lib.hid (below_ext HB.out hb); clear hb; clear T21; have T22 := Lib.hid (Nat.le_refl 22))))
    go_ret
    exact ⟨rfl, HB.out⟩
 · skip
   have q0 : (f % 10 == 0) = false := by rw [hm]; rfl
   have q1 : (f % 10 == 1) = true := by rw [hm]; rfl
   clear hm
   by_cases hk : x.kind = 2
   case pos =>
    have kq : (x.kind == 2) = true := by rw [hk]; rfl
    clear hk
    have T20 := Lib.hid (Nat.le_refl 20)
    have c3 : w3.cell? ⟨w.heap.size, 3, none⟩ = some (.int .i64 x.kind) := HI.out.cell 3
    have fo : w3.cell? ⟨w.heap.size, 28, none⟩ = (x.cells s)[28]? := HI.out.cell 28
    have ff : w3.frozen? ⟨w.heap.size, 28, none⟩ = false := HI.out.frozen 28
    change _ = some _ at fo
    go_upto_region 27 with fail
    change Code.wp _ _ _ _ (w3.setCell ⟨w.heap.size, 28, none⟩ (.int .i64 v))
    have hHI : CB (w3.setCell ⟨w.heap.size, 28, none⟩ (.int .i64 v)) w.heap.size 41 ((({ x with stn := { x.stn with sh := v } } : Inp)).cells (s)) := HI.out.set 28 (.int .i64 v)
    have hHB := HB.out.setCell (p := ⟨w.heap.size, 28, none⟩) (Nat.le_refl _) (.int .i64 v)
    have hr := HX0.out.ext hHB
    have hRY : InpR (w3.setCell ⟨w.heap.size, 28, none⟩ (.int .i64 v)) ({ x with stn := { x.stn with sh := v } } : Inp) (s) := ⟨hr.ways, hr.tree, hr.modes, hr.vols⟩
    have HI' := Lib.hid hHI; have HB' := Lib.hid hHB; have RY := Lib.hid hRY
    clear hHI hHB hr hRY fo ff c3 HI HB RX
    have HI := HI'; have HB := HB'; clear HI' HB'
    generalize (w3.setCell ⟨w.heap.size, 28, none⟩ (.int .i64 v)) = w4 at *
    go_wp2_with fail
    go_ret
    exact ⟨rfl, HB.out⟩
   case neg =>
    have kq : (x.kind == 2) = false := beq_false_of_ne hk
    have Hkn := Lib.hid hk
    clear hk
    have T20 := Lib.hid (Nat.le_refl 20)
    have c3 : w3.cell? ⟨w.heap.size, 3, none⟩ = some (.int .i64 x.kind) := HI.out.cell 3
    have fo : w3.cell? ⟨w.heap.size, 28, none⟩ = (x.cells s)[28]? := HI.out.cell 28
    have ff : w3.frozen? ⟨w.heap.size, 28, none⟩ = false := HI.out.frozen 28
    change _ = some _ at fo
    go_upto_region 27 with fail
    change Code.wp _ _ _ _ (w3.setCell ⟨w.heap.size, 28, none⟩ (.int .i64 v))
    have hHI : CB (w3.setCell ⟨w.heap.size, 28, none⟩ (.int .i64 v)) w.heap.size 41 ((({ x with stn := { x.stn with sh := v } } : Inp)).cells (s)) := HI.out.set 28 (.int .i64 v)
    have hHB := HB.out.setCell (p := ⟨w.heap.size, 28, none⟩) (Nat.le_refl _) (.int .i64 v)
    have hr := HX0.out.ext hHB
    have hRY : InpR (w3.setCell ⟨w.heap.size, 28, none⟩ (.int .i64 v)) ({ x with stn := { x.stn with sh := v } } : Inp) (s) := ⟨hr.ways, hr.tree, hr.modes, hr.vols⟩
    have HI' := Lib.hid hHI; have HB' := Lib.hid hHB; have RY := Lib.hid hRY
    clear hHI hHB hr hRY fo ff c3 HI HB RX
    have HI := HI'; have HB := HB'; clear HI' HB'
    generalize (w3.setCell ⟨w.heap.size, 28, none⟩ (.int .i64 v)) = w4 at *
    have hbad : okI ({ x with stn := { x.stn with sh := v } } : Inp) = false := ok_use fun hq => by
     replace hq := congrArg Inp.stn hq
     exact HV.out (congrArg Stn.sh (hq.symm.trans (use_stn _ Hkn.out)))
    have Hbad := Lib.hid hbad; clear hbad
    go_wp2_with (first
    | (have _g := T20.out; refine wpList_load_cs (by rfl) 41 (.tmp 3) rfl w.heap.size (({ x with stn := { x.stn with sh := v } } : Inp).cells (s)) rfl 41 _ HI.out Tryz.underlying41 rfl (by kernel_rfl) ?_; clear T20; have T21 := Lib.hid (Nat.le_refl 21))
    | (have _g := T21.out; go_at_call 13; refine (chk_bad RY.out Hi.out.text Hi.out.flt.call Hi.out.rcl Hbad.out).mono ?_; go_loud (rintro e w5 ⟨rfl, hb⟩; replace HI := Lib.hid (HI.out.ext hb); replace HB := Lib.hid (below_ext HB.out hb); clear hb; clear T21; have T22 := Lib.hid (Nat.le_refl 22))))
    go_ret
    exact ⟨rfl, HB.out⟩
 · skip
   have q0 : (f % 10 == 0) = false := by rw [hm]; rfl
   have q1 : (f % 10 == 1) = false := by rw [hm]; rfl
   have q2 : (f % 10 == 2) = true := by rw [hm]; rfl
   clear hm
   by_cases hk : x.kind = 3
   case pos =>
    have kq : (x.kind == 3) = true := by rw [hk]; rfl
    clear hk
    have T20 := Lib.hid (Nat.le_refl 20)
    have c3 : w3.cell? ⟨w.heap.size, 3, none⟩ = some (.int .i64 x.kind) := HI.out.cell 3
    have fo : w3.cell? ⟨w.heap.size, 5, none⟩ = (x.cells s)[5]? := HI.out.cell 5
    have ff : w3.frozen? ⟨w.heap.size, 5, none⟩ = false := HI.out.frozen 5
    change _ = some _ at fo
    go_upto_region 27 with fail
    change Code.wp _ _ _ _ (w3.setCell ⟨w.heap.size, 5, none⟩ (.int .i64 v))
    have hHI : CB (w3.setCell ⟨w.heap.size, 5, none⟩ (.int .i64 v)) w.heap.size 41 ((({ x with flt := { x.flt with id := v } } : Inp)).cells (s)) := HI.out.set 5 (.int .i64 v)
    have hHB := HB.out.setCell (p := ⟨w.heap.size, 5, none⟩) (Nat.le_refl _) (.int .i64 v)
    have hr := HX0.out.ext hHB
    have hRY : InpR (w3.setCell ⟨w.heap.size, 5, none⟩ (.int .i64 v)) ({ x with flt := { x.flt with id := v } } : Inp) (s) := ⟨hr.ways, hr.tree, hr.modes, hr.vols⟩
    have HI' := Lib.hid hHI; have HB' := Lib.hid hHB; have RY := Lib.hid hRY
    clear hHI hHB hr hRY fo ff c3 HI HB RX
    have HI := HI'; have HB := HB'; clear HI' HB'
    generalize (w3.setCell ⟨w.heap.size, 5, none⟩ (.int .i64 v)) = w4 at *
    go_wp2_with fail
    go_ret
    exact ⟨rfl, HB.out⟩
   case neg =>
    have kq : (x.kind == 3) = false := beq_false_of_ne hk
    have Hkn := Lib.hid hk
    clear hk
    have T20 := Lib.hid (Nat.le_refl 20)
    have c3 : w3.cell? ⟨w.heap.size, 3, none⟩ = some (.int .i64 x.kind) := HI.out.cell 3
    have fo : w3.cell? ⟨w.heap.size, 5, none⟩ = (x.cells s)[5]? := HI.out.cell 5
    have ff : w3.frozen? ⟨w.heap.size, 5, none⟩ = false := HI.out.frozen 5
    change _ = some _ at fo
    go_upto_region 27 with fail
    change Code.wp _ _ _ _ (w3.setCell ⟨w.heap.size, 5, none⟩ (.int .i64 v))
    have hHI : CB (w3.setCell ⟨w.heap.size, 5, none⟩ (.int .i64 v)) w.heap.size 41 ((({ x with flt := { x.flt with id := v } } : Inp)).cells (s)) := HI.out.set 5 (.int .i64 v)
    have hHB := HB.out.setCell (p := ⟨w.heap.size, 5, none⟩) (Nat.le_refl _) (.int .i64 v)
    have hr := HX0.out.ext hHB
    have hRY : InpR (w3.setCell ⟨w.heap.size, 5, none⟩ (.int .i64 v)) ({ x with flt := { x.flt with id := v } } : Inp) (s) := ⟨hr.ways, hr.tree, hr.modes, hr.vols⟩
    have HI' := Lib.hid hHI; have HB' := Lib.hid hHB; have RY := Lib.hid hRY
    clear hHI hHB hr hRY fo ff c3 HI HB RX
    have HI := HI'; have HB := HB'; clear HI' HB'
    generalize (w3.setCell ⟨w.heap.size, 5, none⟩ (.int .i64 v)) = w4 at *
    have hbad : okI ({ x with flt := { x.flt with id := v } } : Inp) = false := ok_use fun hq => by
     replace hq := congrArg Inp.flt hq
     exact HV.out (congrArg Flt.id (hq.symm.trans (use_flt _ Hkn.out)))
    have Hbad := Lib.hid hbad; clear hbad
    go_wp2_with (first
    | (have _g := T20.out; refine wpList_load_cs (by rfl) 41 (.tmp 3) rfl w.heap.size (({ x with flt := { x.flt with id := v } } : Inp).cells (s)) rfl 41 _ HI.out Tryz.underlying41 rfl (by kernel_rfl) ?_; clear T20; have T21 := Lib.hid (Nat.le_refl 21))
    | (have _g := T21.out; go_at_call 13; refine (chk_bad RY.out Hi.out.text Hi.out.flt.call Hi.out.rcl Hbad.out).mono ?_; go_loud (rintro e w5 ⟨rfl, hb⟩; replace HI := Lib.hid (HI.out.ext hb); replace HB := Lib.hid (below_ext HB.out hb); clear hb; clear T21; have T22 := Lib.hid (Nat.le_refl 22))))
    go_ret
    exact ⟨rfl, HB.out⟩
 · skip
   have q0 : (f % 10 == 0) = false := by rw [hm]; rfl
   have q1 : (f % 10 == 1) = false := by rw [hm]; rfl
   have q2 : (f % 10 == 2) = false := by rw [hm]; rfl
   have q3 : (f % 10 == 3) = true := by rw [hm]; rfl
   clear hm
   by_cases hk : x.kind = 3
   case pos =>
    have kq : (x.kind == 3) = true := by rw [hk]; rfl
    clear hk
    have T20 := Lib.hid (Nat.le_refl 20)
    have c3 : w3.cell? ⟨w.heap.size, 3, none⟩ = some (.int .i64 x.kind) := HI.out.cell 3
    have HIa := HI.out.alloc (.cells ([.int .i64 v]).toArray 3)
    have hnew := CB.new w3 3 [.int .i64 v]
    have hneg : w3.heap.size ≠ w.heap.size := by have := HI.out.lt; omega
    have fo : (w3.alloc (.cells ([.int .i64 v]).toArray 3)).cell? ⟨w.heap.size, 9, none⟩ = (x.cells s)[9]? := HIa.cell 9
    have ff : (w3.alloc (.cells ([.int .i64 v]).toArray 3)).frozen? ⟨w.heap.size, 9, none⟩ = false := HIa.frozen 9
    have c3a : (w3.alloc (.cells ([.int .i64 v]).toArray 3)).cell? ⟨w.heap.size, 3, none⟩ = some (.int .i64 x.kind) := HIa.cell 3
    change _ = some _ at fo
    go_upto_region 27 with (first
    | (have _g := T20.out; refine wpList_bslice_seq (by rfl) 24 3 1 #[(0, .tmp 51)] rfl [.int .i64 v] 1 Tryz.underlying24 (by kernel_rfl) (by decide) (by decide) [(0, .int .i64 v)] rfl ⟨rfl, trivial⟩ rfl rfl ?_; clear T20; have T21 := Lib.hid (Nat.le_refl 21)))
    change Code.wp _ _ _ _ ((w3.alloc (.cells ([.int .i64 v]).toArray 3)).setCell ⟨w.heap.size, 9, none⟩ (.slice (some ⟨w3.heap.size, 0, none⟩) 1 1))
    have hHI : CB ((w3.alloc (.cells ([.int .i64 v]).toArray 3)).setCell ⟨w.heap.size, 9, none⟩ (.slice (some ⟨w3.heap.size, 0, none⟩) 1 1)) w.heap.size 41 ((({ x with flt := { x.flt with ways := [v] } } : Inp)).cells ({ s with ways := .slice (some ⟨w3.heap.size, 0, none⟩) 1 1 })) := HIa.set 9 (.slice (some ⟨w3.heap.size, 0, none⟩) 1 1)
    have hHB := (HB.out.alloc HB.out.size (.cells ([.int .i64 v]).toArray 3)).setCell (p := ⟨w.heap.size, 9, none⟩) (Nat.le_refl _) (.slice (some ⟨w3.heap.size, 0, none⟩) 1 1)
    have hN := hnew.far (p := ⟨w.heap.size, 9, none⟩) hneg (.slice (some ⟨w3.heap.size, 0, none⟩) 1 1)
    have hr := HX0.out.ext hHB
    have hRY : InpR ((w3.alloc (.cells ([.int .i64 v]).toArray 3)).setCell ⟨w.heap.size, 9, none⟩ (.slice (some ⟨w3.heap.size, 0, none⟩) 1 1)) ({ x with flt := { x.flt with ways := [v] } } : Inp) ({ s with ways := .slice (some ⟨w3.heap.size, 0, none⟩) 1 1 }) := ⟨lsat_one (K := nuK) hN, hr.tree, hr.modes, hr.vols⟩
    have HI' := Lib.hid hHI; have HB' := Lib.hid hHB; have RY := Lib.hid hRY
    clear hHI hHB hr hRY fo ff c3 HI HB RX HIa hnew hneg c3a hN
    have HI := HI'; have HB := HB'; clear HI' HB'
    generalize ((w3.alloc (.cells ([.int .i64 v]).toArray 3)).setCell ⟨w.heap.size, 9, none⟩ (.slice (some ⟨w3.heap.size, 0, none⟩) 1 1)) = w4 at *
    go_wp2_with fail
    go_ret
    exact ⟨rfl, HB.out⟩
   case neg =>
    have kq : (x.kind == 3) = false := beq_false_of_ne hk
    have Hkn := Lib.hid hk
    clear hk
    have T20 := Lib.hid (Nat.le_refl 20)
    have c3 : w3.cell? ⟨w.heap.size, 3, none⟩ = some (.int .i64 x.kind) := HI.out.cell 3
    have HIa := HI.out.alloc (.cells ([.int .i64 v]).toArray 3)
    have hnew := CB.new w3 3 [.int .i64 v]
    have hneg : w3.heap.size ≠ w.heap.size := by have := HI.out.lt; omega
    have fo : (w3.alloc (.cells ([.int .i64 v]).toArray 3)).cell? ⟨w.heap.size, 9, none⟩ = (x.cells s)[9]? := HIa.cell 9
    have ff : (w3.alloc (.cells ([.int .i64 v]).toArray 3)).frozen? ⟨w.heap.size, 9, none⟩ = false := HIa.frozen 9
    have c3a : (w3.alloc (.cells ([.int .i64 v]).toArray 3)).cell? ⟨w.heap.size, 3, none⟩ = some (.int .i64 x.kind) := HIa.cell 3
    change _ = some _ at fo
    go_upto_region 27 with (first
    | (have _g := T20.out; refine wpList_bslice_seq (by rfl) 24 3 1 #[(0, .tmp 51)] rfl [.int .i64 v] 1 Tryz.underlying24 (by kernel_rfl) (by decide) (by decide) [(0, .int .i64 v)] rfl ⟨rfl, trivial⟩ rfl rfl ?_; clear T20; have T21 := Lib.hid (Nat.le_refl 21)))
    change Code.wp _ _ _ _ ((w3.alloc (.cells ([.int .i64 v]).toArray 3)).setCell ⟨w.heap.size, 9, none⟩ (.slice (some ⟨w3.heap.size, 0, none⟩) 1 1))
    have hHI : CB ((w3.alloc (.cells ([.int .i64 v]).toArray 3)).setCell ⟨w.heap.size, 9, none⟩ (.slice (some ⟨w3.heap.size, 0, none⟩) 1 1)) w.heap.size 41 ((({ x with flt := { x.flt with ways := [v] } } : Inp)).cells ({ s with ways := .slice (some ⟨w3.heap.size, 0, none⟩) 1 1 })) := HIa.set 9 (.slice (some ⟨w3.heap.size, 0, none⟩) 1 1)
    have hHB := (HB.out.alloc HB.out.size (.cells ([.int .i64 v]).toArray 3)).setCell (p := ⟨w.heap.size, 9, none⟩) (Nat.le_refl _) (.slice (some ⟨w3.heap.size, 0, none⟩) 1 1)
    have hN := hnew.far (p := ⟨w.heap.size, 9, none⟩) hneg (.slice (some ⟨w3.heap.size, 0, none⟩) 1 1)
    have hr := HX0.out.ext hHB
    have hRY : InpR ((w3.alloc (.cells ([.int .i64 v]).toArray 3)).setCell ⟨w.heap.size, 9, none⟩ (.slice (some ⟨w3.heap.size, 0, none⟩) 1 1)) ({ x with flt := { x.flt with ways := [v] } } : Inp) ({ s with ways := .slice (some ⟨w3.heap.size, 0, none⟩) 1 1 }) := ⟨lsat_one (K := nuK) hN, hr.tree, hr.modes, hr.vols⟩
    have HI' := Lib.hid hHI; have HB' := Lib.hid hHB; have RY := Lib.hid hRY
    clear hHI hHB hr hRY fo ff c3 HI HB RX HIa hnew hneg c3a hN
    have HI := HI'; have HB := HB'; clear HI' HB'
    generalize ((w3.alloc (.cells ([.int .i64 v]).toArray 3)).setCell ⟨w.heap.size, 9, none⟩ (.slice (some ⟨w3.heap.size, 0, none⟩) 1 1)) = w4 at *
    have hbad : okI ({ x with flt := { x.flt with ways := [v] } } : Inp) = false := ok_use fun hq => by
     replace hq := congrArg Inp.flt hq
     exact List.cons_ne_nil _ _ (congrArg Flt.ways (hq.symm.trans (use_flt _ Hkn.out)))
    have Hbad := Lib.hid hbad; clear hbad
    go_wp2_with (first
    | (have _g := T21.out; refine wpList_load_cs (by rfl) 41 (.tmp 3) rfl w.heap.size (({ x with flt := { x.flt with ways := [v] } } : Inp).cells ({ s with ways := .slice (some ⟨w3.heap.size, 0, none⟩) 1 1 })) rfl 41 _ HI.out Tryz.underlying41 rfl (by kernel_rfl) ?_; clear T21; have T22 := Lib.hid (Nat.le_refl 22))
    | (have _g := T22.out; go_at_call 13; refine (chk_bad RY.out Hi.out.text Hi.out.flt.call Hi.out.rcl Hbad.out).mono ?_; go_loud (rintro e w5 ⟨rfl, hb⟩; replace HI := Lib.hid (HI.out.ext hb); replace HB := Lib.hid (below_ext HB.out hb); clear hb; clear T22; have T23 := Lib.hid (Nat.le_refl 23))))
    go_ret
    exact ⟨rfl, HB.out⟩
 · skip
   have q0 : (f % 10 == 0) = false := by rw [hm]; rfl
   have q1 : (f % 10 == 1) = false := by rw [hm]; rfl
   have q2 : (f % 10 == 2) = false := by rw [hm]; rfl
   have q3 : (f % 10 == 3) = false := by rw [hm]; rfl
   have q4 : (f % 10 == 4) = true := by rw [hm]; rfl
   clear hm
   by_cases hk : x.kind = 4
   case pos =>
    have kq : (x.kind == 4) = true := by rw [hk]; rfl
    clear hk
    have T20 := Lib.hid (Nat.le_refl 20)
    have c3 : w3.cell? ⟨w.heap.size, 3, none⟩ = some (.int .i64 x.kind) := HI.out.cell 3
    have HIa := HI.out.alloc (.cells ([.int .i64 v, .int .i64 0, .slice none 0 0]).toArray 48)
    have hnew := CB.new w3 48 [.int .i64 v, .int .i64 0, .slice none 0 0]
    have hneg : w3.heap.size ≠ w.heap.size := by have := HI.out.lt; omega
    have fo : (w3.alloc (.cells ([.int .i64 v, .int .i64 0, .slice none 0 0]).toArray 48)).cell? ⟨w.heap.size, 13, none⟩ = (x.cells s)[13]? := HIa.cell 13
    have ff : (w3.alloc (.cells ([.int .i64 v, .int .i64 0, .slice none 0 0]).toArray 48)).frozen? ⟨w.heap.size, 13, none⟩ = false := HIa.frozen 13
    have c3a : (w3.alloc (.cells ([.int .i64 v, .int .i64 0, .slice none 0 0]).toArray 48)).cell? ⟨w.heap.size, 3, none⟩ = some (.int .i64 x.kind) := HIa.cell 3
    change _ = some _ at fo
    go_upto_region 27 with (first
    | (have _g := T20.out; refine wpList_built (by rfl) 48 #[(0, .tmp 60)] rfl [.int .i64 v, .int .i64 0, .slice none 0 0] [(0, .int .i64 v)] rfl (by kernel_rfl) ?_; clear T20; have T21 := Lib.hid (Nat.le_refl 21))
    | (have _g := T21.out; refine wpList_bslice_seq (by rfl) 29 48 1 #[(0, .tmp 61)] rfl [.int .i64 v, .int .i64 0, .slice none 0 0] 3 Tryz.underlying29 (by kernel_rfl) (by decide) (by decide) [(0, .agg ([.int .i64 v, .int .i64 0, .slice none 0 0]).toArray)] rfl ⟨rfl, trivial⟩ rfl rfl ?_; clear T21; have T22 := Lib.hid (Nat.le_refl 22)))
    change Code.wp _ _ _ _ ((w3.alloc (.cells ([.int .i64 v, .int .i64 0, .slice none 0 0]).toArray 48)).setCell ⟨w.heap.size, 13, none⟩ (.slice (some ⟨w3.heap.size, 0, none⟩) 1 1))
    have hHI : CB ((w3.alloc (.cells ([.int .i64 v, .int .i64 0, .slice none 0 0]).toArray 48)).setCell ⟨w.heap.size, 13, none⟩ (.slice (some ⟨w3.heap.size, 0, none⟩) 1 1)) w.heap.size 41 ((({ x with tree := [⟨v, 0, []⟩] } : Inp)).cells ({ s with tree := .slice (some ⟨w3.heap.size, 0, none⟩) 1 1 })) := HIa.set 13 (.slice (some ⟨w3.heap.size, 0, none⟩) 1 1)
    have hHB := (HB.out.alloc HB.out.size (.cells ([.int .i64 v, .int .i64 0, .slice none 0 0]).toArray 48)).setCell (p := ⟨w.heap.size, 13, none⟩) (Nat.le_refl _) (.slice (some ⟨w3.heap.size, 0, none⟩) 1 1)
    have hN := hnew.far (p := ⟨w.heap.size, 13, none⟩) hneg (.slice (some ⟨w3.heap.size, 0, none⟩) 1 1)
    have hr := HX0.out.ext hHB
    have hRY : InpR ((w3.alloc (.cells ([.int .i64 v, .int .i64 0, .slice none 0 0]).toArray 48)).setCell ⟨w.heap.size, 13, none⟩ (.slice (some ⟨w3.heap.size, 0, none⟩) 1 1)) ({ x with tree := [⟨v, 0, []⟩] } : Inp) ({ s with tree := .slice (some ⟨w3.heap.size, 0, none⟩) 1 1 }) := ⟨hr.ways, tree_one hN, hr.modes, hr.vols⟩
    have HI' := Lib.hid hHI; have HB' := Lib.hid hHB; have RY := Lib.hid hRY
    clear hHI hHB hr hRY fo ff c3 HI HB RX HIa hnew hneg c3a hN
    have HI := HI'; have HB := HB'; clear HI' HB'
    generalize ((w3.alloc (.cells ([.int .i64 v, .int .i64 0, .slice none 0 0]).toArray 48)).setCell ⟨w.heap.size, 13, none⟩ (.slice (some ⟨w3.heap.size, 0, none⟩) 1 1)) = w4 at *
    go_wp2_with fail
    go_ret
    exact ⟨rfl, HB.out⟩
   case neg =>
    have kq : (x.kind == 4) = false := beq_false_of_ne hk
    have Hkn := Lib.hid hk
    clear hk
    have T20 := Lib.hid (Nat.le_refl 20)
    have c3 : w3.cell? ⟨w.heap.size, 3, none⟩ = some (.int .i64 x.kind) := HI.out.cell 3
    have HIa := HI.out.alloc (.cells ([.int .i64 v, .int .i64 0, .slice none 0 0]).toArray 48)
    have hnew := CB.new w3 48 [.int .i64 v, .int .i64 0, .slice none 0 0]
    have hneg : w3.heap.size ≠ w.heap.size := by have := HI.out.lt; omega
    have fo : (w3.alloc (.cells ([.int .i64 v, .int .i64 0, .slice none 0 0]).toArray 48)).cell? ⟨w.heap.size, 13, none⟩ = (x.cells s)[13]? := HIa.cell 13
    have ff : (w3.alloc (.cells ([.int .i64 v, .int .i64 0, .slice none 0 0]).toArray 48)).frozen? ⟨w.heap.size, 13, none⟩ = false := HIa.frozen 13
    have c3a : (w3.alloc (.cells ([.int .i64 v, .int .i64 0, .slice none 0 0]).toArray 48)).cell? ⟨w.heap.size, 3, none⟩ = some (.int .i64 x.kind) := HIa.cell 3
    change _ = some _ at fo
    go_upto_region 27 with (first
    | (have _g := T20.out; refine wpList_built (by rfl) 48 #[(0, .tmp 60)] rfl [.int .i64 v, .int .i64 0, .slice none 0 0] [(0, .int .i64 v)] rfl (by kernel_rfl) ?_; clear T20; have T21 := Lib.hid (Nat.le_refl 21))
    | (have _g := T21.out; refine wpList_bslice_seq (by rfl) 29 48 1 #[(0, .tmp 61)] rfl [.int .i64 v, .int .i64 0, .slice none 0 0] 3 Tryz.underlying29 (by kernel_rfl) (by decide) (by decide) [(0, .agg ([.int .i64 v, .int .i64 0, .slice none 0 0]).toArray)] rfl ⟨rfl, trivial⟩ rfl rfl ?_; clear T21; have T22 := Lib.hid (Nat.le_refl 22)))
    change Code.wp _ _ _ _ ((w3.alloc (.cells ([.int .i64 v, .int .i64 0, .slice none 0 0]).toArray 48)).setCell ⟨w.heap.size, 13, none⟩ (.slice (some ⟨w3.heap.size, 0, none⟩) 1 1))
    have hHI : CB ((w3.alloc (.cells ([.int .i64 v, .int .i64 0, .slice none 0 0]).toArray 48)).setCell ⟨w.heap.size, 13, none⟩ (.slice (some ⟨w3.heap.size, 0, none⟩) 1 1)) w.heap.size 41 ((({ x with tree := [⟨v, 0, []⟩] } : Inp)).cells ({ s with tree := .slice (some ⟨w3.heap.size, 0, none⟩) 1 1 })) := HIa.set 13 (.slice (some ⟨w3.heap.size, 0, none⟩) 1 1)
    have hHB := (HB.out.alloc HB.out.size (.cells ([.int .i64 v, .int .i64 0, .slice none 0 0]).toArray 48)).setCell (p := ⟨w.heap.size, 13, none⟩) (Nat.le_refl _) (.slice (some ⟨w3.heap.size, 0, none⟩) 1 1)
    have hN := hnew.far (p := ⟨w.heap.size, 13, none⟩) hneg (.slice (some ⟨w3.heap.size, 0, none⟩) 1 1)
    have hr := HX0.out.ext hHB
    have hRY : InpR ((w3.alloc (.cells ([.int .i64 v, .int .i64 0, .slice none 0 0]).toArray 48)).setCell ⟨w.heap.size, 13, none⟩ (.slice (some ⟨w3.heap.size, 0, none⟩) 1 1)) ({ x with tree := [⟨v, 0, []⟩] } : Inp) ({ s with tree := .slice (some ⟨w3.heap.size, 0, none⟩) 1 1 }) := ⟨hr.ways, tree_one hN, hr.modes, hr.vols⟩
    have HI' := Lib.hid hHI; have HB' := Lib.hid hHB; have RY := Lib.hid hRY
    clear hHI hHB hr hRY fo ff c3 HI HB RX HIa hnew hneg c3a hN
    have HI := HI'; have HB := HB'; clear HI' HB'
    generalize ((w3.alloc (.cells ([.int .i64 v, .int .i64 0, .slice none 0 0]).toArray 48)).setCell ⟨w.heap.size, 13, none⟩ (.slice (some ⟨w3.heap.size, 0, none⟩) 1 1)) = w4 at *
    have hbad : okI ({ x with tree := [⟨v, 0, []⟩] } : Inp) = false := ok_use fun hq => by
     replace hq := congrArg Inp.tree hq
     exact List.cons_ne_nil _ _ (hq.symm.trans (use_tree _ Hkn.out))
    have Hbad := Lib.hid hbad; clear hbad
    go_wp2_with (first
    | (have _g := T22.out; refine wpList_load_cs (by rfl) 41 (.tmp 3) rfl w.heap.size (({ x with tree := [⟨v, 0, []⟩] } : Inp).cells ({ s with tree := .slice (some ⟨w3.heap.size, 0, none⟩) 1 1 })) rfl 41 _ HI.out Tryz.underlying41 rfl (by kernel_rfl) ?_; clear T22; have T23 := Lib.hid (Nat.le_refl 23))
    | (have _g := T23.out; go_at_call 13; refine (chk_bad RY.out Hi.out.text Hi.out.flt.call Hi.out.rcl Hbad.out).mono ?_; go_loud (rintro e w5 ⟨rfl, hb⟩; replace HI := Lib.hid (HI.out.ext hb); replace HB := Lib.hid (below_ext HB.out hb); clear hb; clear T23; have T24 := Lib.hid (Nat.le_refl 24))))
    go_ret
    exact ⟨rfl, HB.out⟩
 · skip
   have q0 : (f % 10 == 0) = false := by rw [hm]; rfl
   have q1 : (f % 10 == 1) = false := by rw [hm]; rfl
   have q2 : (f % 10 == 2) = false := by rw [hm]; rfl
   have q3 : (f % 10 == 3) = false := by rw [hm]; rfl
   have q4 : (f % 10 == 4) = false := by rw [hm]; rfl
   have q5 : (f % 10 == 5) = true := by rw [hm]; rfl
   clear hm
   by_cases hk : x.kind = 5
   case pos =>
    have kq : (x.kind == 5) = true := by rw [hk]; rfl
    clear hk
    have T20 := Lib.hid (Nat.le_refl 20)
    have c3 : w3.cell? ⟨w.heap.size, 3, none⟩ = some (.int .i64 x.kind) := HI.out.cell 3
    have fo : w3.cell? ⟨w.heap.size, 26, none⟩ = (x.cells s)[26]? := HI.out.cell 26
    have ff : w3.frozen? ⟨w.heap.size, 26, none⟩ = false := HI.out.frozen 26
    change _ = some _ at fo
    go_upto_region 27 with fail
    change Code.wp _ _ _ _ (w3.setCell ⟨w.heap.size, 26, none⟩ (.int .i64 v))
    have hHI : CB (w3.setCell ⟨w.heap.size, 26, none⟩ (.int .i64 v)) w.heap.size 41 ((({ x with n := v } : Inp)).cells (s)) := HI.out.set 26 (.int .i64 v)
    have hHB := HB.out.setCell (p := ⟨w.heap.size, 26, none⟩) (Nat.le_refl _) (.int .i64 v)
    have hr := HX0.out.ext hHB
    have hRY : InpR (w3.setCell ⟨w.heap.size, 26, none⟩ (.int .i64 v)) ({ x with n := v } : Inp) (s) := ⟨hr.ways, hr.tree, hr.modes, hr.vols⟩
    have HI' := Lib.hid hHI; have HB' := Lib.hid hHB; have RY := Lib.hid hRY
    clear hHI hHB hr hRY fo ff c3 HI HB RX
    have HI := HI'; have HB := HB'; clear HI' HB'
    generalize (w3.setCell ⟨w.heap.size, 26, none⟩ (.int .i64 v)) = w4 at *
    go_wp2_with fail
    go_ret
    exact ⟨rfl, HB.out⟩
   case neg =>
   by_cases hk2 : x.kind = 9
   case pos =>
    have kq : (x.kind == 5) = false := beq_false_of_ne hk
    have kq2 : (x.kind == 9) = true := by rw [hk2]; rfl
    clear hk hk2
    have T20 := Lib.hid (Nat.le_refl 20)
    have c3 : w3.cell? ⟨w.heap.size, 3, none⟩ = some (.int .i64 x.kind) := HI.out.cell 3
    have fo : w3.cell? ⟨w.heap.size, 26, none⟩ = (x.cells s)[26]? := HI.out.cell 26
    have ff : w3.frozen? ⟨w.heap.size, 26, none⟩ = false := HI.out.frozen 26
    change _ = some _ at fo
    go_upto_region 27 with fail
    change Code.wp _ _ _ _ (w3.setCell ⟨w.heap.size, 26, none⟩ (.int .i64 v))
    have hHI : CB (w3.setCell ⟨w.heap.size, 26, none⟩ (.int .i64 v)) w.heap.size 41 ((({ x with n := v } : Inp)).cells (s)) := HI.out.set 26 (.int .i64 v)
    have hHB := HB.out.setCell (p := ⟨w.heap.size, 26, none⟩) (Nat.le_refl _) (.int .i64 v)
    have hr := HX0.out.ext hHB
    have hRY : InpR (w3.setCell ⟨w.heap.size, 26, none⟩ (.int .i64 v)) ({ x with n := v } : Inp) (s) := ⟨hr.ways, hr.tree, hr.modes, hr.vols⟩
    have HI' := Lib.hid hHI; have HB' := Lib.hid hHB; have RY := Lib.hid hRY
    clear hHI hHB hr hRY fo ff c3 HI HB RX
    have HI := HI'; have HB := HB'; clear HI' HB'
    generalize (w3.setCell ⟨w.heap.size, 26, none⟩ (.int .i64 v)) = w4 at *
    go_wp2_with fail
    go_ret
    exact ⟨rfl, HB.out⟩
   case neg =>
    have kq : (x.kind == 5) = false := beq_false_of_ne hk
    have kq2 : (x.kind == 9) = false := beq_false_of_ne hk2
    have Hkn := Lib.hid hk; have Hkm := Lib.hid hk2
    clear hk hk2
    have T20 := Lib.hid (Nat.le_refl 20)
    have c3 : w3.cell? ⟨w.heap.size, 3, none⟩ = some (.int .i64 x.kind) := HI.out.cell 3
    have fo : w3.cell? ⟨w.heap.size, 26, none⟩ = (x.cells s)[26]? := HI.out.cell 26
    have ff : w3.frozen? ⟨w.heap.size, 26, none⟩ = false := HI.out.frozen 26
    change _ = some _ at fo
    go_upto_region 27 with fail
    change Code.wp _ _ _ _ (w3.setCell ⟨w.heap.size, 26, none⟩ (.int .i64 v))
    have hHI : CB (w3.setCell ⟨w.heap.size, 26, none⟩ (.int .i64 v)) w.heap.size 41 ((({ x with n := v } : Inp)).cells (s)) := HI.out.set 26 (.int .i64 v)
    have hHB := HB.out.setCell (p := ⟨w.heap.size, 26, none⟩) (Nat.le_refl _) (.int .i64 v)
    have hr := HX0.out.ext hHB
    have hRY : InpR (w3.setCell ⟨w.heap.size, 26, none⟩ (.int .i64 v)) ({ x with n := v } : Inp) (s) := ⟨hr.ways, hr.tree, hr.modes, hr.vols⟩
    have HI' := Lib.hid hHI; have HB' := Lib.hid hHB; have RY := Lib.hid hRY
    clear hHI hHB hr hRY fo ff c3 HI HB RX
    have HI := HI'; have HB := HB'; clear HI' HB'
    generalize (w3.setCell ⟨w.heap.size, 26, none⟩ (.int .i64 v)) = w4 at *
    have hbad : okI ({ x with n := v } : Inp) = false := ok_use fun hq => by
     replace hq := congrArg Inp.n hq
     exact HV.out (hq.symm.trans (use_n _ Hkn.out Hkm.out))
    have Hbad := Lib.hid hbad; clear hbad
    go_wp2_with (first
    | (have _g := T20.out; refine wpList_load_cs (by rfl) 41 (.tmp 3) rfl w.heap.size (({ x with n := v } : Inp).cells (s)) rfl 41 _ HI.out Tryz.underlying41 rfl (by kernel_rfl) ?_; clear T20; have T21 := Lib.hid (Nat.le_refl 21))
    | (have _g := T21.out; go_at_call 13; refine (chk_bad RY.out Hi.out.text Hi.out.flt.call Hi.out.rcl Hbad.out).mono ?_; go_loud (rintro e w5 ⟨rfl, hb⟩; replace HI := Lib.hid (HI.out.ext hb); replace HB := Lib.hid (below_ext HB.out hb); clear hb; clear T21; have T22 := Lib.hid (Nat.le_refl 22))))
    go_ret
    exact ⟨rfl, HB.out⟩
 · skip
   have q0 : (f % 10 == 0) = false := by rw [hm]; rfl
   have q1 : (f % 10 == 1) = false := by rw [hm]; rfl
   have q2 : (f % 10 == 2) = false := by rw [hm]; rfl
   have q3 : (f % 10 == 3) = false := by rw [hm]; rfl
   have q4 : (f % 10 == 4) = false := by rw [hm]; rfl
   have q5 : (f % 10 == 5) = false := by rw [hm]; rfl
   have q6 : (f % 10 == 6) = true := by rw [hm]; rfl
   clear hm
   by_cases hk : x.kind = 6
   case pos =>
    have kq : (x.kind == 6) = true := by rw [hk]; rfl
    clear hk
    have T20 := Lib.hid (Nat.le_refl 20)
    have c3 : w3.cell? ⟨w.heap.size, 3, none⟩ = some (.int .i64 x.kind) := HI.out.cell 3
    have HIa := HI.out.alloc (.cells ([.int .i64 0]).toArray 3)
    have hnew := CB.new w3 3 [.int .i64 0]
    have hneg : w3.heap.size ≠ w.heap.size := by have := HI.out.lt; omega
    have fo : (w3.alloc (.cells ([.int .i64 0]).toArray 3)).cell? ⟨w.heap.size, 16, none⟩ = (x.cells s)[16]? := HIa.cell 16
    have ff : (w3.alloc (.cells ([.int .i64 0]).toArray 3)).frozen? ⟨w.heap.size, 16, none⟩ = false := HIa.frozen 16
    have c3a : (w3.alloc (.cells ([.int .i64 0]).toArray 3)).cell? ⟨w.heap.size, 3, none⟩ = some (.int .i64 x.kind) := HIa.cell 3
    change _ = some _ at fo
    go_upto_region 27 with (first
    | (have _g := T20.out; refine wpList_bslice_seq (by rfl) 24 3 1 #[(0, .const (.int .i64 0))] rfl [.int .i64 0] 1 Tryz.underlying24 (by kernel_rfl) (by decide) (by decide) [(0, .int .i64 0)] rfl ⟨rfl, trivial⟩ rfl rfl ?_; clear T20; have T21 := Lib.hid (Nat.le_refl 21)))
    change Code.wp _ _ _ _ ((w3.alloc (.cells ([.int .i64 0]).toArray 3)).setCell ⟨w.heap.size, 16, none⟩ (.slice (some ⟨w3.heap.size, 0, none⟩) 1 1))
    have hHI : CB ((w3.alloc (.cells ([.int .i64 0]).toArray 3)).setCell ⟨w.heap.size, 16, none⟩ (.slice (some ⟨w3.heap.size, 0, none⟩) 1 1)) w.heap.size 41 ((({ x with chg := { x.chg with modes := [0] } } : Inp)).cells ({ s with modes := .slice (some ⟨w3.heap.size, 0, none⟩) 1 1 })) := HIa.set 16 (.slice (some ⟨w3.heap.size, 0, none⟩) 1 1)
    have hHB := (HB.out.alloc HB.out.size (.cells ([.int .i64 0]).toArray 3)).setCell (p := ⟨w.heap.size, 16, none⟩) (Nat.le_refl _) (.slice (some ⟨w3.heap.size, 0, none⟩) 1 1)
    have hN := hnew.far (p := ⟨w.heap.size, 16, none⟩) hneg (.slice (some ⟨w3.heap.size, 0, none⟩) 1 1)
    have hr := HX0.out.ext hHB
    have hRY : InpR ((w3.alloc (.cells ([.int .i64 0]).toArray 3)).setCell ⟨w.heap.size, 16, none⟩ (.slice (some ⟨w3.heap.size, 0, none⟩) 1 1)) ({ x with chg := { x.chg with modes := [0] } } : Inp) ({ s with modes := .slice (some ⟨w3.heap.size, 0, none⟩) 1 1 }) := ⟨hr.ways, hr.tree, lsat_one (K := nuK) hN, hr.vols⟩
    have HI' := Lib.hid hHI; have HB' := Lib.hid hHB; have RY := Lib.hid hRY
    clear hHI hHB hr hRY fo ff c3 HI HB RX HIa hnew hneg c3a hN
    have HI := HI'; have HB := HB'; clear HI' HB'
    generalize ((w3.alloc (.cells ([.int .i64 0]).toArray 3)).setCell ⟨w.heap.size, 16, none⟩ (.slice (some ⟨w3.heap.size, 0, none⟩) 1 1)) = w4 at *
    go_wp2_with fail
    go_ret
    exact ⟨rfl, HB.out⟩
   case neg =>
    have kq : (x.kind == 6) = false := beq_false_of_ne hk
    have Hkn := Lib.hid hk
    clear hk
    have T20 := Lib.hid (Nat.le_refl 20)
    have c3 : w3.cell? ⟨w.heap.size, 3, none⟩ = some (.int .i64 x.kind) := HI.out.cell 3
    have HIa := HI.out.alloc (.cells ([.int .i64 0]).toArray 3)
    have hnew := CB.new w3 3 [.int .i64 0]
    have hneg : w3.heap.size ≠ w.heap.size := by have := HI.out.lt; omega
    have fo : (w3.alloc (.cells ([.int .i64 0]).toArray 3)).cell? ⟨w.heap.size, 16, none⟩ = (x.cells s)[16]? := HIa.cell 16
    have ff : (w3.alloc (.cells ([.int .i64 0]).toArray 3)).frozen? ⟨w.heap.size, 16, none⟩ = false := HIa.frozen 16
    have c3a : (w3.alloc (.cells ([.int .i64 0]).toArray 3)).cell? ⟨w.heap.size, 3, none⟩ = some (.int .i64 x.kind) := HIa.cell 3
    change _ = some _ at fo
    go_upto_region 27 with (first
    | (have _g := T20.out; refine wpList_bslice_seq (by rfl) 24 3 1 #[(0, .const (.int .i64 0))] rfl [.int .i64 0] 1 Tryz.underlying24 (by kernel_rfl) (by decide) (by decide) [(0, .int .i64 0)] rfl ⟨rfl, trivial⟩ rfl rfl ?_; clear T20; have T21 := Lib.hid (Nat.le_refl 21)))
    change Code.wp _ _ _ _ ((w3.alloc (.cells ([.int .i64 0]).toArray 3)).setCell ⟨w.heap.size, 16, none⟩ (.slice (some ⟨w3.heap.size, 0, none⟩) 1 1))
    have hHI : CB ((w3.alloc (.cells ([.int .i64 0]).toArray 3)).setCell ⟨w.heap.size, 16, none⟩ (.slice (some ⟨w3.heap.size, 0, none⟩) 1 1)) w.heap.size 41 ((({ x with chg := { x.chg with modes := [0] } } : Inp)).cells ({ s with modes := .slice (some ⟨w3.heap.size, 0, none⟩) 1 1 })) := HIa.set 16 (.slice (some ⟨w3.heap.size, 0, none⟩) 1 1)
    have hHB := (HB.out.alloc HB.out.size (.cells ([.int .i64 0]).toArray 3)).setCell (p := ⟨w.heap.size, 16, none⟩) (Nat.le_refl _) (.slice (some ⟨w3.heap.size, 0, none⟩) 1 1)
    have hN := hnew.far (p := ⟨w.heap.size, 16, none⟩) hneg (.slice (some ⟨w3.heap.size, 0, none⟩) 1 1)
    have hr := HX0.out.ext hHB
    have hRY : InpR ((w3.alloc (.cells ([.int .i64 0]).toArray 3)).setCell ⟨w.heap.size, 16, none⟩ (.slice (some ⟨w3.heap.size, 0, none⟩) 1 1)) ({ x with chg := { x.chg with modes := [0] } } : Inp) ({ s with modes := .slice (some ⟨w3.heap.size, 0, none⟩) 1 1 }) := ⟨hr.ways, hr.tree, lsat_one (K := nuK) hN, hr.vols⟩
    have HI' := Lib.hid hHI; have HB' := Lib.hid hHB; have RY := Lib.hid hRY
    clear hHI hHB hr hRY fo ff c3 HI HB RX HIa hnew hneg c3a hN
    have HI := HI'; have HB := HB'; clear HI' HB'
    generalize ((w3.alloc (.cells ([.int .i64 0]).toArray 3)).setCell ⟨w.heap.size, 16, none⟩ (.slice (some ⟨w3.heap.size, 0, none⟩) 1 1)) = w4 at *
    have hbad : okI ({ x with chg := { x.chg with modes := [0] } } : Inp) = false := ok_use fun hq => by
     replace hq := congrArg Inp.chg hq
     exact List.cons_ne_nil _ _ (congrArg Chg.modes (hq.symm.trans (use_chg _ Hkn.out)))
    have Hbad := Lib.hid hbad; clear hbad
    go_wp2_with (first
    | (have _g := T21.out; refine wpList_load_cs (by rfl) 41 (.tmp 3) rfl w.heap.size (({ x with chg := { x.chg with modes := [0] } } : Inp).cells ({ s with modes := .slice (some ⟨w3.heap.size, 0, none⟩) 1 1 })) rfl 41 _ HI.out Tryz.underlying41 rfl (by kernel_rfl) ?_; clear T21; have T22 := Lib.hid (Nat.le_refl 22))
    | (have _g := T22.out; go_at_call 13; refine (chk_bad RY.out Hi.out.text Hi.out.flt.call Hi.out.rcl Hbad.out).mono ?_; go_loud (rintro e w5 ⟨rfl, hb⟩; replace HI := Lib.hid (HI.out.ext hb); replace HB := Lib.hid (below_ext HB.out hb); clear hb; clear T22; have T23 := Lib.hid (Nat.le_refl 23))))
    go_ret
    exact ⟨rfl, HB.out⟩
 · skip
   have q0 : (f % 10 == 0) = false := by rw [hm]; rfl
   have q1 : (f % 10 == 1) = false := by rw [hm]; rfl
   have q2 : (f % 10 == 2) = false := by rw [hm]; rfl
   have q3 : (f % 10 == 3) = false := by rw [hm]; rfl
   have q4 : (f % 10 == 4) = false := by rw [hm]; rfl
   have q5 : (f % 10 == 5) = false := by rw [hm]; rfl
   have q6 : (f % 10 == 6) = false := by rw [hm]; rfl
   have q7 : (f % 10 == 7) = true := by rw [hm]; rfl
   clear hm
   by_cases hk : x.kind = 7
   case pos =>
    have kq : (x.kind == 7) = true := by rw [hk]; rfl
    clear hk
    have T20 := Lib.hid (Nat.le_refl 20)
    have c3 : w3.cell? ⟨w.heap.size, 3, none⟩ = some (.int .i64 x.kind) := HI.out.cell 3
    have fo : w3.cell? ⟨w.heap.size, 22, none⟩ = (x.cells s)[22]? := HI.out.cell 22
    have ff : w3.frozen? ⟨w.heap.size, 22, none⟩ = false := HI.out.frozen 22
    change _ = some _ at fo
    go_upto_region 27 with fail
    change Code.wp _ _ _ _ (w3.setCell ⟨w.heap.size, 22, none⟩ (.int .i64 v))
    have hHI : CB (w3.setCell ⟨w.heap.size, 22, none⟩ (.int .i64 v)) w.heap.size 41 ((({ x with rep := { x.rep with vo := v } } : Inp)).cells (s)) := HI.out.set 22 (.int .i64 v)
    have hHB := HB.out.setCell (p := ⟨w.heap.size, 22, none⟩) (Nat.le_refl _) (.int .i64 v)
    have hr := HX0.out.ext hHB
    have hRY : InpR (w3.setCell ⟨w.heap.size, 22, none⟩ (.int .i64 v)) ({ x with rep := { x.rep with vo := v } } : Inp) (s) := ⟨hr.ways, hr.tree, hr.modes, hr.vols⟩
    have HI' := Lib.hid hHI; have HB' := Lib.hid hHB; have RY := Lib.hid hRY
    clear hHI hHB hr hRY fo ff c3 HI HB RX
    have HI := HI'; have HB := HB'; clear HI' HB'
    generalize (w3.setCell ⟨w.heap.size, 22, none⟩ (.int .i64 v)) = w4 at *
    go_wp2_with fail
    go_ret
    exact ⟨rfl, HB.out⟩
   case neg =>
    have kq : (x.kind == 7) = false := beq_false_of_ne hk
    have Hkn := Lib.hid hk
    clear hk
    have T20 := Lib.hid (Nat.le_refl 20)
    have c3 : w3.cell? ⟨w.heap.size, 3, none⟩ = some (.int .i64 x.kind) := HI.out.cell 3
    have fo : w3.cell? ⟨w.heap.size, 22, none⟩ = (x.cells s)[22]? := HI.out.cell 22
    have ff : w3.frozen? ⟨w.heap.size, 22, none⟩ = false := HI.out.frozen 22
    change _ = some _ at fo
    go_upto_region 27 with fail
    change Code.wp _ _ _ _ (w3.setCell ⟨w.heap.size, 22, none⟩ (.int .i64 v))
    have hHI : CB (w3.setCell ⟨w.heap.size, 22, none⟩ (.int .i64 v)) w.heap.size 41 ((({ x with rep := { x.rep with vo := v } } : Inp)).cells (s)) := HI.out.set 22 (.int .i64 v)
    have hHB := HB.out.setCell (p := ⟨w.heap.size, 22, none⟩) (Nat.le_refl _) (.int .i64 v)
    have hr := HX0.out.ext hHB
    have hRY : InpR (w3.setCell ⟨w.heap.size, 22, none⟩ (.int .i64 v)) ({ x with rep := { x.rep with vo := v } } : Inp) (s) := ⟨hr.ways, hr.tree, hr.modes, hr.vols⟩
    have HI' := Lib.hid hHI; have HB' := Lib.hid hHB; have RY := Lib.hid hRY
    clear hHI hHB hr hRY fo ff c3 HI HB RX
    have HI := HI'; have HB := HB'; clear HI' HB'
    generalize (w3.setCell ⟨w.heap.size, 22, none⟩ (.int .i64 v)) = w4 at *
    have hbad : okI ({ x with rep := { x.rep with vo := v } } : Inp) = false := ok_use fun hq => by
     replace hq := congrArg Inp.rep hq
     exact HV.out (congrArg Rp.vo (hq.symm.trans (use_rep _ Hkn.out)))
    have Hbad := Lib.hid hbad; clear hbad
    go_wp2_with (first
    | (have _g := T20.out; refine wpList_load_cs (by rfl) 41 (.tmp 3) rfl w.heap.size (({ x with rep := { x.rep with vo := v } } : Inp).cells (s)) rfl 41 _ HI.out Tryz.underlying41 rfl (by kernel_rfl) ?_; clear T20; have T21 := Lib.hid (Nat.le_refl 21))
    | (have _g := T21.out; go_at_call 13; refine (chk_bad RY.out Hi.out.text Hi.out.flt.call Hi.out.rcl Hbad.out).mono ?_; go_loud (rintro e w5 ⟨rfl, hb⟩; replace HI := Lib.hid (HI.out.ext hb); replace HB := Lib.hid (below_ext HB.out hb); clear hb; clear T21; have T22 := Lib.hid (Nat.le_refl 22))))
    go_ret
    exact ⟨rfl, HB.out⟩
 · skip
   have q0 : (f % 10 == 0) = false := by rw [hm]; rfl
   have q1 : (f % 10 == 1) = false := by rw [hm]; rfl
   have q2 : (f % 10 == 2) = false := by rw [hm]; rfl
   have q3 : (f % 10 == 3) = false := by rw [hm]; rfl
   have q4 : (f % 10 == 4) = false := by rw [hm]; rfl
   have q5 : (f % 10 == 5) = false := by rw [hm]; rfl
   have q6 : (f % 10 == 6) = false := by rw [hm]; rfl
   have q7 : (f % 10 == 7) = false := by rw [hm]; rfl
   have q8 : (f % 10 == 8) = true := by rw [hm]; rfl
   clear hm
   by_cases hk : x.kind = 8
   case pos =>
    have kq : (x.kind == 8) = true := by rw [hk]; rfl
    clear hk
    have T20 := Lib.hid (Nat.le_refl 20)
    have c3 : w3.cell? ⟨w.heap.size, 3, none⟩ = some (.int .i64 x.kind) := HI.out.cell 3
    have fo : w3.cell? ⟨w.heap.size, 25, none⟩ = (x.cells s)[25]? := HI.out.cell 25
    have ff : w3.frozen? ⟨w.heap.size, 25, none⟩ = false := HI.out.frozen 25
    change _ = some _ at fo
    go_upto_region 27 with fail
    change Code.wp _ _ _ _ (w3.setCell ⟨w.heap.size, 25, none⟩ (.bool true))
    have hHI : CB (w3.setCell ⟨w.heap.size, 25, none⟩ (.bool true)) w.heap.size 41 ((({ x with sts := { x.sts with wk := true } } : Inp)).cells (s)) := HI.out.set 25 (.bool true)
    have hHB := HB.out.setCell (p := ⟨w.heap.size, 25, none⟩) (Nat.le_refl _) (.bool true)
    have hr := HX0.out.ext hHB
    have hRY : InpR (w3.setCell ⟨w.heap.size, 25, none⟩ (.bool true)) ({ x with sts := { x.sts with wk := true } } : Inp) (s) := ⟨hr.ways, hr.tree, hr.modes, hr.vols⟩
    have HI' := Lib.hid hHI; have HB' := Lib.hid hHB; have RY := Lib.hid hRY
    clear hHI hHB hr hRY fo ff c3 HI HB RX
    have HI := HI'; have HB := HB'; clear HI' HB'
    generalize (w3.setCell ⟨w.heap.size, 25, none⟩ (.bool true)) = w4 at *
    go_wp2_with fail
    go_ret
    exact ⟨rfl, HB.out⟩
   case neg =>
    have kq : (x.kind == 8) = false := beq_false_of_ne hk
    have Hkn := Lib.hid hk
    clear hk
    have T20 := Lib.hid (Nat.le_refl 20)
    have c3 : w3.cell? ⟨w.heap.size, 3, none⟩ = some (.int .i64 x.kind) := HI.out.cell 3
    have fo : w3.cell? ⟨w.heap.size, 25, none⟩ = (x.cells s)[25]? := HI.out.cell 25
    have ff : w3.frozen? ⟨w.heap.size, 25, none⟩ = false := HI.out.frozen 25
    change _ = some _ at fo
    go_upto_region 27 with fail
    change Code.wp _ _ _ _ (w3.setCell ⟨w.heap.size, 25, none⟩ (.bool true))
    have hHI : CB (w3.setCell ⟨w.heap.size, 25, none⟩ (.bool true)) w.heap.size 41 ((({ x with sts := { x.sts with wk := true } } : Inp)).cells (s)) := HI.out.set 25 (.bool true)
    have hHB := HB.out.setCell (p := ⟨w.heap.size, 25, none⟩) (Nat.le_refl _) (.bool true)
    have hr := HX0.out.ext hHB
    have hRY : InpR (w3.setCell ⟨w.heap.size, 25, none⟩ (.bool true)) ({ x with sts := { x.sts with wk := true } } : Inp) (s) := ⟨hr.ways, hr.tree, hr.modes, hr.vols⟩
    have HI' := Lib.hid hHI; have HB' := Lib.hid hHB; have RY := Lib.hid hRY
    clear hHI hHB hr hRY fo ff c3 HI HB RX
    have HI := HI'; have HB := HB'; clear HI' HB'
    generalize (w3.setCell ⟨w.heap.size, 25, none⟩ (.bool true)) = w4 at *
    have hbad : okI ({ x with sts := { x.sts with wk := true } } : Inp) = false := ok_use fun hq => by
     replace hq := congrArg Inp.sts hq
     exact Bool.noConfusion (congrArg Sts.wk (hq.symm.trans (use_sts _ Hkn.out)))
    have Hbad := Lib.hid hbad; clear hbad
    go_wp2_with (first
    | (have _g := T20.out; refine wpList_load_cs (by rfl) 41 (.tmp 3) rfl w.heap.size (({ x with sts := { x.sts with wk := true } } : Inp).cells (s)) rfl 41 _ HI.out Tryz.underlying41 rfl (by kernel_rfl) ?_; clear T20; have T21 := Lib.hid (Nat.le_refl 21))
    | (have _g := T21.out; go_at_call 13; refine (chk_bad RY.out Hi.out.text Hi.out.flt.call Hi.out.rcl Hbad.out).mono ?_; go_loud (rintro e w5 ⟨rfl, hb⟩; replace HI := Lib.hid (HI.out.ext hb); replace HB := Lib.hid (below_ext HB.out hb); clear hb; clear T21; have T22 := Lib.hid (Nat.le_refl 22))))
    go_ret
    exact ⟨rfl, HB.out⟩
 · skip
   have q0 : (f % 10 == 0) = false := by rw [hm]; rfl
   have q1 : (f % 10 == 1) = false := by rw [hm]; rfl
   have q2 : (f % 10 == 2) = false := by rw [hm]; rfl
   have q3 : (f % 10 == 3) = false := by rw [hm]; rfl
   have q4 : (f % 10 == 4) = false := by rw [hm]; rfl
   have q5 : (f % 10 == 5) = false := by rw [hm]; rfl
   have q6 : (f % 10 == 6) = false := by rw [hm]; rfl
   have q7 : (f % 10 == 7) = false := by rw [hm]; rfl
   have q8 : (f % 10 == 8) = false := by rw [hm]; rfl
   have q9 : (f % 10 == 9) = true := by rw [hm]; rfl
   clear hm
   by_cases hk : x.kind = 3
   case pos =>
    have kq : (x.kind == 3) = true := by rw [hk]; rfl
    clear hk
    have T20 := Lib.hid (Nat.le_refl 20)
    have c3 : w3.cell? ⟨w.heap.size, 3, none⟩ = some (.int .i64 x.kind) := HI.out.cell 3
    have fo : w3.cell? ⟨w.heap.size, 12, none⟩ = (x.cells s)[12]? := HI.out.cell 12
    have ff : w3.frozen? ⟨w.heap.size, 12, none⟩ = false := HI.out.frozen 12
    change _ = some _ at fo
    go_upto_region 27 with fail
    change Code.wp _ _ _ _ (w3.setCell ⟨w.heap.size, 12, none⟩ (.bool true))
    have hHI : CB (w3.setCell ⟨w.heap.size, 12, none⟩ (.bool true)) w.heap.size 41 ((({ x with flt := { x.flt with can := true } } : Inp)).cells (s)) := HI.out.set 12 (.bool true)
    have hHB := HB.out.setCell (p := ⟨w.heap.size, 12, none⟩) (Nat.le_refl _) (.bool true)
    have hr := HX0.out.ext hHB
    have hRY : InpR (w3.setCell ⟨w.heap.size, 12, none⟩ (.bool true)) ({ x with flt := { x.flt with can := true } } : Inp) (s) := ⟨hr.ways, hr.tree, hr.modes, hr.vols⟩
    have HI' := Lib.hid hHI; have HB' := Lib.hid hHB; have RY := Lib.hid hRY
    clear hHI hHB hr hRY fo ff c3 HI HB RX
    have HI := HI'; have HB := HB'; clear HI' HB'
    generalize (w3.setCell ⟨w.heap.size, 12, none⟩ (.bool true)) = w4 at *
    go_wp2_with fail
    go_ret
    exact ⟨rfl, HB.out⟩
   case neg =>
    have kq : (x.kind == 3) = false := beq_false_of_ne hk
    have Hkn := Lib.hid hk
    clear hk
    have T20 := Lib.hid (Nat.le_refl 20)
    have c3 : w3.cell? ⟨w.heap.size, 3, none⟩ = some (.int .i64 x.kind) := HI.out.cell 3
    have fo : w3.cell? ⟨w.heap.size, 12, none⟩ = (x.cells s)[12]? := HI.out.cell 12
    have ff : w3.frozen? ⟨w.heap.size, 12, none⟩ = false := HI.out.frozen 12
    change _ = some _ at fo
    go_upto_region 27 with fail
    change Code.wp _ _ _ _ (w3.setCell ⟨w.heap.size, 12, none⟩ (.bool true))
    have hHI : CB (w3.setCell ⟨w.heap.size, 12, none⟩ (.bool true)) w.heap.size 41 ((({ x with flt := { x.flt with can := true } } : Inp)).cells (s)) := HI.out.set 12 (.bool true)
    have hHB := HB.out.setCell (p := ⟨w.heap.size, 12, none⟩) (Nat.le_refl _) (.bool true)
    have hr := HX0.out.ext hHB
    have hRY : InpR (w3.setCell ⟨w.heap.size, 12, none⟩ (.bool true)) ({ x with flt := { x.flt with can := true } } : Inp) (s) := ⟨hr.ways, hr.tree, hr.modes, hr.vols⟩
    have HI' := Lib.hid hHI; have HB' := Lib.hid hHB; have RY := Lib.hid hRY
    clear hHI hHB hr hRY fo ff c3 HI HB RX
    have HI := HI'; have HB := HB'; clear HI' HB'
    generalize (w3.setCell ⟨w.heap.size, 12, none⟩ (.bool true)) = w4 at *
    have hbad : okI ({ x with flt := { x.flt with can := true } } : Inp) = false := ok_use fun hq => by
     replace hq := congrArg Inp.flt hq
     exact Bool.noConfusion (congrArg Flt.can (hq.symm.trans (use_flt _ Hkn.out)))
    have Hbad := Lib.hid hbad; clear hbad
    go_wp2_with (first
    | (have _g := T20.out; refine wpList_load_cs (by rfl) 41 (.tmp 3) rfl w.heap.size (({ x with flt := { x.flt with can := true } } : Inp).cells (s)) rfl 41 _ HI.out Tryz.underlying41 rfl (by kernel_rfl) ?_; clear T20; have T21 := Lib.hid (Nat.le_refl 21))
    | (have _g := T21.out; go_at_call 13; refine (chk_bad RY.out Hi.out.text Hi.out.flt.call Hi.out.rcl Hbad.out).mono ?_; go_loud (rintro e w5 ⟨rfl, hb⟩; replace HI := Lib.hid (HI.out.ext hb); replace HB := Lib.hid (below_ext HB.out hb); clear hb; clear T21; have T22 := Lib.hid (Nat.le_refl 22))))
    go_ret
    exact ⟨rfl, HB.out⟩
theorem lawfields_any (x : Inp) (s : Slc) (f v : Int) (w : World) (hx : InpR w x s) (hi : InpI x) (hf0 : 0 ≤ f ∧ f ≤ 255) (hL : Laid w) : Calls Tryz.prog 3 #[x.v s, .int .u8 f, .int .i64 v] w (TrueP w) := by
 cases hf : fewB x with
 | false => exact fldA x s f v w hx hi hf0 hL hf
 | true =>
  cases hk : okI x with
  | false => exact fldB x s f v w hx hi hf0 hL hf hk
  | true =>
   by_cases hv : v = 0
   · exact fldC x s f v w hx hi hf0 hL hf hk hv
   · exact fldD x s f v w hx hi hf0 hL hf hk hv
end Go.Proofs.YtdblnbnofjggnaaGreatDoor
